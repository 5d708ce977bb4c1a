/-
 Gossip: which frames may be.
-/
import Derived.Test.YtnakpdoioammhaaGreatDoorUB
import Derived.Test.YtnakpdoioammhaaGreatDoorUL
set_option linter.unusedSectionVars false
set_option linter.unusedVariables false
set_option linter.unusedSimpArgs false
namespace Go.Proofs.YtnakpdoioammhaaGreatDoor
open Go.Sl Go.Proofs
section
attribute [local irreducible] SW RW bB SC ai aa
def gz (o:ah):Bool:=decide (o.cl.length>16)
theorem Dy (o:ah)(h:o.jf):Go.Sl.Pure Tryz.prog frame_May_1.f [.agg o.cells] (bl (gz o)):=by
 have e:gz o=decide ((o.cl.length:Int)>16):=by unfold gz;rw [Bool.eq_iff_iff];simp only [decide_eq_true_eq];omega
 rw [e]
 have hn:=h.eq
 generalize o.cl=cl at hn ⊢
 refine frame_May_1.enter (by first | rfl | simp [SV.ok,SV.aF]) (by first | rfl | simp [Hp.ok,Ob.ok,SV.ok,SV.aF,ag.an]) (by simp) ?_
 dsimp only [frame_May_1.s,Co.M,Co.G,Co.J,Co.H,Co.N,Co.F,Co.C,Co.Z,Co.B,Co.b8,Co.aJ,Co.b_,Co.i6,Co.z8,Co.cn]
 (repeat (first | refine SW.seq ?_ | refine SW.block ?_ | (refine SW.au [0,1,2] mixed ?_;(repeat (first | refine RW.ro (hn) (h:= ?_) | refine RW.skip (h:= ?_) | refine RW.op (hn) (h:= ?_) | refine RW.aL (hn) (h:= ?_) | refine RW.aj (h:= ?_)));refine RW.nil ⟨by kernel_rfl,aa.mk (h:= ?_)⟩) | refine SW.skip ?_ | refine SW.exit ?_ | refine SW.ret ?_ | refine SW.aC rfl ?_ | refine SW.ay rfl ?_))
 exact End.mk [] (h4:=⟨rfl,rfl⟩)
theorem Dz (o:ah)(h:o.jf)(k:Nat):bB Tryz.prog frame_May_1.f [.agg o.cells] [] k 0 (bl (gz o)) []:=(Dy o h).sc rfl k
def vo (l:List ah):Int:=match l.findIdx? gz with
 | some i=>(i:Int)
 | none=> -1
set_option maxHeartbeats 1000000 in
theorem Bn (l:List ah)(hl:l.length<4611686018427387904)(hw:∀ x,x∈l→x.jf):Go.Sl.Pure Tryz.prog slices_IndexFunc_Lapi_Op_api_Op.f [ops l,.fn (.func frame_May_1.f) [] []] (.d (.int .i64 (vo l))):=by
 refine slices_IndexFunc_Lapi_Op_api_Op.enter (by first | rfl | simp [SV.ok,SV.aF]) (by first | rfl | simp [Hp.ok,Ob.ok,SV.ok,SV.aF,ag.an]) (by simp) ?_
 dsimp only [slices_IndexFunc_Lapi_Op_api_Op.s,Co.M,Co.G,Co.J,Co.H,Co.N,Co.F,Co.C,Co.Z,Co.B,Co.b8,Co.aJ,Co.b_,Co.i6,Co.z8,Co.cn]
 (repeat (first | refine SW.seq ?_ | refine SW.block ?_ | (refine SW.au [0,1,4,5,7,8,9,16] mixed ?_;(repeat (first | refine RW.ro U (h:= ?_) | refine RW.skip (h:= ?_) | refine RW.op U (h:= ?_) | refine RW.aL U (h:= ?_) | refine RW.aj (h:= ?_)));refine RW.nil ⟨by kernel_rfl,aa.mk (h:= ?_)⟩) | refine SW.skip ?_ | refine SW.exit ?_ | refine SW.ret ?_ | refine SW.aC rfl ?_ | refine SW.ay rfl ?_))
 refine SW.fI (α:={i:Nat // i≤l.length∧∀ j x,j<i→l[j]? =some x→gz x=false}) (fun i=>⟨[(8,i64 i.1),(7,i64 l.length),(0,ops l),(1,.fn (.func frame_May_1.f) [] [])],[],0⟩) (fun i=>l.length - i.1) ⟨0,by omega,by omega⟩ id U (round:= ?_)
 rintro ⟨i,hi,hs⟩
 by_cases h:i<l.length
 ·have h1:decide ((i:Int)<l.length)=true:=by simp only [decide_eq_true_eq];omega
  obtain ⟨x,hx⟩:=bR h
  have hxl:=hw x (List.mem_of_getElem? hx)
  have e2:IntKind.i64.wrap ((i:Int)+1)=((i+1:Nat):Int):=wrap_i64 _ (by omega)
  have hc:=Dz x hxl
  rcases hg:gz x with _ | _
  ·rw [hg] at hc
   (repeat (first | refine SW.seq ?_ | refine SW.block ?_ | (have fx:=(And.intro (h1) (And.intro (eX hx) (And.intro (bQ hx) (e2))));refine SW.au [0,1,4,5,7,8,9,16] mixed ?_;(repeat (first | refine RW.ro fx (h:= ?_) | refine RW.skip (h:= ?_) | refine RW.op fx (h:= ?_) | refine RW.aL fx (h:= ?_) | refine RW.aj (h:= ?_) | (refine RW.aG (h:= ?_);(first | refine ai.mk fx (hc:=hc _) (h:= ?_)))));refine RW.nil ⟨by kernel_rfl,aa.mk (h:= ?_)⟩) | refine SW.skip ?_ | refine SW.exit ?_ | refine SW.ret ?_ | refine SW.aC rfl ?_ | refine SW.ay rfl ?_))
   refine Next.mk ⟨i+1,by omega,fun j y hj hy=> ?_⟩ id U
   rcases Nat.lt_or_ge j i with h2 | h2
   ·exact hs j y h2 hy
   ·have:j=i:=by omega
    subst this
    rw [hx] at hy;injection hy with hy;rw [← hy];exact hg
  ·rw [hg] at hc
   have e:vo l=(i:Int):=by
    unfold vo
    have:l.findIdx? gz=some i:=by
     rw [List.findIdx?_eq_some_iff_getElem]
     refine ⟨h,?_,fun j hj=> ?_⟩
     ·rw [List.getElem?_eq_getElem h] at hx;injection hx with hx;rw [hx,hg]
     ·have:=hs j l[j] hj (List.getElem?_eq_getElem _);simp [this]
    rw [this]
   rw [e]
   (repeat (first | refine SW.seq ?_ | refine SW.block ?_ | (have fx:=(And.intro (h1) (And.intro (eX hx) (And.intro (bQ hx) (e2))));refine SW.au [0,1,4,5,7,8,9,16] mixed ?_;(repeat (first | refine RW.ro fx (h:= ?_) | refine RW.skip (h:= ?_) | refine RW.op fx (h:= ?_) | refine RW.aL fx (h:= ?_) | refine RW.aj (h:= ?_) | (refine RW.aG (h:= ?_);(first | refine ai.mk fx (hc:=hc _) (h:= ?_)))));refine RW.nil ⟨by kernel_rfl,aa.mk (h:= ?_)⟩) | refine SW.skip ?_ | refine SW.exit ?_ | refine SW.ret ?_ | refine SW.aC rfl ?_ | refine SW.ay rfl ?_))
   exact End.mk [] (h4:=⟨rfl,rfl⟩)
 ·have h1:decide ((i:Int)<l.length)=false:=by simp only [decide_eq_false_iff_not];omega
  have e:vo l= -1:=by
   unfold vo
   have:l.findIdx? gz=none:=by
    rw [List.findIdx?_eq_none_iff]
    intro x hx
    obtain ⟨j,hj⟩:=List.mem_iff_getElem?.1 hx
    exact hs j x (by have:=dw hj;omega) hj
   rw [this]
  rw [e]
  (repeat (first | refine SW.seq ?_ | refine SW.block ?_ | (refine SW.au [0,1,4,5,7,8,9,16] mixed ?_;(repeat (first | refine RW.ro (h1) (h:= ?_) | refine RW.skip (h:= ?_) | refine RW.op (h1) (h:= ?_) | refine RW.aL (h1) (h:= ?_) | refine RW.aj (h:= ?_)));refine RW.nil ⟨by kernel_rfl,aa.mk (h:= ?_)⟩) | refine SW.skip ?_ | refine SW.exit ?_ | refine SW.ret ?_ | refine SW.aC rfl ?_ | refine SW.ay rfl ?_))
  exact End.mk [] (h4:=⟨rfl,rfl⟩)
theorem Bo (l:List ah)(hl:l.length<4611686018427387904)(hw:∀ x,x∈l→x.jf)(k:Nat):bB Tryz.prog slices_IndexFunc_Lapi_Op_api_Op.f [ops l,.fn (.func frame_May_1.f) [] []] [] k 0 (.d (.int .i64 (vo l))) []:=(Bn l hl hw).sc rfl k
theorem Bp (l:List ah):decide (vo l≥0)=l.any gz:=by
 unfold vo
 cases h:l.findIdx? gz with
 | none=>
  rw [List.findIdx?_eq_none_iff] at h
  have:l.any gz=false:=by rw [List.any_eq_false];exact fun x hx=>by rw [h x hx];decide
  rw [this];rfl
 | some i=>
  rw [List.findIdx?_eq_some_iff_getElem] at h
  obtain ⟨h1,h2,_⟩:=h
  have:l.any gz=true:=by rw [List.any_eq_true];exact ⟨_,List.getElem_mem h1,h2⟩
  rw [this]
  simp
theorem tZ (l:List ah)(hl:l.length<4611686018427387904)(hw:∀ x,x∈l→x.jf):Go.Sl.Pure Tryz.prog slices_ContainsFunc_Lapi_Op_api_Op.f [ops l,.fn (.func frame_May_1.f) [] []] (bl (l.any gz)):=by
 rw [← Bp]
 refine slices_ContainsFunc_Lapi_Op_api_Op.enter (by first | rfl | simp [SV.ok,SV.aF]) (by first | rfl | simp [Hp.ok,Ob.ok,SV.ok,SV.aF,ag.an]) (by simp) ?_
 dsimp only [slices_ContainsFunc_Lapi_Op_api_Op.s,Co.M,Co.G,Co.J,Co.H,Co.N,Co.F,Co.C,Co.Z,Co.B,Co.b8,Co.aJ,Co.b_,Co.i6,Co.z8,Co.cn]
 (repeat (first | refine SW.seq ?_ | refine SW.block ?_ | (refine SW.au [0,1,4] mixed ?_;(repeat (first | refine RW.ro U (h:= ?_) | refine RW.skip (h:= ?_) | refine RW.op U (h:= ?_) | refine RW.aL U (h:= ?_) | refine RW.aj (h:= ?_) | (refine RW.aG (h:= ?_);(first | refine ai.mk U (hc:=Bo _ (by first | assumption | omega) (by first | assumption | omega) _) (h:= ?_)))));refine RW.nil ⟨by kernel_rfl,aa.mk (h:= ?_)⟩) | refine SW.skip ?_ | refine SW.exit ?_ | refine SW.ret ?_ | refine SW.aC rfl ?_ | refine SW.ay rfl ?_))
 exact End.mk [] (h4:=⟨rfl,rfl⟩)
theorem iD (l:List ah)(hl:l.length<4611686018427387904)(hw:∀ x,x∈l→x.jf)(k:Nat):bB Tryz.prog slices_ContainsFunc_Lapi_Op_api_Op.f [ops l,.fn (.func frame_May_1.f) [] []] [] k 0 (bl (l.any gz)) []:=(tZ l hl hw).sc rfl k
theorem gQ (k:Nat):bB Tryz.prog slices_ContainsFunc_Lapi_Op_api_Op.f [.d .aY,.fn (.func frame_May_1.f) [] []] [] k 0 (.d (.bool false)) []:=by
 have hc:=iD [] (by decide) (by simp) k
 unfold bB at hc ⊢
 refine SC.args (fun p μ M vs h=> ?_) hc
 obtain ⟨u,us,rfl,h1,h2⟩:=aQ.aI.1 h
 exact aQ.aI.2 ⟨u,us,rfl,jo p μ M u h1,h2⟩
set_option maxHeartbeats 1000000 in
theorem yY (l:List Bool)(hl:l.length<1000):Go.Sl.Pure Tryz.prog slices_Index_Lbool_bool.f [.d (.sl l.length (l.map .bool)),.d (.bool false)] (.d (.int .i64 (match l.findIdx? (! ·) with
 | some i=>(i:Int)
 | none=> -1))):=by
 refine slices_Index_Lbool_bool.enter (by first | rfl | simp [SV.ok,SV.aF]) (by first | rfl | simp [Hp.ok,Ob.ok,SV.ok,SV.aF,ag.an]) (by simp) ?_
 dsimp only [slices_Index_Lbool_bool.s,Co.M,Co.G,Co.J,Co.H,Co.N,Co.F,Co.C,Co.Z,Co.B,Co.b8,Co.aJ,Co.b_,Co.i6,Co.z8,Co.cn]
 (repeat (first | refine SW.seq ?_ | refine SW.block ?_ | (refine SW.au [0,1,4,5,7,8,9,16] mixed ?_;(repeat (first | refine RW.ro U (h:= ?_) | refine RW.skip (h:= ?_) | refine RW.op U (h:= ?_) | refine RW.aL U (h:= ?_) | refine RW.aj (h:= ?_)));refine RW.nil ⟨by kernel_rfl,aa.mk (h:= ?_)⟩) | refine SW.skip ?_ | refine SW.exit ?_ | refine SW.ret ?_ | refine SW.aC rfl ?_ | refine SW.ay rfl ?_))
 refine SW.fI (α:={i:Nat // i≤l.length∧∀ j x,j<i→l[j]? =some x→x=true}) (fun i=>⟨[(8,i64 i.1),(7,i64 l.length),(0,.d (.sl l.length (l.map .bool))),(1,.d (.bool false))],[],0⟩) (fun i=>l.length - i.1) ⟨0,by omega,by omega⟩ id U (round:= ?_)
 rintro ⟨i,hi,hs⟩
 by_cases h:i<l.length
 ·have h1:decide ((i:Int)<l.length)=true:=by simp only [decide_eq_true_eq];omega
  obtain ⟨x,hx⟩:=bR h
  have e2:IntKind.i64.wrap ((i:Int)+1)=((i+1:Nat):Int):=wrap_i64 _ (by omega)
  have e3:(List.map SV.d (l.map DV.bool))[i]? =some (.d (.bool x)):=by rw [List.getElem?_map,List.getElem?_map,hx];rfl
  cases x with
  | true=>
   have e4:(false == true)=false:=rfl
   (repeat (first | refine SW.seq ?_ | refine SW.block ?_ | (have fx:=(And.intro (h1) (And.intro (e2) (And.intro (e3) (e4))));refine SW.au [0,1,4,5,7,8,9,16] mixed ?_;(repeat (first | refine RW.ro fx (h:= ?_) | refine RW.skip (h:= ?_) | refine RW.op fx (h:= ?_) | refine RW.aL fx (h:= ?_) | refine RW.aj (h:= ?_)));refine RW.nil ⟨by kernel_rfl,aa.mk (h:= ?_)⟩) | refine SW.skip ?_ | refine SW.exit ?_ | refine SW.ret ?_ | refine SW.aC rfl ?_ | refine SW.ay rfl ?_))
   refine Next.mk ⟨i+1,by omega,fun j y hj hy=> ?_⟩ id U
   rcases Nat.lt_or_ge j i with h2 | h2
   ·exact hs j y h2 hy
   ·have:j=i:=by omega
    subst this
    rw [hx] at hy;injection hy with hy;exact hy.symm
  | false=>
   have e4:(false == false)=true:=rfl
   have e:l.findIdx? (! ·)=some i:=by
    rw [List.findIdx?_eq_some_iff_getElem]
    refine ⟨h,?_,fun j hj=> ?_⟩
    ·rw [List.getElem?_eq_getElem h] at hx;injection hx with hx;rw [hx];rfl
    ·have:=hs j l[j] hj (List.getElem?_eq_getElem _);simp [this]
   rw [e]
   (repeat (first | refine SW.seq ?_ | refine SW.block ?_ | (have fx:=(And.intro (h1) (And.intro (e2) (And.intro (e3) (e4))));refine SW.au [0,1,4,5,7,8,9,16] mixed ?_;(repeat (first | refine RW.ro fx (h:= ?_) | refine RW.skip (h:= ?_) | refine RW.op fx (h:= ?_) | refine RW.aL fx (h:= ?_) | refine RW.aj (h:= ?_)));refine RW.nil ⟨by kernel_rfl,aa.mk (h:= ?_)⟩) | refine SW.skip ?_ | refine SW.exit ?_ | refine SW.ret ?_ | refine SW.aC rfl ?_ | refine SW.ay rfl ?_))
   exact End.mk [] (h4:=⟨rfl,rfl⟩)
 ·have h1:decide ((i:Int)<l.length)=false:=by simp only [decide_eq_false_iff_not];omega
  have e:l.findIdx? (! ·)=none:=by
   rw [List.findIdx?_eq_none_iff]
   intro x hx
   obtain ⟨j,hj⟩:=List.mem_iff_getElem?.1 hx
   rw [hs j x (by have:=dw hj;omega) hj];rfl
  rw [e]
  (repeat (first | refine SW.seq ?_ | refine SW.block ?_ | (refine SW.au [0,1,4,5,7,8,9,16] mixed ?_;(repeat (first | refine RW.ro (h1) (h:= ?_) | refine RW.skip (h:= ?_) | refine RW.op (h1) (h:= ?_) | refine RW.aL (h1) (h:= ?_) | refine RW.aj (h:= ?_)));refine RW.nil ⟨by kernel_rfl,aa.mk (h:= ?_)⟩) | refine SW.skip ?_ | refine SW.exit ?_ | refine SW.ret ?_ | refine SW.aC rfl ?_ | refine SW.ay rfl ?_))
  exact End.mk [] (h4:=⟨rfl,rfl⟩)
theorem wS (l:List Bool):(!decide ((match l.findIdx? (! ·) with
 | some i=>(i:Int)
 | none=> -1)≥0))=l.all id:=by
 cases h:l.findIdx? (! ·) with
 | none=>
  rw [List.findIdx?_eq_none_iff] at h
  have:l.all id=true:=by rw [List.all_eq_true];exact fun x hx=>by simpa using h x hx
  rw [this];rfl
 | some i=>
  rw [List.findIdx?_eq_some_iff_getElem] at h
  obtain ⟨h1,h2,_⟩:=h
  have:l.all id=false:=by rw [List.all_eq_false];exact ⟨_,List.getElem_mem h1,by simpa using h2⟩
  rw [this]
  simp
theorem yZ (l:List Bool)(hl:l.length<1000)(k:Nat):bB Tryz.prog slices_Index_Lbool_bool.f [.d (.sl l.length (l.map .bool)),.d (.bool false)] [] k 0 (.d (.int .i64 (match l.findIdx? (! ·) with
 | some i=>(i:Int)
 | none=> -1))) []:=(yY l hl).sc rfl k
theorem t_ (l:List Bool)(hl:l.length<1000):Go.Sl.Pure Tryz.prog slices_Contains_Lbool_bool.f [.d (.sl l.length (l.map .bool)),.d (.bool false)] (bl (!(l.all id))):=by
 rw [← wS,Bool.not_not]
 refine slices_Contains_Lbool_bool.enter (by first | rfl | simp [SV.ok,SV.aF]) (by first | rfl | simp [Hp.ok,Ob.ok,SV.ok,SV.aF,ag.an]) (by simp) ?_
 dsimp only [slices_Contains_Lbool_bool.s,Co.M,Co.G,Co.J,Co.H,Co.N,Co.F,Co.C,Co.Z,Co.B,Co.b8,Co.aJ,Co.b_,Co.i6,Co.z8,Co.cn]
 (repeat (first | refine SW.seq ?_ | refine SW.block ?_ | (refine SW.au [0,1,4] mixed ?_;(repeat (first | refine RW.ro U (h:= ?_) | refine RW.skip (h:= ?_) | refine RW.op U (h:= ?_) | refine RW.aL U (h:= ?_) | refine RW.aj (h:= ?_) | (refine RW.aG (h:= ?_);(first | refine ai.mk U (hc:=yZ _ (by first | assumption | omega) _) (h:= ?_)))));refine RW.nil ⟨by kernel_rfl,aa.mk (h:= ?_)⟩) | refine SW.skip ?_ | refine SW.exit ?_ | refine SW.ret ?_ | refine SW.aC rfl ?_ | refine SW.ay rfl ?_))
 exact End.mk [] (h4:=⟨rfl,rfl⟩)
theorem ua (l:List Bool)(hl:l.length<1000)(k:Nat):bB Tryz.prog slices_Contains_Lbool_bool.f [.d (.sl l.length (l.map .bool)),.d (.bool false)] [] k 0 (bl (!(l.all id))) []:=(t_ l hl).sc rfl k
theorem FM (l:List Bool)(hl:l.length<1000):Go.Sl.Pure Tryz.prog frame_all.f [.d (.sl l.length (l.map .bool))] (bl (l.all id)):=by
 rw [← Bool.not_not (l.all id)]
 refine frame_all.enter (by first | rfl | simp [SV.ok,SV.aF]) (by first | rfl | simp [Hp.ok,Ob.ok,SV.ok,SV.aF,ag.an]) (by simp) ?_
 dsimp only [frame_all.s,Co.M,Co.G,Co.J,Co.H,Co.N,Co.F,Co.C,Co.Z,Co.B,Co.b8,Co.aJ,Co.b_,Co.i6,Co.z8,Co.cn]
 (repeat (first | refine SW.seq ?_ | refine SW.block ?_ | (refine SW.au [0,2] mixed ?_;(repeat (first | refine RW.ro U (h:= ?_) | refine RW.skip (h:= ?_) | refine RW.op U (h:= ?_) | refine RW.aL U (h:= ?_) | refine RW.aj (h:= ?_) | (refine RW.aG (h:= ?_);(first | refine ai.mk U (hc:=ua _ (by first | assumption | omega) _) (h:= ?_)))));refine RW.nil ⟨by kernel_rfl,aa.mk (h:= ?_)⟩) | refine SW.skip ?_ | refine SW.exit ?_ | refine SW.ret ?_ | refine SW.aC rfl ?_ | refine SW.ay rfl ?_))
 exact End.mk [] (h4:=⟨rfl,rfl⟩)
theorem kH (a b c d e f:Bool)(k:Nat):bB Tryz.prog frame_all.f [.d (.sl 6 [.bool a,.bool b,.bool c,.bool d,.bool e,.bool f])] [] k 0 (bl (a && (b && (c && (d && (e && (f && true))))))) []:=(FM [a,b,c,d,e,f] (by simp)).sc rfl k
end
section
attribute [local irreducible] SW RW bB SC ai aa
def fe (kd fr to:Nat)(h:ag)(o:SV):List SV:=u8 kd::u8 fr::u8 to::(h.cells++[o])
theorem Ht (kd fr to:Nat)(h:ag)(o:SV):(fe kd fr to h o)[0]? =some (u8 kd):=rfl
theorem Hu (kd fr to:Nat)(h:ag)(o:SV):(fe kd fr to h o)[1]? =some (u8 fr):=rfl
theorem Hv (kd fr to:Nat)(h:ag)(o:SV):(fe kd fr to h o)[2]? =some (u8 to):=rfl
theorem Ib (kd fr to:Nat)(h:ag)(o:SV):List.take 8 (List.drop 3 (fe kd fr to h o))=h.cells:=rfl
theorem DA (kd fr to:Nat)(h:ag)(o:SV):(fe kd fr to h o)[11]? =some o:=rfl
theorem y5 (kd fr to:Nat)(h:ag)(o:SV):(fe kd fr to h o).length=12:=rfl
theorem oA (kd fr to:Nat)(h:ag)(o:SV)(ho:o.aZ=true):(fe kd fr to h o).all SV.aZ=true:=by
 show (true && (true && (true && ((h.cells++[o]).all SV.aZ))))=true
 rw [List.all_append,ag.cells_one];simp [ho]
theorem iq (kd fr to:Nat)(h:ag)(x:DV)(q:Nat→Bool):SV.aF q (fe kd fr to h (.d x))=true:=SV.cm (q:=q) (.int .u8 kd:: .int .u8 fr:: .int .u8 to::(h.ds++[x]))
def l9 (kd fr to:Nat)(l:List ah):Bool:=
 decide ((kd:Int)≤1) && (decide ((if (to:Int)>fr then (to:Int) else fr)<8) && (((fr:Int) != to) && ((((kd:Int) == 1) || (((l.length:Nat):Int) == 0)) && (decide (((l.length:Nat):Int)≤64) && ((!(l.any gz)) && true)))))
def nN (o:DV)(l:List ah):Prop:=(o= .aY∧l=[])∨o= .sl l.length (l.flatMap ah.ds)
theorem DB:∀ (z0 z1 z2 z3 z4 z5 a b c d e f:SV),bV (bV (bV (bV (bV (bV [z0,z1,z2,z3,z4,z5] 0 [a]) 1 [b]) 2 [c]) 3 [d]) 4 [e]) 5 [f]=[a,b,c,d,e,f]:=fun _ _ _ _ _ _ _ _ _ _ _ _=>rfl
set_option maxHeartbeats 4000000 in
theorem DC (kd fr to:Nat)(h:ag)(o:DV)(l:List ah)(ho:nN o l)(hl:l.length<4611686018427387904)(hw:∀ x,x∈l→x.jf):Go.Sl.Pure Tryz.prog frame_May.f [.agg (fe kd fr to h (.d o))] (bl (l9 kd fr to l)):=by
 have hone:=oA kd fr to h (.d o) rfl
 have g0:=Ht kd fr to h (.d o)
 have g1:=Hu kd fr to h (.d o)
 have g2:=Hv kd fr to h (.d o)
 have g3:=DA kd fr to h (.d o)
 have g4:=y5 kd fr to h (.d o)
 unfold l9
 refine frame_May.enter (by simp [SV.ok,SV.aF,iq]) (by simp [Hp.ok]) (by simp) ?_
 dsimp only [frame_May.s,Co.M,Co.G,Co.J,Co.H,Co.N,Co.F,Co.C,Co.Z,Co.B,Co.b8,Co.aJ,Co.b_,Co.i6,Co.z8,Co.cn]
 rcases ho with ⟨rfl,rfl⟩ | rfl
 ·generalize fe kd fr to h (.d .aY)=fc at hone g0 g1 g2 g3 g4 ⊢
  refine SW.seq ?_
  (refine SW.au [0,1,2,3] mixed ?_;(repeat (first | refine RW.ro (hone) (h:= ?_) | refine RW.skip (h:= ?_) | refine RW.op (hone) (h:= ?_) | refine RW.aL (hone) (h:= ?_) | refine RW.aj (h:= ?_)));refine RW.nil ⟨by kernel_rfl,aa.mk (h:= ?_)⟩)
  refine SW.seq ?_
  (refine SW.au [0,1,2,3] mixed ?_;(repeat (first | refine RW.ro (g3) (h:= ?_) | refine RW.skip (h:= ?_) | refine RW.op (g3) (h:= ?_) | refine RW.aL (g3) (h:= ?_) | refine RW.aj (h:= ?_) | (refine RW.aG (h:= ?_);(first | refine ai.mk (g3) (hc:=gQ _) (h:= ?_) | refine ai.mk (g3) (hc:=kH _ _ _ _ _ _ _) (h:= ?_)))));refine RW.nil ⟨by kernel_rfl,aa.mk (h:= ?_)⟩)
  refine SW.seq ?_
  rcases c1:((kd:Int) == 1) with _ | _
  ·(have fx:=(And.intro (g0) (And.intro (g1) (And.intro (g2) (And.intro (g3) (And.intro (c1) (DB))))));refine SW.au [0,1,2,3] mixed ?_;(repeat (first | refine RW.ro fx (h:= ?_) | refine RW.skip (h:= ?_) | refine RW.op fx (h:= ?_) | refine RW.aL fx (h:= ?_) | refine RW.aj (h:= ?_) | (refine RW.aG (h:= ?_);(first | refine ai.mk fx (hc:=gQ _) (h:= ?_) | refine ai.mk fx (hc:=kH _ _ _ _ _ _ _) (h:= ?_)))));refine RW.nil ⟨by kernel_rfl,aa.mk (h:= ?_)⟩)
   refine SW.ret ?_
   exact End.mk [] (h4:=⟨by simp [gI],rfl⟩)
  ·(have fx:=(And.intro (g0) (And.intro (g1) (And.intro (g2) (And.intro (g3) (And.intro (c1) (DB))))));refine SW.au [0,1,2,3] mixed ?_;(repeat (first | refine RW.ro fx (h:= ?_) | refine RW.skip (h:= ?_) | refine RW.op fx (h:= ?_) | refine RW.aL fx (h:= ?_) | refine RW.aj (h:= ?_) | (refine RW.aG (h:= ?_);(first | refine ai.mk fx (hc:=gQ _) (h:= ?_) | refine ai.mk fx (hc:=kH _ _ _ _ _ _ _) (h:= ?_)))));refine RW.nil ⟨by kernel_rfl,aa.mk (h:= ?_)⟩)
   refine SW.ret ?_
   exact End.mk [] (h4:=⟨by simp [gI],rfl⟩)
 ·generalize fe kd fr to h (.d (.sl l.length (l.flatMap ah.ds)))=fc at hone g0 g1 g2 g3 g4 ⊢
  refine SW.seq ?_
  (refine SW.au [0,1,2,3] mixed ?_;(repeat (first | refine RW.ro (hone) (h:= ?_) | refine RW.skip (h:= ?_) | refine RW.op (hone) (h:= ?_) | refine RW.aL (hone) (h:= ?_) | refine RW.aj (h:= ?_) | (refine RW.aG (h:= ?_);(first | refine ai.mk (hone) (hc:=gQ _) (h:= ?_) | refine ai.mk (hone) (hc:=kH _ _ _ _ _ _ _) (h:= ?_)))));refine RW.nil ⟨by kernel_rfl,aa.mk (h:= ?_)⟩)
  refine SW.seq ?_
  (refine SW.au [0,1,2,3] mixed ?_;(repeat (first | refine RW.ro (g3) (h:= ?_) | refine RW.skip (h:= ?_) | refine RW.op (g3) (h:= ?_) | refine RW.aL (g3) (h:= ?_) | refine RW.aj (h:= ?_) | (refine RW.aG (h:= ?_);(first | refine ai.mk (g3) (hc:=iD _ (by first | assumption | omega) (by first | assumption | omega) _) (h:= ?_) | refine ai.mk (g3) (hc:=kH _ _ _ _ _ _ _) (h:= ?_)))));refine RW.nil ⟨by kernel_rfl,aa.mk (h:= ?_)⟩)
  refine SW.seq ?_
  rcases c1:((kd:Int) == 1) with _ | _
  ·(have fx:=(And.intro (g0) (And.intro (g1) (And.intro (g2) (And.intro (g3) (And.intro (c1) (DB))))));refine SW.au [0,1,2,3] mixed ?_;(repeat (first | refine RW.ro fx (h:= ?_) | refine RW.skip (h:= ?_) | refine RW.op fx (h:= ?_) | refine RW.aL fx (h:= ?_) | refine RW.aj (h:= ?_) | (refine RW.aG (h:= ?_);(first | refine ai.mk fx (hc:=iD _ (by first | assumption | omega) (by first | assumption | omega) _) (h:= ?_) | refine ai.mk fx (hc:=kH _ _ _ _ _ _ _) (h:= ?_)))));refine RW.nil ⟨by kernel_rfl,aa.mk (h:= ?_)⟩)
   refine SW.ret ?_
   exact End.mk [] (h4:=⟨by simp [gI],rfl⟩)
  ·(have fx:=(And.intro (g0) (And.intro (g1) (And.intro (g2) (And.intro (g3) (And.intro (c1) (DB))))));refine SW.au [0,1,2,3] mixed ?_;(repeat (first | refine RW.ro fx (h:= ?_) | refine RW.skip (h:= ?_) | refine RW.op fx (h:= ?_) | refine RW.aL fx (h:= ?_) | refine RW.aj (h:= ?_) | (refine RW.aG (h:= ?_);(first | refine ai.mk fx (hc:=iD _ (by first | assumption | omega) (by first | assumption | omega) _) (h:= ?_) | refine ai.mk fx (hc:=kH _ _ _ _ _ _ _) (h:= ?_)))));refine RW.nil ⟨by kernel_rfl,aa.mk (h:= ?_)⟩)
   refine SW.ret ?_
   exact End.mk [] (h4:=⟨by simp [gI],rfl⟩)
end
section
attribute [local irreducible] SW RW bB SC ai aa
theorem DD {l:List ah}{i:Nat}{x:ah}(h:l[i]? =some x):(List.map SV.d (l.flatMap ah.ds))[i*29+28]? =some (.d x.lines):=by
 rw [Fw h (by omega)];rfl
theorem DE (kd fr to:Nat)(h:ag)(o:DV)(l:List ah)(ho:nN o l)(hl:l.length<4611686018427387904)(hw:∀ x,x∈l→x.jf)(k:Nat):bB Tryz.prog frame_May.f [.agg (fe kd fr to h (.d o))] [] k 0 (bl (l9 kd fr to l)) []:=
 (DC kd fr to h o l ho hl hw).sc (by simp [SV.aF,SV.ok,iq]) k
end
section
attribute [local irreducible] SW RW bB SC ai aa
theorem Iw {kd fr to:Nat}{h:ag}{o:DV}{l:List ah}(ho:nN o l)(p:Nat→Prop)(μ:Nat→Nm)(M:Mem)(v:Value)(hv:Rp p μ M (.agg (fe kd fr to h (.d o))) v):Rp p μ M (.agg (fe kd fr to h (ops l))) v:=by
 rcases ho with ⟨rfl,rfl⟩ | rfl
 ·obtain ⟨vs,rfl,h1⟩:=Rp.c8.1 hv
  refine Rp.c8.2 ⟨vs,rfl,?_⟩
  have key:∀ (cs:List SV) (vs:List Value),aQ p μ M (cs++[.d .aY]) vs→aQ p μ M (cs++[.d (.sl 0 [])]) vs:=by
   intro cs
   induction cs with
   | nil=>
    intro vs h
    obtain ⟨u,us,rfl,h1,h2⟩:=aQ.aI.1 h
    exact aQ.aI.2 ⟨u,us,rfl,jo p μ M u h1,h2⟩
   | cons c cs ih=>
    intro vs h
    obtain ⟨u,us,rfl,h1,h2⟩:=aQ.aI.1 h
    exact aQ.aI.2 ⟨u,us,rfl,h1,ih us h2⟩
  exact key (u8 kd::u8 fr::u8 to::h.cells) vs.toList h1
 ·exact hv
set_option maxHeartbeats 4000000 in
theorem Bq (kd fr to:Nat)(h:ag)(l:List ah)(hl:l.length<4611686018427387904)(hw:∀ x,x∈l→Bi x):Go.Sl.Pure Tryz.prog ref06_Same.f [.agg (fe kd fr to h (ops l)),.agg (fe kd fr to h (ops l))] (bl true):=by
 have hone:=oA kd fr to h (ops l) rfl
 have g0:=Ht kd fr to h (ops l)
 have g1:=Hu kd fr to h (ops l)
 have g2:=Hv kd fr to h (ops l)
 have g3:=DA kd fr to h (ops l)
 have g4:=y5 kd fr to h (ops l)
 have g5:=Ib kd fr to h (ops l)
 refine ref06_Same.enter (by simp [SV.ok,SV.aF,iq]) (by simp [Hp.ok]) (by simp) ?_
 dsimp only [ref06_Same.s,Co.M,Co.G,Co.J,Co.H,Co.N,Co.F,Co.C,Co.Z,Co.B,Co.b8,Co.aJ,Co.b_,Co.i6,Co.z8,Co.cn]
 generalize fe kd fr to h (ops l)=fc at hone g0 g1 g2 g3 g4 g5 ⊢
 have d2:∀ d:ag,decide (d=d)=true:=fun d=>by simp
 have d3:∀ d:Int,(d == d)=true:=fun d=>by simp
 have g6:(3+8≤fc.length)=True:=eq_true (by omega)
 refine SW.seq ?_
 (refine SW.au [0,1,2,3,4] mixed ?_;(repeat (first | refine RW.ro (hone) (h:= ?_) | refine RW.skip (h:= ?_) | refine RW.op (hone) (h:= ?_) | refine RW.aL (hone) (h:= ?_) | refine RW.aj (h:= ?_) | (refine RW.aG (h:= ?_);(first | refine ai.mk (hone) (hc:=ja _ (by first | assumption | omega) (by first | assumption | omega) _) (h:= ?_)))));refine RW.nil ⟨by kernel_rfl,aa.mk (h:= ?_)⟩)
 refine SW.seq ?_
 (have fx:=(And.intro (g0) (And.intro (g1) (And.intro (g2) (And.intro (g3) (And.intro (g4) (And.intro (g5) (And.intro (g6) (And.intro (d2) (d3)))))))));refine SW.au [0,1,2,3,4] mixed ?_;(repeat (first | refine RW.ro fx (h:= ?_) | refine RW.skip (h:= ?_) | refine RW.op fx (h:= ?_) | refine RW.aL fx (h:= ?_) | refine RW.aj (h:= ?_) | (refine RW.aG (h:= ?_);(first | refine ai.mk fx (hc:=ja _ (by first | assumption | omega) (by first | assumption | omega) _) (h:= ?_)))));refine RW.nil ⟨by kernel_rfl,aa.mk (h:= ?_)⟩)
 refine SW.ret ?_
 exact End.mk [] (h4:=⟨rfl,rfl⟩)
theorem Br (kd fr to:Nat)(h:ag)(o o':DV)(l:List ah)(ho:nN o l)(ho':nN o' l)(hl:l.length<4611686018427387904)(hw:∀ x,x∈l→Bi x)(k:Nat):bB Tryz.prog ref06_Same.f [.agg (fe kd fr to h (.d o)),.agg (fe kd fr to h (.d o'))] [] k 0 (bl true) []:=by
 have hc:=(Bq kd fr to h l hl hw).sc (by simp [SV.aF,SV.ok,iq]) k
 unfold bB at hc ⊢
 refine SC.args (fun p μ M vs hv=> ?_) hc
 obtain ⟨u,us,rfl,h1,h2⟩:=aQ.aI.1 hv
 obtain ⟨u2,us2,rfl,h3,h4⟩:=aQ.aI.1 h2
 exact aQ.aI.2 ⟨u,_,rfl,Iw ho p μ M u h1,aQ.aI.2 ⟨u2,us2,rfl,Iw ho' p μ M u2 h3,h4⟩⟩
abbrev jv:List SV:=fe 0 0 0 ag.zero (.d .aY)
def l_ (b:Bool)(fc:List SV)(e:Int):SV:= .cW [.agg (if b then fc else jv),i64 (if b then 0 else e)]
theorem de:[SV.d (.int .u8 0),.d (.int .u8 0),.d (.int .u8 0),.d (.int .u32 0),.d (.int .u32 0),.d (.int .u32 0),.d (.int .u32 0),.d (.int .u32 0),.d (.int .u32 0),.d (.int .u32 0),.d (.int .u32 0),.d .aY]=jv:=rfl
theorem xU (kd fr to:Nat)(h:ag)(o:DV)(l:List ah)(e:Int)(ho:nN o l)(hl:l.length<4611686018427387904)(hw:∀ x,x∈l→x.jf):Go.Sl.Pure Tryz.prog gossip_may.f [.agg (fe kd fr to h (.d o)),.d (.int .i64 e)] (l_ (l9 kd fr to l) (fe kd fr to h (.d o)) e):=by
 have hone:=oA kd fr to h (.d o) rfl
 have g4:=y5 kd fr to h (.d o)
 have hm:=DE kd fr to h o l ho hl hw
 have ht:List.take 12 (fe kd fr to h (.d o))=fe kd fr to h (.d o):=rfl
 have hz:bV jv 0 (fe kd fr to h (.d o))=fe kd fr to h (.d o):=rfl
 have hok:=fun q=>iq kd fr to h o q
 refine gossip_may.enter (by simp [SV.ok,SV.aF,iq]) (by simp [Hp.ok]) (by simp) ?_
 dsimp only [gossip_may.s,Co.M,Co.G,Co.J,Co.H,Co.N,Co.F,Co.C,Co.Z,Co.B,Co.b8,Co.aJ,Co.b_,Co.i6,Co.z8,Co.cn]
 generalize fe kd fr to h (.d o)=fc at hone g4 hm ht hz hok ⊢
 have z0:jv.all SV.aZ=true:=rfl
 have z1:jv.length=12:=rfl
 have z2:bV jv 0 jv=jv:=rfl
 have z3:List.take 12 jv=jv:=rfl
 refine SW.seq ?_
 (have fx:=(And.intro (hone) (de));refine SW.au [0,1,2,4,5,8] mixed ?_;(repeat (first | refine RW.ro fx (h:= ?_) | refine RW.skip (h:= ?_) | refine RW.op fx (h:= ?_) | refine RW.aL fx (h:= ?_) | refine RW.aj (h:= ?_) | (refine RW.aG (h:= ?_);(first | refine ai.mk fx (hc:=ja _ (by first | assumption | omega) (by first | assumption | omega) _) (h:= ?_)))));refine RW.nil ⟨by kernel_rfl,aa.mk (h:= ?_)⟩)
 rcases hg:l9 kd fr to l with _ | _
 ·rw [hg] at hm
  refine SW.seq (SW.seq ?_)
  (have fx:=(And.intro (ht) (And.intro (g4) (And.intro (hone) (de))));refine SW.au [0,1,2,4,5,8] mixed ?_;(repeat (first | refine RW.ro fx (h:= ?_) | refine RW.skip (h:= ?_) | refine RW.op fx (h:= ?_) | refine RW.aL fx (h:= ?_) | refine RW.aj (h:= ?_) | (refine RW.aG (h:= ?_);(first | refine ai.mk fx (hc:=hm _) (h:= ?_)))));refine RW.nil ⟨by kernel_rfl,aa.mk (h:= ?_)⟩)
  refine SW.aC rfl ?_
  (repeat (first | refine SW.seq ?_ | refine SW.block ?_ | (have fx:=(And.intro (ht) (And.intro (g4) (And.intro (hone) (And.intro (de) (And.intro (z0) (And.intro (z1) (And.intro (z2) (z3))))))));refine SW.au [0,1,2,4,5,8] mixed ?_;(repeat (first | refine RW.ro fx (h:= ?_) | refine RW.skip (h:= ?_) | refine RW.op fx (h:= ?_) | refine RW.aL fx (h:= ?_) | refine RW.aj (h:= ?_) | (refine RW.aG (h:= ?_);(first | refine ai.mk fx (hc:=hm _) (h:= ?_)))));refine RW.nil ⟨by kernel_rfl,aa.mk (h:= ?_)⟩) | refine SW.skip ?_ | refine SW.exit ?_ | refine SW.ret ?_ | refine SW.aC rfl ?_ | refine SW.ay rfl ?_))
  exact End.mk [] (h2:=by simp [fJ];omega) (h4:=⟨by simp only [l_,Bool.false_eq_true,if_false];rfl,rfl⟩) (h5:=by simp [gI,SV.ok,SV.aF];exact iq 0 0 0 ag.zero .aY _)
 ·rw [hg] at hm
  refine SW.seq (SW.seq ?_)
  (have fx:=(And.intro (ht) (And.intro (g4) (And.intro (hone) (de))));refine SW.au [0,1,2,4,5,8] mixed ?_;(repeat (first | refine RW.ro fx (h:= ?_) | refine RW.skip (h:= ?_) | refine RW.op fx (h:= ?_) | refine RW.aL fx (h:= ?_) | refine RW.aj (h:= ?_) | (refine RW.aG (h:= ?_);(first | refine ai.mk fx (hc:=hm _) (h:= ?_)))));refine RW.nil ⟨by kernel_rfl,aa.mk (h:= ?_)⟩)
  refine SW.ay rfl (SW.skip ?_)
  (repeat (first | refine SW.seq ?_ | refine SW.block ?_ | (have fx:=(And.intro (ht) (And.intro (g4) (And.intro (hone) (And.intro (de) (And.intro (z0) (And.intro (z1) (And.intro (z2) (And.intro (z3) (hz)))))))));refine SW.au [0,1,2,4,5,8] mixed ?_;(repeat (first | refine RW.ro fx (h:= ?_) | refine RW.skip (h:= ?_) | refine RW.op fx (h:= ?_) | refine RW.aL fx (h:= ?_) | refine RW.aj (h:= ?_) | (refine RW.aG (h:= ?_);(first | refine ai.mk fx (hc:=hm _) (h:= ?_)))));refine RW.nil ⟨by kernel_rfl,aa.mk (h:= ?_)⟩) | refine SW.skip ?_ | refine SW.exit ?_ | refine SW.ret ?_ | refine SW.aC rfl ?_ | refine SW.ay rfl ?_))
  exact End.mk [] (h2:=by simp [fJ];omega) (h4:=⟨by simp only [l_,if_true,gI,List.drop_zero,ht,g4],rfl⟩) (h5:=by simp [gI,SV.ok,SV.aF,ht,hok])
end
section
attribute [local irreducible] SW RW bB SC ai aa
theorem wT (kd fr to:Nat)(h:ag)(o:SV)(q:Nat→Bool):SV.aF q (fe kd fr to h o)=o.ok q:=by
 simp [fe,SV.aF,SV.gK,ag.an,SV.ok]
theorem FN (kd fr to:Nat)(h:ag)(o o':SV):bV (fe kd fr to h o) 11 [o']=fe kd fr to h o':=rfl
structure DF (y fb mb:Nat) where
 row:Option (List ah×Nat)
 pe:Option Code
 ne:∀ p,row=some p→y<p.2∧p.2≠fb∧p.2≠mb
section
variable {y fb mb:Nat}
def DF.l (s:DF y fb mb):List ah:=match s.row with | none=>[] | some p=>p.1
def DF.v (s:DF y fb mb):SV:=match s.row with | none=> .d .aY | some p=> .gs p.2 p.1.length
def DF.hp (s:DF y fb mb):Hp:=match s.row with | none=>[] | some p=>[(p.2,.arr 51 29 p.1.length ((p.1.flatMap ah.ds).map .d))]
def gL (fr to:Nat)(h:ag)(m:Nat)(ca cb:Code)(s:DF y fb mb):Hp:=
 (y,.l5 56 [9,12] [.ptr mb 0,.ptr fb 0] [40] ca cb (jT s.pe) s.pe)::(fb,.box 39 (fe 1 fr to h s.v))::(mb,.box 3 [i64 m])::s.hp
def DF.to (m:Nat)(s:DF y fb mb)(x:ah)(s':DF y fb mb):Prop:=s.pe=none∧(s.l.length=m→s'.pe=some (.exit 1)∧s'.l=s.l)∧(s.l.length≠m→s'.pe=none∧s'.l=s.l++[x])
theorem DF.lens {m:Nat}{s0 s:DF y fb mb}{xs:List ah}(h:ig (DF.to m) s0 xs s):s.l.length≤s0.l.length+xs.length:=by
 induction h with
 | nil=>simp
 | @snoc xs s1 s2 x _ h ih=>
  obtain ⟨_,h1,h2⟩:=h
  refine Classical.byCases (p:=s1.l.length=m) (fun e=> ?_) fun e=> ?_
  ·rw [(h1 e).2];simp;omega
  ·rw [(h2 e).2];simp;omega
end
set_option maxHeartbeats 2000000 in
theorem y6 {y fb mb B:Nat}(d1:y≠fb)(d2:y≠mb)(d3:fb≠mb)(fr to:Nat)(h:ag)(m:Nat)(hm0:1≤m)(hm:m<1000)(s0:DF y fb mb)(hB:s0.l.length+B<2097152){ca cb:Code}(hca:cK Tryz.prog 56 ca=some (.c7 [⟨some 14,.alloc 51 vZ,none⟩,⟨none,.store 29 (.t 14) (.t 40),none⟩] (kX 2) false))
    (hcb:cK Tryz.prog 56 cb=some (.block 2 (.seq (.seq (.c7 [⟨some 41,.bp 11 (.t 12),none⟩,⟨some 42,.load none (.t 41),none⟩,⟨some 43,.len (.t 42),none⟩,⟨some 44,.load none (.t 9),none⟩,⟨some 45,.bin .eql (.t 43) (.t 44),none⟩] (kX 5) false) (.cond (.t 45) (.exit 1) .skip)) (.c7 [⟨some 46,.bp 11 (.t 12),none⟩,⟨some 47,.load none (.t 46),none⟩,⟨some 48,.load (some 29) (.t 14),none⟩,⟨some 49,.nV 51 29 1 vZ [(0,29,.t 48)],none⟩,⟨some 50,.app 51 29 144 (.t 47) (.t 49),none⟩,⟨some 51,.bp 11 (.t 12),none⟩,⟨none,.store 1 (.t 51) (.t 50),none⟩] (kX 7) false)))):
    jt Tryz.prog y (fun x:ah=> .agg x.cells) 2 (gL (y:=y) (fb:=fb) (mb:=mb) fr to h m ca cb) (DF.to m) (fun s=>s.pe.isNone) s0 B:=by
  have f1:=dY d1
  have f2:=dY d2
  have f3:=dY d3
  refine ⟨fun s=>by simp [gL,af],fun s x hx=> ?_,fun s xs x k hon hlt hok uk=> ?_⟩
  · obtain ⟨row,pe,hne⟩:=s
    rcases row with _ | ⟨l,rn⟩
    · simp only [gL,DF.hp,List.mem_cons,List.not_mem_nil,or_false] at hx
      rcases hx with rfl | rfl | rfl <;> simp [gL,af,f1,f2,f3]
    · obtain ⟨n1',n2,n3⟩:=hne _ rfl
      have n1:rn≠y:=Nat.ne_of_gt n1'
      have f4:=dY n1
      have f5:=dY n2
      have f6:=dY n3
      simp only [gL,DF.hp,List.mem_cons,List.not_mem_nil,or_false] at hx
      rcases hx with rfl | rfl | rfl | rfl <;> simp [gL,DF.hp,af,f1,f2,f3,f4,f5,f6]
  · have hlen :=DF.lens hon
    have hle:s.l.length<2097152:=by omega
    clear hon hlen hlt
    obtain ⟨row,pe,hne⟩:=s
    simp only [Option.isNone_iff_eq_none] at uk
    subst uk
    have g0:=DA 1 fr to h
    have g1:=FN 1 fr to h
    have g2:=y5 1 fr to h
    have g3:=wT 1 fr to h
    rcases row with _ | ⟨l,rn⟩
    · simp only [gL,DF.v,DF.hp,Hp.ok,List.all_cons,List.all_nil,Ob.ok,SV.aF,SV.ok,g3,Bool.and_true,Bool.and_eq_true,decide_eq_true_eq] at hok
      obtain ⟨⟨k1,_⟩,k2,k3⟩:=hok
      have e1:=dY (show k≠y by omega)
      have e2:=dY (show k≠fb by omega)
      have e3:=dY (show k≠mb by omega)
      have e4:=dY (show k+1≠k by omega)
      have e5:=dY (show k+1≠y by omega)
      have e6:=dY (show k+1≠fb by omega)
      have e7:=dY (show k+1≠mb by omega)
      refine zX.here (fun n=>n == y || n == fb || n == mb) (zX.pV (cs:=[.ptr mb 0,.ptr fb 0]) (H:=[(fb,.box 39 (fe 1 fr to h (.d .aY))),(mb,.box 3 [i64 m])]) hca hcb rfl rfl rfl (by simp) k1 (by simp [af,bq,f1,f2]) (by simp [SV.aF,SV.ok]) (by simp [Hp.ok,Ob.ok,SV.aF,SV.ok,g3];omega) (by simp [SV.aF,SV.ok];omega) ?_) ?_ (by simp [SV.aF,SV.ok]) (by simp [gL,DF.v,DF.hp,Hp.ok,Ob.ok,SV.aF,SV.ok,g3]) ?_
      · skip
        show Go.Sl.SW _ _ _ _ ⟨[(40,.agg x.cells),(9,.ptr mb 0),(12,.ptr fb 0)],_,_⟩ _
        (have fx:=(And.intro (f1) (And.intro (f2) (And.intro (f3) (And.intro (e1) (And.intro (e2) (e3))))));refine SW.au [9,12,14,40,45] mixed ?_;(repeat (first | refine RW.ro fx (h:= ?_) | refine RW.skip (h:= ?_) | refine RW.op fx (h:= ?_) | refine RW.aL fx (h:= ?_) | refine RW.aj (h:= ?_) | refine dZ rfl rfl (h:= ?_)));refine RW.nil ⟨by kernel_rfl,aa.mk (h:= ?_)⟩)
        have q1:((0:Int) == (m:Int))=false:=by simp;omega
        refine ⟨rfl,SW.block (SW.seq (SW.seq ?_))⟩
        (have fx:=(And.intro (f1) (And.intro (f2) (And.intro (f3) (And.intro (e1) (And.intro (e2) (And.intro (e3) (And.intro (e4) (And.intro (e5) (And.intro (e6) (And.intro (e7) (And.intro (g0) (And.intro (g1) (And.intro (g2) (q1))))))))))))));refine SW.au [9,12,14,40,45] mixed ?_;(repeat (first | refine RW.ro fx (h:= ?_) | refine RW.skip (h:= ?_) | refine RW.op fx (h:= ?_) | refine RW.aL fx (h:= ?_) | refine RW.aj (h:= ?_) | refine dZ rfl rfl (h:= ?_)));refine RW.nil ⟨by kernel_rfl,aa.mk (h:= ?_)⟩)
        refine SW.ay rfl (SW.skip ?_)
        (have fx:=(And.intro (f1) (And.intro (f2) (And.intro (f3) (And.intro (e1) (And.intro (e2) (And.intro (e3) (And.intro (e4) (And.intro (e5) (And.intro (e6) (And.intro (e7) (And.intro (g0) (And.intro (g1) (g2)))))))))))));refine SW.au [9,12,14,40,45] mixed ?_;(repeat (first | refine RW.ro fx (h:= ?_) | refine RW.skip (h:= ?_) | refine RW.op fx (h:= ?_) | refine RW.aL fx (h:= ?_) | refine RW.aj (h:= ?_) | refine dZ rfl rfl (h:= ?_)));refine RW.nil ⟨by kernel_rfl,aa.mk (h:= ?_)⟩)
        refine ⟨none,true,[(fb,.box 39 (fe 1 fr to h (.gs (k+1) 1))),(mb,.box 3 [i64 m]),(k+1,.arr 51 29 1 (([x].flatMap ah.ds).map .d))],⟨rfl,rfl⟩,?_,?_,by simp,⟨⟨some ([x],k+1),none,fun p hp=>by cases hp;exact ⟨by show y<k+1;omega,by show k+1≠fb;omega,by show k+1≠mb;omega⟩⟩,⟨rfl,fun h=>by simp [DF.l] at h;omega,fun _=>⟨rfl,rfl⟩⟩,rfl,rfl,?_,?_⟩⟩
        · refine HSub.cons ?_ (HSub.cons ?_ (HSub.cons ?_ (HSub.nil _)))
          · simp [af,f1,f2,f3,e1,e2,e3,e4,e5,e6,e7]
          · simp [af,f1,f2,f3,e1,e2,e3,e4,e5,e6,e7]
          · simp [af]
        · simp [Hp.ok,Ob.ok,SV.aF,SV.ok,SV.cm,g3];omega
        · simp [gL,DF.v,DF.hp,Hp.ok,Ob.ok,SV.aF,SV.ok,SV.cm,g3];omega
        · intro n hn
          by_cases hy':n=y
          · exact .inl (by simp [gL,af,hy'])
          · by_cases hfb:n=fb
            · exact .inl (by simp [gL,af,hfb,f1])
            · by_cases hmb:n=mb
              · exact .inl (by simp [gL,af,hmb,f2,f3])
              · refine .inr ?_
                have:n=k+1:=Classical.byContradiction fun hne=>hn (by simp [gL,DF.hp,af,bq,hy',hfb,hmb,hne])
                omega
      · intro n hn
        simp only [Bool.or_eq_true,beq_iff_eq] at hn
        rcases hn with (rfl | rfl) | rfl <;> simp [gL,af,f1,f2,f3]
      · rintro r F' ⟨s',hs',rfl,rfl,hok',hnm⟩ _ _
        obtain ⟨row',pe',hne'⟩:=s'
        refine ⟨rfl,?_⟩
        rcases row' with _ | ⟨l',rW⟩
        · simp [gL,DF.v,DF.hp,Hp.ok,Ob.ok,SV.aF,SV.ok,SV.cm,g3]
        · obtain ⟨w1',w2,w3⟩:=hne' _ rfl
          have w1:rW≠y:=Nat.ne_of_gt w1'
          simp [gL,DF.v,DF.hp,Hp.ok,Ob.ok,SV.aF,SV.ok,SV.cm,g3]
          have hh:=hnm rW (by simp [gL,DF.hp,af,w1,w2,w3])
          rcases hh with hh | ⟨hh1,hh2⟩
          · exfalso;apply hh
            simp [gL,DF.hp,af,bq,w1,w2,w3]
          · simp [hh1];omega
    · obtain ⟨n1',n2,n3⟩:=hne _ rfl
      have n1:rn≠y:=Nat.ne_of_gt n1'
      have f4:=dY n1
      have f5:=dY n2
      have f6:=dY n3
      simp only [gL,DF.v,DF.hp,Hp.ok,List.all_cons,List.all_nil,Ob.ok,SV.aF,SV.ok,SV.cm,g3,Bool.and_true,Bool.and_eq_true,decide_eq_true_eq] at hok
      obtain ⟨⟨k1,_⟩,⟨k2,_⟩,k3,k4⟩:=hok
      have hle:l.length<2097152:=hle
      have e1:=dY (show k≠y by omega)
      have e2:=dY (show k≠fb by omega)
      have e3:=dY (show k≠mb by omega)
      have e4:=dY (show k+1≠k by omega)
      have e5:=dY (show k+1≠y by omega)
      have e6:=dY (show k+1≠fb by omega)
      have e7:=dY (show k+1≠mb by omega)
      have e8:=dY (show k≠rn by omega)
      have e9:=dY (show k+1≠rn by omega)
      have hH:∀ (k':Nat),k≤k'→Hp.ok (fun n=>decide (n<k')) [(fb,.box 39 (fe 1 fr to h (.gs rn l.length))),(mb,.box 3 [i64 m]),(rn,.arr 51 29 l.length ((l.flatMap ah.ds).map .d))]=true:=fun k' hk'=>by
        simp [Hp.ok,Ob.ok,SV.aF,SV.ok,SV.cm,g3];omega
      refine zX.here (fun n=>n == y || n == fb || n == mb || n == rn) (zX.pV (cs:=[.ptr mb 0,.ptr fb 0]) (H:=[(fb,.box 39 (fe 1 fr to h (.gs rn l.length))),(mb,.box 3 [i64 m]),(rn,.arr 51 29 l.length ((l.flatMap ah.ds).map .d))]) hca hcb rfl rfl rfl (by simp) k1 (by simp [af,bq,f1,f2,f4]) (by simp [SV.aF,SV.ok]) (hH k (Nat.le_refl _)) (by simp [SV.aF,SV.ok];omega) ?_) ?_ (by simp [SV.aF,SV.ok]) (by simp [gL,DF.v,DF.hp,Hp.ok,Ob.ok,SV.aF,SV.ok,SV.cm,g3]) ?_
      · skip
        show Go.Sl.SW _ _ _ _ ⟨[(40,.agg x.cells),(9,.ptr mb 0),(12,.ptr fb 0)],_,_⟩ _
        (have fx:=(And.intro (f1) (And.intro (f2) (And.intro (f3) (And.intro (f4) (And.intro (f5) (And.intro (f6) (And.intro (e1) (And.intro (e2) (And.intro (e3) (e8))))))))));refine SW.au [9,12,14,40,45] mixed ?_;(repeat (first | refine RW.ro fx (h:= ?_) | refine RW.skip (h:= ?_) | refine RW.op fx (h:= ?_) | refine RW.aL fx (h:= ?_) | refine RW.aj (h:= ?_) | refine dZ rfl rfl (h:= ?_)));refine RW.nil ⟨by kernel_rfl,aa.mk (h:= ?_)⟩)
        refine ⟨rfl,SW.block (SW.seq (SW.seq ?_))⟩
        refine Classical.byCases (fun Ic:l.length=m=> ?_) fun Ic=> ?_
        · have q1:((l.length:Int) == (m:Int))=true:=by simp;omega
          (have fx:=(And.intro (f1) (And.intro (f2) (And.intro (f3) (And.intro (f4) (And.intro (f5) (And.intro (f6) (And.intro (e1) (And.intro (e2) (And.intro (e3) (And.intro (e4) (And.intro (e5) (And.intro (e6) (And.intro (e7) (And.intro (e8) (And.intro (e9) (And.intro (g0) (And.intro (g1) (And.intro (g2) (q1)))))))))))))))))));refine SW.au [9,12,14,40,45] mixed ?_;(repeat (first | refine RW.ro fx (h:= ?_) | refine RW.skip (h:= ?_) | refine RW.op fx (h:= ?_) | refine RW.aL fx (h:= ?_) | refine RW.aj (h:= ?_) | refine dZ rfl rfl (h:= ?_)));refine RW.nil ⟨by kernel_rfl,aa.mk (h:= ?_)⟩)
          refine SW.aC rfl ?_
          refine SW.weak id (st1:=⟨[],[(fb,.box 39 (fe 1 fr to h (.gs rn l.length))),(mb,.box 3 [i64 m]),(rn,.arr 51 29 l.length ((l.flatMap ah.ds).map .d))],k+2⟩) (bk.same (Nat.le_add_right _ _) trivial (hH (k+2) (by omega)) fun z hz=> ?_) ?_
          · simp only [List.mem_cons,List.not_mem_nil,or_false] at hz
            rcases hz with rfl | rfl | rfl <;> simp [af,f1,f2,f3,f4,f5,f6,e1,e2,e3,e8]
          · refine SW.exit ?_
            refine ⟨some (.exit 1),false,[(fb,.box 39 (fe 1 fr to h (.gs rn l.length))),(mb,.box 3 [i64 m]),(rn,.arr 51 29 l.length ((l.flatMap ah.ds).map .d))],⟨rfl,rfl⟩,fun _ _ h=>h,hH _ (by omega),Nat.le_refl _,⟨⟨some (l,rn),some (.exit 1),hne⟩,⟨rfl,fun _=>⟨rfl,rfl⟩,fun h=>absurd Ic h⟩,rfl,rfl,?_,fun n hn=> .inl fun h0=>hn ?_⟩⟩
            · simp [gL,DF.v,DF.hp,Hp.ok,Ob.ok,SV.aF,SV.ok,SV.cm,g3];omega
            · by_cases hy':n=y
              · simp [gL,af,hy'] at h0
              · simpa [gL,DF.v,DF.hp,af,hy'] using h0
        · have q1 :((l.length:Int) == (m:Int))=false:=by simp;omega
          (have fx:=(And.intro (f1) (And.intro (f2) (And.intro (f3) (And.intro (f4) (And.intro (f5) (And.intro (f6) (And.intro (e1) (And.intro (e2) (And.intro (e3) (And.intro (e4) (And.intro (e5) (And.intro (e6) (And.intro (e7) (And.intro (e8) (And.intro (e9) (And.intro (g0) (And.intro (g1) (And.intro (g2) (q1)))))))))))))))))));refine SW.au [9,12,14,40,45] mixed ?_;(repeat (first | refine RW.ro fx (h:= ?_) | refine RW.skip (h:= ?_) | refine RW.op fx (h:= ?_) | refine RW.aL fx (h:= ?_) | refine RW.aj (h:= ?_) | refine dZ rfl rfl (h:= ?_)));refine RW.nil ⟨by kernel_rfl,aa.mk (h:= ?_)⟩)
          refine SW.ay rfl (SW.skip ?_)
          (have fx:=(And.intro (f1) (And.intro (f2) (And.intro (f3) (And.intro (f4) (And.intro (f5) (And.intro (f6) (And.intro (e1) (And.intro (e2) (And.intro (e3) (And.intro (e4) (And.intro (e5) (And.intro (e6) (And.intro (e7) (And.intro (e8) (And.intro (e9) (And.intro (g0) (And.intro (g1) (g2))))))))))))))))));refine SW.au [9,12,14,40,45] mixed ?_;(repeat (first | refine RW.ro fx (h:= ?_) | refine RW.skip (h:= ?_) | refine RW.op fx (h:= ?_) | refine RW.aL fx (h:= ?_) | refine RW.aj (h:= ?_) | refine dZ rfl rfl (h:= ?_)));refine RW.nil ⟨by kernel_rfl,aa.mk (h:= ?_)⟩)
          have e10:((l++[x]).flatMap ah.ds).map SV.d=(List.flatMap ah.ds l).map SV.d++x.ds.map SV.d:=by simp
          refine ⟨none,true,[(fb,.box 39 (fe 1 fr to h (.gs (k+1) (l++[x]).length))),(mb,.box 3 [i64 m]),(k+1,.arr 51 29 (l++[x]).length (((l++[x]).flatMap ah.ds).map .d))],⟨rfl,rfl⟩,?_,?_,by simp,⟨⟨some (l++[x],k+1),none,fun p hp=>by cases hp;exact ⟨by show y<k+1;omega,by show k+1≠fb;omega,by show k+1≠mb;omega⟩⟩,⟨rfl,fun h=>absurd h Ic,fun _=>⟨rfl,rfl⟩⟩,rfl,rfl,?_,?_⟩⟩
          · refine HSub.cons ?_ (HSub.cons ?_ (HSub.cons ?_ (HSub.nil _)))
            · simp [af,f1,f2,f3,f4,f5,f6,e1,e2,e3,e4,e5,e6,e7,e8,e9]
            · simp [af,f1,f2,f3,f4,f5,f6,e1,e2,e3,e4,e5,e6,e7,e8,e9]
            · rw [e10];simp [af]
          · simp [Hp.ok,Ob.ok,SV.aF,SV.ok,SV.cm,g3,-List.flatMap_append,-List.map_append];omega
          · simp [gL,DF.v,DF.hp,Hp.ok,Ob.ok,SV.aF,SV.ok,SV.cm,g3,-List.flatMap_append,-List.map_append];omega
          · intro n hn
            by_cases hy':n=y
            · exact .inl (by simp [gL,af,hy'])
            · by_cases hfb:n=fb
              · exact .inl (by simp [gL,af,hfb,f1])
              · by_cases hmb:n=mb
                · exact .inl (by simp [gL,af,hmb,f2,f3])
                · refine .inr ?_
                  have:n=k+1:=Classical.byContradiction fun hne=>hn (by simp [gL,DF.hp,af,bq,hy',hfb,hmb,hne])
                  omega
      · intro n hn
        simp only [Bool.or_eq_true,beq_iff_eq] at hn
        rcases hn with ((rfl | rfl) | rfl) | rfl <;> simp [gL,DF.hp,af,f1,f2,f3,f4,f5,f6]
      · rintro r F' ⟨s',hs',rfl,rfl,hok',hnm⟩ _ _
        obtain ⟨row',pe',hne'⟩:=s'
        refine ⟨rfl,?_⟩
        rcases row' with _ | ⟨l',rW⟩
        · simp [gL,DF.v,DF.hp,Hp.ok,Ob.ok,SV.aF,SV.ok,SV.cm,g3]
        · obtain ⟨w1',w2,w3⟩:=hne' _ rfl
          have w1:rW≠y:=Nat.ne_of_gt w1'
          simp [gL,DF.v,DF.hp,Hp.ok,Ob.ok,SV.aF,SV.ok,SV.cm,g3]
          have hh:=hnm rW (by simp [gL,DF.hp,af,w1,w2,w3])
          rcases hh with hh | ⟨hh1,hh2⟩
          · have:rW=rn:=by
              refine Classical.byContradiction fun hne=>hh ?_
              simp [gL,DF.hp,af,bq,w1,w2,w3,hne]
            simp [this]
          · simp [hh1];omega
end
end Go.Proofs.YtnakpdoioammhaaGreatDoor
