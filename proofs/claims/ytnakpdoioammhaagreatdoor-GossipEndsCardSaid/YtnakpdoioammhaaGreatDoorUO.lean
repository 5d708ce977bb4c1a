/-
 Buffers: which operation is handed on next.
-/
import Derived.Test.YtnakpdoioammhaaGreatDoorUJ
import Derived.Test.YtnakpdoioammhaaGreatDoorUH
import Derived.Test.YtnakpdoioammhaaGreatDoorUI
set_option linter.unusedSectionVars false
set_option linter.unusedVariables false
set_option linter.unusedSimpArgs false
namespace Go.Proofs.YtnakpdoioammhaaGreatDoor
open Go.Sl Go.Proofs
section
attribute [local irreducible] SW RW bB SC ai aa
theorem Ck {has:ag}{o:ah}(ho:o.dot.wf):kT has o=(((nP has o.dot.r).2 == 0) && (decide ((nP has o.dot.r).1=o.dot) && has.above o.dep)):=by
 have hn:=ho.2
 unfold kT nP
 by_cases h:o.dot.r<8
 ·rw [if_pos h]
  by_cases h2:has.get o.dot.r+1=4294967296
  ·rw [if_pos h2]
   have: ¬ (has.get o.dot.r+1=o.dot.n):=by omega
   simp [this]
  ·rw [if_neg h2]
   have e:((⟨o.dot.r,has.get o.dot.r+1⟩:Dt)=o.dot)↔has.get o.dot.r+1=o.dot.n:=by
    constructor
    ·intro e;rw [← e]
    ·intro e;cases hd:o.dot;rw [hd] at e;simp only at e;rw [e]
   simp [h,e]
 ·rw [if_neg h];simp [h]
set_option maxHeartbeats 4000000 in
theorem Gj (n:Nat)(has:ag)(hv:has.wf)(M:MM Dt ah)(c:Nat)(o:ah)(ho:o.dot.wf):SB Tryz.prog buffer_Buffer_may.f [.ptr 0 0,.agg o.cells] (bH 0 1 n has M c) 2 0 fun r F=>r=bl (kT has o)∧F=bH 0 1 n has M c:=by
 have ok2:∀ q:Nat→Bool,SV.aF q o.cells=true:=fun q=>ah.an o q
 refine buffer_Buffer_may.enter (by simp [SV.ok,SV.aF,ok2]) (bH.ok _ _ _ _ _ _ _ rfl rfl) (by simp) ?_
 have c1:=fun k=>Ea has hv o.dot.r ho.1 k
 have c2:=fun k=>oK has o.dep k
 rw [Ck ho]
 generalize nP has o.dot.r=nd at c1 ⊢
 obtain ⟨d,e⟩:=nd
 dsimp only at c1 ⊢
 have g1:=eU.has n has 1
 have g2:=eU.len n has 1
 have q1:=Dt.fV d o.dot
 simp only [bH]
 dsimp only [buffer_Buffer_may.s,Co.M,Co.G,Co.J,Co.H,Co.N,Co.F,Co.C,Co.Z,Co.B,Co.b8,Co.aJ,Co.b_,Co.i6,Co.z8,Co.cn]
 refine SW.seq ?_
 (refine SW.au [0,1,3,4,5,6] mixed ?_;(repeat (first | refine RW.ro U (h:= ?_) | refine RW.skip (h:= ?_) | refine RW.op U (h:= ?_) | refine RW.aL U (h:= ?_) | refine RW.aj (h:= ?_)));refine RW.nil ⟨by kernel_rfl,aa.mk (h:= ?_)⟩)
 refine SW.seq ?_
 (have fx:=(And.intro (g1) (And.intro (g2) (o.qE)));refine SW.au [0,1,3,4,5,6] mixed ?_;(repeat (first | refine RW.ro fx (h:= ?_) | refine RW.skip (h:= ?_) | refine RW.op fx (h:= ?_) | refine RW.aL fx (h:= ?_) | refine RW.aj (h:= ?_) | (refine RW.aG (h:= ?_);(first | refine ai.mk fx (hc:=c1 _) (h:= ?_)))));refine RW.nil ⟨by kernel_rfl,aa.mk (h:= ?_)⟩)
 refine SW.seq ?_
 rcases h1:(e == 0) with _ | _
 ·(refine SW.au [0,1,3,4,5,6] mixed ?_;(repeat (first | refine RW.ro (h1) (h:= ?_) | refine RW.skip (h:= ?_) | refine RW.op (h1) (h:= ?_) | refine RW.aL (h1) (h:= ?_) | refine RW.aj (h:= ?_)));refine RW.nil ⟨by kernel_rfl,aa.mk (h:= ?_)⟩)
  refine SW.ret ?_
  exact End.mk (bH 0 1 n has M c) (h4:=⟨rfl,rfl⟩) (h6:=bH.ok _ _ _ _ _ _ _ rfl rfl)
 rcases h2:decide (d=o.dot) with _ | _ <;> rw [h2] at q1
 ·(have fx:=(And.intro (h1) (And.intro (q1) (o.gu)));refine SW.au [0,1,3,4,5,6] mixed ?_;(repeat (first | refine RW.ro fx (h:= ?_) | refine RW.skip (h:= ?_) | refine RW.op fx (h:= ?_) | refine RW.aL fx (h:= ?_) | refine RW.aj (h:= ?_)));refine RW.nil ⟨by kernel_rfl,aa.mk (h:= ?_)⟩)
  refine SW.ret ?_
  exact End.mk (bH 0 1 n has M c) (h4:=⟨rfl,rfl⟩) (h6:=bH.ok _ _ _ _ _ _ _ rfl rfl)
 (have fx:=(And.intro (h1) (And.intro (q1) (And.intro (o.gu) (And.intro (o.qA) (And.intro (g1) (g2))))));refine SW.au [0,1,3,4,5,6] mixed ?_;(repeat (first | refine RW.ro fx (h:= ?_) | refine RW.skip (h:= ?_) | refine RW.op fx (h:= ?_) | refine RW.aL fx (h:= ?_) | refine RW.aj (h:= ?_) | (refine RW.aG (h:= ?_);(first | refine ai.mk fx (hc:=c2 _) (h:= ?_)))));refine RW.nil ⟨by kernel_rfl,aa.mk (h:= ?_)⟩)
 refine SW.ret ?_
 exact End.mk (bH 0 1 n has M c) (h4:=⟨by simp [gI],rfl⟩) (h6:=bH.ok _ _ _ _ _ _ _ rfl rfl)
theorem Ef (n:Nat)(has:ag)(hv:has.wf)(M:MM Dt ah)(c:Nat)(o:ah)(ho:o.dot.wf)(b m:Nat)(zk:b≠m)(k:Nat):bB Tryz.prog buffer_Buffer_may.f [.ptr b 0,.agg o.cells] (bH b m n has M c) k 0 (bl (kT has o)) (bH b m n has M c):=by
 have h:=SB.oW [b,m] (Gj n has hv M c o ho) (by simp [zk]) (fun i hi=>bH.out n has M c i (by simpa using hi)) k
 have e:SV.aM (iA [b,m] k) o.cells=o.cells:=SV.dW _
 simpa [SV.aM,SV.aP,iA,bH.aP,e] using h
def cH (q b m n:Nat)(has:ag)(M:MM Dt ah)(c:Nat):Hp:=(q,.box 29 [.ptr b 0])::bH b m n has M c
theorem cH.out (n:Nat)(has:ag)(M:MM Dt ah)(c i:Nat)(h:i<3):lk (cH 0 1 2 n has M c) i≠none:=by
 match i,h with
 | 0,_ | 1,_ | 2,_=>simp [cH,bH,af]
theorem cH.ok (q:Nat→Bool)(x b m n:Nat)(has:ag)(M:MM Dt ah)(c:Nat)(hx:q x=true)(hb:q b=true)(hm:q m=true):(cH x b m n has M c).ok q=true:=by
 have:=bH.ok q b m n has M c hb hm
 simp only [cH,Hp.ok,List.all_cons,Ob.ok,SV.aF,SV.ok,hx,hb,Bool.and_true,Bool.true_and] at this ⊢
 exact this
theorem cH.aP (ρ:Nat→Nat)(x b m n:Nat)(has:ag)(M:MM Dt ah)(c:Nat):(cH x b m n has M c).aP ρ=cH (ρ x) (ρ b) (ρ m) n has M c:=by
 have:=bH.aP ρ b m n has M c
 simp only [cH,Hp.aP,List.map_cons,Ob.aP,SV.aM,SV.aP] at this ⊢
 rw [this]
noncomputable def mc (n:Nat)(o:ah):Bool:=eM (n:Int) o != 0
set_option maxHeartbeats 2000000 in
theorem Eg (n:Nat)(hn:n≤8)(has:ag)(M:MM Dt ah)(c:Nat)(o:ah)(ho:yg o)(hl:o.cl.length<4611686018427387904):SB Tryz.prog buffer_Buffer_Put_1.f [.agg o.cells,.ptr 0 0] (cH 0 1 2 n has M c) 3 0 fun r F=>r=bl (mc n o)∧F=cH 0 1 2 n has M c:=by
 have ok2:∀ q:Nat→Bool,SV.aF q o.cells=true:=fun q=>ah.an o q
 refine buffer_Buffer_Put_1.enter (by simp [SV.ok,SV.aF,ok2]) (cH.ok _ _ _ _ _ _ _ _ rfl rfl rfl) (by simp) ?_
 have c1:=fun k=>vL (n:Int) (by omega) (by omega) o ho hl k
 have g1:=eU.g0 n has 2
 have g2:=eU.len n has 2
 unfold mc
 simp only [cH,bH]
 dsimp only [buffer_Buffer_Put_1.s,Co.M,Co.G,Co.J,Co.H,Co.N,Co.F,Co.C,Co.Z,Co.B,Co.b8,Co.aJ,Co.b_,Co.i6,Co.z8,Co.cn]
 refine SW.seq ?_
 (refine SW.au [0,1,2,3] mixed ?_;(repeat (first | refine RW.ro U (h:= ?_) | refine RW.skip (h:= ?_) | refine RW.op U (h:= ?_) | refine RW.aL U (h:= ?_) | refine RW.aj (h:= ?_)));refine RW.nil ⟨by kernel_rfl,aa.mk (h:= ?_)⟩)
 refine SW.seq ?_
 (refine SW.au [0,1,2,3] mixed ?_;(repeat (first | refine RW.ro (And.intro (g1) (g2)) (h:= ?_) | refine RW.skip (h:= ?_) | refine RW.op (And.intro (g1) (g2)) (h:= ?_) | refine RW.aL (And.intro (g1) (g2)) (h:= ?_) | refine RW.aj (h:= ?_) | (refine RW.aG (h:= ?_);(first | refine ai.mk (And.intro (g1) (g2)) (hc:=c1 _) (h:= ?_)))));refine RW.nil ⟨by kernel_rfl,aa.mk (h:= ?_)⟩)
 refine SW.ret ?_
 exact End.mk (cH 0 1 2 n has M c) (h4:=⟨rfl,rfl⟩) (h6:=cH.ok _ _ _ _ _ _ _ _ rfl rfl rfl)
theorem Eh (n:Nat)(hn:n≤8)(has:ag)(M:MM Dt ah)(c:Nat)(o:ah)(ho:yg o)(hl:o.cl.length<4611686018427387904)(q b m:Nat)(h3:[q,b,m].Nodup)(k:Nat):bB Tryz.prog buffer_Buffer_Put_1.f [.agg o.cells,.ptr q 0] (cH q b m n has M c) k 0 (bl (mc n o)) (cH q b m n has M c):=by
 have h:=SB.oW [q,b,m] (Eg n hn has M c o ho hl) h3 (fun i hi=>cH.out n has M c i (by simpa using hi)) k
 have e:SV.aM (iA [q,b,m] k) o.cells=o.cells:=SV.dW _
 simpa [SV.aM,SV.aP,iA,cH.aP,e] using h
def kL (p:ah→Bool)(l:List ah):Int:=match l.findIdx? p with
 | some i=>(i:Int)
 | none=> -1
theorem Cl (p:ah→Bool)(l:List ah):decide (kL p l≥0)=l.any p:=by
 unfold kL
 cases h:l.findIdx? p with
 | none=>
  rw [List.findIdx?_eq_none_iff] at h
  have:l.any p=false:=by rw [List.any_eq_false];exact fun x hx=>by rw [h x hx];decide
  rw [this];rfl
 | some i=>
  rw [List.findIdx?_eq_some_iff_getElem] at h
  obtain ⟨h1,h2,_⟩:=h
  have:l.any p=true:=by rw [List.any_eq_true];exact ⟨_,List.getElem_mem h1,h2⟩
  rw [this]
  simp
theorem zF (p:ah→Bool)(l:List ah):match l.findIdx? p with
  | some i=>∃ x,l[i]? =some x∧l.find? p=some x
  | none=>l.find? p=none:=by
 cases h:l.findIdx? p with
 | none=>
  rw [List.findIdx?_eq_none_iff] at h
  rw [List.find?_eq_none]
  intro o ho;rw [h o ho];decide
 | some i=>
  rw [List.findIdx?_eq_some_iff_getElem] at h
  obtain ⟨h1,h2,h3⟩:=h
  refine ⟨l[i],List.getElem?_eq_getElem h1,?_⟩
  rw [List.find?_eq_some_iff_getElem]
  exact ⟨h2,i,h1,rfl,fun j hj=>by have:=h3 j hj;simpa using this⟩
set_option maxHeartbeats 4000000 in
theorem zG {n:Nat}{has:ag}{M:MM Dt ah}{c:Nat}{p:ah→Bool}{l:List ah}(hp:∀ x,x∈l→∀ k,bB Tryz.prog buffer_Buffer_Put_1.f [.agg x.cells,.ptr 0 0] (cH 0 1 2 n has M c) k 0 (bl (p x)) (cH 0 1 2 n has M c))(hl:l.length<4611686018427387904):
  SB Tryz.prog slices_IndexFunc_Lapi_Op_api_Op.f [ops l,.fn (.func buffer_Buffer_Put_1.f) [] [.ptr 0 0]] (cH 0 1 2 n has M c) 3 0 fun r F=>r=i64 (kL p l)∧F=cH 0 1 2 n has M c:=by
 refine slices_IndexFunc_Lapi_Op_api_Op.enter (by simp [SV.ok,SV.aF]) (cH.ok _ _ _ _ _ _ _ _ rfl rfl rfl) (by simp) ?_
 have b1:SV.aM id (eU n has 2)=eU n has 2:=eU.aP _ _ _ _
 have b2:SV.aF (fun n=>decide (n<3)) (eU n has 2)=true:=eU.ok _ _ _ _ rfl
 have b3:=gv id M
 have b4:=dI (fun n=>decide (n<3)) M
 simp only [cH,bH] at hp ⊢
 dsimp only [slices_IndexFunc_Lapi_Op_api_Op.s,Co.M,Co.G,Co.J,Co.H,Co.N,Co.F,Co.C,Co.Z,Co.B,Co.b8,Co.aJ,Co.b_,Co.i6,Co.z8,Co.cn]
 refine SW.seq ?_
 (refine SW.au [0,1,4,5,7,8,9,16] mixed ?_;(repeat (first | refine RW.ro U (h:= ?_) | refine RW.skip (h:= ?_) | refine RW.op U (h:= ?_) | refine RW.aL U (h:= ?_) | refine RW.aj (h:= ?_)));refine RW.nil ⟨by kernel_rfl,aa.mk (h:= ?_)⟩)
 refine SW.seq (SW.seq ?_)
 (refine SW.au [0,1,4,5,7,8,9,16] mixed ?_;(repeat (first | refine RW.ro U (h:= ?_) | refine RW.skip (h:= ?_) | refine RW.op U (h:= ?_) | refine RW.aL U (h:= ?_) | refine RW.aj (h:= ?_)));refine RW.nil ⟨by kernel_rfl,aa.mk (h:= ?_)⟩)
 refine SW.block ?_
 refine SW.fI (α:={i:Nat // i≤l.length∧∀ j x,j<i→l[j]? =some x→p x=false}) (fun i=>⟨[(8,i64 i.1),(7,i64 l.length),(0,ops l),(1,.fn (.func buffer_Buffer_Put_1.f) [] [.ptr 0 0])],[(0,.box 29 [.ptr 1 0]),(1,.box 72 (eU n has 2)),(2,.map (aN Dt.cells ov M) c)],3⟩) (fun i=>l.length - i.1) ⟨0,by omega,by omega⟩ id (And.intro b1 (And.intro b2 (And.intro b3 b4))) (round:= ?_)
 rintro ⟨i,hi,hs⟩
 dsimp only
 by_cases h:i<l.length
 ·have h1:decide ((i:Int)<l.length)=true:=by simp only [decide_eq_true_eq];omega
  obtain ⟨x,hx⟩:=bR h
  have e2:IntKind.i64.wrap ((i:Int)+1)=((i+1:Nat):Int):=wrap_i64 _ (by omega)
  have hc:=hp x (List.mem_of_getElem? hx)
  refine SW.seq ?_
  (refine SW.au [0,1,4,5,7,8,9,16] mixed ?_;(repeat (first | refine RW.ro (h1) (h:= ?_) | refine RW.skip (h:= ?_) | refine RW.op (h1) (h:= ?_) | refine RW.aL (h1) (h:= ?_) | refine RW.aj (h:= ?_)));refine RW.nil ⟨by kernel_rfl,aa.mk (h:= ?_)⟩)
  refine SW.seq (SW.aC rfl (SW.skip ?_))
  refine SW.seq (SW.block (SW.seq ?_))
  (refine SW.au [0,1,4,5,7,8,9,16] mixed ?_;(repeat (first | refine RW.ro U (h:= ?_) | refine RW.skip (h:= ?_) | refine RW.op U (h:= ?_) | refine RW.aL U (h:= ?_) | refine RW.aj (h:= ?_)));refine RW.nil ⟨by kernel_rfl,aa.mk (h:= ?_)⟩)
  refine SW.seq ?_
  rcases hg:p x with _ | _ <;> rw [hg] at hc
  ·(have fx:=(And.intro (eX hx) (bQ hx));refine SW.au [0,1,4,5,7,8,9,16] mixed ?_;(repeat (first | refine RW.ro fx (h:= ?_) | refine RW.skip (h:= ?_) | refine RW.op fx (h:= ?_) | refine RW.aL fx (h:= ?_) | refine RW.aj (h:= ?_) | (refine RW.aG (h:= ?_);(first | refine ai.mk fx (hc:=hc _) (h:= ?_)))));refine RW.nil ⟨by kernel_rfl,aa.mk (h:= ?_)⟩)
   refine SW.ay rfl (SW.skip ?_)
   (refine SW.au [0,1,4,5,7,8,9,16] mixed ?_;(repeat (first | refine RW.ro (e2) (h:= ?_) | refine RW.skip (h:= ?_) | refine RW.op (e2) (h:= ?_) | refine RW.aL (e2) (h:= ?_) | refine RW.aj (h:= ?_)));refine RW.nil ⟨by kernel_rfl,aa.mk (h:= ?_)⟩)
   refine ⟨⟨i+1,by omega,fun j y hj hy=> ?_⟩,id,by show l.length - (i+1)<l.length - i;omega,?_⟩
   ·rcases Nat.lt_or_ge j i with h2 | h2
    ·exact hs j y h2 hy
    ·have:j=i:=by omega
     subst this
     rw [hx] at hy;injection hy with hy;rw [← hy];exact hg
   ·exact bk.mk (And.intro b1 (And.intro b2 (And.intro b3 b4)))
  ·have e:kL p l=(i:Int):=by
    unfold kL
    have:l.findIdx? p=some i:=by
     rw [List.findIdx?_eq_some_iff_getElem]
     refine ⟨h,?_,fun j hj=> ?_⟩
     ·rw [List.getElem?_eq_getElem h] at hx;injection hx with hx;rw [hx,hg]
     ·have:=hs j l[j] hj (List.getElem?_eq_getElem _);simp [this]
    rw [this]
   rw [e]
   (have fx:=(And.intro (eX hx) (bQ hx));refine SW.au [0,1,4,5,7,8,9,16] mixed ?_;(repeat (first | refine RW.ro fx (h:= ?_) | refine RW.skip (h:= ?_) | refine RW.op fx (h:= ?_) | refine RW.aL fx (h:= ?_) | refine RW.aj (h:= ?_) | (refine RW.aG (h:= ?_);(first | refine ai.mk fx (hc:=hc _) (h:= ?_)))));refine RW.nil ⟨by kernel_rfl,aa.mk (h:= ?_)⟩)
   refine SW.aC rfl (SW.seq ?_)
   (refine SW.au [0,1,4,5,7,8,9,16] mixed ?_;(repeat (first | refine RW.ro U (h:= ?_) | refine RW.skip (h:= ?_) | refine RW.op U (h:= ?_) | refine RW.aL U (h:= ?_) | refine RW.aj (h:= ?_)));refine RW.nil ⟨by kernel_rfl,aa.mk (h:= ?_)⟩)
   refine SW.ret ?_
   exact End.mk (cH 0 1 2 n has M c) (h4:=⟨rfl,rfl⟩) (h6:=cH.ok _ _ _ _ _ _ _ _ rfl rfl rfl)
 ·have h1:decide ((i:Int)<l.length)=false:=by simp only [decide_eq_false_iff_not];omega
  have e:kL p l= -1:=by
   unfold kL
   have:l.findIdx? p=none:=by
    rw [List.findIdx?_eq_none_iff]
    intro x hx
    obtain ⟨j,hj⟩:=List.mem_iff_getElem?.1 hx
    exact hs j x (by have:=dw hj;omega) hj
   rw [this]
  rw [e]
  refine SW.seq ?_
  (refine SW.au [0,1,4,5,7,8,9,16] mixed ?_;(repeat (first | refine RW.ro (h1) (h:= ?_) | refine RW.skip (h:= ?_) | refine RW.op (h1) (h:= ?_) | refine RW.aL (h1) (h:= ?_) | refine RW.aj (h:= ?_)));refine RW.nil ⟨by kernel_rfl,aa.mk (h:= ?_)⟩)
  refine SW.seq (SW.ay rfl (SW.exit ?_))
  refine SW.seq ?_
  (refine SW.au [0,1,4,5,7,8,9,16] mixed ?_;(repeat (first | refine RW.ro U (h:= ?_) | refine RW.skip (h:= ?_) | refine RW.op U (h:= ?_) | refine RW.aL U (h:= ?_) | refine RW.aj (h:= ?_)));refine RW.nil ⟨by kernel_rfl,aa.mk (h:= ?_)⟩)
  refine SW.ret ?_
  exact End.mk (cH 0 1 2 n has M c) (h4:=⟨rfl,rfl⟩) (h6:=cH.ok _ _ _ _ _ _ _ _ rfl rfl rfl)
set_option maxHeartbeats 4000000 in
theorem zH {n:Nat}{has:ag}{M:MM Dt ah}{c:Nat}{p:ah→Bool}{l:List ah}(hp:∀ x,x∈l→∀ k,bB Tryz.prog buffer_Buffer_may.f [.ptr 1 0,.agg x.cells] (cH 0 1 2 n has M c) k 0 (bl (p x)) (cH 0 1 2 n has M c))(hl:l.length<4611686018427387904):
  SB Tryz.prog slices_IndexFunc_Lapi_Op_api_Op.f [ops l,.fn (.func buffer_Buffer_may.f) [.ptr 1 0] []] (cH 0 1 2 n has M c) 3 0 fun r F=>r=i64 (kL p l)∧F=cH 0 1 2 n has M c:=by
 refine slices_IndexFunc_Lapi_Op_api_Op.enter (by simp [SV.ok,SV.aF]) (cH.ok _ _ _ _ _ _ _ _ rfl rfl rfl) (by simp) ?_
 have b1:SV.aM id (eU n has 2)=eU n has 2:=eU.aP _ _ _ _
 have b2:SV.aF (fun n=>decide (n<3)) (eU n has 2)=true:=eU.ok _ _ _ _ rfl
 have b3:=gv id M
 have b4:=dI (fun n=>decide (n<3)) M
 simp only [cH,bH] at hp ⊢
 dsimp only [slices_IndexFunc_Lapi_Op_api_Op.s,Co.M,Co.G,Co.J,Co.H,Co.N,Co.F,Co.C,Co.Z,Co.B,Co.b8,Co.aJ,Co.b_,Co.i6,Co.z8,Co.cn]
 refine SW.seq ?_
 (refine SW.au [0,1,4,5,7,8,9,16] mixed ?_;(repeat (first | refine RW.ro U (h:= ?_) | refine RW.skip (h:= ?_) | refine RW.op U (h:= ?_) | refine RW.aL U (h:= ?_) | refine RW.aj (h:= ?_)));refine RW.nil ⟨by kernel_rfl,aa.mk (h:= ?_)⟩)
 refine SW.seq (SW.seq ?_)
 (refine SW.au [0,1,4,5,7,8,9,16] mixed ?_;(repeat (first | refine RW.ro U (h:= ?_) | refine RW.skip (h:= ?_) | refine RW.op U (h:= ?_) | refine RW.aL U (h:= ?_) | refine RW.aj (h:= ?_)));refine RW.nil ⟨by kernel_rfl,aa.mk (h:= ?_)⟩)
 refine SW.block ?_
 refine SW.fI (α:={i:Nat // i≤l.length∧∀ j x,j<i→l[j]? =some x→p x=false}) (fun i=>⟨[(8,i64 i.1),(7,i64 l.length),(0,ops l),(1,.fn (.func buffer_Buffer_may.f) [.ptr 1 0] [])],[(0,.box 29 [.ptr 1 0]),(1,.box 72 (eU n has 2)),(2,.map (aN Dt.cells ov M) c)],3⟩) (fun i=>l.length - i.1) ⟨0,by omega,by omega⟩ id (And.intro b1 (And.intro b2 (And.intro b3 b4))) (round:= ?_)
 rintro ⟨i,hi,hs⟩
 dsimp only
 by_cases h:i<l.length
 ·have h1:decide ((i:Int)<l.length)=true:=by simp only [decide_eq_true_eq];omega
  obtain ⟨x,hx⟩:=bR h
  have e2:IntKind.i64.wrap ((i:Int)+1)=((i+1:Nat):Int):=wrap_i64 _ (by omega)
  have hc:=hp x (List.mem_of_getElem? hx)
  refine SW.seq ?_
  (refine SW.au [0,1,4,5,7,8,9,16] mixed ?_;(repeat (first | refine RW.ro (h1) (h:= ?_) | refine RW.skip (h:= ?_) | refine RW.op (h1) (h:= ?_) | refine RW.aL (h1) (h:= ?_) | refine RW.aj (h:= ?_)));refine RW.nil ⟨by kernel_rfl,aa.mk (h:= ?_)⟩)
  refine SW.seq (SW.aC rfl (SW.skip ?_))
  refine SW.seq (SW.block (SW.seq ?_))
  (refine SW.au [0,1,4,5,7,8,9,16] mixed ?_;(repeat (first | refine RW.ro U (h:= ?_) | refine RW.skip (h:= ?_) | refine RW.op U (h:= ?_) | refine RW.aL U (h:= ?_) | refine RW.aj (h:= ?_)));refine RW.nil ⟨by kernel_rfl,aa.mk (h:= ?_)⟩)
  refine SW.seq ?_
  rcases hg:p x with _ | _ <;> rw [hg] at hc
  ·(have fx:=(And.intro (eX hx) (bQ hx));refine SW.au [0,1,4,5,7,8,9,16] mixed ?_;(repeat (first | refine RW.ro fx (h:= ?_) | refine RW.skip (h:= ?_) | refine RW.op fx (h:= ?_) | refine RW.aL fx (h:= ?_) | refine RW.aj (h:= ?_) | (refine RW.aG (h:= ?_);(first | refine ai.mk fx (hc:=hc _) (h:= ?_)))));refine RW.nil ⟨by kernel_rfl,aa.mk (h:= ?_)⟩)
   refine SW.ay rfl (SW.skip ?_)
   (refine SW.au [0,1,4,5,7,8,9,16] mixed ?_;(repeat (first | refine RW.ro (e2) (h:= ?_) | refine RW.skip (h:= ?_) | refine RW.op (e2) (h:= ?_) | refine RW.aL (e2) (h:= ?_) | refine RW.aj (h:= ?_)));refine RW.nil ⟨by kernel_rfl,aa.mk (h:= ?_)⟩)
   refine ⟨⟨i+1,by omega,fun j y hj hy=> ?_⟩,id,by show l.length - (i+1)<l.length - i;omega,?_⟩
   ·rcases Nat.lt_or_ge j i with h2 | h2
    ·exact hs j y h2 hy
    ·have:j=i:=by omega
     subst this
     rw [hx] at hy;injection hy with hy;rw [← hy];exact hg
   ·exact bk.mk (And.intro b1 (And.intro b2 (And.intro b3 b4)))
  ·have e:kL p l=(i:Int):=by
    unfold kL
    have:l.findIdx? p=some i:=by
     rw [List.findIdx?_eq_some_iff_getElem]
     refine ⟨h,?_,fun j hj=> ?_⟩
     ·rw [List.getElem?_eq_getElem h] at hx;injection hx with hx;rw [hx,hg]
     ·have:=hs j l[j] hj (List.getElem?_eq_getElem _);simp [this]
    rw [this]
   rw [e]
   (have fx:=(And.intro (eX hx) (bQ hx));refine SW.au [0,1,4,5,7,8,9,16] mixed ?_;(repeat (first | refine RW.ro fx (h:= ?_) | refine RW.skip (h:= ?_) | refine RW.op fx (h:= ?_) | refine RW.aL fx (h:= ?_) | refine RW.aj (h:= ?_) | (refine RW.aG (h:= ?_);(first | refine ai.mk fx (hc:=hc _) (h:= ?_)))));refine RW.nil ⟨by kernel_rfl,aa.mk (h:= ?_)⟩)
   refine SW.aC rfl (SW.seq ?_)
   (refine SW.au [0,1,4,5,7,8,9,16] mixed ?_;(repeat (first | refine RW.ro U (h:= ?_) | refine RW.skip (h:= ?_) | refine RW.op U (h:= ?_) | refine RW.aL U (h:= ?_) | refine RW.aj (h:= ?_)));refine RW.nil ⟨by kernel_rfl,aa.mk (h:= ?_)⟩)
   refine SW.ret ?_
   exact End.mk (cH 0 1 2 n has M c) (h4:=⟨rfl,rfl⟩) (h6:=cH.ok _ _ _ _ _ _ _ _ rfl rfl rfl)
 ·have h1:decide ((i:Int)<l.length)=false:=by simp only [decide_eq_false_iff_not];omega
  have e:kL p l= -1:=by
   unfold kL
   have:l.findIdx? p=none:=by
    rw [List.findIdx?_eq_none_iff]
    intro x hx
    obtain ⟨j,hj⟩:=List.mem_iff_getElem?.1 hx
    exact hs j x (by have:=dw hj;omega) hj
   rw [this]
  rw [e]
  refine SW.seq ?_
  (refine SW.au [0,1,4,5,7,8,9,16] mixed ?_;(repeat (first | refine RW.ro (h1) (h:= ?_) | refine RW.skip (h:= ?_) | refine RW.op (h1) (h:= ?_) | refine RW.aL (h1) (h:= ?_) | refine RW.aj (h:= ?_)));refine RW.nil ⟨by kernel_rfl,aa.mk (h:= ?_)⟩)
  refine SW.seq (SW.ay rfl (SW.exit ?_))
  refine SW.seq ?_
  (refine SW.au [0,1,4,5,7,8,9,16] mixed ?_;(repeat (first | refine RW.ro U (h:= ?_) | refine RW.skip (h:= ?_) | refine RW.op U (h:= ?_) | refine RW.aL U (h:= ?_) | refine RW.aj (h:= ?_)));refine RW.nil ⟨by kernel_rfl,aa.mk (h:= ?_)⟩)
  refine SW.ret ?_
  exact End.mk (cH 0 1 2 n has M c) (h4:=⟨rfl,rfl⟩) (h6:=cH.ok _ _ _ _ _ _ _ _ rfl rfl rfl)
theorem zI {n:Nat}{has:ag}{M:MM Dt ah}{c:Nat}(hn:n≤8){l:List ah}(hw:∀ x,x∈l→yg x∧x.cl.length<4611686018427387904)(hl:l.length<4611686018427387904):
  SB Tryz.prog slices_IndexFunc_Lapi_Op_api_Op.f [ops l,.fn (.func buffer_Buffer_Put_1.f) [] [.ptr 0 0]] (cH 0 1 2 n has M c) 3 0 fun r F=>r=i64 (kL (mc n) l)∧F=cH 0 1 2 n has M c:=
 zG (fun x hx k=>Eh n hn has M c x (hw x hx).1 (hw x hx).2 0 1 2 (by decide) k) hl
theorem zJ {n:Nat}{has:ag}{M:MM Dt ah}{c:Nat}(hn:n≤8){l:List ah}(hw:∀ x,x∈l→yg x∧x.cl.length<4611686018427387904)(hl:l.length<4611686018427387904)(q b m:Nat)(h3:[q,b,m].Nodup)(k:Nat):
  bB Tryz.prog slices_IndexFunc_Lapi_Op_api_Op.f [ops l,.fn (.func buffer_Buffer_Put_1.f) [] [.ptr q 0]] (cH q b m n has M c) k 0 (i64 (kL (mc n) l)) (cH q b m n has M c):=by
 have h:=SB.oW [q,b,m] (zI (has:=has) (M:=M) (c:=c) hn hw hl) h3 (fun i hi=>cH.out n has M c i (by simpa using hi)) k
 simpa [SV.aM,SV.aP,iA,cH.aP] using h
theorem uh {n:Nat}{has:ag}{M:MM Dt ah}{c:Nat}(hn:n≤8){l:List ah}(hw:∀ x,x∈l→yg x∧x.cl.length<4611686018427387904)(hl:l.length<4611686018427387904):
  SB Tryz.prog slices_ContainsFunc_Lapi_Op_api_Op.f [ops l,.fn (.func buffer_Buffer_Put_1.f) [] [.ptr 0 0]] (cH 0 1 2 n has M c) 3 0 fun r F=>r=bl (l.any (mc n))∧F=cH 0 1 2 n has M c:=by
 refine slices_ContainsFunc_Lapi_Op_api_Op.enter (by simp [SV.ok,SV.aF]) (cH.ok _ _ _ _ _ _ _ _ rfl rfl rfl) (by simp) ?_
 have hi:=fun k=>zJ (has:=has) (M:=M) (c:=c) hn hw hl 0 1 2 (by decide) k
 rw [← Cl]
 simp only [cH,bH] at hi ⊢
 dsimp only [slices_ContainsFunc_Lapi_Op_api_Op.s,Co.M,Co.G,Co.J,Co.H,Co.N,Co.F,Co.C,Co.Z,Co.B,Co.b8,Co.aJ,Co.b_,Co.i6,Co.z8,Co.cn]
 refine SW.seq ?_
 (refine SW.au [0,1,4] mixed ?_;(repeat (first | refine RW.ro U (h:= ?_) | refine RW.skip (h:= ?_) | refine RW.op U (h:= ?_) | refine RW.aL U (h:= ?_) | refine RW.aj (h:= ?_)));refine RW.nil ⟨by kernel_rfl,aa.mk (h:= ?_)⟩)
 refine SW.seq ?_
 (refine SW.au [0,1,4] mixed ?_;(repeat (first | refine RW.ro U (h:= ?_) | refine RW.skip (h:= ?_) | refine RW.op U (h:= ?_) | refine RW.aL U (h:= ?_) | refine RW.aj (h:= ?_) | (refine RW.aG (h:= ?_);(first | refine ai.mk U (hc:=hi _) (h:= ?_)))));refine RW.nil ⟨by kernel_rfl,aa.mk (h:= ?_)⟩)
 refine SW.ret ?_
 exact End.mk (cH 0 1 2 n has M c) (h4:=⟨rfl,rfl⟩) (h6:=cH.ok _ _ _ _ _ _ _ _ rfl rfl rfl)
theorem vO {n:Nat}{has:ag}{M:MM Dt ah}{c:Nat}(hn:n≤8){l:List ah}(hw:∀ x,x∈l→yg x∧x.cl.length<4611686018427387904)(hl:l.length<4611686018427387904)(q b m:Nat)(h3:[q,b,m].Nodup)(k:Nat):
  bB Tryz.prog slices_ContainsFunc_Lapi_Op_api_Op.f [ops l,.fn (.func buffer_Buffer_Put_1.f) [] [.ptr q 0]] (cH q b m n has M c) k 0 (bl (l.any (mc n))) (cH q b m n has M c):=by
 have h:=SB.oW [q,b,m] (uh (has:=has) (M:=M) (c:=c) hn hw hl) h3 (fun i hi=>cH.out n has M c i (by simpa using hi)) k
 simpa [SV.aM,SV.aP,iA,cH.aP] using h
theorem Gk (q b m n:Nat)(has:ag)(M:MM Dt ah)(c:Nat)(h3:[q,b,m].Nodup):HSub (bH b m n has M c) (cH q b m n has M c):=by
 intro i ob h
 simp only [List.nodup_cons,List.mem_cons,List.not_mem_nil,or_false,not_or,not_false_eq_true,List.nodup_nil,and_true] at h3
 have hq:i≠q:=fun e=>by
  subst e
  simp [bH,af,bq,h3.1.1,h3.1.2] at h
 show lk ((q,Ob.box 29 [.ptr b 0])::bH b m n has M c) i=some ob
 rw [af,if_neg hq];exact h
theorem Gl (n:Nat)(has:ag)(hv:has.wf)(M:MM Dt ah)(c:Nat)(o:ah)(ho:o.dot.wf)(k:Nat):bB Tryz.prog buffer_Buffer_may.f [.ptr 1 0,.agg o.cells] (cH 0 1 2 n has M c) k 0 (bl (kT has o)) (cH 0 1 2 n has M c):=by
 have h:=Ef n has hv M c o ho 1 2 (by decide) k
 unfold bB at h ⊢
 refine (h.frame (Gk 0 1 2 n has M c (by decide))).mono ?_
 rintro r F ⟨F1,⟨rfl,rfl⟩,rfl⟩
 refine ⟨rfl,?_⟩
 simp [cH,bH,bn,bz,bA,cw,cB,bL,lk,List.lookup]
theorem Ei {n:Nat}{has:ag}(hv:has.wf){M:MM Dt ah}{c:Nat}(hw:WB M c)(hl:M.length<1000000)(hd:∀ o,o∈vals M→o.dot.wf):
  SB Tryz.prog buffer_Buffer_Put_2.f [.ptr 0 0] (cH 0 1 2 n has M c) 3 0 fun r F=>r= .cW [.agg ((eN has (vals M)).getD ah.zero).cells,bl (eN has (vals M)).isSome]∧F=cH 0 1 2 n has M c:=by
 refine buffer_Buffer_Put_2.enter (by simp [SV.ok,SV.aF]) (cH.ok _ _ _ _ _ _ _ _ rfl rfl rfl) (by simp) ?_
 have c1:=fun k=>Ee n has M c hw hl 1 2 (by decide) k
 have hmem:∀ x,x∈aA (vals M)→x.dot.wf:=fun x hx=>hd x ((aT _).mem_iff.1 hx)
 have hlen:(aA (vals M)).length<1000000:=by rw [(aT _).length_eq,g_];exact hl
 have hf:=zF (kT has) (aA (vals M))
 have c2:∀ k,bB Tryz.prog slices_IndexFunc_Lapi_Op_api_Op.f [ops (aA (vals M)),.fn (.func buffer_Buffer_may.f) [.ptr 1 0] []] (cH 0 1 2 n has M c) k 0 (i64 (kL (kT has) (aA (vals M)))) (cH 0 1 2 n has M c):=fun k=>by
  have h:=SB.oW [0,1,2] (zH (n:=n) (has:=has) (M:=M) (c:=c) (p:=kT has) (l:=aA (vals M)) (fun x hx k=>Gl n has hv M c x (hmem x hx) k) (by omega)) (by decide) (fun i hi=>cH.out n has M c i (by simpa using hi)) k
  simpa [SV.aM,SV.aP,iA,cH.aP] using h
 unfold eN
 generalize aA (vals M)=L at c1 c2 hf hmem hlen ⊢
 simp only [cH,bH] at c1 c2 ⊢
 dsimp only [buffer_Buffer_Put_2.s,Co.M,Co.G,Co.J,Co.H,Co.N,Co.F,Co.C,Co.Z,Co.B,Co.b8,Co.aJ,Co.b_,Co.i6,Co.z8,Co.cn]
 refine SW.seq ?_
 (refine SW.au [0,1,2,3,4,12] mixed ?_;(repeat (first | refine RW.ro U (h:= ?_) | refine RW.skip (h:= ?_) | refine RW.op U (h:= ?_) | refine RW.aL U (h:= ?_) | refine RW.aj (h:= ?_)));refine RW.nil ⟨by kernel_rfl,aa.mk (h:= ?_)⟩)
 refine SW.seq ?_
 (refine SW.au [0,1,2,3,4,12] mixed ?_;(repeat (first | refine RW.ro U (h:= ?_) | refine RW.skip (h:= ?_) | refine RW.op U (h:= ?_) | refine RW.aL U (h:= ?_) | refine RW.aj (h:= ?_) | (refine RW.aG (h:= ?_);(first | refine ai.mk U (hc:=c1 _) (h:= ?_)))));refine RW.nil ⟨by kernel_rfl,aa.mk (h:= ?_)⟩)
 refine SW.seq ?_
 cases hx:L.findIdx? (kT has) with
 | none=>
  rw [hx] at hf
  have e1:kL (kT has) L= -1:=by unfold kL;rw [hx]
  rw [e1] at c2
  rw [show L.find? (kT has)=none from hf]
  (refine SW.au [0,1,2,3,4,12] mixed ?_;(repeat (first | refine RW.ro U (h:= ?_) | refine RW.skip (h:= ?_) | refine RW.op U (h:= ?_) | refine RW.aL U (h:= ?_) | refine RW.aj (h:= ?_) | (refine RW.aG (h:= ?_);(first | refine ai.mk U (hc:=c2 _) (h:= ?_)))));refine RW.nil ⟨by kernel_rfl,aa.mk (h:= ?_)⟩)
  refine SW.seq (SW.seq ?_)
  (refine SW.au [0,1,2,3,4,12] mixed ?_;(repeat (first | refine RW.ro U (h:= ?_) | refine RW.skip (h:= ?_) | refine RW.op U (h:= ?_) | refine RW.aL U (h:= ?_) | refine RW.aj (h:= ?_)));refine RW.nil ⟨by kernel_rfl,aa.mk (h:= ?_)⟩)
  refine SW.aC rfl (SW.seq ?_)
  (refine SW.au [0,1,2,3,4,12] mixed ?_;(repeat (first | refine RW.ro U (h:= ?_) | refine RW.skip (h:= ?_) | refine RW.op U (h:= ?_) | refine RW.aL U (h:= ?_) | refine RW.aj (h:= ?_)));refine RW.nil ⟨by kernel_rfl,aa.mk (h:= ?_)⟩)
  refine SW.ret ?_
  exact End.mk (cH 0 1 2 n has M c) (h4:=⟨rfl,rfl⟩) (h6:=cH.ok _ _ _ _ _ _ _ _ rfl rfl rfl)
 | some i=>
  rw [hx] at hf
  obtain ⟨x,hx1,hx2⟩:=hf
  have e1:kL (kT has) L=(i:Int):=by unfold kL;rw [hx]
  rw [e1] at c2
  rw [hx2]
  have e2:decide ((i:Int)<0)=false:=by simp
  have hlt:=dw hx1
  (refine SW.au [0,1,2,3,4,12] mixed ?_;(repeat (first | refine RW.ro U (h:= ?_) | refine RW.skip (h:= ?_) | refine RW.op U (h:= ?_) | refine RW.aL U (h:= ?_) | refine RW.aj (h:= ?_) | (refine RW.aG (h:= ?_);(first | refine ai.mk U (hc:=c2 _) (h:= ?_)))));refine RW.nil ⟨by kernel_rfl,aa.mk (h:= ?_)⟩)
  refine SW.seq (SW.seq ?_)
  (refine SW.au [0,1,2,3,4,12] mixed ?_;(repeat (first | refine RW.ro (e2) (h:= ?_) | refine RW.skip (h:= ?_) | refine RW.op (e2) (h:= ?_) | refine RW.aL (e2) (h:= ?_) | refine RW.aj (h:= ?_)));refine RW.nil ⟨by kernel_rfl,aa.mk (h:= ?_)⟩)
  refine SW.ay rfl (SW.skip (SW.seq ?_))
  (have fx:=(And.intro (eX hx1) (bQ hx1));refine SW.au [0,1,2,3,4,12] mixed ?_;(repeat (first | refine RW.ro fx (h:= ?_) | refine RW.skip (h:= ?_) | refine RW.op fx (h:= ?_) | refine RW.aL fx (h:= ?_) | refine RW.aj (h:= ?_)));refine RW.nil ⟨by kernel_rfl,aa.mk (h:= ?_)⟩)
  refine SW.ret ?_
  exact End.mk (cH 0 1 2 n has M c) (h4:=⟨rfl,rfl⟩) (h6:=cH.ok _ _ _ _ _ _ _ _ rfl rfl rfl)
theorem vP {n:Nat}{has:ag}(hv:has.wf){M:MM Dt ah}{c:Nat}(hw:WB M c)(hl:M.length<1000000)(hd:∀ o,o∈vals M→o.dot.wf)(q b m:Nat)(h3:[q,b,m].Nodup)(k:Nat):
  bB Tryz.prog buffer_Buffer_Put_2.f [.ptr q 0] (cH q b m n has M c) k 0 (.cW [.agg ((eN has (vals M)).getD ah.zero).cells,bl (eN has (vals M)).isSome]) (cH q b m n has M c):=by
 have h:=SB.oW [q,b,m] (Ei (n:=n) hv hw hl hd) h3 (fun i hi=>cH.out n has M c i (by simpa using hi)) k
 have e:∀ o:ah,SV.aM (iA [q,b,m] k) o.cells=o.cells:=fun o=>SV.dW _
 simpa [SV.aM,SV.aP,iA,cH.aP,e] using h
end
section
attribute [local irreducible] SW RW bB SC ai aa
theorem Ej (L:MM Dt ah)(c:Nat)(a:Dt)(o:ah):ck (aN Dt.cells ov L) c (.agg a.cells) (.agg o.cells) (MM.idx L a)= .map (aN Dt.cells ov (MM.put L c a o)) (MM.qv L c a):=oo (vs:=ov) L c a o
structure rJ (l:List ah):Prop where
 len:l.length≤500000
 op:∀ x,x∈l→yg x∧x.cl.length≤140737488351232
theorem vQ {n:Nat}{o:ah}:mc n o=false↔1≤n∧n≤8∧Go.Sl.Form n o:=by
 unfold mc
 rw [bne_eq_false_iff_eq,js,Int.toNat_natCast]
 exact ⟨fun h=>⟨by omega,by omega,h.2.2⟩,fun h=>⟨by omega,by omega,h.2.2⟩⟩
theorem rK {n:Nat}{o:ah}(h:Go.Sl.Form n o):o.cl.length≤16:=by
 by_cases h1:108∈eH o.kind
 ·have:=h.lines h1
  unfold ic at this
  rw [Bool.and_eq_true,decide_eq_true_eq] at this
  exact this.1.2
 ·have:=h.zero
  unfold zeroV at this
  simp only [Bool.and_eq_true,Bool.or_eq_true,decide_eq_true_eq,h1,false_or,beq_iff_eq] at this
  omega
theorem rJ.IM {n:Nat}{l:List ah}(h:rJ l)(hb:l.any (mc n)=false){x:ah}(hx:x∈l):Ip x:=by
 have h1:mc n x=false:=by
  rw [List.any_eq_false] at hb
  simpa using hb x hx
 exact ⟨(h.op x hx).1.w.jf,by have:=rK (vQ.1 h1).2.2;omega⟩
theorem rJ.wf {l:List ah}(h:rJ l){x:ah}(hx:x∈l):x.dot.wf:=⟨(h.op x hx).1.dr,(h.op x hx).1.dn⟩
structure xh (M:MM Dt ah)(c:Nat):Prop where
 wb:WB M c
 len:M.length≤400000
 wf:∀ o,o∈vals M→o.dot.wf
theorem tr (has:ag):∀ (l:List ah) (X:MM Dt ah×Nat),(eC has X l).1.length≤X.1.length+l.length
 | [],X=>Nat.le_refl _
 | o ::l,X=>by
  have h1:=tr has l (qX has X o)
  have h2:(qX has X o).1.length≤X.1.length+1:=by
   unfold qX
   split
   ·omega
   ·rename_i hn
    have hd:MM.has X.1 o.dot=false:=by
     rw [Bool.or_eq_true,not_or] at hn;simpa using hn.1
    rw [qV hd];simp
  show (eC has (qX has X o) l).1.length≤_
  rw [List.length_cons];omega
theorem rL {has:ag}:∀ {l L:List ah} {o:ah},o∈mN has L l→o∈L∨o∈l
 | [],L,o,h=> .inl h
 | x ::l,L,o,h=>by
  rcases rL (l:=l) h with h | h
  ·unfold wJ at h
   split at h
   ·exact .inl h
   ·rcases List.mem_append.1 h with h | h
    ·exact .inl h
    ·exact .inr (by simp at h;simp [h])
  ·exact .inr (List.mem_cons_of_mem _ h)
structure Gm (R:List ah×ag×MM Dt ah)(c:Nat)(out:List ah)(has:ag)(M:MM Dt ah):Prop where
 k:∃ k,R=(out++(fU k has M).1,(fU k has M).2)∧(vals M).length≤k
 wb:WB M c
 hv:has.wf
 wf:∀ o,o∈vals M→o.dot.wf
 len:out.length+M.length<1000000
theorem Gm.done {R:List ah×ag×MM Dt ah}{c:Nat}{out:List ah}{has:ag}{M:MM Dt ah}(h:Gm R c out has M)(hn:eN has (vals M)=none):R=(out,has,M):=by
 obtain ⟨k,e,_⟩:=h.k
 rw [e,o4 hn,List.append_nil]
theorem yj {M:MM Dt ah}{c:Nat}(h:WB M c){o:ah}(ho:o∈vals M):(MM.del M o.dot).length<M.length:=by
 rw [← g_,← g_ M,qW h];exact A3 ho
theorem Gm.step {R:List ah×ag×MM Dt ah}{c:Nat}{out:List ah}{has:ag}{M:MM Dt ah}(h:Gm R c out has M){o:ah}(hn:eN has (vals M)=some o):Gm R c (out++[o]) (has.set o.dot.r o.dot.n) (MM.del M o.dot):=by
 obtain ⟨k,e,hk⟩:=h.k
 have hm:=(mO hn).1
 have hl:=yj h.wb hm
 refine ⟨?_,h.wb.del _,ag.AE h.hv (h.wf o hm).2,fun x hx=> ?_,?_⟩
 ·cases k with
  | zero=>
   have:=List.eq_nil_of_length_eq_zero (Nat.le_zero.1 hk)
   rw [this] at hm;cases hm
  | succ k=>
   refine ⟨k,?_,?_⟩
   ·rw [e,o5 hn];simp
   ·rw [g_];rw [g_] at hk;omega
 ·rw [qW h.wb] at hx
  exact h.wf x (yR.1 hx).1
 ·have:=h.len
  simp only [List.length_append,List.length_singleton];omega
set_option maxRecDepth 100000 in
set_option maxHeartbeats 16000000 in
theorem Gn (n:Nat)(hn:n≤8)(has:ag)(hv:has.wf)(M:MM Dt ah)(c:Nat)(hM:xh M c)(l:List ah)(hl:rJ l):
  SB Tryz.prog buffer_Buffer_Put.f [.ptr 0 0,ops l] (bH 0 1 n has M c) 2 0 fun r F=>(l.any (mc n)=true→r= .cW [.d .aY,i64 5]∧F=bH 0 1 n has M c)∧(l.any (mc n)=false→r= .cW [ops (mP has (M,c) l).1,i64 0]∧F=bH 0 1 n (mP has (M,c) l).2.1 (mP has (M,c) l).2.2 (eC has (M,c) l).2):=by
 refine buffer_Buffer_Put.enter (by simp [SV.ok,SV.aF,SV.cm,ops]) (bH.ok _ _ _ _ _ _ _ rfl rfl) (by simp) ?_
 have hll:=hl.len
 have hMl:=hM.len
 have g2:=eU.len n has 1
 have g9:=eU.g9 n has 1
 have gh:=eU.has n has 1
 have c1:=fun k=>yh n has M c 0 1 (by decide) k
 have c2:=fun k=>vO (n:=n) (has:=has) (M:=M) (c:=c) hn (l:=l) (fun x hx=>⟨(hl.op x hx).1,by have:=(hl.op x hx).2;omega⟩) (by omega) 2 0 1 (by decide) k
 simp only [cH,bH] at c1 c2 ⊢
 dsimp only [buffer_Buffer_Put.s,Co.M,Co.G,Co.J,Co.H,Co.N,Co.F,Co.C,Co.Z,Co.B,Co.b8,Co.aJ,Co.b_,Co.i6,Co.z8,Co.cn]
 refine SW.seq ?_
 (refine SW.au [0,1,2,4,5,7,9,10,11,12,13,14,17,21,22,23,24,48,64,90] mixed ?_;(repeat (first | refine RW.ro U (h:= ?_) | refine RW.skip (h:= ?_) | refine RW.op U (h:= ?_) | refine RW.aL U (h:= ?_) | refine RW.aj (h:= ?_)));refine RW.nil ⟨aD (by kernel_rfl),aa.mk (h:= ?_)⟩)
 refine SW.seq (SW.block (SW.seq ?_))
 (refine SW.au [0,1,2,4,5,7,9,10,11,12,13,14,17,21,22,23,24,48,64,90] mixed ?_;(repeat (first | refine RW.ro U (h:= ?_) | refine RW.skip (h:= ?_) | refine RW.op U (h:= ?_) | refine RW.aL U (h:= ?_) | refine RW.aj (h:= ?_) | (refine RW.aG (h:= ?_);(first | refine ai.mk U (hc:=c1 _) (h:= ?_)))));refine RW.nil ⟨aD (by kernel_rfl),aa.mk (h:= ?_)⟩)
 refine SW.ay rfl (SW.seq ?_)
 rcases hbad:l.any (mc n) with _ | _ <;> rw [hbad] at c2
 case true=>
  (refine SW.au [0,1,2,4,5,7,9,10,11,12,13,14,17,21,22,23,24,48,64,90] mixed ?_;(repeat (first | refine RW.ro U (h:= ?_) | refine RW.skip (h:= ?_) | refine RW.op U (h:= ?_) | refine RW.aL U (h:= ?_) | refine RW.aj (h:= ?_) | (refine RW.aG (h:= ?_);(first | refine ai.mk U (hc:=c2 _) (h:= ?_)))));refine RW.nil ⟨aD (by kernel_rfl),aa.mk (h:= ?_)⟩)
  refine SW.aC rfl (SW.seq ?_)
  (refine SW.au [0,1,2,4,5,7,9,10,11,12,13,14,17,21,22,23,24,48,64,90] mixed ?_;(repeat (first | refine RW.ro U (h:= ?_) | refine RW.skip (h:= ?_) | refine RW.op U (h:= ?_) | refine RW.aL U (h:= ?_) | refine RW.aj (h:= ?_)));refine RW.nil ⟨aD (by kernel_rfl),aa.mk (h:= ?_)⟩)
  refine SW.ret ?_
  exact End.mk (bH 0 1 n has M c) (h4:=⟨fun _=>⟨rfl,rfl⟩,fun h=>(by cases h)⟩) (h6:=bH.ok _ _ _ _ _ _ _ rfl rfl)
 (refine SW.au [0,1,2,4,5,7,9,10,11,12,13,14,17,21,22,23,24,48,64,90] mixed ?_;(repeat (first | refine RW.ro U (h:= ?_) | refine RW.skip (h:= ?_) | refine RW.op U (h:= ?_) | refine RW.aL U (h:= ?_) | refine RW.aj (h:= ?_) | (refine RW.aG (h:= ?_);(first | refine ai.mk U (hc:=c2 _) (h:= ?_)))));refine RW.nil ⟨aD (by kernel_rfl),aa.mk (h:= ?_)⟩)
 refine SW.ay rfl (SW.skip (SW.seq (SW.seq ?_)))
 (refine SW.au [0,1,2,4,5,7,9,10,11,12,13,14,17,21,22,23,24,48,64,90] mixed ?_;(repeat (first | refine RW.ro U (h:= ?_) | refine RW.skip (h:= ?_) | refine RW.op U (h:= ?_) | refine RW.aL U (h:= ?_) | refine RW.aj (h:= ?_)));refine RW.nil ⟨aD (by kernel_rfl),aa.mk (h:= ?_)⟩)
 refine SW.block ?_
 have b1:SV.aM id (eU n has 1)=eU n has 1:=eU.aP _ _ _ _
 have b2:SV.aF (fun n=>decide (n<3)) (eU n has 1)=true:=eU.ok _ _ _ _ rfl
 have b3:∀ Y:MM Dt ah,_:=fun Y=>gv id Y
 have b4:∀ Y:MM Dt ah,_:=fun Y=>dI (fun n=>decide (n<3)) Y
 refine SW.fI (α:={i:Nat // i≤l.length}) (fun i=>⟨[(23,i64 i.1),(22,i64 l.length),(21,ops l),(2,.ptr 2 0)],[(2,.box 29 [.ptr 0 0]),(0,.box 72 (eU n has 1)),(1,.map (aN Dt.cells ov (eC has (M,c) (l.take i.1)).1) (eC has (M,c) (l.take i.1)).2)],3⟩) (fun i=>l.length - i.1) ⟨0,by omega⟩ id (And.intro (show eC has (M,c) []=(M,c) from rfl) (And.intro b1 (And.intro b2 (And.intro (b3 M) (b4 M))))) (round:= ?_)
 rintro ⟨i,hi⟩
 dsimp only
 by_cases h:i<l.length
 ·have h1:decide ((i:Int)<l.length)=true:=by simp only [decide_eq_true_eq];omega
  obtain ⟨x,hx⟩:=bR h
  have hxm:=List.mem_of_getElem? hx
  have e2:IntKind.i64.wrap ((i:Int)+1)=((i+1:Nat):Int):=wrap_i64 _ (by omega)
  have e1:l.take (i+1)=l.take i++[x]:=eR hx
  have hsn:=wK has (M,c) (l.take i) x
  rw [← e1] at hsn
  have hwb:=(nL (has:=has) (l.take i) (X:=(M,c)) hM.wb).1
  generalize eC has (M,c) (l.take i)=X at hsn hwb ⊢
  obtain ⟨Y,c'⟩:=X
  dsimp only at hwb hsn ⊢
  unfold qX at hsn
  dsimp only at hsn
  have d1:=fun k=>lZ has x.dot k
  have d2:=fun k=>Gh x (hl.IM hbad hxm) k
  refine SW.seq ?_
  (refine SW.au [0,1,2,4,5,7,9,10,11,12,13,14,17,21,22,23,24,48,64,90] mixed ?_;(repeat (first | refine RW.ro (h1) (h:= ?_) | refine RW.skip (h:= ?_) | refine RW.op (h1) (h:= ?_) | refine RW.aL (h1) (h:= ?_) | refine RW.aj (h:= ?_)));refine RW.nil ⟨aD (by kernel_rfl),aa.mk (h:= ?_)⟩)
  refine SW.seq (SW.aC rfl (SW.skip ?_))
  refine SW.seq (SW.block (SW.seq ?_))
  (have fx:=(And.intro (eX hx) (bQ hx));refine SW.au [0,1,2,4,5,7,9,10,11,12,13,14,17,21,22,23,24,48,64,90] mixed ?_;(repeat (first | refine RW.ro fx (h:= ?_) | refine RW.skip (h:= ?_) | refine RW.op fx (h:= ?_) | refine RW.aL fx (h:= ?_) | refine RW.aj (h:= ?_)));refine RW.nil ⟨aD (by kernel_rfl),aa.mk (h:= ?_)⟩)
  refine SW.seq ?_
  rcases hh:MM.has Y x.dot with _ | _
  ·rw [hh,Bool.false_or] at hsn
   (have fx:=(And.intro (g2) (And.intro (g9) (And.intro (x.gu) (hh))));refine SW.au [0,1,2,4,5,7,9,10,11,12,13,14,17,21,22,23,24,48,64,90] mixed ?_;(repeat (first | refine RW.ro fx (h:= ?_) | refine RW.skip (h:= ?_) | refine RW.op fx (h:= ?_) | refine RW.aL fx (h:= ?_) | refine RW.aj (h:= ?_)));refine RW.nil ⟨aD (by kernel_rfl),aa.mk (h:= ?_)⟩)
   refine SW.seq ?_
   rcases hc:has.aV x.dot with _ | _ <;> rw [hc] at hsn d1
   ·rw [if_neg (by decide)] at hsn
    have e3:MM.qv Y c' x.dot=c'+1:=by unfold MM.qv;rw [hh];rfl
    have e4:=Ej Y c' x.dot x
    rw [e3] at e4
    (have fx:=(And.intro (g2) (And.intro (gh) (x.gu)));refine SW.au [0,1,2,4,5,7,9,10,11,12,13,14,17,21,22,23,24,48,64,90] mixed ?_;(repeat (first | refine RW.ro fx (h:= ?_) | refine RW.skip (h:= ?_) | refine RW.op fx (h:= ?_) | refine RW.aL fx (h:= ?_) | refine RW.aj (h:= ?_) | (refine RW.aG (h:= ?_);(first | refine ai.mk fx (hc:=d1 _) (h:= ?_) | refine ai.mk fx (hc:=d2 _) (h:= ?_)))));refine RW.nil ⟨aD (by kernel_rfl),aa.mk (h:= ?_)⟩)
    refine SW.aC rfl ?_
    (have fx:=(And.intro (g2) (And.intro (g9) (And.intro (x.gu) (e4))));refine SW.au [0,1,2,4,5,7,9,10,11,12,13,14,17,21,22,23,24,48,64,90] mixed ?_;(repeat (first | refine RW.ro fx (h:= ?_) | refine RW.skip (h:= ?_) | refine RW.op fx (h:= ?_) | refine RW.aL fx (h:= ?_) | refine RW.aj (h:= ?_) | (refine RW.aG (h:= ?_);(first | refine ai.mk fx (hc:=d1 _) (h:= ?_) | refine ai.mk fx (hc:=d2 _) (h:= ?_)))));refine RW.nil ⟨aD (by kernel_rfl),aa.mk (h:= ?_)⟩)
    (refine SW.au [0,1,2,4,5,7,9,10,11,12,13,14,17,21,22,23,24,48,64,90] mixed ?_;(repeat (first | refine RW.ro (e2) (h:= ?_) | refine RW.skip (h:= ?_) | refine RW.op (e2) (h:= ?_) | refine RW.aL (e2) (h:= ?_) | refine RW.aj (h:= ?_)));refine RW.nil ⟨aD (by kernel_rfl),aa.mk (h:= ?_)⟩)
    refine ⟨⟨i+1,by omega⟩,id,by show l.length - (i+1)<l.length - i;omega,?_⟩
    dsimp only
    rw [hsn]
    exact bk.mk (And.intro b1 (And.intro b2 (And.intro (b3 (MM.put Y c' x.dot x)) (b4 (MM.put Y c' x.dot x)))))
   ·rw [if_pos rfl] at hsn
    (have fx:=(And.intro (g2) (And.intro (gh) (x.gu)));refine SW.au [0,1,2,4,5,7,9,10,11,12,13,14,17,21,22,23,24,48,64,90] mixed ?_;(repeat (first | refine RW.ro fx (h:= ?_) | refine RW.skip (h:= ?_) | refine RW.op fx (h:= ?_) | refine RW.aL fx (h:= ?_) | refine RW.aj (h:= ?_) | (refine RW.aG (h:= ?_);(first | refine ai.mk fx (hc:=d1 _) (h:= ?_)))));refine RW.nil ⟨aD (by kernel_rfl),aa.mk (h:= ?_)⟩)
    refine SW.ay rfl (SW.skip ?_)
    (refine SW.au [0,1,2,4,5,7,9,10,11,12,13,14,17,21,22,23,24,48,64,90] mixed ?_;(repeat (first | refine RW.ro (e2) (h:= ?_) | refine RW.skip (h:= ?_) | refine RW.op (e2) (h:= ?_) | refine RW.aL (e2) (h:= ?_) | refine RW.aj (h:= ?_)));refine RW.nil ⟨aD (by kernel_rfl),aa.mk (h:= ?_)⟩)
    refine ⟨⟨i+1,by omega⟩,id,by show l.length - (i+1)<l.length - i;omega,?_⟩
    dsimp only
    rw [hsn]
    exact bk.mk (And.intro b1 (And.intro b2 (And.intro (b3 Y) (b4 Y))))
  ·rw [hh,Bool.true_or,if_pos rfl] at hsn
   (have fx:=(And.intro (g2) (And.intro (g9) (And.intro (x.gu) (hh))));refine SW.au [0,1,2,4,5,7,9,10,11,12,13,14,17,21,22,23,24,48,64,90] mixed ?_;(repeat (first | refine RW.ro fx (h:= ?_) | refine RW.skip (h:= ?_) | refine RW.op fx (h:= ?_) | refine RW.aL fx (h:= ?_) | refine RW.aj (h:= ?_)));refine RW.nil ⟨aD (by kernel_rfl),aa.mk (h:= ?_)⟩)
   refine SW.seq ?_
   (refine SW.au [0,1,2,4,5,7,9,10,11,12,13,14,17,21,22,23,24,48,64,90] mixed ?_;(repeat (first | refine RW.ro U (h:= ?_) | refine RW.skip (h:= ?_) | refine RW.op U (h:= ?_) | refine RW.aL U (h:= ?_) | refine RW.aj (h:= ?_)));refine RW.nil ⟨aD (by kernel_rfl),aa.mk (h:= ?_)⟩)
   refine SW.ay rfl (SW.skip ?_)
   (refine SW.au [0,1,2,4,5,7,9,10,11,12,13,14,17,21,22,23,24,48,64,90] mixed ?_;(repeat (first | refine RW.ro (e2) (h:= ?_) | refine RW.skip (h:= ?_) | refine RW.op (e2) (h:= ?_) | refine RW.aL (e2) (h:= ?_) | refine RW.aj (h:= ?_)));refine RW.nil ⟨aD (by kernel_rfl),aa.mk (h:= ?_)⟩)
   refine ⟨⟨i+1,by omega⟩,id,by show l.length - (i+1)<l.length - i;omega,?_⟩
   dsimp only
   rw [hsn]
   exact bk.mk (And.intro b1 (And.intro b2 (And.intro (b3 Y) (b4 Y))))
 have h1:decide ((i:Int)<l.length)=false:=by simp only [decide_eq_false_iff_not];omega
 have h2:i=l.length:=by omega
 subst h2
 rw [List.take_length]
 refine SW.seq ?_
 (refine SW.au [0,1,2,4,5,7,9,10,11,12,13,14,17,21,22,23,24,48,64,90] mixed ?_;(repeat (first | refine RW.ro (h1) (h:= ?_) | refine RW.skip (h:= ?_) | refine RW.op (h1) (h:= ?_) | refine RW.aL (h1) (h:= ?_) | refine RW.aj (h:= ?_)));refine RW.nil ⟨aD (by kernel_rfl),aa.mk (h:= ?_)⟩)
 refine SW.seq (SW.ay rfl (SW.exit (SW.seq ?_)))
 (refine SW.au [0,1,2,4,5,7,9,10,11,12,13,14,17,21,22,23,24,48,64,90] mixed ?_;(repeat (first | refine RW.ro U (h:= ?_) | refine RW.skip (h:= ?_) | refine RW.op U (h:= ?_) | refine RW.aL U (h:= ?_) | refine RW.aj (h:= ?_)));refine RW.nil ⟨aD (by kernel_rfl),aa.mk (h:= ?_)⟩)
 refine SW.seq ?_
 (refine SW.au [0,1,2,4,5,7,9,10,11,12,13,14,17,21,22,23,24,48,64,90] mixed ?_;(repeat (first | refine RW.ro U (h:= ?_) | refine RW.skip (h:= ?_) | refine RW.op U (h:= ?_) | refine RW.aL U (h:= ?_) | refine RW.aj (h:= ?_)));refine RW.nil ⟨aD (by kernel_rfl),aa.mk (h:= ?_)⟩)
 refine SW.kZ 11 51 29 rfl ?_
 obtain ⟨hw1,hv1⟩:=nL (has:=has) l (X:=(M,c)) hM.wb
 have nR:=tr has l (M,c)
 have hmem1:∀ o,o∈vals (eC has (M,c) l).1→o.dot.wf:=fun o ho=>by
  rw [hv1] at ho
  rcases rL ho with h | h
  ·exact hM.wf o h
  ·exact hl.wf h
 have hP:Gm (mP has (M,c) l) (eC has (M,c) l).2 [] has (eC has (M,c) l).1:=⟨⟨(eC has (M,c) l).1.length,by rw [List.nil_append];rfl,by rw [g_];exact Nat.le_refl _⟩,hw1,hv,hmem1,by show 0+_<_;dsimp only at nR;omega⟩
 generalize mP has (M,c) l=R at hP ⊢
 generalize eC has (M,c) l=X at hP ⊢
 obtain ⟨Y,c'⟩:=X
 dsimp only at hP ⊢
 have n1:=fun k=>vP (n:=n) hP.hv hP.wb (by have:=hP.len;omega) hP.wf 2 0 1 (by decide) k
 simp only [cH,bH] at n1
 refine SW.seq (SW.seq ?_)
 (refine SW.au [0,1,2,4,5,7,9,10,11,12,13,14,17,21,22,23,24,48,64,90] mixed ?_;(repeat (first | refine RW.ro U (h:= ?_) | refine RW.skip (h:= ?_) | refine RW.op U (h:= ?_) | refine RW.aL U (h:= ?_) | refine RW.aj (h:= ?_) | (refine RW.aG (h:= ?_);(first | refine ai.mk U (hc:=n1 _) (h:= ?_)))));refine RW.nil ⟨aD (by kernel_rfl),aa.mk (h:= ?_)⟩)
 refine SW.block ?_
 have r1:∀ z:ah,SV.aM id z.cells=z.cells:=fun z=>SV.dW _
 have r2:∀ z:ah,SV.aF (fun n=>decide (n<5)) z.cells=true:=fun z=>ah.an z _
 have w1:∀ h:ag,SV.aM id (eU n h 1)=eU n h 1:=fun h=>eU.aP _ _ _ _
 have w2:∀ h:ag,SV.aF (fun n=>decide (n<5)) (eU n h 1)=true:=fun h=>eU.ok _ _ _ _ rfl
 have w3:∀ Y:MM Dt ah,_:=fun Y=>gv id Y
 have w4:∀ Y:MM Dt ah,_:=fun Y=>dI (fun n=>decide (n<5)) Y
 refine SW.fI (α:={s:List ah×ag×MM Dt ah // Gm R c' s.1 s.2.1 s.2.2}) (fun s=>⟨[(13,bl (eN s.1.2.1 (vals s.1.2.2)).isSome),(12,.ptr 4 0),(11,.gs 3 s.1.1.length),(10,.fn (.func buffer_Buffer_Put_2.f) [] [.ptr 2 0]),(2,.ptr 2 0)],[(3,.arr 51 29 s.1.1.length (uU s.1.1)),(4,.box 51 ((eN s.1.2.1 (vals s.1.2.2)).getD ah.zero).cells),(2,.box 29 [.ptr 0 0]),(0,.box 72 (eU n s.1.2.1 1)),(1,.map (aN Dt.cells ov s.1.2.2) c')],5⟩) (fun s=>s.1.2.2.length) ⟨([],has,Y),hP⟩ id (And.intro (r1 ((eN has (vals Y)).getD ah.zero)) (And.intro (r2 ((eN has (vals Y)).getD ah.zero)) (And.intro (w1 has) (And.intro (w2 has) (And.intro (w3 Y) (w4 Y)))))) (round:= ?_)
 rintro ⟨⟨out,h,Z⟩,hI⟩
 dsimp only at hI ⊢
 cases hnx:eN h (vals Z) with
 | none=>
  have hR:=hI.done hnx
  rw [hR]
  simp only [Option.isSome_none,Option.getD_none]
  refine SW.seq (SW.seq ?_)
  (refine SW.au [0,1,2,4,5,7,9,10,11,12,13,14,17,21,22,23,24,48,64,90] mixed ?_;(repeat (first | refine RW.ro U (h:= ?_) | refine RW.skip (h:= ?_) | refine RW.op U (h:= ?_) | refine RW.aL U (h:= ?_) | refine RW.aj (h:= ?_)));refine RW.nil ⟨aD (by kernel_rfl),aa.mk (h:= ?_)⟩)
  refine SW.ay rfl (SW.exit (SW.seq ?_))
  (refine SW.au [0,1,2,4,5,7,9,10,11,12,13,14,17,21,22,23,24,48,64,90] mixed ?_;(repeat (first | refine RW.ro U (h:= ?_) | refine RW.skip (h:= ?_) | refine RW.op U (h:= ?_) | refine RW.aL U (h:= ?_) | refine RW.aj (h:= ?_)));refine RW.nil ⟨aD (by kernel_rfl),aa.mk (h:= ?_)⟩)
  refine SW.freeze 3 (out.flatMap ah.ds) rfl rfl ?_
  simp only [mL,SV.kW,List.map_cons,List.map_nil,if_true,if_false,reduceIte,bL,Nat.reduceEqDiff]
  refine SW.ret ?_
  exact End.mk (bH 0 1 n h Z c') (h4:=⟨fun h=>(by cases h),fun _=>⟨rfl,rfl⟩⟩) (h6:=bH.ok _ _ _ _ _ _ _ rfl rfl)
 | some o=>
  have hS:=hI.step hnx
  obtain ⟨hom,hmay⟩:=mO hnx
  have h8:o.dot.r<8:=(qU.1 hmay).1.1
  have hlt:=yj hI.wb hom
  have hol:=hI.len
  have s1:=eU.set n h 1 h8 o.dot.n
  have s2:=eU.len n h 1
  have s3:=eU.g9 n h 1
  have s4:=eU.len n (h.set o.dot.r o.dot.n) 1
  have n2:=fun k=>vP (n:=n) hS.hv hS.wb (by have:=hS.len;omega) hS.wf 2 0 1 (by decide) k
  simp only [cH,bH] at n2
  simp only [Option.isSome_some,Option.getD_some]
  refine SW.seq (SW.seq ?_)
  (refine SW.au [0,1,2,4,5,7,9,10,11,12,13,14,17,21,22,23,24,48,64,90] mixed ?_;(repeat (first | refine RW.ro U (h:= ?_) | refine RW.skip (h:= ?_) | refine RW.op U (h:= ?_) | refine RW.aL U (h:= ?_) | refine RW.aj (h:= ?_)));refine RW.nil ⟨aD (by kernel_rfl),aa.mk (h:= ?_)⟩)
  refine SW.aC rfl (SW.skip (SW.seq (SW.block (SW.seq ?_))))
  (have fx:=(And.intro (s2) (And.intro (s3) (o.gu)));refine SW.au [0,1,2,4,5,7,9,10,11,12,13,14,17,21,22,23,24,48,64,90] mixed ?_;(repeat (first | refine RW.ro fx (h:= ?_) | refine RW.skip (h:= ?_) | refine RW.op fx (h:= ?_) | refine RW.aL fx (h:= ?_) | refine RW.aj (h:= ?_)));refine RW.nil ⟨aD (by kernel_rfl),aa.mk (h:= ?_)⟩)
  refine SW.seq ?_
  (have fx:=(And.intro (s2) (And.intro (s1) (And.intro (h8) (And.intro (o.qE) (o.sM)))));refine SW.au [0,1,2,4,5,7,9,10,11,12,13,14,17,21,22,23,24,48,64,90] mixed ?_;(repeat (first | refine RW.ro fx (h:= ?_) | refine RW.skip (h:= ?_) | refine RW.op fx (h:= ?_) | refine RW.aL fx (h:= ?_) | refine RW.aj (h:= ?_)));refine RW.nil ⟨aD (by kernel_rfl),aa.mk (h:= ?_)⟩)
  (refine SW.au [0,1,2,4,5,7,9,10,11,12,13,14,17,21,22,23,24,48,64,90] mixed ?_;(repeat (first | refine RW.ro U (h:= ?_) | refine RW.skip (h:= ?_) | refine RW.op U (h:= ?_) | refine RW.aL U (h:= ?_) | refine RW.aj (h:= ?_) | refine dZ rfl rfl (h:= ?_)));refine RW.nil ⟨aD (by kernel_rfl),aa.mk (h:= ?_)⟩)
  refine SW.seq (SW.seq ?_)
  (refine SW.au [0,1,2,4,5,7,9,10,11,12,13,14,17,21,22,23,24,48,64,90] mixed ?_;(repeat (first | refine RW.ro U (h:= ?_) | refine RW.skip (h:= ?_) | refine RW.op U (h:= ?_) | refine RW.aL U (h:= ?_) | refine RW.aj (h:= ?_)));refine RW.nil ⟨aD (by kernel_rfl),aa.mk (h:= ?_)⟩)
  (refine SW.au [0,1,2,4,5,7,9,10,11,12,13,14,17,21,22,23,24,48,64,90] mixed ?_;(repeat (first | refine RW.ro U (h:= ?_) | refine RW.skip (h:= ?_) | refine RW.op U (h:= ?_) | refine RW.aL U (h:= ?_) | refine RW.aj (h:= ?_)));refine RW.nil ⟨aD (by kernel_rfl),aa.mk (h:= ?_)⟩)
  (refine SW.au [0,1,2,4,5,7,9,10,11,12,13,14,17,21,22,23,24,48,64,90] mixed ?_;(repeat (first | refine RW.ro U (h:= ?_) | refine RW.skip (h:= ?_) | refine RW.op U (h:= ?_) | refine RW.aL U (h:= ?_) | refine RW.aj (h:= ?_) | (refine RW.aG (h:= ?_);(first | refine ai.mk U (hc:=n2 _) (h:= ?_)))));refine RW.nil ⟨aD (by kernel_rfl),aa.mk (h:= ?_)⟩)
  have e5:(out++[o]).length=out.length+ [o].length:=by simp
  have e6:uU (out++[o])=uU out++List.map SV.d ([o].flatMap ah.ds):=by simp [uU]
  have u1:∀ n:Nat,n<2→(if n=3 then 5 else if n=4 then 6 else n)=n:=fun n hn=>by rw [if_neg (by omega),if_neg (by omega)]
  have u2:SV.aM (fun n=>if n=3 then 5 else if n=4 then 6 else n) (eU n (h.set o.dot.r o.dot.n) 1)=eU n (h.set o.dot.r o.dot.n) 1:=eU.aP _ _ _ _
  have u3:=gv (fun n=>if n=3 then 5 else if n=4 then 6 else n) (MM.del Z o.dot)
  have u4:SV.aM (fun n=>if n=3 then 5 else if n=4 then 6 else n) ((eN (h.set o.dot.r o.dot.n) (vals (MM.del Z o.dot))).getD ah.zero).cells=((eN (h.set o.dot.r o.dot.n) (vals (MM.del Z o.dot))).getD ah.zero).cells:=SV.dW _
  refine ⟨⟨(out++[o],h.set o.dot.r o.dot.n,MM.del Z o.dot),hS⟩,fun n=>if n=3 then 5 else if n=4 then 6 else n,hlt,?_⟩
  dsimp only
  rw [e5,e6]
  exact bk.mk (And.intro (eq_true u1) (And.intro u2 (And.intro u3 (And.intro u4 (And.intro (r2 ((eN (h.set o.dot.r o.dot.n) (vals (MM.del Z o.dot))).getD ah.zero)) (And.intro (w2 (h.set o.dot.r o.dot.n)) (w4 (MM.del Z o.dot))))))))
end
end Go.Proofs.YtnakpdoioammhaaGreatDoor
