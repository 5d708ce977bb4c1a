/-
 Buffers: New; Put at its names.
-/
import Derived.Test.YtnakpdoioammhaaGreatDoorUO
import Derived.Test.YtnakpdoioammhaaGreatDoorUN
set_option linter.unusedSectionVars false
set_option linter.unusedVariables false
set_option linter.unusedSimpArgs false
namespace Go.Proofs.YtnakpdoioammhaaGreatDoor
open Go.Sl Go.Proofs
section
attribute [local irreducible] SW RW bB SC ai aa
section
variable {n:Nat} (hn:n≤8) {has:ag} (hv:has.wf) {M:MM Dt ah} {c:Nat} (hM:xh M c) {l:List ah} (hl:rJ l) (b m:Nat) (zk:b≠m) (k:Nat)
include hn hv hM hl zk
theorem vR (hb:l.any (mc n)=false):bB Tryz.prog buffer_Buffer_Put.f [.ptr b 0,ops l] (bH b m n has M c) k 0 (.cW [ops (mP has (M,c) l).1,.d (.int .i64 0)]) (bH b m n (mP has (M,c) l).2.1 (mP has (M,c) l).2.2 (eC has (M,c) l).2):=by
 have h:=SB.oW [b,m] (SB.mono (Gn n hn has hv M c hM l hl) fun r F h=>h.2 hb) (by simp [zk]) (fun i hi=>bH.out n has M c i (by simpa using hi)) k
 simpa [SV.aM,SV.aP,iA,bH.aP,ops] using h
end
theorem Ek (x:Nat):Go.Sl.Pure Tryz.prog buffer_New_1.f [u32 x] (bl (decide ((x:Int)>0))):=by
 refine buffer_New_1.enter (by first | rfl | simp [SV.ok,SV.aF]) (by first | rfl | simp [Hp.ok,Ob.ok,SV.ok,SV.aF,ag.an]) (by simp) ?_
 dsimp only [buffer_New_1.s,Co.M,Co.G,Co.J,Co.H,Co.N,Co.F,Co.C,Co.Z,Co.B,Co.b8,Co.aJ,Co.b_,Co.i6,Co.z8,Co.cn]
 refine SW.seq ?_
 (refine SW.au [0,2] mixed ?_;(repeat (first | refine RW.ro U (h:= ?_) | refine RW.skip (h:= ?_) | refine RW.op U (h:= ?_) | refine RW.aL U (h:= ?_) | refine RW.aj (h:= ?_)));refine RW.nil ⟨by kernel_rfl,aa.mk (h:= ?_)⟩)
 refine SW.seq ?_
 (refine SW.au [0,2] mixed ?_;(repeat (first | refine RW.ro U (h:= ?_) | refine RW.skip (h:= ?_) | refine RW.op U (h:= ?_) | refine RW.aL U (h:= ?_) | refine RW.aj (h:= ?_)));refine RW.nil ⟨by kernel_rfl,aa.mk (h:= ?_)⟩)
 refine SW.ret ?_
 exact End.mk [] (h4:=⟨rfl,rfl⟩)
theorem El (x:Nat)(k:Nat):bB Tryz.prog buffer_New_1.f [.d (.int .u32 (x:Int))] [] k 0 (bl (decide ((x:Int)>0))) []:=(Ek x).sc rfl k
def vS (n:Nat)(v:ag):Int:=match (List.range (8 - n)).find? fun i=>decide (0<v.get (n+i)) with
 | some i=>(i:Int)
 | none=> -1
def vT (n:Nat)(v:ag):Bool:=(List.range (8 - n)).any fun i=>decide (0<v.get (n+i))
theorem Cn (n:Nat)(v:ag):decide (vS n v≥0)=vT n v:=by
 unfold vS vT
 cases h:(List.range (8 - n)).find? fun i=>decide (0<v.get (n+i)) with
 | none=>
  have:(List.range (8 - n)).any (fun i=>decide (0<v.get (n+i)))=false:=by
   rw [List.any_eq_false];intro i hi;exact List.find?_eq_none.1 h i hi
  rw [this];rfl
 | some i=>
  have:(List.range (8 - n)).any (fun i=>decide (0<v.get (n+i)))=true:=by
   rw [List.any_eq_true];exact ⟨i,List.mem_of_find?_eq_some h,by have:=List.find?_some h;simpa using this⟩
  rw [this];simp
theorem zK {n:Nat}{v:ag}(h:∀ i,i<8 - n→ ¬ 0<v.get (n+i)):vS n v= -1:=by
 unfold vS
 rw [List.find?_eq_none.2 fun i hi=>by simpa using h i (List.mem_range.1 hi)]
theorem zL {n:Nat}{v:ag}{j:Nat}(hj:j<8 - n)(h:∀ i,i<j→ ¬ 0<v.get (n+i))(h0:0<v.get (n+j)):vS n v=(j:Int):=by
 unfold vS
 have:(List.range (8 - n)).find? (fun i=>decide (0<v.get (n+i)))=some j:=by
  rw [List.find?_eq_some_iff_getElem]
  refine ⟨by simpa using h0,j,by simpa using hj,by simp,fun i hi=> ?_⟩
  have:=h i hi
  simp at this ⊢;omega
 rw [this]
set_option maxHeartbeats 2000000 in
theorem Cp (n:Nat)(hn:n≤8)(v:ag):SB Tryz.prog slices_IndexFunc_Luint32_uint32.f [.bs 0 n (8 - n),.fn (.func buffer_New_1.f) [] []] [(0,.box 34 v.cells)] 1 0 fun r F=>r=i64 (vS n v)∧F=[(0,.box 34 v.cells)]:=by
 refine slices_IndexFunc_Luint32_uint32.enter (by simp [SV.ok,SV.aF]) (by simp [Hp.ok,Ob.ok,ag.an]) (by simp) ?_
 dsimp only [slices_IndexFunc_Luint32_uint32.s,Co.M,Co.G,Co.J,Co.H,Co.N,Co.F,Co.C,Co.Z,Co.B,Co.b8,Co.aJ,Co.b_,Co.i6,Co.z8,Co.cn]
 refine SW.seq ?_
 (refine SW.au [0,1,4,5,7,8,9,16] mixed ?_;(repeat (first | refine RW.ro U (h:= ?_) | refine RW.skip (h:= ?_) | refine RW.op U (h:= ?_) | refine RW.aL U (h:= ?_) | refine RW.aj (h:= ?_)));refine RW.nil ⟨by kernel_rfl,aa.mk (h:= ?_)⟩)
 refine SW.seq (SW.seq ?_)
 (refine SW.au [0,1,4,5,7,8,9,16] mixed ?_;(repeat (first | refine RW.ro U (h:= ?_) | refine RW.skip (h:= ?_) | refine RW.op U (h:= ?_) | refine RW.aL U (h:= ?_) | refine RW.aj (h:= ?_)));refine RW.nil ⟨by kernel_rfl,aa.mk (h:= ?_)⟩)
 refine SW.block ?_
 refine SW.fI (α:={i:Nat // i≤8 - n∧∀ j,j<i→ ¬ 0<v.get (n+j)}) (fun i=>⟨[(8,i64 i.1),(7,i64 ((8 - n:Nat):Int)),(0,.bs 0 n (8 - n)),(1,.fn (.func buffer_New_1.f) [] [])],[(0,.box 34 v.cells)],1⟩) (fun i=>(8 - n) - i.1) ⟨0,by omega,by omega⟩ id U (round:= ?_)
 rintro ⟨i,hi,hs⟩
 dsimp only
 refine SW.seq ?_
 by_cases h:i<8 - n
 ·have h1:decide ((i:Int)<((8 - n:Nat):Int))=true:=by simp only [decide_eq_true_eq];omega
  have e2:IntKind.i64.wrap ((i:Int)+1)=((i+1:Nat):Int):=wrap_i64 _ (by omega)
  have h8:n+i<8:=by omega
  have hc:=fun k=>El (v.get (n+i)) k
  have hg:=ag.er v h8
  (refine SW.au [0,1,4,5,7,8,9,16] mixed ?_;(repeat (first | refine RW.ro (h1) (h:= ?_) | refine RW.skip (h:= ?_) | refine RW.op (h1) (h:= ?_) | refine RW.aL (h1) (h:= ?_) | refine RW.aj (h:= ?_)));refine RW.nil ⟨by kernel_rfl,aa.mk (h:= ?_)⟩)
  refine SW.seq (SW.aC rfl (SW.skip ?_))
  refine SW.seq (SW.block (SW.seq ?_))
  (refine SW.au [0,1,4,5,7,8,9,16] mixed ?_;(repeat (first | refine RW.ro U (h:= ?_) | refine RW.skip (h:= ?_) | refine RW.op U (h:= ?_) | refine RW.aL U (h:= ?_) | refine RW.aj (h:= ?_)));refine RW.nil ⟨by kernel_rfl,aa.mk (h:= ?_)⟩)
  refine SW.seq ?_
  rcases h0:decide (((v.get (n+i):Nat):Int)>0) with _ | _ <;> rw [h0] at hc
  ·(refine SW.au [0,1,4,5,7,8,9,16] mixed ?_;(repeat (first | refine RW.ro (And.intro (h) (hg)) (h:= ?_) | refine RW.skip (h:= ?_) | refine RW.op (And.intro (h) (hg)) (h:= ?_) | refine RW.aL (And.intro (h) (hg)) (h:= ?_) | refine RW.aj (h:= ?_) | (refine RW.aG (h:= ?_);(first | refine ai.mk (And.intro (h) (hg)) (hc:=hc _) (h:= ?_)))));refine RW.nil ⟨by kernel_rfl,aa.mk (h:= ?_)⟩)
   refine SW.ay rfl (SW.skip ?_)
   (refine SW.au [0,1,4,5,7,8,9,16] mixed ?_;(repeat (first | refine RW.ro (e2) (h:= ?_) | refine RW.skip (h:= ?_) | refine RW.op (e2) (h:= ?_) | refine RW.aL (e2) (h:= ?_) | refine RW.aj (h:= ?_)));refine RW.nil ⟨by kernel_rfl,aa.mk (h:= ?_)⟩)
   refine ⟨⟨i+1,by omega,fun j hj=> ?_⟩,id,by show (8 - n) - (i+1)<(8 - n) - i;omega,?_⟩
   ·rcases Nat.lt_or_ge j i with h2 | h2
    ·exact hs j h2
    ·have:j=i:=by omega
     subst this
     simp only [decide_eq_false_iff_not] at h0;omega
   ·exact bk.mk U
  ·rw [zL h hs (by simp only [decide_eq_true_eq] at h0;omega)]
   (refine SW.au [0,1,4,5,7,8,9,16] mixed ?_;(repeat (first | refine RW.ro (And.intro (h) (hg)) (h:= ?_) | refine RW.skip (h:= ?_) | refine RW.op (And.intro (h) (hg)) (h:= ?_) | refine RW.aL (And.intro (h) (hg)) (h:= ?_) | refine RW.aj (h:= ?_) | (refine RW.aG (h:= ?_);(first | refine ai.mk (And.intro (h) (hg)) (hc:=hc _) (h:= ?_)))));refine RW.nil ⟨by kernel_rfl,aa.mk (h:= ?_)⟩)
   refine SW.aC rfl (SW.seq ?_)
   (refine SW.au [0,1,4,5,7,8,9,16] mixed ?_;(repeat (first | refine RW.ro U (h:= ?_) | refine RW.skip (h:= ?_) | refine RW.op U (h:= ?_) | refine RW.aL U (h:= ?_) | refine RW.aj (h:= ?_)));refine RW.nil ⟨by kernel_rfl,aa.mk (h:= ?_)⟩)
   refine SW.ret ?_
   exact End.mk [(0,.box 34 v.cells)] (h4:=⟨rfl,rfl⟩) (h6:=by simp [Hp.ok,Ob.ok,ag.an])
 have h1:decide ((i:Int)<((8 - n:Nat):Int))=false:=by simp only [decide_eq_false_iff_not];omega
 rw [zK (n:=n) (v:=v) fun j hj=>hs j (by omega)]
 (refine SW.au [0,1,4,5,7,8,9,16] mixed ?_;(repeat (first | refine RW.ro (h1) (h:= ?_) | refine RW.skip (h:= ?_) | refine RW.op (h1) (h:= ?_) | refine RW.aL (h1) (h:= ?_) | refine RW.aj (h:= ?_)));refine RW.nil ⟨by kernel_rfl,aa.mk (h:= ?_)⟩)
 refine SW.seq (SW.ay rfl (SW.exit (SW.seq ?_)))
 (refine SW.au [0,1,4,5,7,8,9,16] mixed ?_;(repeat (first | refine RW.ro U (h:= ?_) | refine RW.skip (h:= ?_) | refine RW.op U (h:= ?_) | refine RW.aL U (h:= ?_) | refine RW.aj (h:= ?_)));refine RW.nil ⟨by kernel_rfl,aa.mk (h:= ?_)⟩)
 refine SW.ret ?_
 exact End.mk [(0,.box 34 v.cells)] (h4:=⟨rfl,rfl⟩) (h6:=by simp [Hp.ok,Ob.ok,ag.an])
theorem Cq (n:Nat)(hn:n≤8)(v:ag)(q k:Nat):bB Tryz.prog slices_IndexFunc_Luint32_uint32.f [.bs q n (8 - n),.fn (.func buffer_New_1.f) [] []] [(q,.box 34 v.cells)] k 0 (i64 (vS n v)) [(q,.box 34 v.cells)]:=by
 have:=SB.oW [q] (Cp n hn v) (by simp) (by simp [lk]) k
 simpa [SV.aP,SV.aM,Hp.aP,Ob.aP,iA,ag.bN] using this
theorem Cs (n:Nat)(hn:n≤8)(v:ag):SB Tryz.prog slices_ContainsFunc_Luint32_uint32.f [.bs 0 n (8 - n),.fn (.func buffer_New_1.f) [] []] [(0,.box 34 v.cells)] 1 0 fun r F=>r=bl (vT n v)∧F=[(0,.box 34 v.cells)]:=by
 refine slices_ContainsFunc_Luint32_uint32.enter (by simp [SV.ok,SV.aF]) (by simp [Hp.ok,Ob.ok,ag.an]) (by simp) ?_
 rw [← Cn]
 have c1:=fun k=>Cq n hn v 0 k
 dsimp only [slices_ContainsFunc_Luint32_uint32.s,Co.M,Co.G,Co.J,Co.H,Co.N,Co.F,Co.C,Co.Z,Co.B,Co.b8,Co.aJ,Co.b_,Co.i6,Co.z8,Co.cn]
 refine SW.seq ?_
 (refine SW.au [0,1,4] mixed ?_;(repeat (first | refine RW.ro U (h:= ?_) | refine RW.skip (h:= ?_) | refine RW.op U (h:= ?_) | refine RW.aL U (h:= ?_) | refine RW.aj (h:= ?_)));refine RW.nil ⟨by kernel_rfl,aa.mk (h:= ?_)⟩)
 refine SW.seq ?_
 (refine SW.au [0,1,4] mixed ?_;(repeat (first | refine RW.ro U (h:= ?_) | refine RW.skip (h:= ?_) | refine RW.op U (h:= ?_) | refine RW.aL U (h:= ?_) | refine RW.aj (h:= ?_) | (refine RW.aG (h:= ?_);(first | refine ai.mk U (hc:=c1 _) (h:= ?_)))));refine RW.nil ⟨by kernel_rfl,aa.mk (h:= ?_)⟩)
 refine SW.ret ?_
 exact End.mk [(0,.box 34 v.cells)] (h4:=⟨rfl,rfl⟩) (h6:=by simp [Hp.ok,Ob.ok,ag.an])
theorem Ct (n:Nat)(hn:n≤8)(v:ag)(q k:Nat):bB Tryz.prog slices_ContainsFunc_Luint32_uint32.f [.bs q n (8 - n),.fn (.func buffer_New_1.f) [] []] [(q,.box 34 v.cells)] k 0 (bl (vT n v)) [(q,.box 34 v.cells)]:=by
 have:=SB.oW [q] (Cs n hn v) (by simp) (by simp [lk]) k
 simpa [SV.aP,SV.aM,Hp.aP,Ob.aP,iA,ag.bN] using this
set_option maxHeartbeats 2000000 in
theorem Cu (n:Nat)(h1:1≤n)(h8:n≤8)(v:ag)(hf:vT n v=false):SB Tryz.prog buffer_New.f [i64 (n:Int),.agg v.cells] [] 0 3 fun r F=>r= .cW [.ptr 2 0,i64 0]∧F=bH 2 1 n v [] 0:=by
 refine buffer_New.enter (by simp [SV.ok,SV.aF,ag.an]) (by simp [Hp.ok]) (by simp) ?_
 have c1:=fun k=>Ct n h8 v 0 k
 rw [hf] at c1
 have e1:decide ((n:Int)<1)=false:=by simp only [decide_eq_false_iff_not];omega
 have e2:decide ((n:Int)>8)=false:=by simp only [decide_eq_false_iff_not];omega
 have s1:bV (bV (bV [.d (.int .i64 0),.d (.int .u32 0),.d (.int .u32 0),.d (.int .u32 0),.d (.int .u32 0),.d (.int .u32 0),.d (.int .u32 0),.d (.int .u32 0),.d (.int .u32 0),.d .ir] 0 [i64 (n:Int)]) 1 v.cells) 9 [.mp 1]=eU n v 1:=rfl
 have s3:(bV [.d (.int .i64 0),.d (.int .u32 0),.d (.int .u32 0),.d (.int .u32 0),.d (.int .u32 0),.d (.int .u32 0),.d (.int .u32 0),.d (.int .u32 0),.d (.int .u32 0),.d .ir] 0 [i64 (n:Int)]).length=10:=rfl
 have s4:(bV (bV [.d (.int .i64 0),.d (.int .u32 0),.d (.int .u32 0),.d (.int .u32 0),.d (.int .u32 0),.d (.int .u32 0),.d (.int .u32 0),.d (.int .u32 0),.d (.int .u32 0),.d .ir] 0 [i64 (n:Int)]) 1 v.cells).length=10:=rfl
 have s2:=eU.one n v 1
 have e3:(n:Int).toNat=n:=Int.toNat_natCast n
 dsimp only [buffer_New.s,Co.M,Co.G,Co.J,Co.H,Co.N,Co.F,Co.C,Co.Z,Co.B,Co.b8,Co.aJ,Co.b_,Co.i6,Co.z8,Co.cn]
 refine SW.seq ?_
 (refine SW.au [0,1,3,4,5,16] mixed ?_;(repeat (first | refine RW.ro U (h:= ?_) | refine RW.skip (h:= ?_) | refine RW.op U (h:= ?_) | refine RW.aL U (h:= ?_) | refine RW.aj (h:= ?_)));refine RW.nil ⟨by kernel_rfl,aa.mk (h:= ?_)⟩)
 refine SW.seq (SW.seq ?_)
 (have fx:=(And.intro (e1) (And.intro (e2) (And.intro (e3) (And.intro (h8) (And.intro (Nat.mul_one) (Nat.zero_add))))));refine SW.au [0,1,3,4,5,16] mixed ?_;(repeat (first | refine RW.ro fx (h:= ?_) | refine RW.skip (h:= ?_) | refine RW.op fx (h:= ?_) | refine RW.aL fx (h:= ?_) | refine RW.aj (h:= ?_) | (refine RW.aG (h:= ?_);(first | refine ai.mk fx (hc:=c1 _) (h:= ?_)))));refine RW.nil ⟨by kernel_rfl,aa.mk (h:= ?_)⟩)
 refine SW.ay rfl (SW.skip (SW.seq ?_))
 (have fx:=(And.intro (s1) (And.intro (s2) (And.intro (s3) (s4))));refine SW.au [0,1,3,4,5,16] mixed ?_;(repeat (first | refine RW.ro fx (h:= ?_) | refine RW.skip (h:= ?_) | refine RW.op fx (h:= ?_) | refine RW.aL fx (h:= ?_) | refine RW.aj (h:= ?_)));refine RW.nil ⟨by kernel_rfl,aa.mk (h:= ?_)⟩)
 refine SW.ret ?_
 exact End.mk (bH 2 1 n v [] 0) (h4:=⟨rfl,rfl⟩) (h6:=bH.ok _ _ _ _ _ _ _ rfl rfl)
theorem Gp (n:Nat)(h1:1≤n)(h8:n≤8)(v:ag)(hf:vT n v=false)(k:Nat):bB Tryz.prog buffer_New.f [.d (.int .i64 (n:Int)),.agg v.cells] [] k 3 (.cW [.ptr (k+2) 0,.d (.int .i64 0)]) (bH (k+2) (k+1) n v [] 0):=by
 have h:=SB.oW [] (Cu n h1 h8 v hf) (by simp) (by simp) k
 rw [bH.aP] at h
 simpa [SV.aM,SV.aP,iA,ag.bN,Hp.aP,Nat.add_comm] using h
theorem zM (n:Nat):vT n ag.zero=false:=by
 unfold vT
 rw [List.any_eq_false]
 intro i _
 simp [ag.k6]
end
section
attribute [local irreducible] SW RW bB SC ai aa
end
section
attribute [local irreducible] SW RW bB SC ai aa
structure IN (n:Nat)(S:List ah)(has:ag)(M:MM Dt ah)(c:Nat):Prop where
 n1:1≤n
 He:H_ n S
 full:Full S has (vals M)
 wb:WB M c
 hv:has.wf
 IS:∀ o,o∈S→yg o
section
variable {n:Nat} {S:List ah} {has:ag} {M:MM Dt ah} {c:Nat} (h:IN n S has M c)
include h
end
structure Em (l:List ah):Prop where
 len:l.length≤140737488351232
 op:∀ o,o∈l→yg o∧o.cl.length≤140737488351232
theorem Em.put {l m:List ah}(h:Em l)(hm:m.length≤500000)(hs:∀ o,o∈m→o∈l):rJ m:=⟨hm,fun x hx=>h.op x (hs x hx)⟩
end
end Go.Proofs.YtnakpdoioammhaaGreatDoor
