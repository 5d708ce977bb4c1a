/-
 Rows of numbers: clones, whether another one stands there, the same, whether they rise.
-/
import Derived.Test.YtefjaphfnkbbkaaUV
import Derived.Test.YtefjaphfnkbbkaaUK
import Derived.Test.YtefjaphfnkbbkaaU9
import Derived.Test.YtefjaphfnkbbkaaU7
import Derived.Test.YtefjaphfnkbbkaaU8
import Derived.Test.YtefjaphfnkbbkaaUL
set_option linter.unusedSectionVars false
set_option linter.unusedVariables false
set_option linter.unusedSimpArgs false
namespace Go.Proofs.Ytefjaphfnkbbkaa
open Go.Sl Go.Proofs Go.RowKit
section
attribute [local irreducible] SW RW bp SC af aa
theorem AG (l:List Nat)(hl:l.length≤1048576):Go.Sl.Pure Try.prog slices_Clone_Luint32_uint32.f [eS l] (eS l):=by
 refine slices_Clone_Luint32_uint32.enter (by first | rfl | simp [SV.ok,SV.aI]) (by first | rfl | simp [Hp.ok,Ob.ok,SV.ok,SV.aI,aS.aj]) (by simp) ?_
 dsimp only [slices_Clone_Luint32_uint32.s,Co.M,Co.G,Co.J,Co.H,Co.N,Co.F,Co.C,Co.Z,Co.B,Co.b8,Co.aA,Co.bz,Co.i6,Co.z8,Co.dm]
 refine SW.seq ?_
 (refine SW.ai [0,2,4] mixed ?_;(repeat (first | refine RW.ro U (h:= ?_) | refine RW.skip (h:= ?_) | refine RW.op U (h:= ?_) | refine RW.aF U (h:= ?_) | refine RW.ah (h:= ?_)));refine RW.nil ⟨by kernel_rfl,aa.mk (h:= ?_)⟩)
 refine SW.seq (SW.seq (SW.HZ (n:=l.length) (cs:=l.flatMap B9) rfl ?_ fun h0=> ?_))
 ·refine SW.ak rfl (SW.skip ?_)
  refine (?_:Sl.SW _ _ _ _ _ _)
  refine SW.seq ?_
  (refine SW.ai [0,2,4] mixed ?_;(repeat (first | refine RW.ro U (h:= ?_) | refine RW.skip (h:= ?_) | refine RW.op U (h:= ?_) | refine RW.aF U (h:= ?_) | refine RW.ah (h:= ?_)));refine RW.nil ⟨by kernel_rfl,aa.mk (h:= ?_)⟩)
  refine SW.freeze 1 (l.flatMap B9) rfl (by simp) ?_
  simp only [kU,SV.gu,List.map_cons,List.map_nil,if_true,if_false,reduceIte,dx,Nat.reduceEqDiff]
  refine SW.ret ?_
  exact End.mk [] (h4:=⟨by simp [eF],rfl⟩)
 ·have hl0:l=[]:=List.eq_nil_of_length_eq_zero h0
  subst hl0
  refine SW.au rfl (SW.seq ?_)
  (refine SW.ai [0,2,4] mixed ?_;(repeat (first | refine RW.ro U (h:= ?_) | refine RW.skip (h:= ?_) | refine RW.op U (h:= ?_) | refine RW.aF U (h:= ?_) | refine RW.ah (h:= ?_)));refine RW.nil ⟨by kernel_rfl,aa.mk (h:= ?_)⟩)
  refine SW.ay 2 rfl ?_
  refine SW.ret ?_
  exact End.mk [] (h4:=⟨rfl,rfl⟩)
theorem dB (l:List Nat)(hl:l.length≤1048576)(k:Nat):bp Try.prog slices_Clone_Luint32_uint32.f [eS l] [] k 0 (eS l) []:=(AG l hl).sc rfl k
theorem Ew (l:List Nat)(hl:l.length≤1048576):Go.Sl.Pure Try.prog claim_nums.f [eS l] (eS l):=by
 refine claim_nums.enter (by first | rfl | simp [SV.ok,SV.aI]) (by first | rfl | simp [Hp.ok,Ob.ok,SV.ok,SV.aI,aS.aj]) (by simp) ?_
 dsimp only [claim_nums.s,Co.M,Co.G,Co.J,Co.H,Co.N,Co.F,Co.C,Co.Z,Co.B,Co.b8,Co.aA,Co.bz,Co.i6,Co.z8,Co.dm]
 refine SW.seq ?_
 (refine SW.ai [0,2,3] mixed ?_;(repeat (first | refine RW.ro U (h:= ?_) | refine RW.skip (h:= ?_) | refine RW.op U (h:= ?_) | refine RW.aF U (h:= ?_) | refine RW.ah (h:= ?_)));refine RW.nil ⟨by kernel_rfl,aa.mk (h:= ?_)⟩)
 refine SW.seq ?_
 (refine SW.ai [0,2,3] mixed ?_;(repeat (first | refine RW.ro U (h:= ?_) | refine RW.skip (h:= ?_) | refine RW.op U (h:= ?_) | refine RW.aF U (h:= ?_) | refine RW.ah (h:= ?_)));refine RW.nil ⟨by kernel_rfl,aa.mk (h:= ?_)⟩)
 refine SW.seq ?_
 (refine SW.ai [0,2,3] mixed ?_;(repeat (first | refine RW.ro U (h:= ?_) | refine RW.skip (h:= ?_) | refine RW.op U (h:= ?_) | refine RW.aF U (h:= ?_) | refine RW.ah (h:= ?_)));refine RW.nil ⟨by kernel_rfl,aa.mk (h:= ?_)⟩)
 refine SW.seq ?_
 (refine SW.ai [0,2,3] mixed ?_;(repeat (first | refine RW.ro U (h:= ?_) | refine RW.skip (h:= ?_) | refine RW.op U (h:= ?_) | refine RW.aF U (h:= ?_) | refine RW.ah (h:= ?_)));refine RW.nil ⟨by kernel_rfl,aa.mk (h:= ?_)⟩)
 refine SW.freeze 0 (l.flatMap B9) rfl (by simp) ?_
 simp only [kU,SV.gu,List.map_cons,List.map_nil,if_true,if_false,reduceIte,dx,Nat.reduceEqDiff]
 refine SW.ret ?_
 exact End.mk [] (h4:=⟨by simp [eF],rfl⟩)
theorem vC (l:List Nat)(hl:l.length≤1048576)(k:Nat):bp Try.prog claim_nums.f [eS l] [] k 0 (eS l) []:=(Ew l hl).sc rfl k
abbrev hW (who:Nat):Hp:=[(0,.box 27 [.d (.int .u32 (who:Int))])]
theorem Ex (a who:Nat):SB Try.prog line_May_1.f [.d (.int .u32 (a:Int)),.ptr 0 0] (hW who) 1 0 fun r F=>r=bl (decide (a≠who))∧F=hW who:=by
 refine line_May_1.enter (by simp [SV.ok,SV.aI]) (by simp [Hp.ok,Ob.ok,SV.aI,SV.ok]) (by simp) ?_
 have e:((a:Int) != (who:Int))=decide (a≠who):=by rw [Bool.eq_iff_iff];simp;omega
 dsimp only [line_May_1.s,Co.M,Co.G,Co.J,Co.H,Co.N,Co.F,Co.C,Co.Z,Co.B,Co.b8,Co.aA,Co.bz,Co.i6,Co.z8,Co.dm]
 refine SW.seq ?_
 (refine SW.ai [0,1,3] mixed ?_;(repeat (first | refine RW.ro U (h:= ?_) | refine RW.skip (h:= ?_) | refine RW.op U (h:= ?_) | refine RW.aF U (h:= ?_) | refine RW.ah (h:= ?_)));refine RW.nil ⟨by kernel_rfl,aa.mk (h:= ?_)⟩)
 refine SW.seq ?_
 (refine SW.ai [0,1,3] mixed ?_;(repeat (first | refine RW.ro (e) (h:= ?_) | refine RW.skip (h:= ?_) | refine RW.op (e) (h:= ?_) | refine RW.aF (e) (h:= ?_) | refine RW.ah (h:= ?_)));refine RW.nil ⟨by kernel_rfl,aa.mk (h:= ?_)⟩)
 refine SW.ret ?_
 exact End.mk (hW who) (h4:=⟨rfl,rfl⟩) (h6:=by simp [Hp.ok,Ob.ok,SV.aI,SV.ok])
theorem Ey (a who k:Nat):bp Try.prog line_May_1.f [.d (.int .u32 (a:Int)),.ptr 0 0] (hW who) k 0 (bl (decide (a≠who))) (hW who):=by
 have:=SB.ej [0] (Ex a who) (by simp) (by simp [lk]) k
 simpa [SV.aV,SV.bh,Hp.aV,Ob.aV,iq] using this
def w_ (p:Nat→Bool)(l:List Nat):Int:=match l.findIdx? p with
 | some i=>i
 | none=> -1
theorem Ck {p:Nat→Bool}{l:List Nat}{i:Nat}{x:Nat}(h1:∀ y,y∈l.take i→p y=false)(h2:l[i]? =some x)(h3:p x=true):w_ p l=i:=by
 have:l.findIdx? p=some i:=by
  rw [List.findIdx?_eq_some_iff_getElem]
  obtain ⟨hi,e⟩:=List.getElem?_eq_some_iff.1 h2
  refine ⟨hi,by rw [e];exact h3,fun j hj=> ?_⟩
  have:=h1 l[j] (List.mem_take_iff_getElem.2 ⟨j,by omega,rfl⟩)
  simp [this]
 unfold w_;rw [this]
theorem AH {p:Nat→Bool}{l:List Nat}(h:∀ y,y∈l→p y=false):w_ p l= -1:=by
 have:l.findIdx? p=none:=by rw [List.findIdx?_eq_none_iff];exact h
 unfold w_;rw [this]
theorem Cl (p:Nat→Bool)(l:List Nat):decide (w_ p l≥0)=l.any p:=by
 unfold w_
 cases h:l.findIdx? p with
 | none=>
  have h1:=List.findIdx?_eq_none_iff.1 h
  have:l.any p=false:=by rw [List.any_eq_false];intro x hx;rw [h1 x hx];simp
  rw [this];rfl
 | some i=>
  obtain ⟨hi,h2,_⟩:=List.findIdx?_eq_some_iff_getElem.1 h
  have:l.any p=true:=by rw [List.any_eq_true];exact ⟨_,List.getElem_mem hi,h2⟩
  rw [this];simp
set_option maxHeartbeats 2000000 in
theorem Ez (l:List Nat)(hl:l.length≤1048576)(who:Nat):SB Try.prog slices_IndexFunc_Luint32_uint32.f [eS l,.fn (.func line_May_1.f) [] [.ptr 0 0]] (hW who) 1 0 fun r F=>r=i64 (w_ (fun a=>decide (a≠who)) l)∧F=hW who:=by
 refine slices_IndexFunc_Luint32_uint32.enter (by simp [SV.ok,SV.aI]) (by simp [Hp.ok,Ob.ok,SV.aI,SV.ok]) (by simp) ?_
 dsimp only [slices_IndexFunc_Luint32_uint32.s,Co.M,Co.G,Co.J,Co.H,Co.N,Co.F,Co.C,Co.Z,Co.B,Co.b8,Co.aA,Co.bz,Co.i6,Co.z8,Co.dm]
 refine SW.seq ?_
 (refine SW.ai [0,1,4,5,7,8,9,16] mixed ?_;(repeat (first | refine RW.ro U (h:= ?_) | refine RW.skip (h:= ?_) | refine RW.op U (h:= ?_) | refine RW.aF U (h:= ?_) | refine RW.ah (h:= ?_)));refine RW.nil ⟨by kernel_rfl,aa.mk (h:= ?_)⟩)
 refine SW.seq (SW.seq ?_)
 (refine SW.ai [0,1,4,5,7,8,9,16] mixed ?_;(repeat (first | refine RW.ro U (h:= ?_) | refine RW.skip (h:= ?_) | refine RW.op U (h:= ?_) | refine RW.aF U (h:= ?_) | refine RW.ah (h:= ?_)));refine RW.nil ⟨by kernel_rfl,aa.mk (h:= ?_)⟩)
 refine SW.block ?_
 refine SW.c8 (α:={i:Nat // i≤l.length∧∀ y,y∈l.take i→decide (y≠who)=false}) (fun i=>⟨[(8,i64 i.1),(7,i64 l.length),(0,eS l),(1,.fn (.func line_May_1.f) [] [.ptr 0 0])],hW who,1⟩) (fun i=>l.length - i.1) ⟨0,by omega,by simp⟩ id U (round:= ?_)
 rintro ⟨i,hi,hs⟩
 dsimp only
 refine SW.seq ?_
 by_cases h:i<l.length
 ·have h1:decide ((i:Int)<(l.length:Int))=true:=by simp only [decide_eq_true_eq];omega
  have e2:IntKind.i64.wrap ((i:Int)+1)=((i+1:Nat):Int):=wrap_i64 _ (by omega)
  obtain ⟨x,hx⟩:=aL h
  have hc:=fun k=>Ey x who k
  have hg:=eU hx
  (refine SW.ai [0,1,4,5,7,8,9,16] mixed ?_;(repeat (first | refine RW.ro (h1) (h:= ?_) | refine RW.skip (h:= ?_) | refine RW.op (h1) (h:= ?_) | refine RW.aF (h1) (h:= ?_) | refine RW.ah (h:= ?_)));refine RW.nil ⟨by kernel_rfl,aa.mk (h:= ?_)⟩)
  refine SW.seq (SW.au rfl (SW.skip ?_))
  refine SW.seq (SW.block (SW.seq ?_))
  (refine SW.ai [0,1,4,5,7,8,9,16] mixed ?_;(repeat (first | refine RW.ro U (h:= ?_) | refine RW.skip (h:= ?_) | refine RW.op U (h:= ?_) | refine RW.aF U (h:= ?_) | refine RW.ah (h:= ?_)));refine RW.nil ⟨by kernel_rfl,aa.mk (h:= ?_)⟩)
  refine SW.seq ?_
  rcases h0:decide (x≠who) with _ | _ <;> rw [h0] at hc
  ·(refine SW.ai [0,1,4,5,7,8,9,16] mixed ?_;(repeat (first | refine RW.ro (And.intro (h) (hg)) (h:= ?_) | refine RW.skip (h:= ?_) | refine RW.op (And.intro (h) (hg)) (h:= ?_) | refine RW.aF (And.intro (h) (hg)) (h:= ?_) | refine RW.ah (h:= ?_) | (refine RW.ax (h:= ?_);(first | refine af.mk (And.intro (h) (hg)) (hc:=hc _) (h:= ?_)))));refine RW.nil ⟨by kernel_rfl,aa.mk (h:= ?_)⟩)
   refine SW.ak rfl (SW.skip ?_)
   (refine SW.ai [0,1,4,5,7,8,9,16] mixed ?_;(repeat (first | refine RW.ro (e2) (h:= ?_) | refine RW.skip (h:= ?_) | refine RW.op (e2) (h:= ?_) | refine RW.aF (e2) (h:= ?_) | refine RW.ah (h:= ?_)));refine RW.nil ⟨by kernel_rfl,aa.mk (h:= ?_)⟩)
   refine ⟨⟨i+1,by omega,fun y hy=> ?_⟩,id,by show l.length - (i+1)<l.length - i;omega,?_⟩
   ·rw [bQ hx,List.mem_append,List.mem_singleton] at hy
    exact hy.elim (hs y) fun e=>by rw [e];exact h0
   ·exact bg.mk U
  ·rw [Ck hs hx h0]
   (refine SW.ai [0,1,4,5,7,8,9,16] mixed ?_;(repeat (first | refine RW.ro (And.intro (h) (hg)) (h:= ?_) | refine RW.skip (h:= ?_) | refine RW.op (And.intro (h) (hg)) (h:= ?_) | refine RW.aF (And.intro (h) (hg)) (h:= ?_) | refine RW.ah (h:= ?_) | (refine RW.ax (h:= ?_);(first | refine af.mk (And.intro (h) (hg)) (hc:=hc _) (h:= ?_)))));refine RW.nil ⟨by kernel_rfl,aa.mk (h:= ?_)⟩)
   refine SW.au rfl (SW.seq ?_)
   (refine SW.ai [0,1,4,5,7,8,9,16] mixed ?_;(repeat (first | refine RW.ro U (h:= ?_) | refine RW.skip (h:= ?_) | refine RW.op U (h:= ?_) | refine RW.aF U (h:= ?_) | refine RW.ah (h:= ?_)));refine RW.nil ⟨by kernel_rfl,aa.mk (h:= ?_)⟩)
   refine SW.ret ?_
   exact End.mk (hW who) (h4:=⟨rfl,rfl⟩) (h6:=by simp [Hp.ok,Ob.ok,SV.aI,SV.ok])
 have h1:decide ((i:Int)<(l.length:Int))=false:=by simp only [decide_eq_false_iff_not];omega
 have hi2:i=l.length:=by omega
 subst hi2
 rw [List.take_length] at hs
 rw [AH hs]
 (refine SW.ai [0,1,4,5,7,8,9,16] mixed ?_;(repeat (first | refine RW.ro (h1) (h:= ?_) | refine RW.skip (h:= ?_) | refine RW.op (h1) (h:= ?_) | refine RW.aF (h1) (h:= ?_) | refine RW.ah (h:= ?_)));refine RW.nil ⟨by kernel_rfl,aa.mk (h:= ?_)⟩)
 refine SW.seq (SW.ak rfl (SW.exit (SW.seq ?_)))
 (refine SW.ai [0,1,4,5,7,8,9,16] mixed ?_;(repeat (first | refine RW.ro U (h:= ?_) | refine RW.skip (h:= ?_) | refine RW.op U (h:= ?_) | refine RW.aF U (h:= ?_) | refine RW.ah (h:= ?_)));refine RW.nil ⟨by kernel_rfl,aa.mk (h:= ?_)⟩)
 refine SW.ret ?_
 exact End.mk (hW who) (h4:=⟨rfl,rfl⟩) (h6:=by simp [Hp.ok,Ob.ok,SV.aI,SV.ok])
theorem EA (l:List Nat)(hl:l.length≤1048576)(who q k:Nat):bp Try.prog slices_IndexFunc_Luint32_uint32.f [eS l,.fn (.func line_May_1.f) [] [.ptr q 0]] [(q,.box 27 [.d (.int .u32 (who:Int))])] k 0 (i64 (w_ (fun a=>decide (a≠who)) l)) [(q,.box 27 [.d (.int .u32 (who:Int))])]:=by
 have:=SB.ej [q] (Ez l hl who) (by simp) (by simp [lk]) k
 simpa [SV.aV,SV.bh,Hp.aV,Ob.aV,iq] using this
theorem Cn (l:List Nat)(hl:l.length≤1048576)(who:Nat):SB Try.prog slices_ContainsFunc_Luint32_uint32.f [eS l,.fn (.func line_May_1.f) [] [.ptr 0 0]] (hW who) 1 0 fun r F=>r=bl (l.any fun a=>decide (a≠who))∧F=hW who:=by
 refine slices_ContainsFunc_Luint32_uint32.enter (by simp [SV.ok,SV.aI]) (by simp [Hp.ok,Ob.ok,SV.aI,SV.ok]) (by simp) ?_
 rw [← Cl]
 have c1:=fun k=>EA l hl who 0 k
 dsimp only [slices_ContainsFunc_Luint32_uint32.s,Co.M,Co.G,Co.J,Co.H,Co.N,Co.F,Co.C,Co.Z,Co.B,Co.b8,Co.aA,Co.bz,Co.i6,Co.z8,Co.dm]
 refine SW.seq ?_
 (refine SW.ai [0,1,4] mixed ?_;(repeat (first | refine RW.ro U (h:= ?_) | refine RW.skip (h:= ?_) | refine RW.op U (h:= ?_) | refine RW.aF U (h:= ?_) | refine RW.ah (h:= ?_)));refine RW.nil ⟨by kernel_rfl,aa.mk (h:= ?_)⟩)
 refine SW.seq ?_
 (refine SW.ai [0,1,4] mixed ?_;(repeat (first | refine RW.ro U (h:= ?_) | refine RW.skip (h:= ?_) | refine RW.op U (h:= ?_) | refine RW.aF U (h:= ?_) | refine RW.ah (h:= ?_) | (refine RW.ax (h:= ?_);(first | refine af.mk U (hc:=c1 _) (h:= ?_)))));refine RW.nil ⟨by kernel_rfl,aa.mk (h:= ?_)⟩)
 refine SW.ret ?_
 exact End.mk (hW who) (h4:=⟨rfl,rfl⟩) (h6:=by simp [Hp.ok,Ob.ok,SV.aI,SV.ok])
theorem Cp (l:List Nat)(hl:l.length≤1048576)(who q k:Nat):bp Try.prog slices_ContainsFunc_Luint32_uint32.f [eS l,.fn (.func line_May_1.f) [] [.ptr q 0]] [(q,.box 27 [.d (.int .u32 (who:Int))])] k 0 (bl (l.any fun a=>decide (a≠who))) [(q,.box 27 [.d (.int .u32 (who:Int))])]:=by
 have:=SB.ej [q] (Cn l hl who) (by simp) (by simp [lk]) k
 simpa [SV.aV,SV.bh,Hp.aV,Ob.aV,iq] using this
theorem AI (l m:List Nat)(hl:l.length≤1048576)(hm:m.length≤1048576):Go.Sl.Pure Try.prog ref21_sameNums.f [eS l,eS m] (bl (decide (l=m))):=by
 refine ref21_sameNums.enter (by first | rfl | simp [SV.ok,SV.aI]) (by first | rfl | simp [Hp.ok,Ob.ok,SV.ok,SV.aI,aS.aj]) (by simp) ?_
 dsimp only [ref21_sameNums.s,Co.M,Co.G,Co.J,Co.H,Co.N,Co.F,Co.C,Co.Z,Co.B,Co.b8,Co.aA,Co.bz,Co.i6,Co.z8,Co.dm]
 by_cases hn:l.length=m.length
 ·have h0:(((l.length:Nat):Int) != ((m.length:Nat):Int))=false:=by simp;omega
  (repeat (first | refine SW.seq ?_ | refine SW.block ?_ | (refine SW.ai [0,1,4,5,10,14,25] mixed ?_;(repeat (first | refine RW.ro (h0) (h:= ?_) | refine RW.skip (h:= ?_) | refine RW.op (h0) (h:= ?_) | refine RW.aF (h0) (h:= ?_) | refine RW.ah (h:= ?_)));refine RW.nil ⟨by kernel_rfl,aa.mk (h:= ?_)⟩) | refine SW.skip ?_ | refine SW.exit ?_ | refine SW.ret ?_ | refine SW.au rfl ?_ | refine SW.ak rfl ?_))
  refine SW.c8 (α:={i:Nat // i≤l.length∧∀ j,j<i→l[j]? =m[j]?}) (fun i=>⟨[(5,i64 i.1),(0,eS l),(1,eS m)],[],0⟩) (fun i=>l.length - i.1) ⟨0,by omega,by omega⟩ id U (round:= ?_)
  rintro ⟨i,hi,hs⟩
  by_cases h:i<l.length
  ·have h1:decide ((i:Int)<l.length)=true:=by simp only [decide_eq_true_eq];omega
   obtain ⟨x,hx⟩:=aL h
   obtain ⟨y,hy⟩:=aL (show i<m.length by omega)
   have e2:IntKind.i64.wrap ((i:Int)+1)=((i+1:Nat):Int):=wrap_i64 _ (by omega)
   by_cases he:x=y
   ·have e3:((x:Int) != (y:Int))=false:=by simp [he]
    (repeat (first | refine SW.seq ?_ | refine SW.block ?_ | (have fx:=(And.intro (h1) (And.intro (eU hx) (And.intro (eU hy) (And.intro (e2) (e3)))));refine SW.ai [0,1,4,5,10,14,25] mixed ?_;(repeat (first | refine RW.ro fx (h:= ?_) | refine RW.skip (h:= ?_) | refine RW.op fx (h:= ?_) | refine RW.aF fx (h:= ?_) | refine RW.ah (h:= ?_)));refine RW.nil ⟨by kernel_rfl,aa.mk (h:= ?_)⟩) | refine SW.skip ?_ | refine SW.exit ?_ | refine SW.ret ?_ | refine SW.au rfl ?_ | refine SW.ak rfl ?_))
    refine Next.mk ⟨i+1,by omega,fun j hj=> ?_⟩ id U
    by_cases e:j=i
    ·rw [e,hx,hy,he]
    ·exact hs j (by omega)
   ·have e3:((x:Int) != (y:Int))=true:=by simp;omega
    (repeat (first | refine SW.seq ?_ | refine SW.block ?_ | (have fx:=(And.intro (h1) (And.intro (eU hx) (And.intro (eU hy) (And.intro (e2) (e3)))));refine SW.ai [0,1,4,5,10,14,25] mixed ?_;(repeat (first | refine RW.ro fx (h:= ?_) | refine RW.skip (h:= ?_) | refine RW.op fx (h:= ?_) | refine RW.aF fx (h:= ?_) | refine RW.ah (h:= ?_)));refine RW.nil ⟨by kernel_rfl,aa.mk (h:= ?_)⟩) | refine SW.skip ?_ | refine SW.exit ?_ | refine SW.ret ?_ | refine SW.au rfl ?_ | refine SW.ak rfl ?_))
    have:l≠m:=fun e=>by rw [e,hy] at hx;injection hx with hx;exact he hx.symm
    exact End.mk [] (h4:=⟨by simp [eF,this],rfl⟩)
  ·have h1:decide ((i:Int)<l.length)=false:=by simp only [decide_eq_false_iff_not];omega
   (repeat (first | refine SW.seq ?_ | refine SW.block ?_ | (refine SW.ai [0,1,4,5,10,14,25] mixed ?_;(repeat (first | refine RW.ro (h1) (h:= ?_) | refine RW.skip (h:= ?_) | refine RW.op (h1) (h:= ?_) | refine RW.aF (h1) (h:= ?_) | refine RW.ah (h:= ?_)));refine RW.nil ⟨by kernel_rfl,aa.mk (h:= ?_)⟩) | refine SW.skip ?_ | refine SW.exit ?_ | refine SW.ret ?_ | refine SW.au rfl ?_ | refine SW.ak rfl ?_))
   have:l=m:=oO hn fun j hj=>hs j (by omega)
   exact End.mk [] (h4:=⟨by simp [eF,this],rfl⟩)
 ·have h0:(((l.length:Nat):Int) != ((m.length:Nat):Int))=true:=by simp;omega
  (repeat (first | refine SW.seq ?_ | refine SW.block ?_ | (refine SW.ai [0,1,4,5,10,14,25] mixed ?_;(repeat (first | refine RW.ro (h0) (h:= ?_) | refine RW.skip (h:= ?_) | refine RW.op (h0) (h:= ?_) | refine RW.aF (h0) (h:= ?_) | refine RW.ah (h:= ?_)));refine RW.nil ⟨by kernel_rfl,aa.mk (h:= ?_)⟩) | refine SW.skip ?_ | refine SW.exit ?_ | refine SW.ret ?_ | refine SW.au rfl ?_ | refine SW.ak rfl ?_))
  have:l≠m:=fun e=>hn (by rw [e])
  exact End.mk [] (h4:=⟨by simp [eF,this],rfl⟩)
theorem uE (l m:List Nat)(hl:l.length≤1048576)(hm:m.length≤1048576)(k:Nat):bp Try.prog ref21_sameNums.f [eS l,eS m] [] k 0 (bl (decide (l=m))) []:=(AI l m hl hm).sc rfl k
theorem AJ (l m:List Nat)(hl:l.length≤1048576)(hm:m.length≤1048576):Go.Sl.Pure Try.prog ref23_sameNums.f [eS l,eS m] (bl (decide (l=m))):=by
 refine ref23_sameNums.enter (by first | rfl | simp [SV.ok,SV.aI]) (by first | rfl | simp [Hp.ok,Ob.ok,SV.ok,SV.aI,aS.aj]) (by simp) ?_
 dsimp only [ref23_sameNums.s,Co.M,Co.G,Co.J,Co.H,Co.N,Co.F,Co.C,Co.Z,Co.B,Co.b8,Co.aA,Co.bz,Co.i6,Co.z8,Co.dm]
 by_cases hn:l.length=m.length
 ·have h0:(((l.length:Nat):Int) != ((m.length:Nat):Int))=false:=by simp;omega
  (repeat (first | refine SW.seq ?_ | refine SW.block ?_ | (refine SW.ai [0,1,4,5,10,14,25] mixed ?_;(repeat (first | refine RW.ro (h0) (h:= ?_) | refine RW.skip (h:= ?_) | refine RW.op (h0) (h:= ?_) | refine RW.aF (h0) (h:= ?_) | refine RW.ah (h:= ?_)));refine RW.nil ⟨by kernel_rfl,aa.mk (h:= ?_)⟩) | refine SW.skip ?_ | refine SW.exit ?_ | refine SW.ret ?_ | refine SW.au rfl ?_ | refine SW.ak rfl ?_))
  refine SW.c8 (α:={i:Nat // i≤l.length∧∀ j,j<i→l[j]? =m[j]?}) (fun i=>⟨[(5,i64 i.1),(0,eS l),(1,eS m)],[],0⟩) (fun i=>l.length - i.1) ⟨0,by omega,by omega⟩ id U (round:= ?_)
  rintro ⟨i,hi,hs⟩
  by_cases h:i<l.length
  ·have h1:decide ((i:Int)<l.length)=true:=by simp only [decide_eq_true_eq];omega
   obtain ⟨x,hx⟩:=aL h
   obtain ⟨y,hy⟩:=aL (show i<m.length by omega)
   have e2:IntKind.i64.wrap ((i:Int)+1)=((i+1:Nat):Int):=wrap_i64 _ (by omega)
   by_cases he:x=y
   ·have e3:((x:Int) != (y:Int))=false:=by simp [he]
    (repeat (first | refine SW.seq ?_ | refine SW.block ?_ | (have fx:=(And.intro (h1) (And.intro (eU hx) (And.intro (eU hy) (And.intro (e2) (e3)))));refine SW.ai [0,1,4,5,10,14,25] mixed ?_;(repeat (first | refine RW.ro fx (h:= ?_) | refine RW.skip (h:= ?_) | refine RW.op fx (h:= ?_) | refine RW.aF fx (h:= ?_) | refine RW.ah (h:= ?_)));refine RW.nil ⟨by kernel_rfl,aa.mk (h:= ?_)⟩) | refine SW.skip ?_ | refine SW.exit ?_ | refine SW.ret ?_ | refine SW.au rfl ?_ | refine SW.ak rfl ?_))
    refine Next.mk ⟨i+1,by omega,fun j hj=> ?_⟩ id U
    by_cases e:j=i
    ·rw [e,hx,hy,he]
    ·exact hs j (by omega)
   ·have e3:((x:Int) != (y:Int))=true:=by simp;omega
    (repeat (first | refine SW.seq ?_ | refine SW.block ?_ | (have fx:=(And.intro (h1) (And.intro (eU hx) (And.intro (eU hy) (And.intro (e2) (e3)))));refine SW.ai [0,1,4,5,10,14,25] mixed ?_;(repeat (first | refine RW.ro fx (h:= ?_) | refine RW.skip (h:= ?_) | refine RW.op fx (h:= ?_) | refine RW.aF fx (h:= ?_) | refine RW.ah (h:= ?_)));refine RW.nil ⟨by kernel_rfl,aa.mk (h:= ?_)⟩) | refine SW.skip ?_ | refine SW.exit ?_ | refine SW.ret ?_ | refine SW.au rfl ?_ | refine SW.ak rfl ?_))
    have:l≠m:=fun e=>by rw [e,hy] at hx;injection hx with hx;exact he hx.symm
    exact End.mk [] (h4:=⟨by simp [eF,this],rfl⟩)
  ·have h1:decide ((i:Int)<l.length)=false:=by simp only [decide_eq_false_iff_not];omega
   (repeat (first | refine SW.seq ?_ | refine SW.block ?_ | (refine SW.ai [0,1,4,5,10,14,25] mixed ?_;(repeat (first | refine RW.ro (h1) (h:= ?_) | refine RW.skip (h:= ?_) | refine RW.op (h1) (h:= ?_) | refine RW.aF (h1) (h:= ?_) | refine RW.ah (h:= ?_)));refine RW.nil ⟨by kernel_rfl,aa.mk (h:= ?_)⟩) | refine SW.skip ?_ | refine SW.exit ?_ | refine SW.ret ?_ | refine SW.au rfl ?_ | refine SW.ak rfl ?_))
   have:l=m:=oO hn fun j hj=>hs j (by omega)
   exact End.mk [] (h4:=⟨by simp [eF,this],rfl⟩)
 ·have h0:(((l.length:Nat):Int) != ((m.length:Nat):Int))=true:=by simp;omega
  (repeat (first | refine SW.seq ?_ | refine SW.block ?_ | (refine SW.ai [0,1,4,5,10,14,25] mixed ?_;(repeat (first | refine RW.ro (h0) (h:= ?_) | refine RW.skip (h:= ?_) | refine RW.op (h0) (h:= ?_) | refine RW.aF (h0) (h:= ?_) | refine RW.ah (h:= ?_)));refine RW.nil ⟨by kernel_rfl,aa.mk (h:= ?_)⟩) | refine SW.skip ?_ | refine SW.exit ?_ | refine SW.ret ?_ | refine SW.au rfl ?_ | refine SW.ak rfl ?_))
  have:l≠m:=fun e=>hn (by rw [e])
  exact End.mk [] (h4:=⟨by simp [eF,this],rfl⟩)
theorem AK (l m:List Nat)(hl:l.length≤1048576)(hm:m.length≤1048576)(k:Nat):bp Try.prog ref23_sameNums.f [eS l,eS m] [] k 0 (bl (decide (l=m))) []:=(AJ l m hl hm).sc rfl k
def nc (l:List Nat):Bool:=(List.range (l.length - 1)).all fun i=>decide ((l[i]?).getD 0<(l[i+1]?).getD 0)
set_option maxHeartbeats 2000000 in
theorem yL (l:List Nat)(hl:l.length≤4611686018427387904):Go.Sl.Pure Try.prog ref21_rises.f [eS l] (bl (nc l)):=by
 refine ref21_rises.enter (by first | rfl | simp [SV.ok,SV.aI]) (by first | rfl | simp [Hp.ok,Ob.ok,SV.ok,SV.aI,aS.aj]) (by simp) ?_
 dsimp only [ref21_rises.s,Co.M,Co.G,Co.J,Co.H,Co.N,Co.F,Co.C,Co.Z,Co.B,Co.b8,Co.aA,Co.bz,Co.i6,Co.z8,Co.dm]
 (repeat (first | refine SW.seq ?_ | refine SW.block ?_ | (refine SW.ai [0,2,3,7,19] mixed ?_;(repeat (first | refine RW.ro U (h:= ?_) | refine RW.skip (h:= ?_) | refine RW.op U (h:= ?_) | refine RW.aF U (h:= ?_) | refine RW.ah (h:= ?_)));refine RW.nil ⟨by kernel_rfl,aa.mk (h:= ?_)⟩) | refine SW.skip ?_ | refine SW.exit ?_ | refine SW.ret ?_ | refine SW.au rfl ?_ | refine SW.ak rfl ?_))
 refine SW.c8 (α:={i:Nat // 1≤i∧i≤max 1 l.length∧∀ j,j+1<i→(l[j]?).getD 0<(l[j+1]?).getD 0}) (fun i=>⟨[(3,i64 i.1),(0,eS l)],[],0⟩) (fun i=>l.length - i.1) ⟨1,by omega,by omega,by omega⟩ id U (round:= ?_)
 rintro ⟨i,hi1,hi,hs⟩
 by_cases h:i<l.length
 ·have h1:decide ((i:Int)<l.length)=true:=by simp only [decide_eq_true_eq];omega
  obtain ⟨p,rfl⟩:∃ p,i=p+1:=⟨i - 1,by omega⟩
  obtain ⟨x,hx⟩:=aL (show p<l.length by omega)
  obtain ⟨y,hy⟩:=aL h
  have e0:IntKind.i64.wrap (((p+1:Nat):Int) - 1)=(p:Int):=by rw [show ((p+1:Nat):Int) - 1=(p:Int) by omega];exact wrap_i64 _ (by omega)
  have e2:IntKind.i64.wrap (((p+1:Nat):Int)+1)=((p+1+1:Nat):Int):=wrap_i64 _ (by omega)
  by_cases he:x<y
  ·have e3:decide ((x:Int)≥(y:Int))=false:=by simp only [decide_eq_false_iff_not];omega
   (repeat (first | refine SW.seq ?_ | refine SW.block ?_ | (have fx:=(And.intro (h1) (And.intro (e0) (And.intro (eU hx) (And.intro (eU hy) (And.intro (e2) (e3))))));refine SW.ai [0,2,3,7,19] mixed ?_;(repeat (first | refine RW.ro fx (h:= ?_) | refine RW.skip (h:= ?_) | refine RW.op fx (h:= ?_) | refine RW.aF fx (h:= ?_) | refine RW.ah (h:= ?_)));refine RW.nil ⟨by kernel_rfl,aa.mk (h:= ?_)⟩) | refine SW.skip ?_ | refine SW.exit ?_ | refine SW.ret ?_ | refine SW.au rfl ?_ | refine SW.ak rfl ?_))
   refine Next.mk ⟨p+1+1,by omega,by omega,fun j hj=> ?_⟩ id U
   by_cases e:j=p
   ·rw [e,hx,hy];exact he
   ·exact hs j (by omega)
  ·have e3:decide ((x:Int)≥(y:Int))=true:=by simp only [decide_eq_true_eq];omega
   (repeat (first | refine SW.seq ?_ | refine SW.block ?_ | (have fx:=(And.intro (h1) (And.intro (e0) (And.intro (eU hx) (And.intro (eU hy) (And.intro (e2) (e3))))));refine SW.ai [0,2,3,7,19] mixed ?_;(repeat (first | refine RW.ro fx (h:= ?_) | refine RW.skip (h:= ?_) | refine RW.op fx (h:= ?_) | refine RW.aF fx (h:= ?_) | refine RW.ah (h:= ?_)));refine RW.nil ⟨by kernel_rfl,aa.mk (h:= ?_)⟩) | refine SW.skip ?_ | refine SW.exit ?_ | refine SW.ret ?_ | refine SW.au rfl ?_ | refine SW.ak rfl ?_))
   have:nc l=false:=by
    unfold nc
    rw [List.all_eq_false]
    refine ⟨p,List.mem_range.2 (by omega),?_⟩
    rw [hx,hy]
    simpa using he
   exact End.mk [] (h4:=⟨by simp [eF,this],rfl⟩)
 ·have h1:decide ((i:Int)<l.length)=false:=by simp only [decide_eq_false_iff_not];omega
  (repeat (first | refine SW.seq ?_ | refine SW.block ?_ | (refine SW.ai [0,2,3,7,19] mixed ?_;(repeat (first | refine RW.ro (h1) (h:= ?_) | refine RW.skip (h:= ?_) | refine RW.op (h1) (h:= ?_) | refine RW.aF (h1) (h:= ?_) | refine RW.ah (h:= ?_)));refine RW.nil ⟨by kernel_rfl,aa.mk (h:= ?_)⟩) | refine SW.skip ?_ | refine SW.exit ?_ | refine SW.ret ?_ | refine SW.au rfl ?_ | refine SW.ak rfl ?_))
  have:nc l=true:=by
   unfold nc
   rw [List.all_eq_true]
   intro j hj
   have:=List.mem_range.1 hj
   simpa using hs j (by omega)
  exact End.mk [] (h4:=⟨by simp [eF,this],rfl⟩)
theorem sQ (l:List Nat)(hl:l.length≤4611686018427387904)(k:Nat):bp Try.prog ref21_rises.f [eS l] [] k 0 (bl (nc l)) []:=(yL l hl).sc rfl k
end
section
attribute [local irreducible] SW RW bp SC af aa
structure lW (x:av):Prop where
 ap:x.ap.length≤1048576
 re:x.re.length≤1048576
abbrev Ji:List SV:=[.d (.int .u8 0),.d (.int .u32 0),.d (.int .u32 0),.d (.int .u32 0),.d (.int .u32 0),.d (.int .u8 0),.d (.int .u32 0),.d .ay,.d .ay,.d (.int .u8 0)]
theorem yM (x:av):bE [.d (.int .u8 0),.d (.int .u32 0),.d (.int .u32 0),.d (.int .u32 0),.d (.int .u32 0),.d (.int .u8 0),.d (.int .u32 0),.d .ay,.d .ay,.d (.int .u8 0)] 0 x.cells=x.cells:=rfl
theorem GI (x:av):bE x.cells 9 [.d (.int .u8 2)]=x.gi.cells:=rfl
theorem uF (q p:Nat):IntKind.u64.wrap (IntKind.u64.wrap (q:Int)*IntKind.u64.wrap (p:Int))=((q*p % 18446744073709551616:Nat):Int):=by
 have h:∀ n:Nat,IntKind.u64.wrap (n:Int)=((n % 18446744073709551616:Nat):Int):=fun n=>rfl
 rw [h q,h p,← Int.natCast_mul,h,← Nat.mul_mod]
theorem Cq (x:av):Go.Sl.Pure Try.prog line_Total.f [.agg x.cells] (.d (.int .u64 ((x.kn*x.cu % 18446744073709551616:Nat):Int))):=by
 refine line_Total.enter (by first | rfl | simp [SV.ok,SV.aI]) (by first | rfl | simp [Hp.ok,Ob.ok,SV.ok,SV.aI,aS.aj]) (by simp) ?_
 dsimp only [line_Total.s,Co.M,Co.G,Co.J,Co.H,Co.N,Co.F,Co.C,Co.Z,Co.B,Co.b8,Co.aA,Co.bz,Co.i6,Co.z8,Co.dm]
 have e:=uF x.kn x.cu
 refine SW.seq ?_
 (refine SW.ai [0,1,2] mixed ?_;(repeat (first | refine RW.ro U (h:= ?_) | refine RW.skip (h:= ?_) | refine RW.op U (h:= ?_) | refine RW.aF U (h:= ?_) | refine RW.ah (h:= ?_)));refine RW.nil ⟨by kernel_rfl,aa.mk (h:= ?_)⟩)
 refine SW.seq ?_
 (have fx:=(And.intro (x.m_) (And.intro (x.gh) (e)));refine SW.ai [0,1,2] mixed ?_;(repeat (first | refine RW.ro fx (h:= ?_) | refine RW.skip (h:= ?_) | refine RW.op fx (h:= ?_) | refine RW.aF fx (h:= ?_) | refine RW.ah (h:= ?_)));refine RW.nil ⟨by kernel_rfl,aa.mk (h:= ?_)⟩)
 refine SW.ret ?_
 exact End.mk [] (h4:=⟨rfl,rfl⟩)
theorem yN (x:av)(h:lW x):Go.Sl.Pure Try.prog line_copied.f [.agg x.cells] (.agg x.cells):=by
 have h1:=h.ap
 have h2:=h.re
 refine line_copied.enter (by first | rfl | simp [SV.ok,SV.aI]) (by first | rfl | simp [Hp.ok,Ob.ok,SV.ok,SV.aI,aS.aj]) (by simp) ?_
 dsimp only [line_copied.s,Co.M,Co.G,Co.J,Co.H,Co.N,Co.F,Co.C,Co.Z,Co.B,Co.b8,Co.aA,Co.bz,Co.i6,Co.z8,Co.dm]
 refine SW.seq ?_
 (refine SW.ai [0,1,2] mixed ?_;(repeat (first | refine RW.ro U (h:= ?_) | refine RW.skip (h:= ?_) | refine RW.op U (h:= ?_) | refine RW.aF U (h:= ?_) | refine RW.ah (h:= ?_) | (refine RW.ax (h:= ?_);(first | refine af.mk U (hc:=dB _ (by assumption) _) (h:= ?_)))));refine RW.nil ⟨by kernel_rfl,aa.mk (h:= ?_)⟩)
 refine SW.seq ?_
 (have fx:=(And.intro (x.Fu) (x.Fv));refine SW.ai [0,1,2] mixed ?_;(repeat (first | refine RW.ro fx (h:= ?_) | refine RW.skip (h:= ?_) | refine RW.op fx (h:= ?_) | refine RW.aF fx (h:= ?_) | refine RW.ah (h:= ?_) | (refine RW.ax (h:= ?_);(first | refine af.mk fx (hc:=dB x.ap h1 _) (h:= ?_) | refine af.mk fx (hc:=dB x.re h2 _) (h:= ?_)))));refine RW.nil ⟨by kernel_rfl,aa.mk (h:= ?_)⟩)
 refine SW.seq ?_
 (refine SW.ai [0,1,2] mixed ?_;(repeat (first | refine RW.ro (yM) (h:= ?_) | refine RW.skip (h:= ?_) | refine RW.op (yM) (h:= ?_) | refine RW.aF (yM) (h:= ?_) | refine RW.ah (h:= ?_) | (refine RW.ax (h:= ?_);(first | refine af.mk (yM) (hc:=dB x.ap h1 _) (h:= ?_) | refine af.mk (yM) (hc:=dB x.re h2 _) (h:= ?_)))));refine RW.nil ⟨by kernel_rfl,aa.mk (h:= ?_)⟩)
 refine SW.ret ?_
 exact End.mk [] (h4:=⟨rfl,rfl⟩)
theorem yO (x:av)(h:lW x)(k:Nat):bp Try.prog line_copied.f [.agg x.cells] [] k 0 (.agg x.cells) []:=(yN x h).sc (by simp [SV.ok]) k
theorem Ct (x:av)(k:Nat):bp Try.prog line_Total.f [.agg x.cells] [] k 0 (.d (.int .u64 ((x.kn*x.cu % 18446744073709551616:Nat):Int))) []:=(Cq x).sc rfl k
theorem EB (x:av)(h:lW x)(v:Dt)(who:Nat):Go.Sl.Pure Try.prog line_May.f [.agg x.cells,.agg v.cells,.d (.int .u32 (who:Int))] (bl (iW x v who)):=by
 have h1:=h.ap
 refine line_May.enter (by first | rfl | simp [SV.ok,SV.aI]) (by first | rfl | simp [Hp.ok,Ob.ok,SV.ok,SV.aI,aS.aj]) (by simp) ?_
 dsimp only [line_May.s,Co.M,Co.G,Co.J,Co.H,Co.N,Co.F,Co.C,Co.Z,Co.B,Co.b8,Co.aA,Co.bz,Co.i6,Co.z8,Co.dm]
 refine SW.seq ?_
 (refine SW.ai [0,1,2,3,4,5,6] mixed ?_;(repeat (first | refine RW.ro U (h:= ?_) | refine RW.skip (h:= ?_) | refine RW.op U (h:= ?_) | refine RW.aF U (h:= ?_) | refine RW.ah (h:= ?_) | (refine RW.ax (h:= ?_);(first | refine af.mk U (hc:=dB x.ap h1 _) (h:= ?_) | refine af.mk U (hc:=dB x.re h2 _) (h:= ?_)))));refine RW.nil ⟨by kernel_rfl,aa.mk (h:= ?_)⟩)
 have c1:=fun k=>Cp x.ap h1 who 2 k
 have m0:iW x v who=(decide (x.st=0) && (decide (x.iU=v) && (decide (x.re=[]) && x.ap.any fun a=>decide (a≠who)))):=by
  unfold iW;simp only [Bool.and_assoc]
 rw [m0]
 rcases q1:decide (x.st=0) with _ | _
 ·have u1:((x.st:Int) == 0)=false:=by simpa using q1
  refine SW.seq ?_
  (refine SW.ai [0,1,2,3,4,5,6] mixed ?_;(repeat (first | refine RW.ro (u1) (h:= ?_) | refine RW.skip (h:= ?_) | refine RW.op (u1) (h:= ?_) | refine RW.aF (u1) (h:= ?_) | refine RW.ah (h:= ?_) | (refine RW.ax (h:= ?_);(first | refine af.mk (u1) (hc:=dB x.ap h1 _) (h:= ?_) | refine af.mk (u1) (hc:=dB x.re h2 _) (h:= ?_)))));refine RW.nil ⟨by kernel_rfl,aa.mk (h:= ?_)⟩)
  refine SW.ret ?_
  exact End.mk [] (h4:=⟨rfl,rfl⟩)
 have u1:((x.st:Int) == 0)=true:=by simpa using q1
 rcases q2:decide (x.iU=v) with _ | _
 ·refine SW.seq ?_
  (refine SW.ai [0,1,2,3,4,5,6] mixed ?_;(repeat (first | refine RW.ro (And.intro (u1) (q2)) (h:= ?_) | refine RW.skip (h:= ?_) | refine RW.op (And.intro (u1) (q2)) (h:= ?_) | refine RW.aF (And.intro (u1) (q2)) (h:= ?_) | refine RW.ah (h:= ?_) | (refine RW.ax (h:= ?_);(first | refine af.mk (And.intro (u1) (q2)) (hc:=dB x.ap h1 _) (h:= ?_) | refine af.mk (And.intro (u1) (q2)) (hc:=dB x.re h2 _) (h:= ?_)))));refine RW.nil ⟨by kernel_rfl,aa.mk (h:= ?_)⟩)
  refine SW.ret ?_
  exact End.mk [] (h4:=⟨rfl,rfl⟩)
 have hre:decide (x.re=[])=((x.re.length:Int) == 0):=by
  rw [Bool.eq_iff_iff];simp
 rw [hre]
 rcases q3:((x.re.length:Int) == 0) with _ | _
 ·refine SW.seq ?_
  (have fx:=(And.intro (u1) (And.intro (q2) (q3)));refine SW.ai [0,1,2,3,4,5,6] mixed ?_;(repeat (first | refine RW.ro fx (h:= ?_) | refine RW.skip (h:= ?_) | refine RW.op fx (h:= ?_) | refine RW.aF fx (h:= ?_) | refine RW.ah (h:= ?_) | (refine RW.ax (h:= ?_);(first | refine af.mk fx (hc:=dB x.ap h1 _) (h:= ?_) | refine af.mk fx (hc:=dB x.re h2 _) (h:= ?_)))));refine RW.nil ⟨by kernel_rfl,aa.mk (h:= ?_)⟩)
  refine SW.ret ?_
  exact End.mk [] (h4:=⟨rfl,rfl⟩)
 refine SW.seq ?_
 rcases q4:(x.ap.any fun a=>decide (a≠who)) with _ | _ <;> rw [q4] at c1
 ·(have fx:=(And.intro (u1) (And.intro (q2) (q3)));refine SW.ai [0,1,2,3,4,5,6] mixed ?_;(repeat (first | refine RW.ro fx (h:= ?_) | refine RW.skip (h:= ?_) | refine RW.op fx (h:= ?_) | refine RW.aF fx (h:= ?_) | refine RW.ah (h:= ?_) | (refine RW.ax (h:= ?_);(first | refine af.mk fx (hc:=c1 _) (h:= ?_)))));refine RW.nil ⟨by kernel_rfl,aa.mk (h:= ?_)⟩)
  refine SW.ret ?_
  exact End.mk [] (h4:=⟨rfl,rfl⟩)
 ·(have fx:=(And.intro (u1) (And.intro (q2) (q3)));refine SW.ai [0,1,2,3,4,5,6] mixed ?_;(repeat (first | refine RW.ro fx (h:= ?_) | refine RW.skip (h:= ?_) | refine RW.op fx (h:= ?_) | refine RW.aF fx (h:= ?_) | refine RW.ah (h:= ?_) | (refine RW.ax (h:= ?_);(first | refine af.mk fx (hc:=c1 _) (h:= ?_)))));refine RW.nil ⟨by kernel_rfl,aa.mk (h:= ?_)⟩)
  refine SW.ret ?_
  exact End.mk [] (h4:=⟨rfl,rfl⟩)
theorem EC (x:av)(h:lW x)(v:Dt)(who k:Nat):bp Try.prog line_May.f [.agg x.cells,.agg v.cells,.d (.int .u32 (who:Int))] [] k 0 (bl (iW x v who)) []:=(EB x h v who).sc rfl k
theorem AL (x:av)(h:lW x)(v:Dt)(who:Nat):Go.Sl.Pure Try.prog line_Claim.f [.agg x.cells,.agg v.cells,.d (.int .u32 (who:Int))] (.cg [.agg (if iW x v who then x.gi else x).cells,i64 (if iW x v who then 0 else 278)]):=by
 have c1:=fun k=>yO x h k
 have c2:=fun k=>EC x h v who k
 refine line_Claim.enter (by first | rfl | simp [SV.ok,SV.aI]) (by first | rfl | simp [Hp.ok,Ob.ok,SV.ok,SV.aI,aS.aj]) (by simp) ?_
 dsimp only [line_Claim.s,Co.M,Co.G,Co.J,Co.H,Co.N,Co.F,Co.C,Co.Z,Co.B,Co.b8,Co.aA,Co.bz,Co.i6,Co.z8,Co.dm]
 refine SW.seq ?_
 (refine SW.ai [0,1,2,3,4,6,7,14] mixed ?_;(repeat (first | refine RW.ro U (h:= ?_) | refine RW.skip (h:= ?_) | refine RW.op U (h:= ?_) | refine RW.aF U (h:= ?_) | refine RW.ah (h:= ?_)));refine RW.nil ⟨by kernel_rfl,aa.mk (h:= ?_)⟩)
 refine SW.seq ?_
 (refine SW.ai [0,1,2,3,4,6,7,14] mixed ?_;(repeat (first | refine RW.ro U (h:= ?_) | refine RW.skip (h:= ?_) | refine RW.op U (h:= ?_) | refine RW.aF U (h:= ?_) | refine RW.ah (h:= ?_) | (refine RW.ax (h:= ?_);(first | refine af.mk U (hc:=c1 _) (h:= ?_)))));refine RW.nil ⟨by kernel_rfl,aa.mk (h:= ?_)⟩)
 refine SW.seq (SW.seq ?_)
 rcases q:iW x v who with _ | _ <;> rw [q] at c2
 ·(refine SW.ai [0,1,2,3,4,6,7,14] mixed ?_;(repeat (first | refine RW.ro U (h:= ?_) | refine RW.skip (h:= ?_) | refine RW.op U (h:= ?_) | refine RW.aF U (h:= ?_) | refine RW.ah (h:= ?_) | (refine RW.ax (h:= ?_);(first | refine af.mk U (hc:=c2 _) (h:= ?_)))));refine RW.nil ⟨by kernel_rfl,aa.mk (h:= ?_)⟩)
  refine SW.au rfl (SW.seq ?_)
  (refine SW.ai [0,1,2,3,4,6,7,14] mixed ?_;(repeat (first | refine RW.ro (yM) (h:= ?_) | refine RW.skip (h:= ?_) | refine RW.op (yM) (h:= ?_) | refine RW.aF (yM) (h:= ?_) | refine RW.ah (h:= ?_)));refine RW.nil ⟨by kernel_rfl,aa.mk (h:= ?_)⟩)
  refine SW.ret ?_
  exact End.mk [] (h4:=⟨rfl,rfl⟩)
 ·
  (refine SW.ai [0,1,2,3,4,6,7,14] mixed ?_;(repeat (first | refine RW.ro U (h:= ?_) | refine RW.skip (h:= ?_) | refine RW.op U (h:= ?_) | refine RW.aF U (h:= ?_) | refine RW.ah (h:= ?_) | (refine RW.ax (h:= ?_);(first | refine af.mk U (hc:=c2 _) (h:= ?_)))));refine RW.nil ⟨by kernel_rfl,aa.mk (h:= ?_)⟩)
  refine SW.ak rfl (SW.skip (SW.seq ?_))
  (refine SW.ai [0,1,2,3,4,6,7,14] mixed ?_;(repeat (first | refine RW.ro (GI) (h:= ?_) | refine RW.skip (h:= ?_) | refine RW.op (GI) (h:= ?_) | refine RW.aF (GI) (h:= ?_) | refine RW.ah (h:= ?_)));refine RW.nil ⟨by kernel_rfl,aa.mk (h:= ?_)⟩)
  refine SW.seq ?_
  (refine SW.ai [0,1,2,3,4,6,7,14] mixed ?_;(repeat (first | refine RW.ro (yM) (h:= ?_) | refine RW.skip (h:= ?_) | refine RW.op (yM) (h:= ?_) | refine RW.aF (yM) (h:= ?_) | refine RW.ah (h:= ?_)));refine RW.nil ⟨by kernel_rfl,aa.mk (h:= ?_)⟩)
  refine SW.ret ?_
  exact End.mk [] (h4:=⟨rfl,rfl⟩)
theorem AM (x:av)(h:lW x)(v:Dt)(who k:Nat):bp Try.prog line_Claim.f [.agg x.cells,.agg v.cells,.d (.int .u32 (who:Int))] [] k 0 (.cg [.agg (if iW x v who then x.gi else x).cells,i64 (if iW x v who then 0 else 278)]) []:=
 (AL x h v who).sc (by simp [SV.ok,SV.aI]) k
end
section
attribute [local irreducible] SW RW bp SC af aa
theorem xb {cs:List SV}{j:Nat}{v:SV}(h:cs[j]? =some v):bE cs j [v]=cs:=by
 rw [Eg]
 obtain ⟨hj,e⟩:=List.getElem?_eq_some_iff.1 h
 rw [← e];exact List.set_getElem_self hj
section
variable {l:List av} {i:Nat} {x:av} (h:l[i]? =some x)
include h
theorem uG:(List.map SV.d (l.flatMap av.ds))[i*10+7]? =some (eS x.ap):=by rw [B_ h (by omega)];rfl
theorem xd:(List.map SV.d (l.flatMap av.ds))[i*10+8]? =some (eS x.re):=by rw [B_ h (by omega)];rfl
theorem GJ:bE (List.map SV.d (l.flatMap av.ds)) (i*10+7) [eS x.ap]=List.map SV.d (l.flatMap av.ds):=xb (uG h)
theorem GK:bE (List.map SV.d (l.flatMap av.ds)) (i*10+8) [eS x.re]=List.map SV.d (l.flatMap av.ds):=xb (xd h)
theorem mA:(i*10+7+1≤(List.map SV.d (l.flatMap av.ds)).length)=True:=zI h (by omega)
theorem o9:(i*10+8+1≤(List.map SV.d (l.flatMap av.ds)).length)=True:=zI h (by omega)
end
set_option maxHeartbeats 2000000 in
theorem AN (l:List av)(hl:l.length≤1048576)(hb:∀ x,x∈l→lW x):SB Try.prog claim_copied.f [dD l] [] 0 1 (fun r F'=>r= .gs 0 l.length∧F'=[(0,.arr 58 10 l.length (xV l))]):=by
 refine claim_copied.enter (by simp [SV.ok,SV.aI]) (by simp [Hp.ok]) (by simp) ?_
 dsimp only [claim_copied.s,Co.M,Co.G,Co.J,Co.H,Co.N,Co.F,Co.C,Co.Z,Co.B,Co.b8,Co.aA,Co.bz,Co.i6,Co.z8,Co.dm]
 refine SW.seq ?_
 (refine SW.ai [0,2,3,4,12,13,14] mixed ?_;(repeat (first | refine RW.ro U (h:= ?_) | refine RW.skip (h:= ?_) | refine RW.op U (h:= ?_) | refine RW.aF U (h:= ?_) | refine RW.ah (h:= ?_)));refine RW.nil ⟨by kernel_rfl,aa.mk (h:= ?_)⟩)
 refine SW.seq ?_
 (refine SW.ai [0,2,3,4,12,13,14] mixed ?_;(repeat (first | refine RW.ro U (h:= ?_) | refine RW.skip (h:= ?_) | refine RW.op U (h:= ?_) | refine RW.aF U (h:= ?_) | refine RW.ah (h:= ?_)));refine RW.nil ⟨by kernel_rfl,aa.mk (h:= ?_)⟩)
 refine SW.seq ?_
 (refine SW.ai [0,2,3,4,12,13,14] mixed ?_;(repeat (first | refine RW.ro U (h:= ?_) | refine RW.skip (h:= ?_) | refine RW.op U (h:= ?_) | refine RW.aF U (h:= ?_) | refine RW.ah (h:= ?_)));refine RW.nil ⟨by kernel_rfl,aa.mk (h:= ?_)⟩)
 refine SW.seq (SW.seq ?_)
 (refine SW.ai [0,2,3,4,12,13,14] mixed ?_;(repeat (first | refine RW.ro U (h:= ?_) | refine RW.skip (h:= ?_) | refine RW.op U (h:= ?_) | refine RW.aF U (h:= ?_) | refine RW.ah (h:= ?_)));refine RW.nil ⟨by kernel_rfl,aa.mk (h:= ?_)⟩)
 refine SW.block ?_
 refine SW.c8 (α:={i:Nat // i≤l.length}) (fun i=>⟨[(13,i64 i.1),(12,i64 l.length),(3,.gs 0 l.length),(0,dD l)],[(0,.arr 58 10 l.length (xV l))],1⟩) (fun i=>l.length - i.1) ⟨0,by omega⟩ id U (round:= ?_)
 rintro ⟨i,hi⟩
 dsimp only
 refine SW.seq ?_
 by_cases h:i<l.length
 ·have h1:decide ((i:Int)<(l.length:Int))=true:=by simp only [decide_eq_true_eq];omega
  have e2:IntKind.i64.wrap ((i:Int)+1)=((i+1:Nat):Int):=wrap_i64 _ (by omega)
  obtain ⟨x,hx⟩:=aL h
  have Bs:=hb x (List.mem_of_getElem? hx)
  have c1:=fun k=>vC x.ap Bs.ap k
  have c2:=fun k=>vC x.re Bs.re k
  (refine SW.ai [0,2,3,4,12,13,14] mixed ?_;(repeat (first | refine RW.ro (h1) (h:= ?_) | refine RW.skip (h:= ?_) | refine RW.op (h1) (h:= ?_) | refine RW.aF (h1) (h:= ?_) | refine RW.ah (h:= ?_)));refine RW.nil ⟨by kernel_rfl,aa.mk (h:= ?_)⟩)
  refine SW.seq (SW.au rfl (SW.skip ?_))
  refine SW.seq (SW.block (SW.seq ?_))
  (refine SW.ai [0,2,3,4,12,13,14] mixed ?_;(repeat (first | refine RW.ro U (h:= ?_) | refine RW.skip (h:= ?_) | refine RW.op U (h:= ?_) | refine RW.aF U (h:= ?_) | refine RW.ah (h:= ?_)));refine RW.nil ⟨by kernel_rfl,aa.mk (h:= ?_)⟩)
  refine SW.seq ?_
  (have fx:=(And.intro (uG hx) (And.intro (GJ hx) (And.intro (mA hx) (h))));refine SW.ai [0,2,3,4,12,13,14] mixed ?_;(repeat (first | refine RW.ro fx (h:= ?_) | refine RW.skip (h:= ?_) | refine RW.op fx (h:= ?_) | refine RW.aF fx (h:= ?_) | refine RW.ah (h:= ?_) | (refine RW.ax (h:= ?_);(first | refine af.mk fx (hc:=c1 _) (h:= ?_)))));refine RW.nil ⟨by kernel_rfl,aa.mk (h:= ?_)⟩)
  (have fx:=(And.intro (xd hx) (And.intro (GK hx) (And.intro (o9 hx) (h))));refine SW.ai [0,2,3,4,12,13,14] mixed ?_;(repeat (first | refine RW.ro fx (h:= ?_) | refine RW.skip (h:= ?_) | refine RW.op fx (h:= ?_) | refine RW.aF fx (h:= ?_) | refine RW.ah (h:= ?_) | (refine RW.ax (h:= ?_);(first | refine af.mk fx (hc:=c2 _) (h:= ?_)))));refine RW.nil ⟨by kernel_rfl,aa.mk (h:= ?_)⟩)
  (refine SW.ai [0,2,3,4,12,13,14] mixed ?_;(repeat (first | refine RW.ro (e2) (h:= ?_) | refine RW.skip (h:= ?_) | refine RW.op (e2) (h:= ?_) | refine RW.aF (e2) (h:= ?_) | refine RW.ah (h:= ?_)));refine RW.nil ⟨by kernel_rfl,aa.mk (h:= ?_)⟩)
  exact ⟨⟨i+1,by omega⟩,id,by show l.length - (i+1)<l.length - i;omega,bg.mk U⟩
 have h1:decide ((i:Int)<(l.length:Int))=false:=by simp only [decide_eq_false_iff_not];omega
 (refine SW.ai [0,2,3,4,12,13,14] mixed ?_;(repeat (first | refine RW.ro (h1) (h:= ?_) | refine RW.skip (h:= ?_) | refine RW.op (h1) (h:= ?_) | refine RW.aF (h1) (h:= ?_) | refine RW.ah (h:= ?_)));refine RW.nil ⟨by kernel_rfl,aa.mk (h:= ?_)⟩)
 refine SW.seq (SW.ak rfl (SW.exit (SW.seq ?_)))
 (refine SW.ai [0,2,3,4,12,13,14] mixed ?_;(repeat (first | refine RW.ro U (h:= ?_) | refine RW.skip (h:= ?_) | refine RW.op U (h:= ?_) | refine RW.aF U (h:= ?_) | refine RW.ah (h:= ?_)));refine RW.nil ⟨by kernel_rfl,aa.mk (h:= ?_)⟩)
 refine SW.ret ?_
 exact End.mk [(0,.arr 58 10 l.length (xV l))] (h4:=⟨rfl,rfl⟩) (h6:=by simp [Hp.ok,Ob.ok,SV.bt])
theorem uH (l:List av)(hl:l.length≤1048576)(hb:∀ x,x∈l→lW x)(k:Nat):bp Try.prog claim_copied.f [dD l] [] k 1 (.gs k l.length) [(k,.arr 58 10 l.length (xV l))]:=by
 have h:=SB.new (AN l hl hb) k
 simpa [SV.aV,SV.bh,Hp.aV,Ob.aV,iq,SV.fI] using h
theorem qZ (x:av):bE (bE (bE (bE (x.dot.cells++(x.iU.cells++[.d (.int .u32 0),.d (.int .u32 0),.d (.int .u32 0),.d .ay])) 4 [.d (.int .u32 (x.item:Int))]) 5 [.d (.int .u32 (x.kn:Int))]) 6 [.d (.int .u32 (x.cu:Int))]) 7 [eS x.ap]=x.sv:=rfl
theorem ED (x:av)(h:lW x):Go.Sl.Pure Try.prog claim_sold.f [.agg x.cells] (.agg x.sv):=by
 have c1:=fun k=>vC x.ap h.ap k
 refine claim_sold.enter (by first | rfl | simp [SV.ok,SV.aI]) (by first | rfl | simp [Hp.ok,Ob.ok,SV.ok,SV.aI,aS.aj]) (by simp) ?_
 dsimp only [claim_sold.s,Co.M,Co.G,Co.J,Co.H,Co.N,Co.F,Co.C,Co.Z,Co.B,Co.b8,Co.aA,Co.bz,Co.i6,Co.z8,Co.dm]
 refine SW.seq ?_
 (refine SW.ai [0,1,2] mixed ?_;(repeat (first | refine RW.ro U (h:= ?_) | refine RW.skip (h:= ?_) | refine RW.op U (h:= ?_) | refine RW.aF U (h:= ?_) | refine RW.ah (h:= ?_)));refine RW.nil ⟨by kernel_rfl,aa.mk (h:= ?_)⟩)
 refine SW.seq ?_
 (refine SW.ai [0,1,2] mixed ?_;(repeat (first | refine RW.ro (qZ) (h:= ?_) | refine RW.skip (h:= ?_) | refine RW.op (qZ) (h:= ?_) | refine RW.aF (qZ) (h:= ?_) | refine RW.ah (h:= ?_) | (refine RW.ax (h:= ?_);(first | refine af.mk (qZ) (hc:=c1 _) (h:= ?_)))));refine RW.nil ⟨by kernel_rfl,aa.mk (h:= ?_)⟩)
 refine SW.ret ?_
 exact End.mk [] (h4:=⟨rfl,rfl⟩)
theorem EE (x:av)(h:lW x)(k:Nat):bp Try.prog claim_sold.f [.agg x.cells] [] k 0 (.agg x.sv) []:=(ED x h).sc (by simp [SV.ok]) k
theorem Ia (x y:av):decide (x=y)=(decide (x.dot=y.dot) && (decide (x.item=y.item) && (decide (x.kn=y.kn) && (decide (x.cu=y.cu) && (decide (x.iU=y.iU) && (decide (x.st=y.st) && (decide (x.ap=y.ap) && decide (x.re=y.re)))))))):=by
 obtain ⟨a1,a2,a3,a4,a5,a6,a7,a8⟩:=x
 obtain ⟨b1,b2,b3,b4,b5,b6,b7,b8⟩:=y
 rw [Bool.eq_iff_iff]
 simp only [av.mk.injEq,decide_eq_true_eq,Bool.and_eq_true]
 constructor
 ·rintro ⟨h1,h2,h3,h4,h5,h6,h7,h8⟩;exact ⟨h1,h2,h3,h4,h5,h8,h6,h7⟩
 ·rintro ⟨h1,h2,h3,h4,h5,h8,h6,h7⟩;exact ⟨h1,h2,h3,h4,h5,h6,h7,h8⟩
theorem q_ (a b:Nat):((a:Int) == (b:Int))=decide (a=b):=by rw [Bool.eq_iff_iff];simp;omega
set_option maxHeartbeats 2000000 in
theorem Cu (x y:av)(h:lW x)(h':lW y):Go.Sl.Pure Try.prog ref21_Same.f [.agg x.cells,.agg y.cells] (bl (decide (x=y))):=by
 rw [Ia]
 have b1:=q_ x.item y.item
 have b2:=q_ x.kn y.kn
 have b3:=q_ x.cu y.cu
 have b4:=q_ x.st y.st
 have c1:=fun k=>uE x.ap y.ap h.ap h'.ap k
 have c2:=fun k=>uE x.re y.re h.re h'.re k
 refine ref21_Same.enter (by first | rfl | simp [SV.ok,SV.aI]) (by first | rfl | simp [Hp.ok,Ob.ok,SV.ok,SV.aI,aS.aj]) (by simp) ?_
 dsimp only [ref21_Same.s,Co.M,Co.G,Co.J,Co.H,Co.N,Co.F,Co.C,Co.Z,Co.B,Co.b8,Co.aA,Co.bz,Co.i6,Co.z8,Co.dm]
 refine SW.seq ?_
 (refine SW.ai [0,1,2,3,4] mixed ?_;(repeat (first | refine RW.ro U (h:= ?_) | refine RW.skip (h:= ?_) | refine RW.op U (h:= ?_) | refine RW.aF U (h:= ?_) | refine RW.ah (h:= ?_)));refine RW.nil ⟨by kernel_rfl,aa.mk (h:= ?_)⟩)
 refine SW.seq ?_
 rcases q1:decide (x.dot=y.dot) with _ | _
 ·(refine SW.ai [0,1,2,3,4] mixed ?_;(repeat (first | refine RW.ro (q1) (h:= ?_) | refine RW.skip (h:= ?_) | refine RW.op (q1) (h:= ?_) | refine RW.aF (q1) (h:= ?_) | refine RW.ah (h:= ?_)));refine RW.nil ⟨by kernel_rfl,aa.mk (h:= ?_)⟩)
  exact SW.ret (End.mk [] (h4:=⟨rfl,rfl⟩))
 rcases q2:decide (x.item=y.item) with _ | _ <;> rw [q2] at b1
 ·(refine SW.ai [0,1,2,3,4] mixed ?_;(repeat (first | refine RW.ro (And.intro (q1) (b1)) (h:= ?_) | refine RW.skip (h:= ?_) | refine RW.op (And.intro (q1) (b1)) (h:= ?_) | refine RW.aF (And.intro (q1) (b1)) (h:= ?_) | refine RW.ah (h:= ?_)));refine RW.nil ⟨by kernel_rfl,aa.mk (h:= ?_)⟩)
  exact SW.ret (End.mk [] (h4:=⟨rfl,rfl⟩))
 rcases q3:decide (x.kn=y.kn) with _ | _ <;> rw [q3] at b2
 ·(have fx:=(And.intro (q1) (And.intro (b1) (b2)));refine SW.ai [0,1,2,3,4] mixed ?_;(repeat (first | refine RW.ro fx (h:= ?_) | refine RW.skip (h:= ?_) | refine RW.op fx (h:= ?_) | refine RW.aF fx (h:= ?_) | refine RW.ah (h:= ?_)));refine RW.nil ⟨by kernel_rfl,aa.mk (h:= ?_)⟩)
  exact SW.ret (End.mk [] (h4:=⟨rfl,rfl⟩))
 rcases q4:decide (x.cu=y.cu) with _ | _ <;> rw [q4] at b3
 ·(have fx:=(And.intro (q1) (And.intro (b1) (And.intro (b2) (b3))));refine SW.ai [0,1,2,3,4] mixed ?_;(repeat (first | refine RW.ro fx (h:= ?_) | refine RW.skip (h:= ?_) | refine RW.op fx (h:= ?_) | refine RW.aF fx (h:= ?_) | refine RW.ah (h:= ?_)));refine RW.nil ⟨by kernel_rfl,aa.mk (h:= ?_)⟩)
  exact SW.ret (End.mk [] (h4:=⟨rfl,rfl⟩))
 rcases q5:decide (x.iU=y.iU) with _ | _
 ·(have fx:=(And.intro (q1) (And.intro (b1) (And.intro (b2) (And.intro (b3) (q5)))));refine SW.ai [0,1,2,3,4] mixed ?_;(repeat (first | refine RW.ro fx (h:= ?_) | refine RW.skip (h:= ?_) | refine RW.op fx (h:= ?_) | refine RW.aF fx (h:= ?_) | refine RW.ah (h:= ?_)));refine RW.nil ⟨by kernel_rfl,aa.mk (h:= ?_)⟩)
  exact SW.ret (End.mk [] (h4:=⟨rfl,rfl⟩))
 rcases q6:decide (x.st=y.st) with _ | _ <;> rw [q6] at b4
 ·(have fx:=(And.intro (q1) (And.intro (b1) (And.intro (b2) (And.intro (b3) (And.intro (q5) (b4))))));refine SW.ai [0,1,2,3,4] mixed ?_;(repeat (first | refine RW.ro fx (h:= ?_) | refine RW.skip (h:= ?_) | refine RW.op fx (h:= ?_) | refine RW.aF fx (h:= ?_) | refine RW.ah (h:= ?_)));refine RW.nil ⟨by kernel_rfl,aa.mk (h:= ?_)⟩)
  exact SW.ret (End.mk [] (h4:=⟨rfl,rfl⟩))
 rcases q7:decide (x.ap=y.ap) with _ | _ <;> rw [q7] at c1
 ·(have fx:=(And.intro (q1) (And.intro (b1) (And.intro (b2) (And.intro (b3) (And.intro (q5) (b4))))));refine SW.ai [0,1,2,3,4] mixed ?_;(repeat (first | refine RW.ro fx (h:= ?_) | refine RW.skip (h:= ?_) | refine RW.op fx (h:= ?_) | refine RW.aF fx (h:= ?_) | refine RW.ah (h:= ?_) | (refine RW.ax (h:= ?_);(first | refine af.mk fx (hc:=c1 _) (h:= ?_)))));refine RW.nil ⟨by kernel_rfl,aa.mk (h:= ?_)⟩)
  exact SW.ret (End.mk [] (h4:=⟨rfl,rfl⟩))
 rcases q8:decide (x.re=y.re) with _ | _ <;> rw [q8] at c2
 ·(have fx:=(And.intro (q1) (And.intro (b1) (And.intro (b2) (And.intro (b3) (And.intro (q5) (b4))))));refine SW.ai [0,1,2,3,4] mixed ?_;(repeat (first | refine RW.ro fx (h:= ?_) | refine RW.skip (h:= ?_) | refine RW.op fx (h:= ?_) | refine RW.aF fx (h:= ?_) | refine RW.ah (h:= ?_) | (refine RW.ax (h:= ?_);(first | refine af.mk fx (hc:=c1 _) (h:= ?_) | refine af.mk fx (hc:=c2 _) (h:= ?_)))));refine RW.nil ⟨by kernel_rfl,aa.mk (h:= ?_)⟩)
  exact SW.ret (End.mk [] (h4:=⟨rfl,rfl⟩))
 ·(have fx:=(And.intro (q1) (And.intro (b1) (And.intro (b2) (And.intro (b3) (And.intro (q5) (b4))))));refine SW.ai [0,1,2,3,4] mixed ?_;(repeat (first | refine RW.ro fx (h:= ?_) | refine RW.skip (h:= ?_) | refine RW.op fx (h:= ?_) | refine RW.aF fx (h:= ?_) | refine RW.ah (h:= ?_) | (refine RW.ax (h:= ?_);(first | refine af.mk fx (hc:=c1 _) (h:= ?_) | refine af.mk fx (hc:=c2 _) (h:= ?_)))));refine RW.nil ⟨by kernel_rfl,aa.mk (h:= ?_)⟩)
  exact SW.ret (End.mk [] (h4:=⟨rfl,rfl⟩))
theorem Cv (x y:av)(h:lW x)(h':lW y)(k:Nat):bp Try.prog ref21_Same.f [.agg x.cells,.agg y.cells] [] k 0 (bl (decide (x=y))) []:=(Cu x y h h').sc rfl k
set_option maxHeartbeats 2000000 in
theorem AO (l m:List av)(hl:l.length≤1048576)(hm:m.length≤1048576)(hb:∀ x,x∈l→lW x)(hb':∀ x,x∈m→lW x):Go.Sl.Pure Try.prog ref23_SameLines.f [dD l,dD m] (bl (decide (l=m))):=by
 refine ref23_SameLines.enter (by first | rfl | simp [SV.ok,SV.aI]) (by first | rfl | simp [Hp.ok,Ob.ok,SV.ok,SV.aI,aS.aj]) (by simp) ?_
 dsimp only [ref23_SameLines.s,Co.M,Co.G,Co.J,Co.H,Co.N,Co.F,Co.C,Co.Z,Co.B,Co.b8,Co.aA,Co.bz,Co.i6,Co.z8,Co.dm]
 by_cases hn:l.length=m.length
 ·have h0:(((l.length:Nat):Int) != ((m.length:Nat):Int))=false:=by simp;omega
  (repeat (first | refine SW.seq ?_ | refine SW.block ?_ | (refine SW.ai [0,1,4,5,10,14,26] mixed ?_;(repeat (first | refine RW.ro (h0) (h:= ?_) | refine RW.skip (h:= ?_) | refine RW.op (h0) (h:= ?_) | refine RW.aF (h0) (h:= ?_) | refine RW.ah (h:= ?_)));refine RW.nil ⟨by kernel_rfl,aa.mk (h:= ?_)⟩) | refine SW.skip ?_ | refine SW.exit ?_ | refine SW.ret ?_ | refine SW.au rfl ?_ | refine SW.ak rfl ?_))
  refine SW.c8 (α:={i:Nat // i≤l.length∧∀ j,j<i→l[j]? =m[j]?}) (fun i=>⟨[(5,i64 i.1),(0,dD l),(1,dD m)],[],0⟩) (fun i=>l.length - i.1) ⟨0,by omega,by omega⟩ id U (round:= ?_)
  rintro ⟨i,hi,hs⟩
  by_cases h:i<l.length
  ·have h1:decide ((i:Int)<l.length)=true:=by simp only [decide_eq_true_eq];omega
   obtain ⟨x,hx⟩:=aL h
   obtain ⟨y,hy⟩:=aL (show i<m.length by omega)
   have e2:IntKind.i64.wrap ((i:Int)+1)=((i+1:Nat):Int):=wrap_i64 _ (by omega)
   have c1:=fun k=>Cv x y (hb x (List.mem_of_getElem? hx)) (hb' y (List.mem_of_getElem? hy)) k
   by_cases he:x=y
   ·have e3:decide (x=y)=true:=by simp [he]
    rw [e3] at c1
    (repeat (first | refine SW.seq ?_ | refine SW.block ?_ | (have fx:=(And.intro (h1) (And.intro (jB hx) (And.intro (dV hx) (And.intro (jB hy) (And.intro (dV hy) (e2))))));refine SW.ai [0,1,4,5,10,14,26] mixed ?_;(repeat (first | refine RW.ro fx (h:= ?_) | refine RW.skip (h:= ?_) | refine RW.op fx (h:= ?_) | refine RW.aF fx (h:= ?_) | refine RW.ah (h:= ?_) | (refine RW.ax (h:= ?_);(first | refine af.mk fx (hc:=c1 _) (h:= ?_)))));refine RW.nil ⟨by kernel_rfl,aa.mk (h:= ?_)⟩) | refine SW.skip ?_ | refine SW.exit ?_ | refine SW.ret ?_ | refine SW.au rfl ?_ | refine SW.ak rfl ?_))
    refine Next.mk ⟨i+1,by omega,fun j hj=> ?_⟩ id U
    by_cases e:j=i
    ·rw [e,hx,hy,he]
    ·exact hs j (by omega)
   ·have e3:decide (x=y)=false:=by simp [he]
    rw [e3] at c1
    (repeat (first | refine SW.seq ?_ | refine SW.block ?_ | (have fx:=(And.intro (h1) (And.intro (jB hx) (And.intro (dV hx) (And.intro (jB hy) (And.intro (dV hy) (e2))))));refine SW.ai [0,1,4,5,10,14,26] mixed ?_;(repeat (first | refine RW.ro fx (h:= ?_) | refine RW.skip (h:= ?_) | refine RW.op fx (h:= ?_) | refine RW.aF fx (h:= ?_) | refine RW.ah (h:= ?_) | (refine RW.ax (h:= ?_);(first | refine af.mk fx (hc:=c1 _) (h:= ?_)))));refine RW.nil ⟨by kernel_rfl,aa.mk (h:= ?_)⟩) | refine SW.skip ?_ | refine SW.exit ?_ | refine SW.ret ?_ | refine SW.au rfl ?_ | refine SW.ak rfl ?_))
    have:l≠m:=fun e=>by rw [e,hy] at hx;injection hx with hx;exact he hx.symm
    exact End.mk [] (h4:=⟨by simp [eF,this],rfl⟩)
  ·have h1:decide ((i:Int)<l.length)=false:=by simp only [decide_eq_false_iff_not];omega
   (repeat (first | refine SW.seq ?_ | refine SW.block ?_ | (refine SW.ai [0,1,4,5,10,14,26] mixed ?_;(repeat (first | refine RW.ro (h1) (h:= ?_) | refine RW.skip (h:= ?_) | refine RW.op (h1) (h:= ?_) | refine RW.aF (h1) (h:= ?_) | refine RW.ah (h:= ?_)));refine RW.nil ⟨by kernel_rfl,aa.mk (h:= ?_)⟩) | refine SW.skip ?_ | refine SW.exit ?_ | refine SW.ret ?_ | refine SW.au rfl ?_ | refine SW.ak rfl ?_))
   have:l=m:=oO hn fun j hj=>hs j (by omega)
   exact End.mk [] (h4:=⟨by simp [eF,this],rfl⟩)
 ·have h0:(((l.length:Nat):Int) != ((m.length:Nat):Int))=true:=by simp;omega
  (repeat (first | refine SW.seq ?_ | refine SW.block ?_ | (refine SW.ai [0,1,4,5,10,14,26] mixed ?_;(repeat (first | refine RW.ro (h0) (h:= ?_) | refine RW.skip (h:= ?_) | refine RW.op (h0) (h:= ?_) | refine RW.aF (h0) (h:= ?_) | refine RW.ah (h:= ?_)));refine RW.nil ⟨by kernel_rfl,aa.mk (h:= ?_)⟩) | refine SW.skip ?_ | refine SW.exit ?_ | refine SW.ret ?_ | refine SW.au rfl ?_ | refine SW.ak rfl ?_))
  have:l≠m:=fun e=>hn (by rw [e])
  exact End.mk [] (h4:=⟨by simp [eF,this],rfl⟩)
theorem kz (l m:List av)(hl:l.length≤1048576)(hm:m.length≤1048576)(hb:∀ x,x∈l→lW x)(hb':∀ x,x∈m→lW x)(k:Nat):bp Try.prog ref23_SameLines.f [dD l,dD m] [] k 0 (bl (decide (l=m))) []:=(AO l m hl hm hb hb').sc rfl k
end
section
attribute [local irreducible] SW RW bp SC af aa
theorem Cw (x:av)(h:lW x):Go.Sl.Pure Try.prog ref21_Fits.f [.agg x.cells] (bl (nc x.ap && nc x.re)):=by
 have h1:=h.ap
 have h2:=h.re
 have c1:=fun k=>sQ x.ap (by omega) k
 have c2:=fun k=>sQ x.re (by omega) k
 refine ref21_Fits.enter (by first | rfl | simp [SV.ok,SV.aI]) (by first | rfl | simp [Hp.ok,Ob.ok,SV.ok,SV.aI,aS.aj]) (by simp) ?_
 dsimp only [ref21_Fits.s,Co.M,Co.G,Co.J,Co.H,Co.N,Co.F,Co.C,Co.Z,Co.B,Co.b8,Co.aA,Co.bz,Co.i6,Co.z8,Co.dm]
 refine SW.seq ?_
 (refine SW.ai [0,1,2] mixed ?_;(repeat (first | refine RW.ro U (h:= ?_) | refine RW.skip (h:= ?_) | refine RW.op U (h:= ?_) | refine RW.aF U (h:= ?_) | refine RW.ah (h:= ?_)));refine RW.nil ⟨by kernel_rfl,aa.mk (h:= ?_)⟩)
 refine SW.seq ?_
 rcases q1:nc x.ap with _ | _ <;> rw [q1] at c1
 ·(refine SW.ai [0,1,2] mixed ?_;(repeat (first | refine RW.ro U (h:= ?_) | refine RW.skip (h:= ?_) | refine RW.op U (h:= ?_) | refine RW.aF U (h:= ?_) | refine RW.ah (h:= ?_) | (refine RW.ax (h:= ?_);(first | refine af.mk U (hc:=c1 _) (h:= ?_)))));refine RW.nil ⟨by kernel_rfl,aa.mk (h:= ?_)⟩)
  exact SW.ret (End.mk [] (h4:=⟨rfl,rfl⟩))
 rcases q2:nc x.re with _ | _ <;> rw [q2] at c2
 ·(refine SW.ai [0,1,2] mixed ?_;(repeat (first | refine RW.ro U (h:= ?_) | refine RW.skip (h:= ?_) | refine RW.op U (h:= ?_) | refine RW.aF U (h:= ?_) | refine RW.ah (h:= ?_) | (refine RW.ax (h:= ?_);(first | refine af.mk U (hc:=c1 _) (h:= ?_) | refine af.mk U (hc:=c2 _) (h:= ?_)))));refine RW.nil ⟨by kernel_rfl,aa.mk (h:= ?_)⟩)
  exact SW.ret (End.mk [] (h4:=⟨rfl,rfl⟩))
 ·(refine SW.ai [0,1,2] mixed ?_;(repeat (first | refine RW.ro U (h:= ?_) | refine RW.skip (h:= ?_) | refine RW.op U (h:= ?_) | refine RW.aF U (h:= ?_) | refine RW.ah (h:= ?_) | (refine RW.ax (h:= ?_);(first | refine af.mk U (hc:=c1 _) (h:= ?_) | refine af.mk U (hc:=c2 _) (h:= ?_)))));refine RW.nil ⟨by kernel_rfl,aa.mk (h:= ?_)⟩)
  exact SW.ret (End.mk [] (h4:=⟨rfl,rfl⟩))
theorem Cx (x:av)(h:lW x)(k:Nat):bp Try.prog ref21_Fits.f [.agg x.cells] [] k 0 (bl (nc x.ap && nc x.re)) []:=(Cw x h).sc rfl k
def qP (x:av):Bool:=decide (30<x.ap.length) || (decide (30<x.re.length) || !(nc x.ap && nc x.re))
def Bt (l:List av)(s n:Nat):Bool:=(l.take 50).any qP || (decide (40<l.length) || (decide (40<s) || decide (40<n)))
theorem EF {x:av}(h:qP x=false):x.ap.length≤30∧x.re.length≤30:=by
 unfold qP at h
 simp only [Bool.or_eq_false_iff,decide_eq_false_iff_not] at h
 omega
structure Jw (l:List av)(s n:Nat):Prop where
 hl:l.length≤40
 hs:s≤40
 hn:n≤40
 b:∀ x,x∈l→lW x
theorem yP {l:List av}{s n:Nat}(h:Bt l s n=false):Jw l s n:=by
 unfold Bt at h
 simp only [Bool.or_eq_false_iff,decide_eq_false_iff_not] at h
 obtain ⟨h1,h2,h3,h4⟩:=h
 refine ⟨by omega,by omega,by omega,fun x hx=> ?_⟩
 rw [List.take_of_length_le (by omega),List.any_eq_false] at h1
 have:=EF (by simpa using h1 x hx)
 exact ⟨by omega,by omega⟩
set_option maxHeartbeats 4000000 in
theorem yQ (l:List av)(hl:l.length<4611686018427387904)(s:List Sp)(o:aq)(ho:o.qW):Go.Sl.Pure Try.prog ref23_Great.f [dD l,cF s,.agg o.cells] (bl (Bt l s.length o.cl.length)):=by
 have hln:o.cells[28]? =some (.d (.sl o.cl.length (o.cl.flatMap Cm.ds))):=by rw [aq.jY,ho.eq]
 refine ref23_Great.enter (by first | rfl | simp [SV.ok,SV.aI]) (by first | rfl | simp [Hp.ok,Ob.ok,SV.ok,SV.aI,aS.aj]) (by simp) ?_
 dsimp only [ref23_Great.s,Co.M,Co.G,Co.J,Co.H,Co.N,Co.F,Co.C,Co.Z,Co.B,Co.b8,Co.aA,Co.bz,Co.i6,Co.z8,Co.dm]
 refine SW.seq ?_
 (refine SW.ai [0,1,2,5,6,7,15,41] mixed ?_;(repeat (first | refine RW.ro U (h:= ?_) | refine RW.skip (h:= ?_) | refine RW.op U (h:= ?_) | refine RW.aF U (h:= ?_) | refine RW.ah (h:= ?_)));refine RW.nil ⟨by kernel_rfl,aa.mk (h:= ?_)⟩)
 refine SW.seq (SW.seq ?_)
 (refine SW.ai [0,1,2,5,6,7,15,41] mixed ?_;(repeat (first | refine RW.ro U (h:= ?_) | refine RW.skip (h:= ?_) | refine RW.op U (h:= ?_) | refine RW.aF U (h:= ?_) | refine RW.ah (h:= ?_)));refine RW.nil ⟨by kernel_rfl,aa.mk (h:= ?_)⟩)
 refine SW.block ?_
 refine SW.c8 (α:={i:Nat // i≤l.length∧i≤50∧∀ y,y∈l.take i→qP y=false}) (fun i=>⟨[(7,i64 i.1),(5,.ptr 0 0),(0,dD l),(1,cF s)],[(0,.box 35 o.cells)],1⟩) (fun i=>l.length - i.1) ⟨0,by omega,by omega,by simp⟩ id U (round:= ?_)
 rintro ⟨i,hi,h50,hs⟩
 dsimp only
 refine SW.seq (SW.seq ?_)
 have fin:(i<l.length→50≤i)→(l.take 50).any qP=false:=fun hc=>by
  rw [List.any_eq_false]
  intro y hy
  have:y∈l.take i:=by
   by_cases h:i<l.length
   ·have:=hc h
    have e:i=50:=by omega
    rw [e];exact hy
   ·rw [List.take_of_length_le (by omega)];exact List.mem_of_mem_take hy
  rw [hs y this];decide
 by_cases h:i<l.length
 ·have h1:decide ((i:Int)<(l.length:Int))=true:=by simp only [decide_eq_true_eq];omega
  by_cases h5:i<50
  ·have h2:decide ((i:Int)<50)=true:=by simp only [decide_eq_true_eq];omega
   have e2:IntKind.i64.wrap ((i:Int)+1)=((i+1:Nat):Int):=wrap_i64 _ (by omega)
   obtain ⟨x,hx⟩:=aL h
   (refine SW.ai [0,1,2,5,6,7,15,41] mixed ?_;(repeat (first | refine RW.ro (And.intro (h1) (h2)) (h:= ?_) | refine RW.skip (h:= ?_) | refine RW.op (And.intro (h1) (h2)) (h:= ?_) | refine RW.aF (And.intro (h1) (h2)) (h:= ?_) | refine RW.ah (h:= ?_)));refine RW.nil ⟨by kernel_rfl,aa.mk (h:= ?_)⟩)
   refine SW.au rfl (SW.skip (SW.seq (SW.block (SW.seq ?_))))
   have bad:qP x=true→(l.take 50).any qP=true:=fun hb=>List.any_eq_true.2 ⟨x,by
    rw [List.mem_take_iff_getElem]
    obtain ⟨hi',e⟩:=List.getElem?_eq_some_iff.1 hx
    exact ⟨i,by omega,e⟩,hb⟩
   have yes:qP x=true→Bt l s.length o.cl.length=true:=fun hb=>by unfold Bt;rw [bad hb];rfl
   rcases q1:decide ((x.ap.length:Int)>30) with _ | _
   rotate_left
   ·(have fx:=(And.intro (uG hx) (And.intro (mA hx) (q1)));refine SW.ai [0,1,2,5,6,7,15,41] mixed ?_;(repeat (first | refine RW.ro fx (h:= ?_) | refine RW.skip (h:= ?_) | refine RW.op fx (h:= ?_) | refine RW.aF fx (h:= ?_) | refine RW.ah (h:= ?_)));refine RW.nil ⟨by kernel_rfl,aa.mk (h:= ?_)⟩)
    refine SW.au rfl (SW.seq ?_)
    (refine SW.ai [0,1,2,5,6,7,15,41] mixed ?_;(repeat (first | refine RW.ro U (h:= ?_) | refine RW.skip (h:= ?_) | refine RW.op U (h:= ?_) | refine RW.aF U (h:= ?_) | refine RW.ah (h:= ?_)));refine RW.nil ⟨by kernel_rfl,aa.mk (h:= ?_)⟩)
    refine SW.ret (End.mk [] (h4:=⟨?_,rfl⟩))
    rw [yes (by unfold qP;have:=of_decide_eq_true q1;rw [show decide (30<x.ap.length)=true from decide_eq_true (by omega)];rfl)]
    rfl
   rcases q2:decide ((x.re.length:Int)>30) with _ | _
   rotate_left
   ·(have fx:=(And.intro (uG hx) (And.intro (mA hx) (And.intro (q1) (And.intro (xd hx) (And.intro (o9 hx) (q2))))));refine SW.ai [0,1,2,5,6,7,15,41] mixed ?_;(repeat (first | refine RW.ro fx (h:= ?_) | refine RW.skip (h:= ?_) | refine RW.op fx (h:= ?_) | refine RW.aF fx (h:= ?_) | refine RW.ah (h:= ?_)));refine RW.nil ⟨by kernel_rfl,aa.mk (h:= ?_)⟩)
    refine SW.au rfl (SW.seq ?_)
    (refine SW.ai [0,1,2,5,6,7,15,41] mixed ?_;(repeat (first | refine RW.ro U (h:= ?_) | refine RW.skip (h:= ?_) | refine RW.op U (h:= ?_) | refine RW.aF U (h:= ?_) | refine RW.ah (h:= ?_)));refine RW.nil ⟨by kernel_rfl,aa.mk (h:= ?_)⟩)
    refine SW.ret (End.mk [] (h4:=⟨?_,rfl⟩))
    rw [yes (by unfold qP;have:=of_decide_eq_true q2;rw [show decide (30<x.re.length)=true from decide_eq_true (by omega)];simp)]
    rfl
   have a1:=of_decide_eq_false q1
   have a2:=of_decide_eq_false q2
   have Bs:lW x:=⟨by omega,by omega⟩
   have c1:=fun k=>Cx x Bs k
   rcases q3:(nc x.ap && nc x.re) with _ | _ <;> rw [q3] at c1
   ·(have fx:=(And.intro (uG hx) (And.intro (mA hx) (And.intro (q1) (And.intro (xd hx) (And.intro (o9 hx) (And.intro (q2) (And.intro (jB hx) (dV hx))))))));refine SW.ai [0,1,2,5,6,7,15,41] mixed ?_;(repeat (first | refine RW.ro fx (h:= ?_) | refine RW.skip (h:= ?_) | refine RW.op fx (h:= ?_) | refine RW.aF fx (h:= ?_) | refine RW.ah (h:= ?_) | (refine RW.ax (h:= ?_);(first | refine af.mk fx (hc:=c1 _) (h:= ?_)))));refine RW.nil ⟨by kernel_rfl,aa.mk (h:= ?_)⟩)
    refine SW.au rfl (SW.seq ?_)
    (refine SW.ai [0,1,2,5,6,7,15,41] mixed ?_;(repeat (first | refine RW.ro U (h:= ?_) | refine RW.skip (h:= ?_) | refine RW.op U (h:= ?_) | refine RW.aF U (h:= ?_) | refine RW.ah (h:= ?_)));refine RW.nil ⟨by kernel_rfl,aa.mk (h:= ?_)⟩)
    refine SW.ret (End.mk [] (h4:=⟨?_,rfl⟩))
    rw [yes (by unfold qP;rw [q3];simp)]
    rfl
   ·(have fx:=(And.intro (uG hx) (And.intro (mA hx) (And.intro (q1) (And.intro (xd hx) (And.intro (o9 hx) (And.intro (q2) (And.intro (jB hx) (dV hx))))))));refine SW.ai [0,1,2,5,6,7,15,41] mixed ?_;(repeat (first | refine RW.ro fx (h:= ?_) | refine RW.skip (h:= ?_) | refine RW.op fx (h:= ?_) | refine RW.aF fx (h:= ?_) | refine RW.ah (h:= ?_) | (refine RW.ax (h:= ?_);(first | refine af.mk fx (hc:=c1 _) (h:= ?_)))));refine RW.nil ⟨by kernel_rfl,aa.mk (h:= ?_)⟩)
    refine SW.ak rfl (SW.skip ?_)
    (refine SW.ai [0,1,2,5,6,7,15,41] mixed ?_;(repeat (first | refine RW.ro (e2) (h:= ?_) | refine RW.skip (h:= ?_) | refine RW.op (e2) (h:= ?_) | refine RW.aF (e2) (h:= ?_) | refine RW.ah (h:= ?_)));refine RW.nil ⟨by kernel_rfl,aa.mk (h:= ?_)⟩)
    refine ⟨⟨i+1,by omega,by omega,fun y hy=> ?_⟩,id,by show l.length - (i+1)<l.length - i;omega,bg.mk U⟩
    rw [bQ hx,List.mem_append,List.mem_singleton] at hy
    refine hy.elim (hs y) fun e=> ?_
    rw [e];unfold qP
    rw [q3,show decide (30<x.ap.length)=false from decide_eq_false (by omega),show decide (30<x.re.length)=false from decide_eq_false (by omega)];rfl
  ·have h2:decide ((i:Int)<50)=false:=by simp only [decide_eq_false_iff_not];omega
   have hg:Bt l s.length o.cl.length=true:=by
    unfold Bt
    rw [show decide (40<l.length)=true from decide_eq_true (by omega)];simp
   have q4:decide ((l.length:Int)>40)=true:=by simp only [decide_eq_true_eq];omega
   rw [hg]
   (refine SW.ai [0,1,2,5,6,7,15,41] mixed ?_;(repeat (first | refine RW.ro (And.intro (h1) (h2)) (h:= ?_) | refine RW.skip (h:= ?_) | refine RW.op (And.intro (h1) (h2)) (h:= ?_) | refine RW.aF (And.intro (h1) (h2)) (h:= ?_) | refine RW.ah (h:= ?_)));refine RW.nil ⟨by kernel_rfl,aa.mk (h:= ?_)⟩)
   refine SW.ak rfl (SW.exit (SW.seq ?_))
   (refine SW.ai [0,1,2,5,6,7,15,41] mixed ?_;(repeat (first | refine RW.ro (q4) (h:= ?_) | refine RW.skip (h:= ?_) | refine RW.op (q4) (h:= ?_) | refine RW.aF (q4) (h:= ?_) | refine RW.ah (h:= ?_)));refine RW.nil ⟨by kernel_rfl,aa.mk (h:= ?_)⟩)
   exact SW.ret (End.mk [] (h4:=⟨rfl,rfl⟩))
 have h1:decide ((i:Int)<(l.length:Int))=false:=by simp only [decide_eq_false_iff_not];omega
 have hf:=fin (fun hh=>absurd hh h)
 unfold Bt
 rw [hf,Bool.false_or]
 (refine SW.ai [0,1,2,5,6,7,15,41] mixed ?_;(repeat (first | refine RW.ro (h1) (h:= ?_) | refine RW.skip (h:= ?_) | refine RW.op (h1) (h:= ?_) | refine RW.aF (h1) (h:= ?_) | refine RW.ah (h:= ?_)));refine RW.nil ⟨by kernel_rfl,aa.mk (h:= ?_)⟩)
 refine SW.ak rfl (SW.exit (SW.seq ?_))
 have p1:decide ((l.length:Int)>40)=decide (40<l.length):=by rw [Bool.eq_iff_iff];simp only [decide_eq_true_eq];omega
 have p2:decide ((s.length:Int)>40)=decide (40<s.length):=by rw [Bool.eq_iff_iff];simp only [decide_eq_true_eq];omega
 have p3:decide ((o.cl.length:Int)>40)=decide (40<o.cl.length):=by rw [Bool.eq_iff_iff];simp only [decide_eq_true_eq];omega
 rcases q4:decide (40<l.length) with _ | _ <;> rw [q4] at p1
 rotate_left
 ·(refine SW.ai [0,1,2,5,6,7,15,41] mixed ?_;(repeat (first | refine RW.ro (p1) (h:= ?_) | refine RW.skip (h:= ?_) | refine RW.op (p1) (h:= ?_) | refine RW.aF (p1) (h:= ?_) | refine RW.ah (h:= ?_)));refine RW.nil ⟨by kernel_rfl,aa.mk (h:= ?_)⟩)
  exact SW.ret (End.mk [] (h4:=⟨rfl,rfl⟩))
 rcases q5:decide (40<s.length) with _ | _ <;> rw [q5] at p2
 rotate_left
 ·(refine SW.ai [0,1,2,5,6,7,15,41] mixed ?_;(repeat (first | refine RW.ro (And.intro (p1) (p2)) (h:= ?_) | refine RW.skip (h:= ?_) | refine RW.op (And.intro (p1) (p2)) (h:= ?_) | refine RW.aF (And.intro (p1) (p2)) (h:= ?_) | refine RW.ah (h:= ?_)));refine RW.nil ⟨by kernel_rfl,aa.mk (h:= ?_)⟩)
  exact SW.ret (End.mk [] (h4:=⟨rfl,rfl⟩))
 rcases q6:decide (40<o.cl.length) with _ | _ <;> rw [q6] at p3
 ·(have fx:=(And.intro (p1) (And.intro (p2) (And.intro (hln) (p3))));refine SW.ai [0,1,2,5,6,7,15,41] mixed ?_;(repeat (first | refine RW.ro fx (h:= ?_) | refine RW.skip (h:= ?_) | refine RW.op fx (h:= ?_) | refine RW.aF fx (h:= ?_) | refine RW.ah (h:= ?_)));refine RW.nil ⟨by kernel_rfl,aa.mk (h:= ?_)⟩)
  exact SW.ret (End.mk [] (h4:=⟨rfl,rfl⟩))
 ·(have fx:=(And.intro (p1) (And.intro (p2) (And.intro (hln) (p3))));refine SW.ai [0,1,2,5,6,7,15,41] mixed ?_;(repeat (first | refine RW.ro fx (h:= ?_) | refine RW.skip (h:= ?_) | refine RW.op fx (h:= ?_) | refine RW.aF fx (h:= ?_) | refine RW.ah (h:= ?_)));refine RW.nil ⟨by kernel_rfl,aa.mk (h:= ?_)⟩)
  exact SW.ret (End.mk [] (h4:=⟨rfl,rfl⟩))
theorem n_ (l:List av)(hl:l.length<4611686018427387904)(s:List Sp)(o:aq)(ho:o.qW)(k:Nat):bp Try.prog ref23_Great.f [dD l,cF s,.agg o.cells] [] k 0 (bl (Bt l s.length o.cl.length)) []:=(yQ l hl s o ho).sc rfl k
end
section
attribute [local irreducible] SW RW bp SC af aa
def p_ (S:MM Dt Int×Nat)(e:av×Nat):MM Dt Int×Nat:=if MM.has S.1 e.1.dot then S else (MM.put S.1 S.2 e.1.dot (e.2:Int),MM.nO S.1 S.2 e.1.dot)
def mB (l:List av):MM Dt Int×Nat:=l.zipIdx.foldl p_ ([],0)
theorem xe (l:List av)(x:av):mB (l++[x])=p_ (mB l) (x,l.length):=by
 unfold mB
 rw [List.zipIdx_append,List.foldl_append]
 simp
theorem Cy (l:List av)(x:av)(d:Dt):ej (l++[x]) d=match ej l d with
  | some i=>some i
  | none=>if x.dot=d then some l.length else none:=by
 unfold ej
 rw [List.findIdx?_append]
 cases h:l.findIdx? fun o=>decide (o.dot=d) with
 | some i=>simp
 | none=>
  by_cases hx:x.dot=d
  ·simp [List.findIdx?_cons,hx]
  ·simp [List.findIdx?_cons,hx]
theorem vD {M:MM Dt Int}{d:Dt}:MM.has M d=(MM.get M d).isSome:=rfl
theorem zO (l:List av)(d:Dt):MM.get (mB l).1 d=(ej l d).map fun i=>(i:Int):=by
 induction l using Fw with
 | nil=>rfl
 | snoc l x ih=>
  rw [xe,Cy]
  unfold p_
  by_cases hh:MM.has (mB l).1 x.dot=true
  ·rw [if_pos hh,ih]
   cases hd:ej l d with
   | some i=>rfl
   | none=>
    by_cases e:x.dot=d
    ·exfalso
     have h2:=hh
     rw [vD,e,ih,hd] at h2
     cases h2
    ·rw [if_neg e]
  ·rw [if_neg hh]
   show MM.get (MM.put (mB l).1 (mB l).2 x.dot (l.length:Int)) d=_
   rw [MM.jR,ih]
   by_cases e:d=x.dot
   ·subst e
    rw [if_pos rfl]
    cases hd:ej l x.dot with
    | some i=>
     exfalso
     apply hh
     rw [vD,ih,hd];rfl
    | none=>rw [if_pos rfl];rfl
   ·rw [if_neg e]
    cases hd:ej l d with
    | some i=>rfl
    | none=>rw [if_neg fun h=>e h.symm]
theorem EG (l:List av)(d:Dt):MM.has (mB l).1 d=(ej l d).isSome:=by
 rw [vD,zO];cases ej l d <;> rfl
abbrev IF (l:List av)(o:aq):Hp:=[(4,.box 72 [.mp 3]),(3,.map (aH Dt.cells iv (mB l).1) (mB l).2),(2,.box 35 o.cells),(1,.box 23 [.gs 0 l.length]),(0,.arr 58 10 l.length (xV l))]
theorem GL (l:List av)(o:aq){k:Nat}(h:5≤k):(IF l o).ok (fun n=>decide (n<k))=true:=by
 have h1:∀ q:Nat→Bool,((aH Dt.cells iv (mB l).1).all fun e=>e.2.1.ok q && e.2.2.ok q)=true:=fun q=>jS _ _ (fun _=>rfl) (fun _=>rfl)
 simp [Hp.ok,Ob.ok,SV.aI,SV.ok,SV.bt,h1,aq.aj]
 omega
set_option maxHeartbeats 4000000 in
theorem AP (l:List av)(hl:l.length≤1048576)(o:aq):SB Try.prog claim_claims.f [.gs 0 l.length,.agg o.cells] [(0,.arr 58 10 l.length (xV l))] 1 4 (fun r F'=>r= .fn (.func claim_claims_1.f) [] [.ptr 2 0,.ptr 4 0,.ptr 1 0]∧F'=IF l o):=by
 refine claim_claims.enter (by simp [SV.ok,SV.aI,aq.aj]) (by simp [Hp.ok,Ob.ok,SV.bt]) (by simp) ?_
 dsimp only [claim_claims.s,Co.M,Co.G,Co.J,Co.H,Co.N,Co.F,Co.C,Co.Z,Co.B,Co.b8,Co.aA,Co.bz,Co.i6,Co.z8,Co.dm]
 refine SW.seq ?_
 (refine SW.ai [0,1,2,3,4,5,6,7,9,11,12,13,14,26] mixed ?_;(repeat (first | refine RW.ro U (h:= ?_) | refine RW.skip (h:= ?_) | refine RW.op U (h:= ?_) | refine RW.aF U (h:= ?_) | refine RW.ah (h:= ?_)));refine RW.nil ⟨by kernel_rfl,aa.mk (h:= ?_)⟩)
 refine SW.seq ?_
 (refine SW.ai [0,1,2,3,4,5,6,7,9,11,12,13,14,26] mixed ?_;(repeat (first | refine RW.ro U (h:= ?_) | refine RW.skip (h:= ?_) | refine RW.op U (h:= ?_) | refine RW.aF U (h:= ?_) | refine RW.ah (h:= ?_)));refine RW.nil ⟨by kernel_rfl,aa.mk (h:= ?_)⟩)
 refine SW.seq (SW.seq ?_)
 (refine SW.ai [0,1,2,3,4,5,6,7,9,11,12,13,14,26] mixed ?_;(repeat (first | refine RW.ro U (h:= ?_) | refine RW.skip (h:= ?_) | refine RW.op U (h:= ?_) | refine RW.aF U (h:= ?_) | refine RW.ah (h:= ?_)));refine RW.nil ⟨by kernel_rfl,aa.mk (h:= ?_)⟩)
 refine SW.block ?_
 have z0:mB []=([],0):=rfl
 have s0:bE [SV.d DV.nC] 0 [SV.mp 3]=[SV.mp 3]:=rfl
 have mo:∀ (q:Nat→Bool) (M:MM Dt Int),((aH Dt.cells iv M).all fun e=>e.2.1.ok q && e.2.2.ok q)=true:=fun q M=>jS _ _ (fun _=>rfl) (fun _=>rfl)
 have mr:∀ (ρ:Nat→Nat) (M:MM Dt Int),(aH Dt.cells iv M).map (fun e=>(e.1,e.2.1.aV ρ,e.2.2.aV ρ))=aH Dt.cells iv M:=fun ρ M=>jv ρ M (fun a=>Dt.aD a ρ) (fun v=>rfl)
 refine SW.c8 (α:={i:Nat // i≤l.length}) (fun i=>⟨[(13,i64 i.1),(12,i64 l.length),(11,.gs 0 l.length),(5,.ptr 4 0),(3,.ptr 2 0),(2,.ptr 1 0)],[(4,.box 72 [.mp 3]),(3,.map (aH Dt.cells iv (mB (l.take i.1)).1) (mB (l.take i.1)).2),(2,.box 35 o.cells),(1,.box 23 [.gs 0 l.length]),(0,.arr 58 10 l.length (xV l))],5⟩) (fun i=>l.length - i.1) ⟨0,by omega⟩ id (And.intro s0 <| And.intro z0 (And.intro (show aH Dt.cells iv ([]:MM Dt Int)=[] from rfl) (aq.aj o))) (round:= ?_)
 rintro ⟨i,hi⟩
 dsimp only
 refine SW.seq ?_
 by_cases h:i<l.length
 ·have h1:decide ((i:Int)<(l.length:Int))=true:=by simp only [decide_eq_true_eq];omega
  have e2:IntKind.i64.wrap ((i:Int)+1)=((i+1:Nat):Int):=wrap_i64 _ (by omega)
  obtain ⟨x,hx⟩:=aL h
  have e1:l.take (i+1)=l.take i++[x]:=bQ hx
  have hli:(l.take i).length=i:=by rw [List.length_take];omega
  have es:mB (l.take (i+1))=p_ (mB (l.take i)) (x,i):=by rw [e1,xe,hli]
  obtain ⟨M,c,hM⟩:∃ M c,mB (l.take i)=(M,c):=⟨_,_,rfl⟩
  rw [hM] at es ⊢
  dsimp only
  have u1:=je x.dot iv M
  have u3:=gX (kc:=Dt.cells) M x.dot
  have u4:=iQ (kc:=Dt.cells) M c x.dot (i:Int)
  (refine SW.ai [0,1,2,3,4,5,6,7,9,11,12,13,14,26] mixed ?_;(repeat (first | refine RW.ro (h1) (h:= ?_) | refine RW.skip (h:= ?_) | refine RW.op (h1) (h:= ?_) | refine RW.aF (h1) (h:= ?_) | refine RW.ah (h:= ?_)));refine RW.nil ⟨by kernel_rfl,aa.mk (h:= ?_)⟩)
  refine SW.seq (SW.au rfl (SW.skip ?_))
  refine SW.seq (SW.block (SW.seq ?_))
  (have fx:=(And.intro (jB hx) (And.intro (dV hx) (And.intro (yM) (h))));refine SW.ai [0,1,2,3,4,5,6,7,9,11,12,13,14,26] mixed ?_;(repeat (first | refine RW.ro fx (h:= ?_) | refine RW.skip (h:= ?_) | refine RW.op fx (h:= ?_) | refine RW.aF fx (h:= ?_) | refine RW.ah (h:= ?_)));refine RW.nil ⟨by kernel_rfl,aa.mk (h:= ?_)⟩)
  refine SW.seq ?_
  rcases hh:MM.has M x.dot with _ | _
  ·have es2:mB (l.take (i+1))=(MM.put M c x.dot (i:Int),MM.nO M c x.dot):=by rw [es];unfold p_;rw [if_neg (by rw [hh];decide)]
   (have fx:=(And.intro (u1) (And.intro (u3) (And.intro (x.dO) (hh))));refine SW.ai [0,1,2,3,4,5,6,7,9,11,12,13,14,26] mixed ?_;(repeat (first | refine RW.ro fx (h:= ?_) | refine RW.skip (h:= ?_) | refine RW.op fx (h:= ?_) | refine RW.aF fx (h:= ?_) | refine RW.ah (h:= ?_)));refine RW.nil ⟨by kernel_rfl,aa.mk (h:= ?_)⟩)
   refine SW.seq ?_
   (refine SW.ai [0,1,2,3,4,5,6,7,9,11,12,13,14,26] mixed ?_;(repeat (first | refine RW.ro U (h:= ?_) | refine RW.skip (h:= ?_) | refine RW.op U (h:= ?_) | refine RW.aF U (h:= ?_) | refine RW.ah (h:= ?_)));refine RW.nil ⟨by kernel_rfl,aa.mk (h:= ?_)⟩)
   refine SW.au rfl ?_
   (have fx:=(And.intro (u1) (And.intro (u4) (x.dO)));refine SW.ai [0,1,2,3,4,5,6,7,9,11,12,13,14,26] mixed ?_;(repeat (first | refine RW.ro fx (h:= ?_) | refine RW.skip (h:= ?_) | refine RW.op fx (h:= ?_) | refine RW.aF fx (h:= ?_) | refine RW.ah (h:= ?_)));refine RW.nil ⟨by kernel_rfl,aa.mk (h:= ?_)⟩)
   (refine SW.ai [0,1,2,3,4,5,6,7,9,11,12,13,14,26] mixed ?_;(repeat (first | refine RW.ro (e2) (h:= ?_) | refine RW.skip (h:= ?_) | refine RW.op (e2) (h:= ?_) | refine RW.aF (e2) (h:= ?_) | refine RW.ah (h:= ?_)));refine RW.nil ⟨by kernel_rfl,aa.mk (h:= ?_)⟩)
   exact ⟨⟨i+1,by omega⟩,id,by show l.length - (i+1)<l.length - i;omega,bg.mk (And.intro es2 (And.intro (mo · (MM.put M c x.dot (i:Int))) (aq.aj o)))⟩
  ·have es2:mB (l.take (i+1))=(M,c):=by rw [es];unfold p_;rw [if_pos (by exact hh)]
   (have fx:=(And.intro (u1) (And.intro (u3) (And.intro (x.dO) (hh))));refine SW.ai [0,1,2,3,4,5,6,7,9,11,12,13,14,26] mixed ?_;(repeat (first | refine RW.ro fx (h:= ?_) | refine RW.skip (h:= ?_) | refine RW.op fx (h:= ?_) | refine RW.aF fx (h:= ?_) | refine RW.ah (h:= ?_)));refine RW.nil ⟨by kernel_rfl,aa.mk (h:= ?_)⟩)
   refine SW.seq ?_
   (refine SW.ai [0,1,2,3,4,5,6,7,9,11,12,13,14,26] mixed ?_;(repeat (first | refine RW.ro U (h:= ?_) | refine RW.skip (h:= ?_) | refine RW.op U (h:= ?_) | refine RW.aF U (h:= ?_) | refine RW.ah (h:= ?_)));refine RW.nil ⟨by kernel_rfl,aa.mk (h:= ?_)⟩)
   refine SW.ak rfl (SW.skip ?_)
   (refine SW.ai [0,1,2,3,4,5,6,7,9,11,12,13,14,26] mixed ?_;(repeat (first | refine RW.ro (e2) (h:= ?_) | refine RW.skip (h:= ?_) | refine RW.op (e2) (h:= ?_) | refine RW.aF (e2) (h:= ?_) | refine RW.ah (h:= ?_)));refine RW.nil ⟨by kernel_rfl,aa.mk (h:= ?_)⟩)
   exact ⟨⟨i+1,by omega⟩,id,by show l.length - (i+1)<l.length - i;omega,bg.mk (And.intro es2 (And.intro (mo · M) (aq.aj o)))⟩
 have h1:decide ((i:Int)<(l.length:Int))=false:=by simp only [decide_eq_false_iff_not];omega
 have h2:i=l.length:=by omega
 subst h2
 rw [List.take_length]
 (refine SW.ai [0,1,2,3,4,5,6,7,9,11,12,13,14,26] mixed ?_;(repeat (first | refine RW.ro (h1) (h:= ?_) | refine RW.skip (h:= ?_) | refine RW.op (h1) (h:= ?_) | refine RW.aF (h1) (h:= ?_) | refine RW.ah (h:= ?_)));refine RW.nil ⟨by kernel_rfl,aa.mk (h:= ?_)⟩)
 refine SW.seq (SW.ak rfl (SW.exit (SW.seq ?_)))
 (refine SW.ai [0,1,2,3,4,5,6,7,9,11,12,13,14,26] mixed ?_;(repeat (first | refine RW.ro U (h:= ?_) | refine RW.skip (h:= ?_) | refine RW.op U (h:= ?_) | refine RW.aF U (h:= ?_) | refine RW.ah (h:= ?_)));refine RW.nil ⟨by kernel_rfl,aa.mk (h:= ?_)⟩)
 refine SW.ret ?_
 exact End.mk (IF l o) (h4:=⟨rfl,rfl⟩) (h6:=GL l o (Nat.le_refl 5))
end
end Go.Proofs.Ytefjaphfnkbbkaa
