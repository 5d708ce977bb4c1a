/-
 Trees of credentials: what stands below them: orders of dots, what vectors cover, what is found in rows.
-/
import Derived.Test.YtefjaphfnkbbkaaUK
import Derived.Test.YtefjaphfnkbbkaaUV
import Derived.Test.YtefjaphfnkbbkaaU9
import Derived.Test.YtefjaphfnkbbkaaU7
import Derived.Test.YtefjaphfnkbbkaaU8
import Derived.Test.YtefjaphfnkbbkaaUL
set_option linter.unusedSectionVars false
set_option linter.unusedVariables false
set_option linter.unusedSimpArgs false
namespace Go.Proofs.Ytefjaphfnkbbkaa
open Go.Sl Go.Proofs
section
attribute [local irreducible] SW RW bp SC af aa
def gF (a b:Int):Int:=if a<b then -1 else if a>b then 1 else 0
theorem GN (r n:Int):Go.Sl.Pure Try.prog dot_May.f [.agg [.d (.int .u8 r),.d (.int .u32 n)]] (bl (decide (r<8) && decide (n>0))):=by
 refine dot_May.enter (by first | rfl | simp [SV.ok,SV.aI]) (by first | rfl | simp [Hp.ok,Ob.ok,SV.ok,SV.aI,aS.aj]) (by simp) ?_
 dsimp only [dot_May.s,Co.M,Co.G,Co.J,Co.H,Co.N,Co.F,Co.C,Co.Z,Co.B,Co.b8,Co.aA,Co.bz,Co.i6,Co.z8,Co.dm]
 rcases h1:decide (r<8) with _ | _
 ·(repeat (first | refine SW.seq ?_ | refine SW.block ?_ | refine SW.g0 [0,1,2] mixed (h1) ?_ | refine SW.skip ?_ | refine SW.exit ?_ | refine SW.ret ?_ | refine SW.au rfl ?_ | refine SW.ak rfl ?_))
  exact End.mk [] (h4:=⟨rfl,rfl⟩)
 ·(repeat (first | refine SW.seq ?_ | refine SW.block ?_ | refine SW.g0 [0,1,2] mixed (h1) ?_ | refine SW.skip ?_ | refine SW.exit ?_ | refine SW.ret ?_ | refine SW.au rfl ?_ | refine SW.ak rfl ?_))
  exact End.mk [] (h4:=⟨rfl,rfl⟩)
theorem EK (r n:Int):Go.Sl.Pure Try.prog ref03_May.f [.agg [.d (.int .u8 r),.d (.int .u32 n)]] (bl (decide (r≤7) && decide (n≥1))):=by
 refine ref03_May.enter (by first | rfl | simp [SV.ok,SV.aI]) (by first | rfl | simp [Hp.ok,Ob.ok,SV.ok,SV.aI,aS.aj]) (by simp) ?_
 dsimp only [ref03_May.s,Co.M,Co.G,Co.J,Co.H,Co.N,Co.F,Co.C,Co.Z,Co.B,Co.b8,Co.aA,Co.bz,Co.i6,Co.z8,Co.dm]
 rcases h1:decide (r≤7) with _ | _
 ·(repeat (first | refine SW.seq ?_ | refine SW.block ?_ | refine SW.g0 [0,1,2] mixed (h1) ?_ | refine SW.skip ?_ | refine SW.exit ?_ | refine SW.ret ?_ | refine SW.au rfl ?_ | refine SW.ak rfl ?_))
  exact End.mk [] (h4:=⟨rfl,rfl⟩)
 ·(repeat (first | refine SW.seq ?_ | refine SW.block ?_ | refine SW.g0 [0,1,2] mixed (h1) ?_ | refine SW.skip ?_ | refine SW.exit ?_ | refine SW.ret ?_ | refine SW.au rfl ?_ | refine SW.ak rfl ?_))
  exact End.mk [] (h4:=⟨rfl,rfl⟩)
theorem vF (d:Dt)(k:Nat):bp Try.prog dot_May.f [.agg d.cells] [] k 0 (bl d.may) []:=by
 have:=(GN d.r d.n).sc rfl k
 have e:d.may=(decide ((d.r:Int)<8) && decide ((d.n:Int)>0)):=by
  unfold Dt.may
  rw [Bool.eq_iff_iff];simp only [Bool.and_eq_true,decide_eq_true_eq];omega
 rw [e];exact this
theorem ri (d:Dt)(k:Nat):bp Try.prog ref03_May.f [.agg d.cells] [] k 0 (bl d.may) []:=by
 have:=(EK d.r d.n).sc rfl k
 have e:d.may=(decide ((d.r:Int)≤7) && decide ((d.n:Int)≥1)):=by
  unfold Dt.may
  rw [Bool.eq_iff_iff];simp only [Bool.and_eq_true,decide_eq_true_eq];omega
 rw [e];exact this
theorem AR (v:aS)(d:Dt):Go.Sl.Pure Try.prog vector_Covers.f [.agg v.cells,.agg d.cells] (bl (v.iy d)):=by
 refine vector_Covers.enter (by first | rfl | simp [SV.ok,SV.aI]) (by first | rfl | simp [Hp.ok,Ob.ok,SV.ok,SV.aI,aS.aj]) (by simp) ?_
 dsimp only [vector_Covers.s,Co.M,Co.G,Co.J,Co.H,Co.N,Co.F,Co.C,Co.Z,Co.B,Co.b8,Co.aA,Co.bz,Co.i6,Co.z8,Co.dm]
 rcases h:d.may with _ | _
 ·(repeat (first | refine SW.seq ?_ | refine SW.block ?_ | (refine SW.ai [0,1,2,3,4] mixed ?_;(repeat (first | refine RW.ro (h) (h:= ?_) | refine RW.skip (h:= ?_) | refine RW.op (h) (h:= ?_) | refine RW.aF (h) (h:= ?_) | refine RW.ah (h:= ?_) | (refine RW.ax (h:= ?_);(first | refine af.mk (h) (hc:=vF _ _) (h:= ?_) | refine af.mk (h) (hc:=ri _ _) (h:= ?_)))));refine RW.nil ⟨by kernel_rfl,aa.mk (h:= ?_)⟩) | refine SW.skip ?_ | refine SW.exit ?_ | refine SW.ret ?_ | refine SW.au rfl ?_ | refine SW.ak rfl ?_))
  have e:v.iy d=false:=by unfold aS.iy;rw [h];rfl
  exact End.mk [] (h4:=⟨by rw [e];rfl,rfl⟩)
 ·have hr:d.r<8:=by
   have:=h
   simp only [Dt.may,Bool.and_eq_true,decide_eq_true_eq] at this
   exact this.1
  have e:v.iy d=decide ((v.get d.r:Int)≥d.n):=by
   unfold aS.iy
   rw [h,Bool.true_and,Bool.eq_iff_iff];simp only [decide_eq_true_eq];omega
  (repeat (first | refine SW.seq ?_ | refine SW.block ?_ | (have fx:=(And.intro (h) (aS.mN v hr));refine SW.ai [0,1,2,3,4] mixed ?_;(repeat (first | refine RW.ro fx (h:= ?_) | refine RW.skip (h:= ?_) | refine RW.op fx (h:= ?_) | refine RW.aF fx (h:= ?_) | refine RW.ah (h:= ?_) | (refine RW.ax (h:= ?_);(first | refine af.mk fx (hc:=vF _ _) (h:= ?_) | refine af.mk fx (hc:=ri _ _) (h:= ?_)))));refine RW.nil ⟨by kernel_rfl,aa.mk (h:= ?_)⟩) | refine SW.skip ?_ | refine SW.exit ?_ | refine SW.ret ?_ | refine SW.au rfl ?_ | refine SW.ak rfl ?_))
  exact End.mk [] (h4:=⟨by rw [e];rfl,rfl⟩)
theorem yT (v:aS)(d:Dt):Go.Sl.Pure Try.prog ref04_Covers.f [.agg v.cells,.agg d.cells] (bl (v.iy d)):=by
 refine ref04_Covers.enter (by first | rfl | simp [SV.ok,SV.aI]) (by first | rfl | simp [Hp.ok,Ob.ok,SV.ok,SV.aI,aS.aj]) (by simp) ?_
 dsimp only [ref04_Covers.s,Co.M,Co.G,Co.J,Co.H,Co.N,Co.F,Co.C,Co.Z,Co.B,Co.b8,Co.aA,Co.bz,Co.i6,Co.z8,Co.dm]
 rcases h:d.may with _ | _
 ·(repeat (first | refine SW.seq ?_ | refine SW.block ?_ | (refine SW.ai [0,1,2,3,4] mixed ?_;(repeat (first | refine RW.ro (h) (h:= ?_) | refine RW.skip (h:= ?_) | refine RW.op (h) (h:= ?_) | refine RW.aF (h) (h:= ?_) | refine RW.ah (h:= ?_) | (refine RW.ax (h:= ?_);(first | refine af.mk (h) (hc:=vF _ _) (h:= ?_) | refine af.mk (h) (hc:=ri _ _) (h:= ?_)))));refine RW.nil ⟨by kernel_rfl,aa.mk (h:= ?_)⟩) | refine SW.skip ?_ | refine SW.exit ?_ | refine SW.ret ?_ | refine SW.au rfl ?_ | refine SW.ak rfl ?_))
  have e:v.iy d=false:=by unfold aS.iy;rw [h];rfl
  exact End.mk [] (h4:=⟨by rw [e];rfl,rfl⟩)
 ·have hr:d.r<8:=by
   have:=h
   simp only [Dt.may,Bool.and_eq_true,decide_eq_true_eq] at this
   exact this.1
  have e:v.iy d=decide ((d.n:Int)≤v.get d.r):=by
   unfold aS.iy
   rw [h,Bool.true_and,Bool.eq_iff_iff];simp only [decide_eq_true_eq];omega
  (repeat (first | refine SW.seq ?_ | refine SW.block ?_ | (have fx:=(And.intro (h) (aS.mN v hr));refine SW.ai [0,1,2,3,4] mixed ?_;(repeat (first | refine RW.ro fx (h:= ?_) | refine RW.skip (h:= ?_) | refine RW.op fx (h:= ?_) | refine RW.aF fx (h:= ?_) | refine RW.ah (h:= ?_) | (refine RW.ax (h:= ?_);(first | refine af.mk fx (hc:=vF _ _) (h:= ?_) | refine af.mk fx (hc:=ri _ _) (h:= ?_)))));refine RW.nil ⟨by kernel_rfl,aa.mk (h:= ?_)⟩) | refine SW.skip ?_ | refine SW.exit ?_ | refine SW.ret ?_ | refine SW.au rfl ?_ | refine SW.ak rfl ?_))
  exact End.mk [] (h4:=⟨by rw [e];rfl,rfl⟩)
theorem uI (v:aS)(d:Dt)(k:Nat):bp Try.prog vector_Covers.f [.agg v.cells,.agg d.cells] [] k 0 (bl (v.iy d)) []:=(AR v d).sc rfl k
theorem sS (v:aS)(d:Dt)(k:Nat):bp Try.prog ref04_Covers.f [.agg v.cells,.agg d.cells] [] k 0 (bl (v.iy d)) []:=(yT v d).sc rfl k
theorem AS (a b:aq):Go.Sl.Pure Try.prog order_Before.f [.agg a.cells,.agg b.cells] (bl (a.before b)):=by
 refine order_Before.enter (by first | rfl | simp [SV.ok,SV.aI]) (by first | rfl | simp [Hp.ok,Ob.ok,SV.ok,SV.aI,aS.aj]) (by simp) ?_
 dsimp only [order_Before.s,Co.M,Co.G,Co.J,Co.H,Co.N,Co.F,Co.C,Co.Z,Co.B,Co.b8,Co.aA,Co.bz,Co.i6,Co.z8,Co.dm]
 (repeat (first | refine SW.seq ?_ | refine SW.block ?_ | (refine SW.ai [0,1,2,3,4] mixed ?_;(repeat (first | refine RW.ro U (h:= ?_) | refine RW.skip (h:= ?_) | refine RW.op U (h:= ?_) | refine RW.aF U (h:= ?_) | refine RW.ah (h:= ?_) | (refine RW.ax (h:= ?_);(first | refine af.mk U (hc:=uI _ _ _) (h:= ?_) | refine af.mk U (hc:=sS _ _ _) (h:= ?_)))));refine RW.nil ⟨by kernel_rfl,aa.mk (h:= ?_)⟩) | refine SW.skip ?_ | refine SW.exit ?_ | refine SW.ret ?_ | refine SW.au rfl ?_ | refine SW.ak rfl ?_))
 exact End.mk [] (h4:=⟨rfl,rfl⟩)
theorem yU (a b:aq):Go.Sl.Pure Try.prog ref10_Before.f [.agg a.cells,.agg b.cells] (bl (a.before b)):=by
 refine ref10_Before.enter (by first | rfl | simp [SV.ok,SV.aI]) (by first | rfl | simp [Hp.ok,Ob.ok,SV.ok,SV.aI,aS.aj]) (by simp) ?_
 dsimp only [ref10_Before.s,Co.M,Co.G,Co.J,Co.H,Co.N,Co.F,Co.C,Co.Z,Co.B,Co.b8,Co.aA,Co.bz,Co.i6,Co.z8,Co.dm]
 (repeat (first | refine SW.seq ?_ | refine SW.block ?_ | (refine SW.ai [0,1,2,3,4] mixed ?_;(repeat (first | refine RW.ro U (h:= ?_) | refine RW.skip (h:= ?_) | refine RW.op U (h:= ?_) | refine RW.aF U (h:= ?_) | refine RW.ah (h:= ?_) | (refine RW.ax (h:= ?_);(first | refine af.mk U (hc:=uI _ _ _) (h:= ?_) | refine af.mk U (hc:=sS _ _ _) (h:= ?_)))));refine RW.nil ⟨by kernel_rfl,aa.mk (h:= ?_)⟩) | refine SW.skip ?_ | refine SW.exit ?_ | refine SW.ret ?_ | refine SW.au rfl ?_ | refine SW.ak rfl ?_))
 exact End.mk [] (h4:=⟨rfl,rfl⟩)
theorem qd (a b:aq)(k:Nat):bp Try.prog order_Before.f [.agg a.cells,.agg b.cells] [] k 0 (bl (a.before b)) []:=(AS a b).sc rfl k
theorem d_ (a b:aq)(k:Nat):bp Try.prog ref10_Before.f [.agg a.cells,.agg b.cells] [] k 0 (bl (a.before b)) []:=(yU a b).sc rfl k
end
section
section
attribute [local irreducible] SW RW bp SC af aa
theorem yV:∀ (x y a b:SV),bE (bE [x,y] 0 [a]) 1 [b]=[a,b]:=fun _ _ _ _=>rfl
theorem yW {l:List aq}{d:Dt}{i:Nat}{x:aq}(hx:l[i]? =some x)(h:cZ (l.take i) d=none):cZ (l.take (i+1)) d=if x.dot=d then some x else none:=by
 unfold cZ at*
 rw [bQ hx,List.find?_append,h]
 by_cases e:x.dot=d <;> simp [e]
theorem AT {l:List aq}{d:Dt}{i:Nat}{x:aq}(hx:l[i]? =some x)(h:cZ (l.take i) d=none)(he:x.dot=d):cZ l d=some x:=by
 unfold cZ at*
 have hl:l=l.take i++x::l.drop (i+1):=by
  conv=>lhs;rw [← List.take_append_drop i l]
  congr 1
  rw [List.drop_eq_getElem_cons (bq hx)]
  congr 1
  rw [List.getElem?_eq_getElem (bq hx)] at hx
  injection hx
 rw [hl,List.find?_append,h]
 simp [he]
theorem zR {l:List aq}{i:Nat}{x:aq}(h:l[i]? =some x):List.take 2 (List.drop (i*29) (List.map SV.d (l.flatMap aq.ds)))=x.dot.cells:=by
 have:=Eh h (j:=0) (n:=2) (by omega)
 rw [Nat.add_zero,List.drop_zero] at this
 rw [this];rfl
theorem xh {l:List aq}{i:Nat}{x:aq}(h:l[i]? =some x):(i*29+2≤(List.map SV.d (l.flatMap aq.ds)).length)=True:=eq_true (by
 have:=bq h
 rw [List.length_map,kY]
 omega)
theorem EL (l:List aq)(hl:l.length<4611686018427387904)(d:Dt):Go.Sl.Pure Try.prog ref10_Find.f [ops l,.agg d.cells] (.cg [.agg ((cZ l d).getD aq.zero).cells,bl (cZ l d).isSome]):=by
 refine ref10_Find.enter (by first | rfl | simp [SV.ok,SV.aI]) (by first | rfl | simp [Hp.ok,Ob.ok,SV.ok,SV.aI,aS.aj]) (by simp) ?_
 dsimp only [ref10_Find.s,Co.M,Co.G,Co.J,Co.H,Co.N,Co.F,Co.C,Co.Z,Co.B,Co.b8,Co.aA,Co.bz,Co.i6,Co.z8,Co.dm]
 (repeat (first | refine SW.seq ?_ | refine SW.block ?_ | refine SW.g0 [0,1,3,4,5,6,10,19] mixed U ?_ | refine SW.skip ?_ | refine SW.exit ?_ | refine SW.ret ?_ | refine SW.au rfl ?_ | refine SW.ak rfl ?_))
 refine SW.c8 (α:={i:Nat // i≤l.length∧cZ (l.take i) d=none}) (fun i=>⟨[(6,i64 i.1),(0,ops l),(3,.ptr 0 0),(4,.ptr 1 0)],[(1,.box 35 aq.zero.cells),(0,.box 29 d.cells)],2⟩) (fun i=>l.length - i.1) ⟨0,by omega,rfl⟩ id U (round:= ?_)
 rintro ⟨i,hi,hs⟩
 by_cases h:i<l.length
 ·have h1:decide ((i:Int)<l.length)=true:=by simp only [decide_eq_true_eq];omega
  obtain ⟨x,hx⟩:=aL h
  have e2:IntKind.i64.wrap ((i:Int)+1)=((i+1:Nat):Int):=wrap_i64 _ (by omega)
  by_cases he:x.dot=d
  ·have e3:decide (x.dot=d)=true:=by simp [he]
   (repeat (first | refine SW.seq ?_ | refine SW.block ?_ | refine SW.g0 [0,1,3,4,5,6,10,19] mixed (And.intro (h1) (And.intro (zR hx) (And.intro (xh hx) (And.intro (wK hx) (And.intro (oQ hx) (And.intro (e2) (e3))))))) ?_ | refine SW.skip ?_ | refine SW.exit ?_ | refine SW.ret ?_ | refine SW.au rfl ?_ | refine SW.ak rfl ?_))
   have hf:=AT hx hs he
   rw [hf]
   exact End.mk [] (h4:=⟨rfl,rfl⟩)
  ·have e3:decide (x.dot=d)=false:=by simp [he]
   (repeat (first | refine SW.seq ?_ | refine SW.block ?_ | refine SW.g0 [0,1,3,4,5,6,10,19] mixed (And.intro (h1) (And.intro (zR hx) (And.intro (xh hx) (And.intro (e2) (e3))))) ?_ | refine SW.skip ?_ | refine SW.exit ?_ | refine SW.ret ?_ | refine SW.au rfl ?_ | refine SW.ak rfl ?_))
   exact Next.mk ⟨i+1,by omega,by rw [yW hx hs,if_neg he]⟩ id U
 ·have h1:decide ((i:Int)<l.length)=false:=by simp only [decide_eq_false_iff_not];omega
  (repeat (first | refine SW.seq ?_ | refine SW.block ?_ | refine SW.g0 [0,1,3,4,5,6,10,19] mixed (h1) ?_ | refine SW.skip ?_ | refine SW.exit ?_ | refine SW.ret ?_ | refine SW.au rfl ?_ | refine SW.ak rfl ?_))
  have hf:cZ l d=none:=by rwa [List.take_of_length_le (by omega)] at hs
  rw [hf]
  exact End.mk [] (h4:=⟨rfl,rfl⟩)
theorem rj (l:List aq)(hl:l.length<4611686018427387904)(d:Dt)(k:Nat):bp Try.prog ref10_Find.f [ops l,.agg d.cells] [] k 0 (.cg [.agg ((cZ l d).getD aq.zero).cells,bl (cZ l d).isSome]) []:=(EL l hl d).sc rfl k
end
end
section
section
attribute [local irreducible] SW RW bp SC af aa
def CB (o:aq):Nat:=match o.lines with
 | .sl n _=>n
 | _=>0
def AF (o:aq):Prop:=∃ n cs,o.lines= .sl n cs∧n≤9223372036854775807
def jU (l:List aq):Nat→Int
 | 0=>0
 | i+1=>IntKind.i64.wrap (jU l i+((l[i]?).map CB).getD 0)
def iB (l:List aq):Bool:=decide (l.length>80) || decide (jU l (min l.length 100)>300)
theorem CC {l:List aq}{i:Nat}{x:aq}(h:l[i]? =some x):(List.map SV.d (l.flatMap aq.ds))[i*29+28]? =some (.d x.lines):=by rw [Gm h (by omega)];rfl
theorem CD (l:List aq)(hl:∀ x,x∈l→AF x)(hlen:l.length≤9223372036854775807):Go.Sl.Pure Try.prog ref10_Great.f [ops l] (bl (iB l)):=by
 refine ref10_Great.enter (by first | rfl | simp [SV.ok,SV.aI]) (by first | rfl | simp [Hp.ok,Ob.ok,SV.ok,SV.aI,aS.aj]) (by simp) ?_
 dsimp only [ref10_Great.s,Co.M,Co.G,Co.J,Co.H,Co.N,Co.F,Co.C,Co.Z,Co.B,Co.b8,Co.aA,Co.bz,Co.i6,Co.z8,Co.dm]
 (repeat (first | refine SW.seq ?_ | refine SW.block ?_ | refine SW.g0 [0,2,3,4,12] mixed U ?_ | refine SW.skip ?_ | refine SW.exit ?_ | refine SW.ret ?_ | refine SW.au rfl ?_ | refine SW.ak rfl ?_))
 refine SW.c8 (α:={i:Nat // i≤l.length∧i≤100}) (fun i=>⟨[(4,i64 i.1),(0,ops l),(3,i64 (jU l i.1))],[],0⟩) (fun i=>100 - i.1) ⟨0,by omega,by omega⟩ id (show jU l 0=0 from rfl) (round:= ?_)
 rintro ⟨i,hi,hi2⟩
 by_cases h:i<l.length
 ·have h1:decide ((i:Int)<l.length)=true:=by simp only [decide_eq_true_eq];omega
  by_cases h2:i<100
  ·have h3:decide ((i:Int)<100)=true:=by simp only [decide_eq_true_eq];omega
   obtain ⟨x,hx⟩:=aL h
   obtain ⟨n,cs,hx1,hx2⟩:=hl x (List.mem_of_getElem? hx)
   have e2:IntKind.i64.wrap ((i:Int)+1)=((i+1:Nat):Int):=wrap_i64 _ (by omega)
   have e3:IntKind.i64.wrap (jU l i+(n:Int))=jU l (i+1):=by simp [jU,hx,CB,hx1]
   (repeat (first | refine SW.seq ?_ | refine SW.block ?_ | refine SW.g0 [0,2,3,4,12] mixed (And.intro (h1) (And.intro (h3) (And.intro (CC hx) (And.intro (hx1) (And.intro (e2) (e3)))))) ?_ | refine SW.skip ?_ | refine SW.exit ?_ | refine SW.ret ?_ | refine SW.au rfl ?_ | refine SW.ak rfl ?_))
   exact Next.mk ⟨i+1,by omega,by omega⟩ id U
  ·have h3:decide ((i:Int)<100)=false:=by simp only [decide_eq_false_iff_not];omega
   have h4:decide ((l.length:Int)>80)=true:=by simp only [decide_eq_true_eq];omega
   (repeat (first | refine SW.seq ?_ | refine SW.block ?_ | refine SW.g0 [0,2,3,4,12] mixed (And.intro (h1) (And.intro (h3) (h4))) ?_ | refine SW.skip ?_ | refine SW.exit ?_ | refine SW.ret ?_ | refine SW.au rfl ?_ | refine SW.ak rfl ?_))
   have:iB l=true:=by unfold iB;rw [show decide (l.length>80)=true by simp;omega];rfl
   exact End.mk [] (h4:=⟨by rw [this];rfl,rfl⟩)
 ·have h1:decide ((i:Int)<l.length)=false:=by simp only [decide_eq_false_iff_not];omega
  have e:min l.length 100=i:=by omega
  rcases h4:decide ((l.length:Int)>80) with _ | _
  ·(repeat (first | refine SW.seq ?_ | refine SW.block ?_ | refine SW.g0 [0,2,3,4,12] mixed (And.intro (h1) (h4)) ?_ | refine SW.skip ?_ | refine SW.exit ?_ | refine SW.ret ?_ | refine SW.au rfl ?_ | refine SW.ak rfl ?_))
   have:iB l=decide (jU l i>300):=by
    unfold iB;rw [e,show decide (l.length>80)=false by simp at h4 ⊢;omega];rfl
   exact End.mk [] (h4:=⟨by rw [this];rfl,rfl⟩)
  ·(repeat (first | refine SW.seq ?_ | refine SW.block ?_ | refine SW.g0 [0,2,3,4,12] mixed (And.intro (h1) (h4)) ?_ | refine SW.skip ?_ | refine SW.exit ?_ | refine SW.ret ?_ | refine SW.au rfl ?_ | refine SW.ak rfl ?_))
   have:iB l=true:=by unfold iB;rw [show decide (l.length>80)=true by simp at h4 ⊢;omega];rfl
   exact End.mk [] (h4:=⟨by rw [this];rfl,rfl⟩)
theorem sU (l:List aq)(hl:∀ x,x∈l→AF x)(hlen:l.length≤9223372036854775807)(k:Nat):bp Try.prog ref10_Great.f [ops l] [] k 0 (bl (iB l)) []:=(CD l hl hlen).sc rfl k
theorem qf {l:List aq}(h:iB l=false):l.length≤80:=by
 unfold iB at h
 simp only [Bool.or_eq_false_iff,decide_eq_false_iff_not] at h
 omega
def hasB (r b:Nat):Bool:=decide (r / b % 2=1)
theorem GO (r b:Nat)(hr:r<256)(hb:0<b∧b<256):Go.Sl.Pure Try.prog ref16_has.f [u8 r,u8 b] (bl (hasB r b)):=by
 refine ref16_has.enter (by first | rfl | simp [SV.ok,SV.aI]) (by first | rfl | simp [Hp.ok,Ob.ok,SV.ok,SV.aI,aS.aj]) (by simp) ?_
 dsimp only [ref16_has.s,Co.M,Co.G,Co.J,Co.H,Co.N,Co.F,Co.C,Co.Z,Co.B,Co.b8,Co.aA,Co.bz,Co.i6,Co.z8,Co.dm]
 have hd:r / b≤r:=Nat.div_le_self r b
 have e1:((r:Int).tdiv (b:Int))=((r / b:Nat):Int):=by rw [Int.tdiv_eq_ediv_of_nonneg (Int.natCast_nonneg _)];rfl
 have e4':hasB r b=decide (r / b % 2=1):=rfl
 obtain ⟨q,hq⟩:∃ q,r / b=q:=⟨_,rfl⟩
 rw [hq] at hd e1 e4'
 have e2:IntKind.u8.wrap (q:Int)=(q:Int):=wrap_u8' _ (by omega)
 have e3:((q:Int).tmod 2)=((q % 2:Nat):Int):=by rw [Int.tmod_eq_emod_of_nonneg (Int.natCast_nonneg _)];rfl
 have e4:(((q % 2:Nat):Int) == 1)=hasB r b:=by
  rw [e4',Bool.eq_iff_iff];simp only [beq_iff_eq,decide_eq_true_eq];omega
 (repeat (first | refine SW.seq ?_ | refine SW.block ?_ | refine SW.g0 [0,1,4] mixed (And.intro (e1) (And.intro (e2) (And.intro (e3) (e4)))) ?_ | refine SW.skip ?_ | refine SW.exit ?_ | refine SW.ret ?_ | refine SW.au rfl ?_ | refine SW.ak rfl ?_))
 exact End.mk [] (h4:=⟨rfl,rfl⟩)
theorem fu (r b:Nat)(hr:r<256)(hb:0<b∧b<256)(k:Nat):bp Try.prog ref16_has.f [u8 r,u8 b] [] k 0 (bl (hasB r b)) []:=(GO r b hr hb).sc rfl k
def dn (r o:Nat):Nat→Bool
 | 0=>true
 | i+1=>dn r o i && (!hasB r (2 ^ i) || hasB o (2 ^ i))
def g_ (r o:Nat):Bool:=decide (r≠0) && dn r o 8
theorem mE {r o i:Nat}(h:dn r o i=false):∀ j,i≤j→dn r o j=false
 | 0,hj=>by rw [show i=0 by omega] at h;exact h
 | j+1,hj=>by
  by_cases e:i=j+1
  ·rw [← e];exact h
  ·simp only [dn,mE h j (by omega),Bool.false_and]
theorem AU (r o:Nat)(hr:r<256)(ho:o<256):Go.Sl.Pure Try.prog ref16_within.f [u8 r,u8 o] (bl (g_ r o)):=by
 refine ref16_within.enter (by first | rfl | simp [SV.ok,SV.aI]) (by first | rfl | simp [Hp.ok,Ob.ok,SV.ok,SV.aI,aS.aj]) (by simp) ?_
 dsimp only [ref16_within.s,Co.M,Co.G,Co.J,Co.H,Co.N,Co.F,Co.C,Co.Z,Co.B,Co.b8,Co.aA,Co.bz,Co.i6,Co.z8,Co.dm]
 by_cases h0:r=0
 ·have e0:((r:Int) == 0)=true:=by simp [h0]
  (repeat (first | refine SW.seq ?_ | refine SW.block ?_ | refine SW.g0 [0,1,4,5,7,9,22] mixed (e0) ?_ | refine SW.skip ?_ | refine SW.exit ?_ | refine SW.ret ?_ | refine SW.au rfl ?_ | refine SW.ak rfl ?_))
  have:g_ r o=false:=by unfold g_;simp [h0]
  exact End.mk [] (h4:=⟨by rw [this];rfl,rfl⟩)
 have e0:((r:Int) == 0)=false:=by simp [h0]
 have eV:g_ r o=dn r o 8:=by unfold g_;simp [h0]
 (repeat (first | refine SW.seq ?_ | refine SW.block ?_ | refine SW.g0 [0,1,4,5,7,9,22] mixed (e0) ?_ | refine SW.skip ?_ | refine SW.exit ?_ | refine SW.ret ?_ | refine SW.au rfl ?_ | refine SW.ak rfl ?_))
 refine SW.c8 (α:={i:Nat // i≤8∧dn r o i=true}) (fun i=>⟨[(5,i64 ((2 ^ i.1:Nat):Int)),(0,u8 r),(1,u8 o)],[],0⟩) (fun i=>8 - i.1) ⟨0,by omega,rfl⟩ id U (round:= ?_)
 rintro ⟨i,hi,hw⟩
 by_cases h:i<8
 ·have hp:0<2 ^ i∧2 ^ i≤128:=⟨Nat.two_pow_pos i,by
   have:=Nat.pow_le_pow_right (show 0<2 by omega) (show i≤7 by omega)
   simpa using this⟩
  have h1:decide ((((2 ^ i:Nat)):Int)<256)=true:=by simp only [decide_eq_true_eq];omega
  have e1:IntKind.u8.wrap ((2 ^ i:Nat):Int)=((2 ^ i:Nat):Int):=wrap_u8' _ (by omega)
  have e2:IntKind.i64.wrap (2*((2 ^ i:Nat):Int))=((2 ^ (i+1):Nat):Int):=by
   rw [wrap_i64 _ (by omega),Nat.pow_succ];omega
  generalize hg:2 ^ i=g at*
  rcases h2:hasB r g with _ | _
  ·(repeat (first | refine SW.seq ?_ | refine SW.block ?_ | (have fx:=(And.intro (h1) (And.intro (e1) (And.intro (e2) (h2))));refine SW.ai [0,1,4,5,7,9,22] mixed ?_;(repeat (first | refine RW.ro fx (h:= ?_) | refine RW.skip (h:= ?_) | refine RW.op fx (h:= ?_) | refine RW.aF fx (h:= ?_) | refine RW.ah (h:= ?_) | (refine RW.ax (h:= ?_);(first | refine af.mk fx (hc:=fu r _ hr ⟨by omega,by omega⟩ _) (h:= ?_) | refine af.mk fx (hc:=fu o _ ho ⟨by omega,by omega⟩ _) (h:= ?_)))));refine RW.nil ⟨by kernel_rfl,aa.mk (h:= ?_)⟩) | refine SW.skip ?_ | refine SW.exit ?_ | refine SW.ret ?_ | refine SW.au rfl ?_ | refine SW.ak rfl ?_))
   refine Next.mk ⟨i+1,by omega,?_⟩ id U
   simp only [dn,hw,hg,h2];rfl
  ·rcases h3:hasB o g with _ | _
   ·(repeat (first | refine SW.seq ?_ | refine SW.block ?_ | (have fx:=(And.intro (h1) (And.intro (e1) (And.intro (e2) (And.intro (h2) (h3)))));refine SW.ai [0,1,4,5,7,9,22] mixed ?_;(repeat (first | refine RW.ro fx (h:= ?_) | refine RW.skip (h:= ?_) | refine RW.op fx (h:= ?_) | refine RW.aF fx (h:= ?_) | refine RW.ah (h:= ?_) | (refine RW.ax (h:= ?_);(first | refine af.mk fx (hc:=fu r _ hr ⟨by omega,by omega⟩ _) (h:= ?_) | refine af.mk fx (hc:=fu o _ ho ⟨by omega,by omega⟩ _) (h:= ?_)))));refine RW.nil ⟨by kernel_rfl,aa.mk (h:= ?_)⟩) | refine SW.skip ?_ | refine SW.exit ?_ | refine SW.ret ?_ | refine SW.au rfl ?_ | refine SW.ak rfl ?_))
    have hf:dn r o (i+1)=false:=by simp only [dn,hg,h2,h3];simp
    have:g_ r o=false:=by rw [eV];exact mE hf 8 (by omega)
    exact End.mk [] (h4:=⟨by rw [this];rfl,rfl⟩)
   ·(repeat (first | refine SW.seq ?_ | refine SW.block ?_ | (have fx:=(And.intro (h1) (And.intro (e1) (And.intro (e2) (And.intro (h2) (h3)))));refine SW.ai [0,1,4,5,7,9,22] mixed ?_;(repeat (first | refine RW.ro fx (h:= ?_) | refine RW.skip (h:= ?_) | refine RW.op fx (h:= ?_) | refine RW.aF fx (h:= ?_) | refine RW.ah (h:= ?_) | (refine RW.ax (h:= ?_);(first | refine af.mk fx (hc:=fu r _ hr ⟨by omega,by omega⟩ _) (h:= ?_) | refine af.mk fx (hc:=fu o _ ho ⟨by omega,by omega⟩ _) (h:= ?_)))));refine RW.nil ⟨by kernel_rfl,aa.mk (h:= ?_)⟩) | refine SW.skip ?_ | refine SW.exit ?_ | refine SW.ret ?_ | refine SW.au rfl ?_ | refine SW.ak rfl ?_))
    refine Next.mk ⟨i+1,by omega,?_⟩ id U
    simp only [dn,hw,hg,h2,h3];rfl
 ·have e:i=8:=by omega
  subst e
  have h1:decide ((((2 ^ 8:Nat)):Int)<256)=false:=by decide
  (repeat (first | refine SW.seq ?_ | refine SW.block ?_ | (refine SW.ai [0,1,4,5,7,9,22] mixed ?_;(repeat (first | refine RW.ro (h1) (h:= ?_) | refine RW.skip (h:= ?_) | refine RW.op (h1) (h:= ?_) | refine RW.aF (h1) (h:= ?_) | refine RW.ah (h:= ?_) | (refine RW.ax (h:= ?_);(first | refine af.mk (h1) (hc:=fu r _ hr ⟨by omega,by omega⟩ _) (h:= ?_) | refine af.mk (h1) (hc:=fu o _ ho ⟨by omega,by omega⟩ _) (h:= ?_)))));refine RW.nil ⟨by kernel_rfl,aa.mk (h:= ?_)⟩) | refine SW.skip ?_ | refine SW.exit ?_ | refine SW.ret ?_ | refine SW.au rfl ?_ | refine SW.ak rfl ?_))
  exact End.mk [] (h4:=⟨by rw [eV,hw];rfl,rfl⟩)
theorem fh (r o:Nat)(hr:r<256)(ho:o<256)(k:Nat):bp Try.prog ref16_within.f [u8 r,u8 o] [] k 0 (bl (g_ r o)) []:=(AU r o hr ho).sc rfl k
theorem CE (l:List aq)(hl:l.length<1000000000)(k:Nat):SB Try.prog slices_Clone_Lapi_Op_api_Op.f [ops l] [] k 2 (fun r F'=>r= .gs (k+1) l.length∧F'=[(k+1,.arr 35 29 l.length (iF l))]):=by
 refine slices_Clone_Lapi_Op_api_Op.enter (by first | rfl | simp [SV.ok,SV.aI]) (by first | rfl | simp [Hp.ok,Ob.ok,SV.ok,SV.aI,aS.aj]) (by simp) ?_
 dsimp only [slices_Clone_Lapi_Op_api_Op.s,Co.M,Co.G,Co.J,Co.H,Co.N,Co.F,Co.C,Co.Z,Co.B,Co.b8,Co.aA,Co.bz,Co.i6,Co.z8,Co.dm]
 refine SW.seq ?_
 refine SW.g0 [0,2,4] mixed U ?_
 refine SW.seq (SW.seq (SW.HZ (n:=l.length) (cs:=l.flatMap aq.ds) rfl ?_ fun h0=> ?_))
 ·refine SW.ak rfl (SW.skip ?_)
  refine (?_:Sl.SW _ _ _ _ _ _)
  refine SW.seq ?_
  have f1:=bX (show k≠k+1 by omega)
  refine SW.g0 [0,2,4] mixed (f1) ?_
  refine SW.ret ?_
  exact End.mk [(k+1,.arr 35 29 l.length (iF l))] (h3:=HSub.cons (by simp [ag]) (HSub.nil _)) (h4:=⟨rfl,rfl⟩) (h5:=by simp [eF,SV.ok]) (h6:=by simp [Hp.ok,Ob.ok,SV.bt])
 ·have hl0:l=[]:=List.eq_nil_of_length_eq_zero h0
  subst hl0
  refine SW.au rfl (SW.seq ?_)
  refine SW.g0 [0,2,4] mixed U ?_
  refine SW.nM 2 35 29 rfl ?_
  refine SW.weak (fun n=>if n=k+1 then k else n) (st1:=⟨[(2,.gs (k+1) 0)],[(k+1,.arr 35 29 0 [])],k+2⟩) ?_ ?_
  ·refine ⟨by simp,fun n hn=>by simp;omega,?_,?_,?_⟩
   ·simp [dL,List.lookup,SV.aV,SV.ok]
   ·simp [u_,Ob.aV,Ob.ok,SV.bh,SV.aI,lk,List.lookup]
   ·simp [BU]
  refine SW.ret ?_
  exact End.mk [(k+1,.arr 35 29 0 [])] (h3:=fun _ _ h=>h) (h4:=⟨rfl,rfl⟩) (h5:=by simp [eF,SV.ok]) (h6:=by simp [Hp.ok,Ob.ok,SV.aI])
theorem CF (l:List aq)(hl:l.length<1000000000)(k:Nat):bp Try.prog slices_Clone_Lapi_Op_api_Op.f [ops l] [] k 2 (.gs (k+1) l.length) [(k+1,.arr 35 29 l.length (iF l))]:=by
 unfold bp
 refine (CE l hl k).here (fun _=>false) (fun n h=>by cases h) rfl rfl ?_
 rintro x F ⟨rfl,rfl⟩ _ _
 simp [SV.ok,Hp.ok,Ob.ok,SV.bt]
end
end
section
section
variable {σ:Type}
def eZ (step:σ→aq→σ×Bool):σ→List aq→Option Nat×σ
 | s,[]=>(none,s)
 | s,x::l=>if (step s x).2 then (some 0,(step s x).1) else ((eZ step (step s x).1 l).1.map (· +1),(eZ step (step s x).1 l).2)
def bw (step:σ→aq→σ×Bool):σ→List aq→List aq×σ
 | s,[]=>([],s)
 | s,x::l=>(if (step s x).2 then (bw step (step s x).1 l).1 else x::(bw step (step s x).1 l).1,(bw step (step s x).1 l).2)
theorem mT (step:σ→aq→σ×Bool):∀ (l:List aq) (s:σ),(bw step s l).1.length≤l.length
 | [],s=>Nat.le_refl _
 | x::l,s=>by
  have:=mT step l (step s x).1
  simp only [bw]
  split <;> simp <;> omega
theorem iP {step:σ→aq→σ×Bool}:∀ {l:List aq} {s:σ},(eZ step s l).1=none→bw step s l=(l,(eZ step s l).2)
 | [],s,_=>rfl
 | x ::l,s,h=>by
  simp only [eZ] at h ⊢
  by_cases e:(step s x).2=true
  ·rw [if_pos e] at h;cases h
  ·rw [if_neg e] at h ⊢
   have h2:(eZ step (step s x).1 l).1=none:=by
    cases hh:(eZ step (step s x).1 l).1 with
    | none=>rfl
    | some i=>rw [hh] at h;cases h
   simp only [bw]
   rw [iP h2,if_neg e]
theorem xk {step:σ→aq→σ×Bool}:∀ {l:List aq} {s:σ} {i:Nat},(eZ step s l).1=some i→i<l.length∧bw step s l=(l.take i++(bw step (eZ step s l).2 (l.drop (i+1))).1,(bw step (eZ step s l).2 (l.drop (i+1))).2)
 | [],s,i,h=>by cases h
 | x ::l,s,i,h=>by
  simp only [eZ] at h ⊢
  by_cases e:(step s x).2=true
  ·rw [if_pos e] at h ⊢
   injection h with h
   subst h
   simp [bw,e]
  ·rw [if_neg e] at h ⊢
   cases hh:(eZ step (step s x).1 l).1 with
   | none=>rw [hh] at h;cases h
   | some j=>
    rw [hh] at h
    injection h with h
    dsimp only at h
    subst h
    obtain ⟨h1,h2⟩:=xk hh
    refine ⟨by simp;omega,?_⟩
    simp only [bw]
    rw [h2,if_neg e]
    simp
structure uJ (P:Program)(g:Nat)(first cap:List SV)(Fh:σ→Hp)(step:σ→aq→σ×Bool)(bV:Nat)(I:Nat→σ→Prop)(G:aq→Prop)(B:Nat):Prop where
 nd:∀ s,((Fh s).map (·.1)).Nodup
 nm:∀ s x,(Fh (step s x).1).map (·.1)=(Fh s).map (·.1)
 nx:∀ i s x,I i s→G x→i<B→I (i+1) (step s x).1
 ok:∀ s x q,(Fh s).ok q=true→(Fh (step s x).1).ok q=true
 call:∀ i s x k,I i s→G x→i<B→(Fh s).ok (fun n=>decide (n<k))=true→bp P g (first++[.agg x.cells]++cap) (Fh s) k bV (bl (step s x).2) (Fh (step s x).1)
 a1:∀ s q,(Fh s).ok q=true→SV.aI q first=true∧SV.aI q cap=true
end
section
attribute [local irreducible] SW RW bp SC af aa
variable {σ:Type} {g:Nat} {first cap:List SV} {Fh:σ→Hp} {step:σ→aq→σ×Bool} {bV:Nat} {I:Nat→σ→Prop} {G:aq→Prop} {B:Nat}
def EM (o:Option Nat):SV:=match o with
 | some i=>i64 i
 | none=>i64 (-1)
structure j0 (Fh:σ→Hp)(n k:Nat)(s0 s:σ):Prop where
 nm:(Fh s).map (·.1)=(Fh s0).map (·.1)
 ok:(Fh s).ok (fun n=>decide (n<k))=true
 no:lk (Fh s) n=none
theorem j0.mono {n k k':Nat}{s0 s:σ}(h:j0 Fh n k s0 s)(hk:k≤k'):j0 Fh n k' s0 s:=⟨h.nm,Hp.dK hk h.ok,h.no⟩
theorem j0.next (hd:uJ Try.prog g first cap Fh step bV I G B){n k:Nat}{s0 s:σ}(h:j0 Fh n k s0 s)(x:aq):j0 Fh n k s0 (step s x).1:=
 ⟨(hd.nm s x).trans h.nm,hd.ok s x _ h.ok,nZ (by rw [hd.nm s x];exact iA h.no)⟩
theorem j0.ou {n k:Nat}{s0 s:σ}(h:j0 Fh n k s0 s)(hn:n<k){e sz len:Nat}(ds:List DV):Hp.ok (fun n=>decide (n<k)) ((n,.arr e sz len (ds.map SV.d))::Fh s)=true:=bU (by simpa using hn) (SV.bt _) h.ok
theorem j0.nd (hd:uJ Try.prog g first cap Fh step bV I G B){n k:Nat}{s0 s:σ}(h:j0 Fh n k s0 s)(o:Ob):(((n,o)::Fh s:Hp).map (·.1)).Nodup:=vu h.no (hd.nd s)
variable (hd:uJ Try.prog g first cap Fh step bV I G B)
include hd in
set_option maxHeartbeats 1000000 in
theorem AV (l:List aq)(s0:σ)(hl:l.length<1000000000)(hB:l.length≤B)(hG:∀ x,x∈l→G x)(hI:I 0 s0)(n k:Nat)(hn:n<k)(h0:j0 Fh n k s0 s0):
  SB Try.prog slices_IndexFunc_Lapi_Op_api_Op.f [.gs n l.length,.fn (.func g) first cap] ((n,.arr 35 29 l.length (iF l))::Fh s0) k (l.length*bV)
   (fun r F'=>r=EM (eZ step s0 l).1∧F'=(n,.arr 35 29 l.length (iF l))::Fh (eZ step s0 l).2):=by
 obtain ⟨o1,o2⟩:=hd.a1 s0 _ h0.ok
 refine slices_IndexFunc_Lapi_Op_api_Op.enter (by simp [SV.ok,SV.aI,o1,o2,hn]) (h0.ou hn _) (by simp) ?_
 dsimp only [slices_IndexFunc_Lapi_Op_api_Op.s,Co.M,Co.G,Co.J,Co.H,Co.N,Co.F,Co.C,Co.Z,Co.B,Co.b8,Co.aA,Co.bz,Co.i6,Co.z8,Co.dm]
 refine SW.seq ?_
 refine SW.g0 [0,1,4,5,7,8,9,16] mixed U ?_
 refine SW.seq (SW.seq ?_)
 refine SW.g0 [0,1,4,5,7,8,9,16] mixed U ?_
 refine SW.block ?_
 refine SW.loop (α:={x:Nat×σ // x.1≤l.length∧I x.1 x.2∧j0 Fh n (k+x.1*bV) s0 x.2∧eZ step s0 l=((eZ step x.2 (l.drop x.1)).1.map (· +x.1),(eZ step x.2 (l.drop x.1)).2)})
  (fun x=>⟨[(8,i64 x.1.1),(7,i64 l.length),(0,.gs n l.length),(1,.fn (.func g) first cap)],(n,.arr 35 29 l.length (iF l))::Fh x.1.2,k+x.1.1*bV⟩) (fun x=>l.length - x.1.1)
  ⟨(0,s0),by omega,hI,by simpa using h0,by simp⟩ id ?_ ?_
 ·exact bg.same (by simp) (by simp [dL,List.lookup,SV.aV,SV.dJ,SV.ok,o1,o2,hn]) (by simpa using h0.ou hn _) (bK (h0.nd hd _))
 rintro ⟨⟨i,s⟩,hi,hIs,hh,he⟩
 dsimp only at hi hIs hh he ⊢
 have hkk:k≤k+i*bV:=by omega
 by_cases h:i<l.length
 ·have h1:decide ((i:Int)<l.length)=true:=by simp only [decide_eq_true_eq];omega
  obtain ⟨x,hx⟩:=aL h
  have hdr:l.drop i=x::l.drop (i+1):=by
   rw [List.drop_eq_getElem_cons h]
   rw [List.getElem?_eq_getElem h] at hx
   injection hx with hx
   rw [hx]
  have e2:IntKind.i64.wrap ((i:Int)+1)=((i+1:Nat):Int):=wrap_i64 _ (by omega)
  have hc:=hd.call i s x (k+i*bV) hIs (hG x (List.mem_of_getElem? hx)) (by omega) hh.ok
  have hs:HSub (Fh s) ((n,.arr 35 29 l.length (iF l))::Fh s):=o6 hh.no fun _ _ h=>h
  have hm:dM (dN ((n,Ob.arr 35 29 l.length (iF l))::Fh s) (Fh (step s x).1) (Fh s)) (Fh (step s x).1)=(n,.arr 35 29 l.length (iF l))::Fh (step s x).1:=
   sI (pre:=[(n,.arr 35 29 l.length (iF l))]) (hd.nm s x).symm (hh.nd hd _)
  have hh2:=(hh.next hd x).mono (k':=k+i*bV+bV) (by omega)
  have hk2:k+i*bV+bV=k+(i+1)*bV:=by rw [Nat.succ_mul];omega
  rw [hdr] at he
  simp only [eZ] at he
  refine SW.seq ?_
  refine SW.g0 [0,1,4,5,7,8,9,16] mixed (h1) ?_
  refine SW.seq (SW.au rfl (SW.skip ?_))
  refine (?_:Sl.SW _ _ _ _ _ _)
  refine SW.seq (SW.block (SW.seq ?_))
  refine SW.g0 [0,1,4,5,7,8,9,16] mixed U ?_
  refine SW.seq ?_
  rcases hb:(step s x).2 with _ | _
  ·rw [hb] at hc
   refine SW.g1 [0,1,4,5,7,8,9,16] mixed (And.intro (wK hx) (And.intro (oQ hx) (hm))) (And.intro hs hc) ?_
   refine SW.ak rfl (SW.skip ?_)
   refine SW.g0 [0,1,4,5,7,8,9,16] mixed (e2) ?_
   rw [if_neg (by rw [hb];simp)] at he
   have hh3:j0 Fh n (k+(i+1)*bV) s0 (step s x).1:=by rw [← hk2];exact hh2
   refine ⟨⟨(i+1,(step s x).1),by dsimp only;omega,hd.nx i s x hIs (hG x (List.mem_of_getElem? hx)) (by omega),hh3,?_⟩,id,by simp;omega,?_⟩
   ·rw [he]
    simp only [Option.map_map]
    congr 2
    funext j
    simp only [Function.comp]
    omega
   ·exact bg.same (by simp) (by simp [dL,List.lookup,SV.aV,SV.dJ,SV.ok];exact ⟨by omega,(hd.a1 s0 _ (Hp.dK (by omega) h0.ok)).1,(hd.a1 s0 _ (Hp.dK (by omega) h0.ok)).2⟩) (hh3.ou (by omega) _) (bK (hh3.nd hd _))
  ·rw [hb] at hc
   refine SW.g1 [0,1,4,5,7,8,9,16] mixed (And.intro (wK hx) (And.intro (oQ hx) (hm))) (And.intro hs hc) ?_
   refine SW.au rfl (SW.seq ?_)
   have:k+i*bV+bV≤k+l.length*bV:=by
    have:=Nat.mul_le_mul_right bV (show i+1≤l.length by omega)
    omega
   refine SW.weak id (st1:=⟨[(5,i64 i)],(n,.arr 35 29 l.length (iF l))::Fh (step s x).1,k+l.length*bV⟩) (bg.same (by simp) (by simp [dL,List.lookup,SV.aV,SV.ok]) ((hh2.mono this).ou (by omega) _) (bK (hh2.nd hd _))) ?_
   refine SW.g0 [0,1,4,5,7,8,9,16] mixed U ?_
   rw [if_pos (by rw [hb])] at he
   refine SW.ret ?_
   rw [he]
   exact End.mk ((n,.arr 35 29 l.length (iF l))::Fh (step s x).1) (h3:=fun _ _ h=>h) (h4:=⟨by simp [eF,EM],rfl⟩) (h6:=(hh2.mono this).ou (by omega) _)
 ·have h1:decide ((i:Int)<l.length)=false:=by simp only [decide_eq_false_iff_not];omega
  have e:i=l.length:=by omega
  subst e
  rw [List.drop_length] at he
  refine SW.seq ?_
  refine SW.g0 [0,1,4,5,7,8,9,16] mixed (h1) ?_
  refine SW.seq (SW.ak rfl (SW.exit ?_))
  refine (?_:Sl.SW _ _ _ _ _ _)
  refine SW.seq ?_
  refine SW.g0 [0,1,4,5,7,8,9,16] mixed U ?_
  refine SW.ret ?_
  rw [he]
  exact End.mk ((n,.arr 35 29 l.length (iF l))::Fh s) (h3:=fun _ _ h=>h) (h4:=⟨rfl,rfl⟩) (h6:=(hh.mono (by omega)).ou (by omega) _)
include hd in
theorem vG {q:Nat→Bool}:∀ (l:List aq) (s:σ),(Fh s).ok q=true→(Fh (eZ step s l).2).ok q=true
 | [],s,h=>h
 | x::l,s,h=>by
  simp only [eZ]
  split
  ·exact hd.ok s x q h
  ·exact vG l _ (hd.ok s x q h)
include hd in
theorem xl {q:Nat→Bool}:∀ (l:List aq) (s:σ),(Fh s).ok q=true→(Fh (bw step s l).2).ok q=true
 | [],s,h=>h
 | x::l,s,h=>xl l _ (hd.ok s x q h)
include hd in
theorem rq:∀ (l:List aq) (s:σ),(Fh (eZ step s l).2).map (·.1)=(Fh s).map (·.1)
 | [],s=>rfl
 | x::l,s=>by
  simp only [eZ]
  split
  ·exact hd.nm s x
  ·exact (rq l _).trans (hd.nm s x)
include hd in
theorem CG:∀ (l:List aq) (s:σ) (i:Nat),(∀ x,x∈l→G x)→i+l.length≤B→I i s→∀ j,(eZ step s l).1=some j→I (i+j+1) (eZ step s l).2
 | [],s,i,_,_,_,j,h=>by cases h
 | x ::l,s,i,hG,hB,hi,j,h=>by
  simp only [List.length_cons] at hB
  simp only [eZ] at h ⊢
  by_cases e:(step s x).2=true
  ·rw [if_pos e] at h ⊢
   injection h with h;subst h
   exact hd.nx i s x hi (hG x (by simp)) (by omega)
  ·rw [if_neg e] at h ⊢
   cases hh:(eZ step (step s x).1 l).1 with
   | none=>rw [hh] at h;cases h
   | some q=>
    rw [hh] at h
    injection h with h
    dsimp only at h
    subst h
    have:=CG l (step s x).1 (i+1) (fun y hy=>hG y (List.mem_cons_of_mem _ hy)) (by omega) (hd.nx i s x hi (hG x (by simp)) (by omega)) q hh
    rwa [show i+(q+1)+1=i+1+q+1 by omega]
theorem CH {n:Nat}{s:σ}{o:Ob}(ho:∀ q,o.ok q=true)(j_:(Fh s).ok (fun m=>(lk (Fh s) m).isSome)=true)(hno:lk (Fh s) n=none):Hp.ok (fun m=>(lk ((n,o)::Fh s) m).isSome) ((n,o)::Fh s)=true:=by
 refine bU (by simp [ag]) (ho _) (Hp.lF (fun m hm=> ?_) j_)
 rw [ag]
 split
 ·rfl
 ·exact hm
include hd in
theorem AW (l:List aq)(s0:σ)(hl:l.length<1000000000)(hB:l.length≤B)(hG:∀ x,x∈l→G x)(hI:I 0 s0)(n k:Nat)(hn:n<k)(h0:j0 Fh n k s0 s0)(j_:(Fh s0).ok (fun m=>(lk (Fh s0) m).isSome)=true):
  bp Try.prog slices_IndexFunc_Lapi_Op_api_Op.f [.gs n l.length,.fn (.func g) first cap] ((n,.arr 35 29 l.length (iF l))::Fh s0) k (l.length*bV) (EM (eZ step s0 l).1) ((n,.arr 35 29 l.length (iF l))::Fh (eZ step s0 l).2):=by
 unfold bp
 have hq:=CH (n:=n) (o:= .arr 35 29 l.length (iF l)) (fun q=>SV.bt _) j_ h0.no
 have hq0:(Fh s0).ok (fun m=>(lk ((n,Ob.arr 35 29 l.length (iF l))::Fh s0) m).isSome)=true:=by
  simp only [Hp.ok,List.all_cons,Bool.and_eq_true] at hq ⊢
  exact hq.2
 obtain ⟨o1,o2⟩:=hd.a1 s0 _ hq0
 refine (AV hd l s0 hl hB hG hI n k hn h0).here (fun m=>(lk ((n,Ob.arr 35 29 l.length (iF l))::Fh s0) m).isSome) (fun m h e=>by rw [e] at h;cases h) (by simp only [SV.aI,SV.ok,o1,o2,Bool.and_true];simp [ag]) hq ?_
 rintro x F ⟨rfl,rfl⟩ _ _
 refine ⟨by unfold EM;split <;> rfl,?_⟩
 have:=vG hd l s0 hq0
 exact bU (by simp [ag]) (SV.bt _) (Hp.lF (fun m hm=>by rw [hm];rfl) this)
end
end
section
theorem CI {α:Type}{l:List α}{w:Nat}{x:α}(h:w<l.length):(l.set w x).take (w+1)=l.take w++[x]:=by
 rw [bQ (x:=x) (by simp [h]),List.take_set_of_le (Nat.le_refl _)]
theorem set_drop {α:Type}{l:List α}{w j:Nat}{x:α}(h:w<j):(l.set w x).drop j=l.drop j:=by
 rw [List.drop_set_of_lt h]
theorem drop_cons {α:Type}{l:List α}{i:Nat}{x:α}(hx:l[i]? =some x):l.drop i=x::l.drop (i+1):=by
 have h:=bq hx
 rw [List.drop_eq_getElem_cons h]
 rw [List.getElem?_eq_getElem h] at hx
 injection hx with hx
 rw [hx]
theorem CJ {α:Type}{l m:List α}{j:Nat}{x:α}(h:l.drop j=m.drop j)(hx:m[j]? =some x):l[j]? =some x:=by
 have h1:(l.drop j)[0]? =l[j]? :=by simp
 have h2:(m.drop j)[0]? =m[j]? :=by simp
 rw [← h1,h,h2];exact hx
theorem AX {α:Type}{l m:List α}{j:Nat}(h:l.drop j=m.drop j):l.drop (j+1)=m.drop (j+1):=by
 have:∀ q:List α,q.drop (j+1)=(q.drop j).drop 1:=fun q=>by rw [List.drop_drop]
 rw [this,this,h]
theorem CK (cur:List aq)(w m:Nat)(z:List SV)(hz:z.length=29)(hw:w+m=cur.length):(bE (iF cur) (w*29) ((List.replicate m z).flatten)).take (w*29)=iF (cur.take w):=by
 have hl:((List.replicate m z).flatten).length=m*29:=by simp [hz]
 have hc:(iF cur).length=cur.length*29:=by rw [List.length_map,kY]
 rw [pM (by rw [hl,hc,← hw,Nat.add_mul];exact Nat.le_refl _),List.append_assoc,List.take_append_of_le_length (by rw [List.length_take,hc,← hw,Nat.add_mul];omega),List.take_of_length_le (by rw [List.length_take];omega)]
 show ((cur.flatMap aq.ds).map SV.d).take (w*29)=_
 rw [← List.map_take]
 congr 1
 conv=>lhs;rw [← List.take_append_drop w cur]
 rw [List.flatMap_append,List.take_append_of_le_length,List.take_of_length_le]
 ·rw [kY,List.length_take];exact Nat.mul_le_mul_right 29 (Nat.min_le_left _ _)
 ·rw [kY,List.length_take,Nat.min_eq_left (by omega)];exact Nat.le_refl _
section
attribute [local irreducible] SW RW bp SC af aa
variable {σ:Type} {g:Nat} {first cap:List SV} {Fh:σ→Hp} {step:σ→aq→σ×Bool} {bV:Nat} {I:Nat→σ→Prop} {G:aq→Prop} {B:Nat}
variable (hd:uJ Try.prog g first cap Fh step bV I G B)
include hd in
set_option maxHeartbeats 4000000 in
theorem yX (l : List aq)(s0:σ)(hl:l.length<1000000000)(hB:l.length≤B)(hG:∀ x,x∈l→G x)(hI:I 0 s0)(n k:Nat)(hn:n<k)(h0:j0 Fh n k s0 s0)(j_:(Fh s0).ok (fun m=>(lk (Fh s0) m).isSome)=true):
    SB Try.prog slices_DeleteFunc_Lapi_Op_api_Op.f [.gs n l.length,.fn (.func g) first cap] ((n,.arr 35 29 l.length (iF l))::Fh s0) k (l.length*bV+l.length*(bV+1))
      (fun r F'=>r= .gs n (bw step s0 l).1.length∧F'=(n,.arr 35 29 (bw step s0 l).1.length (iF (bw step s0 l).1))::Fh (bw step s0 l).2):=by
  obtain ⟨o1,o2⟩:=hd.a1 s0 _ h0.ok
  have ok1:∀ kx,k≤kx→SV.aI (fun n=>decide (n<kx)) first=true∧SV.aI (fun n=>decide (n<kx)) cap=true:=fun kx hx=>hd.a1 s0 _ (Hp.dK hx h0.ok)
  refine slices_DeleteFunc_Lapi_Op_api_Op.enter (by simp [SV.ok,SV.aI,o1,o2,hn]) (h0.ou hn _) (by simp) ?_
  dsimp only [slices_DeleteFunc_Lapi_Op_api_Op.s,Co.M,Co.G,Co.J,Co.H,Co.N,Co.F,Co.C,Co.Z,Co.B,Co.b8,Co.aA,Co.bz,Co.i6,Co.z8,Co.dm]
  have hx:=AW hd l s0 hl hB hG hI n k hn h0 j_
  have hm0:dM (dN ((n,Ob.arr 35 29 l.length (iF l))::Fh s0) ((n,Ob.arr 35 29 l.length (iF l))::Fh (eZ step s0 l).2) (Fh s0)) (Fh (eZ step s0 l).2)=(n,Ob.arr 35 29 l.length (iF l))::Fh (eZ step s0 l).2:=
    uB (rq hd l s0).symm (h0.nd hd _)
  have h1s:j0 Fh n k s0 (eZ step s0 l).2:=⟨rq hd l s0,vG hd l s0 h0.ok,nZ (by rw [rq hd l s0];exact iA h0.no)⟩
  refine SW.seq ?_
  refine SW.g0 [0,1,4,5,6,7,12,19,29] mixed U ?_
  refine SW.seq ?_
  rcases hi:(eZ step s0 l).1 with _ | i
  · have hk:=iP hi
    rw [hi] at hx
    have hx:bp Try.prog slices_IndexFunc_Lapi_Op_api_Op.f [.gs n l.length,.fn (.func g) first cap] ((n,.arr 35 29 l.length (iF l))::Fh s0) k (l.length*bV) (.d (.int .i64 (-1))) ((n,.arr 35 29 l.length (iF l))::Fh (eZ step s0 l).2):=hx
    (refine SW.ai [0,1,4,5,6,7,12,19,29] mixed ?_;(repeat (first | refine RW.ro (hm0) (h:= ?_) | refine RW.skip (h:= ?_) | refine RW.op (hm0) (h:= ?_) | refine RW.aF (hm0) (h:= ?_) | refine RW.ah (h:= ?_) | (refine RW.ax (h:= ?_);(first | refine af.mk (hm0) (hs:=(fun _ _ h=>h)) (hc:=hx) (h:= ?_)))));refine RW.nil ⟨by kernel_rfl,aa.mk (h:= ?_)⟩)
    refine SW.seq (SW.seq ?_)
    refine SW.g0 [0,1,4,5,6,7,12,19,29] mixed U ?_
    refine SW.au rfl (SW.seq ?_)
    refine SW.weak id (st1:=⟨[(0,.gs n l.length)],(n,.arr 35 29 l.length (iF l))::Fh (eZ step s0 l).2,k+(l.length*bV+l.length*(bV+1))⟩) (bg.same (by simp) (by simp [dL,List.lookup,SV.aV,SV.ok];omega) ((h1s.mono (by show k≤k+(l.length*bV+l.length*(bV+1));omega)).ou (by show n<k+(l.length*bV+l.length*(bV+1));omega) _) (bK (h1s.nd hd _))) ?_
    refine SW.g0 [0,1,4,5,6,7,12,19,29] mixed U ?_
    refine SW.ret ?_
    rw [hk]
    exact End.mk ((n,.arr 35 29 l.length (iF l))::Fh (eZ step s0 l).2) (h3:=fun _ _ h=>h) (h4:=⟨rfl,rfl⟩) (h5:=by simp [eF,SV.ok];omega) (h6:=(h1s.mono (by omega)).ou (by omega) _)
  · obtain ⟨hil,hk⟩:=xk hi
    have hI1:=CG hd l s0 0 hG (by omega) hI i hi
    rw [hi] at hx
    have hx:bp Try.prog slices_IndexFunc_Lapi_Op_api_Op.f [.gs n l.length,.fn (.func g) first cap] ((n,.arr 35 29 l.length (iF l))::Fh s0) k (l.length*bV) (i64 i) ((n,.arr 35 29 l.length (iF l))::Fh (eZ step s0 l).2):=hx
    obtain ⟨s1,hs1⟩:∃ s1,(eZ step s0 l).2=s1:=⟨_,rfl⟩
    rw [hs1] at hx hm0 h1s hk hI1
    (refine SW.ai [0,1,4,5,6,7,12,19,29] mixed ?_;(repeat (first | refine RW.ro (hm0) (h:= ?_) | refine RW.skip (h:= ?_) | refine RW.op (hm0) (h:= ?_) | refine RW.aF (hm0) (h:= ?_) | refine RW.ah (h:= ?_) | (refine RW.ax (h:= ?_);(first | refine af.mk (hm0) (hs:=(fun _ _ h=>h)) (hc:=hx) (h:= ?_)))));refine RW.nil ⟨by kernel_rfl,aa.mk (h:= ?_)⟩)
    have hne:((i:Int) == -1)=false:=by rw [beq_eq_false_iff_ne];omega
    refine SW.seq (SW.seq ?_)
    refine SW.g0 [0,1,4,5,6,7,12,19,29] mixed (hne) ?_
    refine SW.ak rfl (SW.skip ?_)
    refine (?_:Sl.SW _ _ _ _ _ _)
    have e1:IntKind.i64.wrap ((i:Int)+1)=((i+1:Nat):Int):=wrap_i64 _ (by omega)
    refine SW.seq (SW.seq ?_)
    refine SW.g0 [0,1,4,5,6,7,12,19,29] mixed (e1) ?_
    refine SW.block ?_
    let K0:=k+l.length*bV
    let Inv:Nat→Nat→List aq→σ→Prop:=fun j w cur s=>(j≤l.length∧w<j∧cur.length=l.length)∧cur.drop j=l.drop j∧I j s∧j0 Fh n (K0+j*(bV+1)) s0 s∧bw step s0 l=(cur.take w++(bw step s (l.drop j)).1,(bw step s (l.drop j)).2)
    refine SW.loop (α:={x:Nat×Nat×List aq×σ // Inv x.1 x.2.1 x.2.2.1 x.2.2.2})
      (fun x=>⟨[(6,i64 x.1.1),(5,i64 x.1.2.1),(0,.gs n l.length),(1,.fn (.func g) first cap)],(n,.arr 35 29 l.length (iF x.1.2.2.1))::Fh x.1.2.2.2,K0+x.1.1*(bV+1)⟩) (fun x=>l.length - x.1.1)
      ⟨(i+1,i,l,s1),⟨by show i+1≤l.length;omega,by show i<i+1;omega,rfl⟩,rfl,by rw [Nat.zero_add] at hI1;exact hI1,h1s.mono (by show k≤k+l.length*bV+_;omega),hk⟩ id ?_ ?_
    · refine bg.same (by show k≤k+l.length*bV+_;omega) (by simp [dL,List.lookup,SV.aV,SV.dJ,SV.ok];exact ⟨by show n<k+l.length*bV+_;omega,ok1 _ (by show k≤k+l.length*bV+_;omega)⟩) ((h1s.mono (by show k≤k+l.length*bV+_;omega)).ou (by show n<k+l.length*bV+_;omega) _) (bK (h1s.nd hd _))
    rintro ⟨⟨j,w,cur,s⟩,⟨hj,hwj,hcl2⟩,hdr,hIs,hh,he⟩
    dsimp only at hj hwj hcl2 hdr hIs hh he ⊢
    have hKk:k≤K0+j*(bV+1):=by show k≤k+l.length*bV+_;omega
    obtain ⟨K,hK⟩:∃ K,K0+j*(bV+1)=K:=⟨_,rfl⟩
    have hK1:K0+(j+1)*(bV+1)=K+1+bV:=by rw [← hK,Nat.succ_mul];omega
    rw [hK] at hh hKk ⊢
    by_cases h:j<l.length
    · have h1 : decide ((j:Int)<l.length)=true:=by simp only [decide_eq_true_eq];omega
      obtain ⟨x,hxl⟩:=aL h
      have hxc:cur[j]? =some x:=CJ hdr hxl
      have e2:IntKind.i64.wrap ((j:Int)+1)=((j+1:Nat):Int):=wrap_i64 _ (by omega)
      have e3:IntKind.i64.wrap ((w:Int)+1)=((w+1:Nat):Int):=wrap_i64 _ (by omega)
      have hGx:=hG x (List.mem_of_getElem? hxl)
      rw [drop_cons hxl] at he
      simp only [bw] at he
      have hfr:lk (Fh s) K=none:=Hp.out hh.ok (Nat.le_refl _)
      have hfr':List.lookup K (Fh s)=none:=hfr
      have f1:=bX (show K≠n by omega)
      have hh1:=hh.mono (k':=K+1) (by omega)
      have hc:=hd.call j s x (K+1) hIs hGx (by omega) hh1.ok
      have hs:HSub (Fh s) ((K,.box 35 x.cells)::(n,.arr 35 29 l.length (iF cur))::Fh s):=o6 hfr (o6 hh.no fun _ _ h=>h)
      have hnd:(((K,Ob.box 35 x.cells)::(n,Ob.arr 35 29 l.length (iF cur))::Fh s:Hp).map (·.1)).Nodup:=vu (by rw [ag,if_neg (by omega)];exact hfr) (hh.nd hd _)
      have hm:dM (dN ((K,Ob.box 35 x.cells)::(n,Ob.arr 35 29 l.length (iF cur))::Fh s) (Fh (step s x).1) (Fh s)) (Fh (step s x).1)=(K,Ob.box 35 x.cells)::(n,.arr 35 29 l.length (iF cur))::Fh (step s x).1:=
        sI (pre:=[(K,.box 35 x.cells),(n,.arr 35 29 l.length (iF cur))]) (hd.nm s x).symm hnd
      have hh2:j0 Fh n (K0+(j+1)*(bV+1)) s0 (step s x).1:=by rw [hK1];exact (hh.next hd x).mono (by omega)
      have hfr2:List.lookup K (Fh (step s x).1)=none:=nZ (by rw [hd.nm s x];exact iA hfr)
      have hdr2:=AX hdr
      refine SW.seq (SW.seq ?_)
      refine SW.g0 [0,1,4,5,6,7,12,19,29] mixed (h1) ?_
      refine SW.au rfl (SW.skip ?_)
      refine (?_:Sl.SW _ _ _ _ _ _)
      refine SW.seq (SW.block (SW.seq ?_))
      refine SW.g0 [0,1,4,5,6,7,12,19,29] mixed (And.intro (wK hxc) (And.intro (oQ hxc) (And.intro (hfr') (f1)))) ?_
      refine SW.seq ?_
      rcases hb:(step s x).2 with _ | _
      · rw [hb] at hc
        refine SW.g1 [0,1,4,5,6,7,12,19,29] mixed (hm) (And.intro hs hc) ?_
        refine SW.au rfl (SW.seq ?_)
        have hs1:bE (List.map SV.d (cur.flatMap aq.ds)) (w*29) x.cells=List.map SV.d ((cur.set w x).flatMap aq.ds):=Gn x (by omega)
        have hs2:(w*29+29≤(List.map SV.d (cur.flatMap aq.ds)).length)=True:=eq_true (by rw [List.length_map,kY,hcl2];omega)
        refine SW.g0 [0,1,4,5,6,7,12,19,29] mixed (And.intro (hs1) (And.intro (hs2) (f1))) ?_
        refine SW.g0 [0,1,4,5,6,7,12,19,29] mixed (e3) ?_
        refine SW.g0 [0,1,4,5,6,7,12,19,29] mixed (e2) ?_
        rw [if_neg (by rw [hb];simp)] at he
        refine ⟨⟨(j+1,w+1,cur.set w x,(step s x).1),⟨by show j+1≤l.length;omega,by show w+1<j+1;omega,by simp [hcl2]⟩,by rw [set_drop (by omega)];exact hdr2,hd.nx j s x hIs hGx (by omega),hh2,?_⟩,id,by simp;omega,?_⟩
        · rw [he,CI (by omega)];simp
        · exact bg.same (by show k≤k+l.length*bV+_;omega) (by simp [dL,List.lookup,SV.aV,SV.dJ,SV.ok];exact ⟨by show n<k+l.length*bV+_;omega,ok1 _ (by show k≤k+l.length*bV+_;omega)⟩) (hh2.ou (by show n<k+l.length*bV+_;omega) _) (fun y hy=>by
            rw [ag,if_neg ?_]
            · exact bK (hh2.nd hd _) y hy
            · intro e
              rcases List.mem_cons.1 hy with rfl | hy
              · dsimp only at e;omega
              · have:=p0 (bK (hd.nd _) y hy)
                rw [e] at this
                exact iA hfr2 this)
      · rw [hb] at hc
        refine SW.g1 [0,1,4,5,6,7,12,19,29] mixed (hm) (And.intro hs hc) ?_
        refine SW.ak rfl (SW.skip ?_)
        refine SW.g0 [0,1,4,5,6,7,12,19,29] mixed (e2) ?_
        rw [if_pos (by rw [hb])] at he
        refine ⟨⟨(j+1,w,cur,(step s x).1),⟨by show j+1≤l.length;omega,by show w<j+1;omega,hcl2⟩,hdr2,hd.nx j s x hIs hGx (by omega),hh2,he⟩,id,by simp;omega,?_⟩
        exact bg.same (by show k≤k+l.length*bV+_;omega) (by simp [dL,List.lookup,SV.aV,SV.dJ,SV.ok];exact ⟨by show n<k+l.length*bV+_;omega,ok1 _ (by show k≤k+l.length*bV+_;omega)⟩) (hh2.ou (by show n<k+l.length*bV+_;omega) _) (fun y hy=>by
            rw [ag,if_neg ?_]
            · exact bK (hh2.nd hd _) y hy
            · intro e
              rcases List.mem_cons.1 hy with rfl | hy
              · dsimp only at e;omega
              · have:=p0 (bK (hd.nd _) y hy)
                rw [e] at this
                exact iA hfr2 this)
    · have h1:decide ((j:Int)<l.length)=false:=by simp only [decide_eq_false_iff_not];omega
      have e:j=l.length:=by omega
      rw [e,List.drop_length] at he
      simp only [bw,List.append_nil] at he
      have hKe:K=k+(l.length*bV+l.length*(bV+1)):=by rw [← hK,e];show k+l.length*bV+_=_;omega
      rw [e] at h1
      refine SW.seq (SW.seq ?_)
      rw [e]
      refine SW.g0 [0,1,4,5,6,7,12,19,29] mixed (h1) ?_
      refine SW.ak rfl (SW.exit ?_)
      refine (?_:Sl.SW _ _ _ _ _ _)
      have e4:(w*29+(l.length - w)*29≤(List.map SV.d (cur.flatMap aq.ds)).length)=True:=eq_true (by
        rw [List.length_map,kY,hcl2,← Nat.add_mul]
        exact Nat.mul_le_mul_right 29 (by omega))
      refine SW.seq ?_
      refine SW.g0 [0,1,4,5,6,7,12,19,29] mixed (e4) ?_
      have hz:(aq.zero.cells).length=29:=rfl
      have hct:=CK cur w (l.length - w) aq.zero.cells hz (by omega)
      obtain ⟨Z,hZ⟩:∃ Z,bE (iF cur) (w*29) (List.replicate (l.length - w) aq.zero.cells).flatten=Z:=⟨_,rfl⟩
      rw [hZ] at hct
      rw [hZ]
      refine SW.seq ?_
      refine SW.g0 [0,1,4,5,6,7,12,19,29] mixed U ?_
      refine SW.trim (n:=n) (e:=35) (sz:=29) (len:=l.length) (cs:=Z) w (by simp [ag]) (by omega) ?_
      dsimp only
      rw [uz,hct,hKe]
      rw [hKe] at hh
      refine SW.ret ?_
      rw [he]
      have hlw:(cur.take w).length=w:=by rw [List.length_take];omega
      exact End.mk ((n,.arr 35 29 w (iF (cur.take w)))::Fh s) (h3:=fun _ _ h=>h) (h4:=⟨by simp [eF,hlw],by simp [hlw]⟩) (h5:=by simp [eF,SV.ok];omega) (h6:=hh.ou (by omega) _)
include hd in
theorem sV (l:List aq)(s0:σ)(hl:l.length<1000000000)(hB:l.length≤B)(hG:∀ x,x∈l→G x)(hI:I 0 s0)(n k:Nat)(hn:n<k)(h0:j0 Fh n k s0 s0)(j_:(Fh s0).ok (fun m=>(lk (Fh s0) m).isSome)=true):
  bp Try.prog slices_DeleteFunc_Lapi_Op_api_Op.f [.gs n l.length,.fn (.func g) first cap] ((n,.arr 35 29 l.length (iF l))::Fh s0) k (l.length*bV+l.length*(bV+1)) (.gs n (bw step s0 l).1.length)
   ((n,.arr 35 29 (bw step s0 l).1.length (iF (bw step s0 l).1))::Fh (bw step s0 l).2):=by
 unfold bp
 have hq:=CH (n:=n) (o:= .arr 35 29 l.length (iF l)) (fun q=>SV.bt _) j_ h0.no
 have hq0:(Fh s0).ok (fun m=>(lk ((n,Ob.arr 35 29 l.length (iF l))::Fh s0) m).isSome)=true:=by
  simp only [Hp.ok,List.all_cons,Bool.and_eq_true] at hq ⊢
  exact hq.2
 obtain ⟨o1,o2⟩:=hd.a1 s0 _ hq0
 refine (yX hd l s0 hl hB hG hI n k hn h0 j_).here (fun m=>(lk ((n,Ob.arr 35 29 l.length (iF l))::Fh s0) m).isSome) (fun m h e=>by rw [e] at h;cases h) (by simp only [SV.aI,SV.ok,o1,o2,Bool.and_true];simp [ag]) hq ?_
 rintro x F ⟨rfl,rfl⟩ _ _
 refine ⟨by simp [SV.ok,ag],?_⟩
 have:=xl hd l s0 hq0
 exact bU (by simp [ag]) (SV.bt _) (Hp.lF (fun m hm=>by rw [hm];rfl) this)
end
end
section
structure Tr where
 bx:Nat
 ma:Nat
 mm:Nat
 at_:MM Dt Cr
 ca:Nat
 made:MM Dt aq
 cm:Nat
abbrev Tr.oa (T:Tr):Ob:= .map (aH Dt.cells cv T.at_) T.ca
abbrev Tr.om (T:Tr):Ob:= .map (aH Dt.cells ov T.made) T.cm
def Tr.hp (T:Tr):Hp:=[(T.bx,.box 71 [.mp T.ma,.mp T.mm]),(T.ma,.map (aH Dt.cells cv T.at_) T.ca),(T.mm,.map (aH Dt.cells ov T.made) T.cm)]
structure Tr.sep (T:Tr):Prop where
 ab:T.ma≠T.bx
 mb:T.mm≠T.bx
 am:T.ma≠T.mm
structure Tr.lt (T:Tr)(k:Nat):Prop where
 b:T.bx<k
 a:T.ma<k
 m:T.mm<k
theorem Tr.IG {T:Tr}{q:Nat→Bool}(h1:q T.bx=true)(h2:q T.ma=true)(h3:q T.mm=true):T.hp.ok q=true:=by
 simp only [Tr.hp,Hp.ok,List.all_cons,List.all_nil,Ob.ok,SV.aI,SV.ok,h1,h2,h3,Bool.and_true,Bool.true_and]
 have a:=oS q T.at_
 have b:=oR q T.made
 simp only [a,b,Bool.and_true]
theorem Tr.CL {T:Tr}{k:Nat}(h:T.lt k):T.hp.ok (fun n=>decide (n<k))=true:=Tr.IG (by simpa using h.b) (by simpa using h.a) (by simpa using h.m)
theorem Tr.names (T:Tr):T.hp.map (·.1)=[T.bx,T.ma,T.mm]:=rfl
theorem Tr.nd {T:Tr}(h:T.sep):(T.hp.map (·.1)).Nodup:=by
 have:=h.ab;have:=h.mb;have:=h.am
 simp [Tr.names];omega
theorem Tr.FI (T:Tr):lk T.hp T.bx=some (.box 71 [.mp T.ma,.mp T.mm]):=by simp [Tr.hp,ag]
theorem Tr.Ho {T:Tr}(h:T.sep):lk T.hp T.ma=some T.oa:=by
 rw [Tr.hp,ag,if_neg h.ab,ag,if_pos rfl]
theorem Tr.I3 {T:Tr}(h:T.sep):lk T.hp T.mm=some T.om:=by
 rw [Tr.hp,ag,if_neg h.mb,ag,if_neg (Ne.symm h.am),ag,if_pos rfl]
theorem Tr.cl {T:Tr}(h:T.sep):T.hp.ok (fun m=>(lk T.hp m).isSome)=true:=Tr.IG (by rw [T.FI];rfl) (by rw [Tr.Ho h];rfl) (by rw [Tr.I3 h];rfl)
theorem Tr.out {T:Tr}{m:Nat}(h1:m≠T.bx)(h2:m≠T.ma)(h3:m≠T.mm):lk T.hp m=none:=by
 rw [Tr.hp,ag,if_neg h1,ag,if_neg h2,ag,if_neg h3];rfl
theorem Tr.Jx {T:Tr}{k m:Nat}(h:T.lt k)(hm:k≤m):lk T.hp m=none:=by
 obtain ⟨h1,h2,h3⟩:=h
 exact Tr.out (by omega) (by omega) (by omega)
section
attribute [local irreducible] SW RW bp SC af aa Tr.hp
variable {T:Tr} (hs:T.sep)
include hs in
theorem EN {k:Nat}(hlt:T.lt k):bp Try.prog tree_Tree_none.f [.ptr T.bx 0] T.hp k 0 (bl false) T.hp:=by
 refine SB.same ?_ (Tr.cl hs) (by simp [SV.aI,SV.ok,Tr.hp,ag]) (fun _=>rfl)
 refine tree_Tree_none.enter (by simp [SV.aI,SV.ok];exact hlt.b) (Tr.CL hlt) (by simp) ?_
 dsimp only [tree_Tree_none.s,Co.M,Co.G,Co.J,Co.H,Co.N,Co.F,Co.C,Co.Z,Co.B,Co.b8,Co.aA,Co.bz,Co.i6,Co.z8,Co.dm]
 have f1:=bX hs.ab
 have u1:List.lookup T.bx T.hp=some (.box 71 [.mp T.ma,.mp T.mm]):=T.FI
 have u2:List.lookup T.ma T.hp=some T.oa:=Tr.Ho hs
 (repeat (first | refine SW.seq ?_ | refine SW.block ?_ | refine SW.g0 [0,2] mixed (And.intro (f1) (And.intro (u1) (u2))) ?_ | refine SW.skip ?_ | refine SW.exit ?_ | refine SW.ret ?_ | refine SW.au rfl ?_ | refine SW.ak rfl ?_))
 exact End.mk T.hp (h3:=fun _ _ h=>h) (h4:=⟨rfl,rfl⟩) (h6:=Tr.CL hlt)
theorem zS (o:aq){b k:Nat}(hb:b<k):bp Try.prog tree_Tree_Why_1.f [.ptr b 0] [(b,.box 35 o.cells)] k 0 (bl (decide (o.kind≠1))) [(b,.box 35 o.cells)]:=by
 refine SB.same ?_ (by simp [Hp.ok,Ob.ok,ag]) (by simp [SV.aI,SV.ok,ag]) (fun _=>rfl)
 refine tree_Tree_Why_1.enter (by simp [SV.aI,SV.ok];exact hb) (by simp [Hp.ok,Ob.ok];exact hb) (by simp) ?_
 dsimp only [tree_Tree_Why_1.s,Co.M,Co.G,Co.J,Co.H,Co.N,Co.F,Co.C,Co.Z,Co.B,Co.b8,Co.aA,Co.bz,Co.i6,Co.z8,Co.dm]
 have e1:(((o.kind:Nat):Int) != 1)=decide (o.kind≠1):=by
  rw [Bool.eq_iff_iff];simp only [bne_iff_ne,decide_eq_true_eq];omega
 (repeat (first | refine SW.seq ?_ | refine SW.block ?_ | refine SW.g0 [0,1] mixed (e1) ?_ | refine SW.skip ?_ | refine SW.exit ?_ | refine SW.ret ?_ | refine SW.au rfl ?_ | refine SW.ak rfl ?_))
 exact End.mk [(b,.box 35 o.cells)] (h3:=fun _ _ h=>h) (h4:=⟨rfl,rfl⟩) (h6:=by simp [Hp.ok,Ob.ok];exact hb)
theorem zT (c:Cr)(o:aq){b b2 k:Nat}(hb:b<k)(DL:b2<k)(hne:b≠b2):bp Try.prog tree_Tree_Why_3.f [.ptr b 0,.ptr b2 0] [(b2,.box 35 o.cells),(b,.box 78 c.cells)] k 0 (bl (decide (c.hold≠o.who))) [(b2,.box 35 o.cells),(b,.box 78 c.cells)]:=by
 refine SB.same ?_ (by simp [Hp.ok,Ob.ok,ag,hne]) (by simp [SV.aI,SV.ok,ag,hne]) (fun _=>rfl)
 refine tree_Tree_Why_3.enter (by simp [SV.aI,SV.ok];omega) (by simp [Hp.ok,Ob.ok];omega) (by simp) ?_
 dsimp only [tree_Tree_Why_3.s,Co.M,Co.G,Co.J,Co.H,Co.N,Co.F,Co.C,Co.Z,Co.B,Co.b8,Co.aA,Co.bz,Co.i6,Co.z8,Co.dm]
 have f1:=bX hne
 have e1:(((c.hold:Nat):Int) != ((o.who:Nat):Int))=decide (c.hold≠o.who):=by
  rw [Bool.eq_iff_iff];simp only [bne_iff_ne,decide_eq_true_eq];omega
 (repeat (first | refine SW.seq ?_ | refine SW.block ?_ | refine SW.g0 [0,1,2] mixed (And.intro (e1) (f1)) ?_ | refine SW.skip ?_ | refine SW.exit ?_ | refine SW.ret ?_ | refine SW.au rfl ?_ | refine SW.ak rfl ?_))
 exact End.mk [(b2,.box 35 o.cells),(b,.box 78 c.cells)] (h3:=fun _ _ h=>h) (h4:=⟨rfl,rfl⟩) (h6:=by simp [Hp.ok,Ob.ok];omega)
theorem zU (c:Cr){b k:Nat}(hb:b<k):bp Try.prog tree_Tree_Why_4.f [.ptr b 0] [(b,.box 78 c.cells)] k 0 (bl (bits .and .u8 (c.bn:Int) 1 == 0)) [(b,.box 78 c.cells)]:=by
 refine SB.same ?_ (by simp [Hp.ok,Ob.ok,ag]) (by simp [SV.aI,SV.ok,ag]) (fun _=>rfl)
 refine tree_Tree_Why_4.enter (by simp [SV.aI,SV.ok];exact hb) (by simp [Hp.ok,Ob.ok];exact hb) (by simp) ?_
 dsimp only [tree_Tree_Why_4.s,Co.M,Co.G,Co.J,Co.H,Co.N,Co.F,Co.C,Co.Z,Co.B,Co.b8,Co.aA,Co.bz,Co.i6,Co.z8,Co.dm]
 (repeat (first | refine SW.seq ?_ | refine SW.block ?_ | refine SW.g0 [0,1] mixed U ?_ | refine SW.skip ?_ | refine SW.exit ?_ | refine SW.ret ?_ | refine SW.au rfl ?_ | refine SW.ak rfl ?_))
 exact End.mk [(b,.box 78 c.cells)] (h3:=fun _ _ h=>h) (h4:=⟨rfl,rfl⟩) (h6:=by simp [Hp.ok,Ob.ok];exact hb)
def fU (o:aq)(c:Cr):Bool:=(((o.bn:Int) == 0) || (bits .andNot .u8 (o.bn:Int) (c.bn:Int) != 0)) || ((o.to:Int) == 0) || decide ((o.depth:Int)≥c.depth) || decide ((o.cap:Int)>c.cap)
theorem zV (c:Cr)(o:aq){b b2 k:Nat}(hb:b<k)(DL:b2<k)(hne:b≠b2):bp Try.prog tree_Tree_Why_5.f [.ptr b2 0,.ptr b 0] [(b2,.box 35 o.cells),(b,.box 78 c.cells)] k 0 (bl (fU o c)) [(b2,.box 35 o.cells),(b,.box 78 c.cells)]:=by
 refine SB.same ?_ (by simp [Hp.ok,Ob.ok,ag,hne]) (by simp [SV.aI,SV.ok,ag,hne]) (fun _=>rfl)
 refine tree_Tree_Why_5.enter (by simp [SV.aI,SV.ok];omega) (by simp [Hp.ok,Ob.ok];omega) (by simp) ?_
 dsimp only [tree_Tree_Why_5.s,Co.M,Co.G,Co.J,Co.H,Co.N,Co.F,Co.C,Co.Z,Co.B,Co.b8,Co.aA,Co.bz,Co.i6,Co.z8,Co.dm]
 have f1:=bX hne
 rcases h1:((o.bn:Int) == 0) with _ | _
 ·skip
  rcases h2:(bits .andNot .u8 (o.bn:Int) (c.bn:Int) != 0) with _ | _
  ·skip
   rcases h3:((o.to:Int) == 0) with _ | _
   ·skip
    rcases h4:decide ((o.depth:Int)≥c.depth) with _ | _
    ·skip
     (repeat (first | refine SW.seq ?_ | refine SW.block ?_ | refine SW.g0 [0,1,2] mixed (And.intro (h1) (And.intro (h2) (And.intro (h3) (And.intro (h4) (f1))))) ?_ | refine SW.skip ?_ | refine SW.exit ?_ | refine SW.ret ?_ | refine SW.au rfl ?_ | refine SW.ak rfl ?_))
     exact End.mk [(b2,.box 35 o.cells),(b,.box 78 c.cells)] (h3:=fun _ _ h=>h) (h4:=⟨by simp only [fU,h1,h2,h3,h4,Bool.false_or,Bool.or_false,Bool.true_or];rfl,rfl⟩) (h6:=by simp [Hp.ok,Ob.ok];omega)
    ·(repeat (first | refine SW.seq ?_ | refine SW.block ?_ | refine SW.g0 [0,1,2] mixed (And.intro (h1) (And.intro (h2) (And.intro (h3) (And.intro (h4) (f1))))) ?_ | refine SW.skip ?_ | refine SW.exit ?_ | refine SW.ret ?_ | refine SW.au rfl ?_ | refine SW.ak rfl ?_))
     exact End.mk [(b2,.box 35 o.cells),(b,.box 78 c.cells)] (h3:=fun _ _ h=>h) (h4:=⟨by simp only [fU,h1,h2,h3,h4,Bool.false_or,Bool.or_false,Bool.true_or];rfl,rfl⟩) (h6:=by simp [Hp.ok,Ob.ok];omega)
   ·(repeat (first | refine SW.seq ?_ | refine SW.block ?_ | refine SW.g0 [0,1,2] mixed (And.intro (h1) (And.intro (h2) (And.intro (h3) (f1)))) ?_ | refine SW.skip ?_ | refine SW.exit ?_ | refine SW.ret ?_ | refine SW.au rfl ?_ | refine SW.ak rfl ?_))
    exact End.mk [(b2,.box 35 o.cells),(b,.box 78 c.cells)] (h3:=fun _ _ h=>h) (h4:=⟨by simp only [fU,h1,h2,h3,Bool.false_or,Bool.or_false,Bool.true_or];rfl,rfl⟩) (h6:=by simp [Hp.ok,Ob.ok];omega)
  ·(repeat (first | refine SW.seq ?_ | refine SW.block ?_ | refine SW.g0 [0,1,2] mixed (And.intro (h1) (And.intro (h2) (f1))) ?_ | refine SW.skip ?_ | refine SW.exit ?_ | refine SW.ret ?_ | refine SW.au rfl ?_ | refine SW.ak rfl ?_))
   exact End.mk [(b2,.box 35 o.cells),(b,.box 78 c.cells)] (h3:=fun _ _ h=>h) (h4:=⟨by simp only [fU,h1,h2,Bool.false_or,Bool.or_false,Bool.true_or];rfl,rfl⟩) (h6:=by simp [Hp.ok,Ob.ok];omega)
 ·(repeat (first | refine SW.seq ?_ | refine SW.block ?_ | refine SW.g0 [0,1,2] mixed (And.intro (h1) (f1)) ?_ | refine SW.skip ?_ | refine SW.exit ?_ | refine SW.ret ?_ | refine SW.au rfl ?_ | refine SW.ak rfl ?_))
  exact End.mk [(b2,.box 35 o.cells),(b,.box 78 c.cells)] (h3:=fun _ _ h=>h) (h4:=⟨by simp only [fU,h1,Bool.false_or,Bool.or_false,Bool.true_or];rfl,rfl⟩) (h6:=by simp [Hp.ok,Ob.ok];omega)
end
end
end Go.Proofs.Ytefjaphfnkbbkaa
