/-
 Dots: a row as a set.
-/
import Derived.Test.YtefjaphfnkbbkaaUV
import Derived.Test.YtefjaphfnkbbkaaUK
import Derived.Test.YtefjaphfnkbbkaaUM
import Derived.Test.YtefjaphfnkbbkaaUD
import Derived.Test.YtefjaphfnkbbkaaU9
import Derived.Test.YtefjaphfnkbbkaaU7
import Derived.Test.YtefjaphfnkbbkaaUG
import Derived.Test.YtefjaphfnkbbkaaUF
import Derived.Test.YtefjaphfnkbbkaaU8
set_option linter.unusedSectionVars false
set_option linter.unusedVariables false
set_option linter.unusedSimpArgs false
namespace Go.Proofs.Ytefjaphfnkbbkaa
open Go.Sl Go.Proofs
section
attribute [local irreducible] SW RW bp SC af aa
def qj (l:List Dt):Ap×Nat:=l.foldl (fun s d=>(MM.put s.1 s.2 d 1,MM.nO s.1 s.2 d)) ([],0)
theorem qk (l:List Dt)(d:Dt):qj (l++[d])=(MM.put (qj l).1 (qj l).2 d 1,MM.nO (qj l).1 (qj l).2 d):=by simp [qj,List.foldl_append]
end
section
attribute [local irreducible] SW RW bp SC af aa
end
section
attribute [local irreducible] SW RW bp SC af aa
end
section
attribute [local irreducible] SW RW bp SC af aa
end
section
attribute [local irreducible] SW RW bp SC af aa
theorem EY (n:Int):Go.Sl.Pure Try.prog cmp_isNaN_uint8.f [.d (.int .u8 n)] (bl false):=by
 refine cmp_isNaN_uint8.enter (by first | rfl | simp [SV.ok,SV.aI]) (by first | rfl | simp [Hp.ok,Ob.ok,SV.ok,SV.aI,aS.aj]) (by simp) ?_
 dsimp only [cmp_isNaN_uint8.s,Co.M,Co.G,Co.J,Co.H,Co.N,Co.F,Co.C,Co.Z,Co.B,Co.b8,Co.aA,Co.bz,Co.i6,Co.z8,Co.dm]
 have e1:(n != n)=false:=bne_self_eq_false n
 (repeat (first | refine SW.seq ?_ | refine SW.block ?_ | refine SW.g0 [0,2] mixed (e1) ?_ | refine SW.skip ?_ | refine SW.exit ?_ | refine SW.ret ?_ | refine SW.au rfl ?_ | refine SW.ak rfl ?_))
 exact End.mk [] (h4:=⟨rfl,rfl⟩)
theorem mU (n:Int)(k:Nat):bp Try.prog cmp_isNaN_uint8.f [.d (.int .u8 n)] [] k 0 (.d (.bool false)) []:=(EY n).sc rfl k
theorem C' (n:Int):Go.Sl.Pure Try.prog cmp_isNaN_uint32.f [.d (.int .u32 n)] (bl false):=by
 refine cmp_isNaN_uint32.enter (by first | rfl | simp [SV.ok,SV.aI]) (by first | rfl | simp [Hp.ok,Ob.ok,SV.ok,SV.aI,aS.aj]) (by simp) ?_
 dsimp only [cmp_isNaN_uint32.s,Co.M,Co.G,Co.J,Co.H,Co.N,Co.F,Co.C,Co.Z,Co.B,Co.b8,Co.aA,Co.bz,Co.i6,Co.z8,Co.dm]
 have e1:(n != n)=false:=bne_self_eq_false n
 (repeat (first | refine SW.seq ?_ | refine SW.block ?_ | refine SW.g0 [0,2] mixed (e1) ?_ | refine SW.skip ?_ | refine SW.exit ?_ | refine SW.ret ?_ | refine SW.au rfl ?_ | refine SW.ak rfl ?_))
 exact End.mk [] (h4:=⟨rfl,rfl⟩)
theorem kF (n:Int)(k:Nat):bp Try.prog cmp_isNaN_uint32.f [.d (.int .u32 n)] [] k 0 (.d (.bool false)) []:=(C' n).sc rfl k
theorem EZ (a b:Int):Go.Sl.Pure Try.prog cmp_Compare_uint8.f [.d (.int .u8 a),.d (.int .u8 b)] (i64 (gF a b)):=by
 refine cmp_Compare_uint8.enter (by first | rfl | simp [SV.ok,SV.aI]) (by first | rfl | simp [Hp.ok,Ob.ok,SV.ok,SV.aI,aS.aj]) (by simp) ?_
 dsimp only [cmp_Compare_uint8.s,Co.M,Co.G,Co.J,Co.H,Co.N,Co.F,Co.C,Co.Z,Co.B,Co.b8,Co.aA,Co.bz,Co.i6,Co.z8,Co.dm]
 rcases Int.lt_trichotomy a b with h | h | h
 ·have e1:decide (a<b)=true:=by simp [h]
  have e2:gF a b= -1:=by simp [gF,h]
  (repeat (first | refine SW.seq ?_ | refine SW.block ?_ | (refine SW.ai [0,1,4,5,6,11,12,13,16,19] mixed ?_;(repeat (first | refine RW.ro (e1) (h:= ?_) | refine RW.skip (h:= ?_) | refine RW.op (e1) (h:= ?_) | refine RW.aF (e1) (h:= ?_) | refine RW.ah (h:= ?_) | (refine RW.ax (h:= ?_);(first | refine af.mk (e1) (hc:=mU _ _) (h:= ?_) | refine af.mk (e1) (hc:=kF _ _) (h:= ?_)))));refine RW.nil ⟨by kernel_rfl,aa.mk (h:= ?_)⟩) | refine SW.skip ?_ | refine SW.exit ?_ | refine SW.ret ?_ | refine SW.au rfl ?_ | refine SW.ak rfl ?_))
  exact End.mk [] (h4:=⟨by rw [e2];rfl,rfl⟩)
 ·have e1:decide (a<b)=false:=by simp [h]
  have e3:decide (a>b)=false:=by simp [h]
  have e2:gF a b=0:=by simp [gF,h]
  (repeat (first | refine SW.seq ?_ | refine SW.block ?_ | (refine SW.ai [0,1,4,5,6,11,12,13,16,19] mixed ?_;(repeat (first | refine RW.ro (And.intro (e1) (e3)) (h:= ?_) | refine RW.skip (h:= ?_) | refine RW.op (And.intro (e1) (e3)) (h:= ?_) | refine RW.aF (And.intro (e1) (e3)) (h:= ?_) | refine RW.ah (h:= ?_) | (refine RW.ax (h:= ?_);(first | refine af.mk (And.intro (e1) (e3)) (hc:=mU _ _) (h:= ?_) | refine af.mk (And.intro (e1) (e3)) (hc:=kF _ _) (h:= ?_)))));refine RW.nil ⟨by kernel_rfl,aa.mk (h:= ?_)⟩) | refine SW.skip ?_ | refine SW.exit ?_ | refine SW.ret ?_ | refine SW.au rfl ?_ | refine SW.ak rfl ?_))
  exact End.mk [] (h4:=⟨by rw [e2];rfl,rfl⟩)
 ·have e1:decide (a<b)=false:=by simp;omega
  have e3:decide (a>b)=true:=by simp [h]
  have e2:gF a b=1:=by unfold gF;rw [if_neg (by omega),if_pos h]
  (repeat (first | refine SW.seq ?_ | refine SW.block ?_ | (refine SW.ai [0,1,4,5,6,11,12,13,16,19] mixed ?_;(repeat (first | refine RW.ro (And.intro (e1) (e3)) (h:= ?_) | refine RW.skip (h:= ?_) | refine RW.op (And.intro (e1) (e3)) (h:= ?_) | refine RW.aF (And.intro (e1) (e3)) (h:= ?_) | refine RW.ah (h:= ?_) | (refine RW.ax (h:= ?_);(first | refine af.mk (And.intro (e1) (e3)) (hc:=mU _ _) (h:= ?_) | refine af.mk (And.intro (e1) (e3)) (hc:=kF _ _) (h:= ?_)))));refine RW.nil ⟨by kernel_rfl,aa.mk (h:= ?_)⟩) | refine SW.skip ?_ | refine SW.exit ?_ | refine SW.ret ?_ | refine SW.au rfl ?_ | refine SW.ak rfl ?_))
  exact End.mk [] (h4:=⟨by rw [e2];rfl,rfl⟩)
theorem Da (a b:Int):Go.Sl.Pure Try.prog cmp_Compare_uint32.f [.d (.int .u32 a),.d (.int .u32 b)] (i64 (gF a b)):=by
 refine cmp_Compare_uint32.enter (by first | rfl | simp [SV.ok,SV.aI]) (by first | rfl | simp [Hp.ok,Ob.ok,SV.ok,SV.aI,aS.aj]) (by simp) ?_
 dsimp only [cmp_Compare_uint32.s,Co.M,Co.G,Co.J,Co.H,Co.N,Co.F,Co.C,Co.Z,Co.B,Co.b8,Co.aA,Co.bz,Co.i6,Co.z8,Co.dm]
 rcases Int.lt_trichotomy a b with h | h | h
 ·have e1:decide (a<b)=true:=by simp [h]
  have e2:gF a b= -1:=by simp [gF,h]
  (repeat (first | refine SW.seq ?_ | refine SW.block ?_ | (refine SW.ai [0,1,4,5,6,11,12,13,16,19] mixed ?_;(repeat (first | refine RW.ro (e1) (h:= ?_) | refine RW.skip (h:= ?_) | refine RW.op (e1) (h:= ?_) | refine RW.aF (e1) (h:= ?_) | refine RW.ah (h:= ?_) | (refine RW.ax (h:= ?_);(first | refine af.mk (e1) (hc:=mU _ _) (h:= ?_) | refine af.mk (e1) (hc:=kF _ _) (h:= ?_)))));refine RW.nil ⟨by kernel_rfl,aa.mk (h:= ?_)⟩) | refine SW.skip ?_ | refine SW.exit ?_ | refine SW.ret ?_ | refine SW.au rfl ?_ | refine SW.ak rfl ?_))
  exact End.mk [] (h4:=⟨by rw [e2];rfl,rfl⟩)
 ·have e1:decide (a<b)=false:=by simp [h]
  have e3:decide (a>b)=false:=by simp [h]
  have e2:gF a b=0:=by simp [gF,h]
  (repeat (first | refine SW.seq ?_ | refine SW.block ?_ | (refine SW.ai [0,1,4,5,6,11,12,13,16,19] mixed ?_;(repeat (first | refine RW.ro (And.intro (e1) (e3)) (h:= ?_) | refine RW.skip (h:= ?_) | refine RW.op (And.intro (e1) (e3)) (h:= ?_) | refine RW.aF (And.intro (e1) (e3)) (h:= ?_) | refine RW.ah (h:= ?_) | (refine RW.ax (h:= ?_);(first | refine af.mk (And.intro (e1) (e3)) (hc:=mU _ _) (h:= ?_) | refine af.mk (And.intro (e1) (e3)) (hc:=kF _ _) (h:= ?_)))));refine RW.nil ⟨by kernel_rfl,aa.mk (h:= ?_)⟩) | refine SW.skip ?_ | refine SW.exit ?_ | refine SW.ret ?_ | refine SW.au rfl ?_ | refine SW.ak rfl ?_))
  exact End.mk [] (h4:=⟨by rw [e2];rfl,rfl⟩)
 ·have e1:decide (a<b)=false:=by simp;omega
  have e3:decide (a>b)=true:=by simp [h]
  have e2:gF a b=1:=by unfold gF;rw [if_neg (by omega),if_pos h]
  (repeat (first | refine SW.seq ?_ | refine SW.block ?_ | (refine SW.ai [0,1,4,5,6,11,12,13,16,19] mixed ?_;(repeat (first | refine RW.ro (And.intro (e1) (e3)) (h:= ?_) | refine RW.skip (h:= ?_) | refine RW.op (And.intro (e1) (e3)) (h:= ?_) | refine RW.aF (And.intro (e1) (e3)) (h:= ?_) | refine RW.ah (h:= ?_) | (refine RW.ax (h:= ?_);(first | refine af.mk (And.intro (e1) (e3)) (hc:=mU _ _) (h:= ?_) | refine af.mk (And.intro (e1) (e3)) (hc:=kF _ _) (h:= ?_)))));refine RW.nil ⟨by kernel_rfl,aa.mk (h:= ?_)⟩) | refine SW.skip ?_ | refine SW.exit ?_ | refine SW.ret ?_ | refine SW.au rfl ?_ | refine SW.ak rfl ?_))
  exact End.mk [] (h4:=⟨by rw [e2];rfl,rfl⟩)
theorem E1 (a b:Int)(k:Nat):bp Try.prog cmp_Compare_uint8.f [.d (.int .u8 a),.d (.int .u8 b)] [] k 0 (.d (.int .i64 (gF a b))) []:=(EZ a b).sc rfl k
theorem Db (a b:Int)(k:Nat):bp Try.prog cmp_Compare_uint32.f [.d (.int .u32 a),.d (.int .u32 b)] [] k 0 (.d (.int .i64 (gF a b))) []:=(Da a b).sc rfl k
end
section
attribute [local irreducible] SW RW bp SC af aa
theorem GZ (a b:Int):Go.Sl.Pure Try.prog cmp_Or_int.f [.d (.sl 2 [.int .i64 a,.int .i64 b])] (i64 (if a=0 then b else a)):=by
 refine cmp_Or_int.enter (by first | rfl | simp [SV.ok,SV.aI]) (by first | rfl | simp [Hp.ok,Ob.ok,SV.ok,SV.aI,aS.aj]) (by simp) ?_
 dsimp only [cmp_Or_int.s,Co.M,Co.G,Co.J,Co.H,Co.N,Co.F,Co.C,Co.Z,Co.B,Co.b8,Co.aA,Co.bz,Co.i6,Co.z8,Co.dm]
 (repeat (first | refine SW.seq ?_ | refine SW.block ?_ | refine SW.g0 [0,2,3,5,6,7,8,9,14] mixed U ?_ | refine SW.skip ?_ | refine SW.exit ?_ | refine SW.ret ?_ | refine SW.au rfl ?_ | refine SW.ak rfl ?_))
 refine SW.c8 (α:={i:Nat // i≤2∧(1≤i→a=0)∧(2≤i→b=0)}) (fun i=>⟨[(8,i64 i.1),(6,.d (.sl 2 [.int .i64 a,.int .i64 b])),(7,i64 2),(3,i64 0)],[],0⟩) (fun i=>2 - i.1) ⟨0,by omega⟩ id U (round:= ?_)
 rintro ⟨i,hi,ha,hb⟩
 match i,hi,ha,hb with
 | 0,_,_,_=>
  rcases h1:(a != 0) with _ | _
  ·(repeat (first | refine SW.seq ?_ | refine SW.block ?_ | refine SW.g0 [0,2,3,5,6,7,8,9,14] mixed (h1) ?_ | refine SW.skip ?_ | refine SW.exit ?_ | refine SW.ret ?_ | refine SW.au rfl ?_ | refine SW.ak rfl ?_))
   exact Next.mk ⟨1,by omega,fun _=>by simpa using h1,by omega⟩ id U
  ·(repeat (first | refine SW.seq ?_ | refine SW.block ?_ | refine SW.g0 [0,2,3,5,6,7,8,9,14] mixed (h1) ?_ | refine SW.skip ?_ | refine SW.exit ?_ | refine SW.ret ?_ | refine SW.au rfl ?_ | refine SW.ak rfl ?_))
   exact End.mk [] (h4:=⟨by simp at h1;rw [if_neg h1];rfl,rfl⟩)
 | 1,_,ha,_=>
  rcases h1:(b != 0) with _ | _
  ·(repeat (first | refine SW.seq ?_ | refine SW.block ?_ | refine SW.g0 [0,2,3,5,6,7,8,9,14] mixed (h1) ?_ | refine SW.skip ?_ | refine SW.exit ?_ | refine SW.ret ?_ | refine SW.au rfl ?_ | refine SW.ak rfl ?_))
   exact Next.mk ⟨2,by omega,fun _=>ha (by omega),fun _=>by simpa using h1⟩ id U
  ·(repeat (first | refine SW.seq ?_ | refine SW.block ?_ | refine SW.g0 [0,2,3,5,6,7,8,9,14] mixed (h1) ?_ | refine SW.skip ?_ | refine SW.exit ?_ | refine SW.ret ?_ | refine SW.au rfl ?_ | refine SW.ak rfl ?_))
   exact End.mk [] (h4:=⟨by rw [if_pos (ha (by omega))];rfl,rfl⟩)
 | 2,_,ha,hb=>
  (repeat (first | refine SW.seq ?_ | refine SW.block ?_ | refine SW.g0 [0,2,3,5,6,7,8,9,14] mixed U ?_ | refine SW.skip ?_ | refine SW.exit ?_ | refine SW.ret ?_ | refine SW.au rfl ?_ | refine SW.ak rfl ?_))
  exact End.mk [] (h4:=⟨by rw [if_pos (ha (by omega)),hb (by omega)];rfl,rfl⟩)
theorem G0 (a b:Int)(k:Nat):bp Try.prog cmp_Or_int.f [.d (.sl 2 [.int .i64 a,.int .i64 b])] [] k 0 (.d (.int .i64 (if a=0 then b else a))) []:=(GZ a b).sc rfl k
def Dt.cmp (a b:Dt):Int:=if gF a.r b.r=0 then gF a.n b.n else gF a.r b.r
theorem y5 (a b:Dt):Go.Sl.Pure Try.prog dot_Compare.f [.agg a.cells,.agg b.cells] (i64 (Dt.cmp a b)):=by
 refine dot_Compare.enter (by first | rfl | simp [SV.ok,SV.aI]) (by first | rfl | simp [Hp.ok,Ob.ok,SV.ok,SV.aI,aS.aj]) (by simp) ?_
 dsimp only [dot_Compare.s,Co.M,Co.G,Co.J,Co.H,Co.N,Co.F,Co.C,Co.Z,Co.B,Co.b8,Co.aA,Co.bz,Co.i6,Co.z8,Co.dm]
 (repeat (first | refine SW.seq ?_ | refine SW.block ?_ | (refine SW.ai [0,1,2,3,4] mixed ?_;(repeat (first | refine RW.ro (yV) (h:= ?_) | refine RW.skip (h:= ?_) | refine RW.op (yV) (h:= ?_) | refine RW.aF (yV) (h:= ?_) | refine RW.ah (h:= ?_) | (refine RW.ax (h:= ?_);(first | refine af.mk (yV) (hc:=E1 _ _ _) (h:= ?_) | refine af.mk (yV) (hc:=Db _ _ _) (h:= ?_) | refine af.mk (yV) (hc:=G0 _ _ _) (h:= ?_)))));refine RW.nil ⟨by kernel_rfl,aa.mk (h:= ?_)⟩) | refine SW.skip ?_ | refine SW.exit ?_ | refine SW.ret ?_ | refine SW.au rfl ?_ | refine SW.ak rfl ?_))
 exact End.mk [] (h4:=⟨rfl,rfl⟩)
theorem s9 (a b:Dt)(k:Nat):bp Try.prog dot_Compare.f [.agg a.cells,.agg b.cells] [] k 0 (.d (.int .i64 (Dt.cmp a b))) []:=(y5 a b).sc rfl k
end
end Go.Proofs.Ytefjaphfnkbbkaa
namespace Go.Proofs.Ytefjaphfnkbbkaa
open Go.Sl Go.Proofs Go.Sort
section
attribute [local irreducible] SW RW bp SC af aa
theorem Dt.s_ (a b:Dt):Dt.cmp a b<0↔a.r<b.r∨a.r=b.r∧a.n<b.n:=by
 unfold Dt.cmp gF
 split <;> split <;> (try split) <;> (try split) <;> omega
theorem Dt.tc (a b:Dt):Dt.cmp a b= -Dt.cmp b a:=by
 unfold Dt.cmp gF
 repeat' split
 all_goals omega
theorem Dt.td (a b:Dt):Dt.cmp a b=0↔a=b:=by
 obtain ⟨a1,a2⟩:=a
 obtain ⟨b1,b2⟩:=b
 simp only [Dt.mk.injEq]
 unfold Dt.cmp gF
 dsimp only
 repeat' split
 all_goals omega
theorem Dt.lt_iff (a b:Dt):ltOf Dt.cmp a b=true↔a.r<b.r∨a.r=b.r∧a.n<b.n:=by
 unfold ltOf;rw [decide_eq_true_eq];exact Dt.s_ a b
def Dt.le (a b:Dt):Bool:= !ltOf Dt.cmp b a
theorem Dt.le_iff (a b:Dt):Dt.le a b=true↔a.r<b.r∨a.r=b.r∧a.n≤b.n:=by
 unfold Dt.le;rw [Bool.not_eq_true',Bool.eq_false_iff,ne_eq,Dt.lt_iff];omega
theorem Dt.le_antisymm {a b:Dt}(h1:Dt.le a b=true)(h2:Dt.le b a=true):a=b:=by
 rw [Dt.le_iff] at*
 obtain ⟨a1,a2⟩:=a
 obtain ⟨b1,b2⟩:=b
 simp only [Dt.mk.injEq] at*
 omega
def Dt.sorted (l:List Dt):List Dt:=l.mergeSort Dt.le
theorem Dt.e_ (l:List Dt):(Dt.sorted l).Pairwise fun a b=>Dt.le a b=true:=
 List.pairwise_mergeSort (fun a b c h1 h2=>by rw [Dt.le_iff] at *;omega) (fun a b=>by rw [Bool.or_eq_true,Dt.le_iff,Dt.le_iff];omega) l
theorem Dt.sorted_perm (l:List Dt):(Dt.sorted l).Perm l:=List.mergeSort_perm l Dt.le
end
section
attribute [local irreducible] SW RW bp SC af aa
end
section
attribute [local irreducible] SW RW bp SC af aa
theorem ez {α:Type}{motive:List α→Prop}(nil:motive [])(snoc:∀ l x,motive l→motive (l++[x]))(l:List α):motive l:=by
 have key:∀ r:List α,motive r.reverse:=fun r=>by
  induction r with
  | nil=>exact nil
  | cons x r ih=>rw [List.reverse_cons];exact snoc _ _ ih
 simpa using key l.reverse
theorem E2 (l:List Dt):MM.wf (qj l).1 (qj l).2:=by
 induction l using ez with
 | nil=>exact MM.rY
 | snoc l d ih=>rw [qk];exact MM.pV ih d 1
theorem Dc (l:List Dt)(d:Dt):MM.has (qj l).1 d=decide (d∈l):=by
 induction l using ez with
 | nil=>rfl
 | snoc l x ih=>rw [qk,MM.zB,ih,Bool.eq_iff_iff];simp [or_comm]
theorem Dd (l:List Dt):(qj l).1.length≤l.length:=by
 induction l using ez with
 | nil=>exact Nat.le_refl _
 | snoc l x ih=>
  rw [qk]
  have:=congrArg List.length (MM.rX (L:=(qj l).1) (c:=(qj l).2) (a:=x) (v:=1))
  simp only [MM.keys,List.length_map] at this
  rw [this]
  split <;> simp <;> omega
def Dt.set (l:List Dt):List Dt:=Dt.sorted (MM.keys (qj l).1)
def Dt.nA (l:List Dt):Prop:=l.Pairwise fun a b=>Dt.cmp a b<0
theorem Dt.vI {l m:List Dt}(h1:Dt.nA l)(h2:Dt.nA m)(h:∀ d,d∈l↔d∈m):l=m:=by
 have nd:∀ {l:List Dt},Dt.nA l→l.Nodup:=fun h=>h.imp fun {a b} hab e=>by
  subst e;rw [(Dt.td a a).2 rfl] at hab;omega
 refine List.Perm.eq_of_pairwise (le:=fun a b=>Dt.cmp a b<0) (fun a b _ _ h1 h2=> ?_) h1 h2 ((List.perm_ext_iff_of_nodup (nd h1) (nd h2)).2 h)
 rw [Dt.tc] at h1;omega
theorem Dt.vJ {l:List Dt}(h:l.Nodup):Dt.nA (Dt.sorted l):=by
 have h1:=Dt.e_ l
 have h2:(Dt.sorted l).Nodup:=(Dt.sorted_perm l).nodup_iff.2 h
 unfold Dt.nA
 have:=h1.and h2
 refine this.imp fun {a b} hab=> ?_
 obtain ⟨e1,e2⟩:=hab
 rw [Dt.le_iff] at e1
 rw [Dt.s_]
 obtain ⟨a1,a2⟩:=a
 obtain ⟨b1,b2⟩:=b
 simp only [ne_eq,Dt.mk.injEq] at*
 omega
theorem Dt.uN (l:List Dt):Dt.nA (Dt.set l):=Dt.vJ (E2 l).keys
theorem Dt.mem_set {l:List Dt}{d:Dt}:d∈Dt.set l↔d∈l:=by
 unfold Dt.set
 rw [(Dt.sorted_perm _).mem_iff,← MM.jQ,Dc];simp
def leftOf (L:Ap)(p:Dt→Bool)(xs:Ap):Ap:=L.filter fun x=> !(decide (x∈xs) && p x.2.1)
end
end Go.Proofs.Ytefjaphfnkbbkaa
namespace Go.Proofs.Ytefjaphfnkbbkaa
open Go.Sl Go.Proofs
attribute [local irreducible] SW RW bp SC af aa
theorem vK (a b:Dt)(ha:a.wf)(hb:b.wf):Go.Sl.Pure Try.prog ref03_Compare.f [.agg a.cells,.agg b.cells] (i64 (gF ((a.r:Int)*8589934592+a.n) ((b.r:Int)*8589934592+b.n))):=by
 obtain ⟨a1,a2⟩:=ha
 obtain ⟨b1,b2⟩:=hb
 refine ref03_Compare.enter (by first | rfl | simp [SV.ok,SV.aI]) (by first | rfl | simp [Hp.ok,Ob.ok,SV.ok,SV.aI,aS.aj]) (by simp) ?_
 dsimp only [ref03_Compare.s,Co.M,Co.G,Co.J,Co.H,Co.N,Co.F,Co.C,Co.Z,Co.B,Co.b8,Co.aA,Co.bz,Co.i6,Co.z8,Co.dm]
 generalize hx:(a.r:Int)*8589934592+a.n=x
 generalize hy:(b.r:Int)*8589934592+b.n=y
 rcases Int.lt_trichotomy x y with h | h | h
 ·have e1:decide (x<y)=true:=by simp [h]
  have e2:gF x y= -1:=by simp [gF,h]
  (repeat (first | refine SW.seq ?_ | refine SW.block ?_ | refine SW.g0 [0,1,2,3,4,5,6,25,28] mixed (And.intro (hx) (And.intro (hy) (e1))) ?_ | refine SW.skip ?_ | refine SW.exit ?_ | refine SW.ret ?_ | refine SW.au rfl ?_ | refine SW.ak rfl ?_))
  exact End.mk [] (h4:=⟨by rw [e2];rfl,rfl⟩)
 ·have e1:decide (x<y)=false:=by simp [h]
  have e3:decide (x>y)=false:=by simp [h]
  have e2:gF x y=0:=by simp [gF,h]
  (repeat (first | refine SW.seq ?_ | refine SW.block ?_ | refine SW.g0 [0,1,2,3,4,5,6,25,28] mixed (And.intro (hx) (And.intro (hy) (And.intro (e1) (e3)))) ?_ | refine SW.skip ?_ | refine SW.exit ?_ | refine SW.ret ?_ | refine SW.au rfl ?_ | refine SW.ak rfl ?_))
  exact End.mk [] (h4:=⟨by rw [e2];rfl,rfl⟩)
 ·have e1:decide (x<y)=false:=by simp;omega
  have e3:decide (x>y)=true:=by simp [h]
  have e2:gF x y=1:=by unfold gF;rw [if_neg (by omega),if_pos h]
  (repeat (first | refine SW.seq ?_ | refine SW.block ?_ | refine SW.g0 [0,1,2,3,4,5,6,25,28] mixed (And.intro (hx) (And.intro (hy) (And.intro (e1) (e3)))) ?_ | refine SW.skip ?_ | refine SW.exit ?_ | refine SW.ret ?_ | refine SW.au rfl ?_ | refine SW.ak rfl ?_))
  exact End.mk [] (h4:=⟨by rw [e2];rfl,rfl⟩)
theorem Dt.G1 (a b:Dt)(ha:a.wf)(hb:b.wf):gF ((a.r:Int)*8589934592+a.n) ((b.r:Int)*8589934592+b.n)=Dt.cmp a b:=by
 obtain ⟨a1,a2⟩:=ha
 obtain ⟨b1,b2⟩:=hb
 unfold Dt.cmp gF
 repeat' split
 all_goals omega
theorem b_ (a b:Dt)(ha:a.wf)(hb:b.wf)(k:Nat):bp Try.prog ref03_Compare.f [.agg a.cells,.agg b.cells] [] k 0 (.d (.int .i64 (Dt.cmp a b))) []:=by
 have:=(vK a b ha hb).sc rfl k
 rwa [Dt.G1 a b ha hb] at this
end Go.Proofs.Ytefjaphfnkbbkaa
namespace Go.Proofs.Ytefjaphfnkbbkaa
open Go.Sl Go.Proofs Go.Sort
attribute [local irreducible] SW RW bp SC af aa
theorem G2 (l:List Dt)(d:Dt)(hl:l.length<1000000000):Go.Sl.Pure Try.prog ref03_In.f [ic l,.agg d.cells] (bl (decide (d∈l))):=by
 refine ref03_In.enter (by first | rfl | simp [SV.ok,SV.aI]) (by first | rfl | simp [Hp.ok,Ob.ok,SV.ok,SV.aI,aS.aj]) (by simp) ?_
 dsimp only [ref03_In.s,Co.M,Co.G,Co.J,Co.H,Co.N,Co.F,Co.C,Co.Z,Co.B,Co.b8,Co.aA,Co.bz,Co.i6,Co.z8,Co.dm]
 (repeat (first | refine SW.seq ?_ | refine SW.block ?_ | refine SW.g0 [0,1,3,4,5,9,17] mixed U ?_ | refine SW.skip ?_ | refine SW.exit ?_ | refine SW.ret ?_ | refine SW.au rfl ?_ | refine SW.ak rfl ?_))
 refine SW.c8 (α:={i:Nat // i≤l.length∧∀ j x,j<i→l[j]? =some x→x≠d}) (fun i=>⟨[(5,i64 i.1),(0,ic l),(3,.ptr 0 0)],[(0,.box 29 d.cells)],1⟩) (fun i=>l.length - i.1) ⟨0,by omega,by omega⟩ id U (round:= ?_)
 rintro ⟨i,hi,hs⟩
 by_cases h:i<l.length
 ·obtain ⟨x,hx⟩:=aL h
  have h1:decide ((i:Int)<l.length)=true:=by simp;exact h
  by_cases hd:x=d
  ·have h2:decide (x=d)=true:=by simp [hd]
   (repeat (first | refine SW.seq ?_ | refine SW.block ?_ | refine SW.g0 [0,1,3,4,5,9,17] mixed (And.intro (h1) (And.intro (gf hx) (h2))) ?_ | refine SW.skip ?_ | refine SW.exit ?_ | refine SW.ret ?_ | refine SW.au rfl ?_ | refine SW.ak rfl ?_))
   have:d∈l:=by rw [← hd];exact List.mem_of_getElem? hx
   exact End.mk [] (h4:=⟨by simp [this,eF,bl],rfl⟩)
  ·have h2:decide (x=d)=false:=by simp [hd]
   (repeat (first | refine SW.seq ?_ | refine SW.block ?_ | refine SW.g0 [0,1,3,4,5,9,17] mixed (And.intro (h1) (And.intro (gf hx) (h2))) ?_ | refine SW.skip ?_ | refine SW.exit ?_ | refine SW.ret ?_ | refine SW.au rfl ?_ | refine SW.ak rfl ?_))
   exact ⟨⟨i+1,by omega,fun j y hj hy=>by
    by_cases e:j=i
    ·subst e;rw [hx] at hy;injection hy with hy;subst hy;exact hd
    ·exact hs j y (by omega) hy⟩,id,by simp;omega,bg.mk U⟩
 ·have h1:decide ((i:Int)<l.length)=false:=by simp;omega
  have h2:i=l.length:=by omega
  subst h2
  (repeat (first | refine SW.seq ?_ | refine SW.block ?_ | refine SW.g0 [0,1,3,4,5,9,17] mixed (h1) ?_ | refine SW.skip ?_ | refine SW.exit ?_ | refine SW.ret ?_ | refine SW.au rfl ?_ | refine SW.ak rfl ?_))
  have:d∉l:=fun hm=>by
   obtain ⟨j,hj⟩:=List.mem_iff_getElem?.1 hm
   exact hs j d (bq hj) hj rfl
  exact End.mk [] (h4:=⟨by simp [this,eF,bl],rfl⟩)
theorem iX (l:List Dt)(d:Dt)(hl:l.length<1000000000)(k:Nat):bp Try.prog ref03_In.f [ic l,.agg d.cells] [] k 0 (.d (.bool (decide (d∈l)))) []:=(G2 l d hl).sc rfl k
def Dt.ins (l:List Dt)(d:Dt):List Dt:=if d∈l then l else l.takeWhile (fun x=>decide (Dt.cmp x d<0))++d::l.dropWhile (fun x=>decide (Dt.cmp x d<0))
end Go.Proofs.Ytefjaphfnkbbkaa
namespace Go.Proofs.Ytefjaphfnkbbkaa
open Go.Sl Go.Proofs
section
attribute [local irreducible] SW RW bp SC af aa
theorem pn {a:MM Dt Cr}{d:Dt}{L:List Cr}{c:Cr}(hg:MM.get a d=some c):hU a d L= .cg [ic (L.map (·.dot)),.d (.int .i64 0)]:=by
 unfold hU MM.has
 rw [hg]
 simp [ic]
theorem vL {a:MM Dt Cr}{d:Dt}{L:List Cr}(hg:MM.get a d=none):hU a d L= .cg [.d .ay,.d (.int .i64 7)]:=by
 unfold hU MM.has
 rw [hg];rfl
section
variable {l:List aq} (hlen:l.length<4611686018427387904) (hl:∀ x,x∈l→x.bn<256) {T:Tr} (h:iT l T)
include hlen hl h
theorem vM {d:Dt}{c:Cr}(hg:MM.get T.at_ d=some c)(k:Nat):bp Try.prog ref16_Get.f [ops l,.agg d.cells] [] k 0 (.cg [.agg c.cells,.d (.bool true)]) []:=by
 have:=zX hlen hl d k
 rw [(h.get d).2 c hg] at this;exact this
theorem G3 {d:Dt}(hg:MM.get T.at_ d=none)(k:Nat):bp Try.prog ref16_Get.f [ops l,.agg d.cells] [] k 0 (.cg [.agg (dA l 10 d).1.cells,.d (.bool false)]) []:=by
 have:=zX hlen hl d k
 have e:=(h.get d).1
 unfold MM.has at e
 rw [hg] at e
 rw [e] at this;exact this
set_option maxHeartbeats 4000000 in
theorem A4 (d:Dt)(L:List Cr)(hL:lZ T.at_ (MM.get T.at_ d) L)(xX:L.length<1000000):Go.Sl.Pure Try.prog ref16_Chain.f [ops l,.agg d.cells] (hU T.at_ d L):=by
 cases hg:MM.get T.at_ d with
 | none=>
  rw [vL hg]
  have hr:=G3 hlen hl h hg
  refine ref16_Chain.enter (by first | rfl | simp [SV.ok,SV.aI]) (by first | rfl | simp [Hp.ok,Ob.ok,SV.ok,SV.aI,aS.aj]) (by simp) ?_
  dsimp only [ref16_Chain.s,Co.M,Co.G,Co.J,Co.H,Co.N,Co.F,Co.C,Co.Z,Co.B,Co.b8,Co.aA,Co.bz,Co.i6,Co.z8,Co.dm]
  (repeat (first | refine SW.seq ?_ | refine SW.block ?_ | refine SW.g1 [0,1,3,4,5,6,7,8,16,21] mixed U hr ?_ | refine SW.skip ?_ | refine SW.exit ?_ | refine SW.ret ?_ | refine SW.au rfl ?_ | refine SW.ak rfl ?_))
  exact End.mk [] (h4:=⟨rfl,rfl⟩)
 | some c=>
  rw [pn hg]
  have hr:=vM hlen hl h hg
  have hc0:L[0]? =some c:=by rw [hg] at hL;exact hL.head
  refine ref16_Chain.enter (by first | rfl | simp [SV.ok,SV.aI]) (by first | rfl | simp [Hp.ok,Ob.ok,SV.ok,SV.aI,aS.aj]) (by simp) ?_
  dsimp only [ref16_Chain.s,Co.M,Co.G,Co.J,Co.H,Co.N,Co.F,Co.C,Co.Z,Co.B,Co.b8,Co.aA,Co.bz,Co.i6,Co.z8,Co.dm]
  refine SW.seq ?_
  refine SW.g1 [0,1,3,4,5,6,7,8,16,21] mixed U hr ?_
  refine SW.seq ?_
  refine SW.g1 [0,1,3,4,5,6,7,8,16,21] mixed U hr ?_
  refine SW.seq (SW.seq ?_)
  refine SW.g1 [0,1,3,4,5,6,7,8,16,21] mixed U hr ?_
  refine SW.ak rfl (SW.skip ?_)
  refine SW.seq ?_
  (refine SW.ai [0,1,3,4,5,6,7,8,16,21] mixed ?_;(repeat (first | refine RW.lit U (h:= ?_) | refine RW.ro U (h:= ?_) | refine RW.skip (h:= ?_) | refine RW.op U (h:= ?_) | refine RW.aF U (h:= ?_) | refine RW.ah (h:= ?_)));refine RW.nil ⟨by kernel_rfl,aa.mk (h:= ?_)⟩)
  refine SW.seq (SW.block ?_)
  have e0:(L.take 1).map (·.dot)=[d]:=by
   have:L.take 1=[c]:=by
    cases L with
    | nil=>cases hc0
    | cons x M=>simp at hc0;simp [hc0]
   rw [this];simp [h.z6 hg]
  refine SW.c8 (α:={j:Nat×Cr // L[j.1]? =some j.2}) (fun j=>⟨[(8,.gs 2 (j.1.1+1)),(0,ops l),(6,.ptr 1 0)],[(2,.arr 29 2 (j.1.1+1) ((((L.take (j.1.1+1)).map (·.dot)).flatMap Dt.ds).map .d)),(1,.box 78 j.1.2.cells)],3⟩) (fun j=>L.length - j.1.1) ⟨(0,c),hc0⟩ id (And.intro e0 (And.intro (Dt.jm d) (fun q:Nat→Bool=>Cr.aj c q))) (round:= ?_)
  rintro ⟨⟨j,x⟩,hx⟩
  dsimp only at hx ⊢
  have hjl:=bq hx
  by_cases hpos:0<x.level
  ·have h1:decide (x.level>0)=true:=decide_eq_true hpos
   obtain ⟨o,p,q,_,_,hp,_⟩:=h.above (h.jE hL x (List.mem_of_getElem? hx)) hpos
   have hj2:j+1<L.length:=by
    refine Classical.byContradiction fun hn=> ?_
    have he:j=L.length - 1:=by omega
    have:=(h.GY hL (x:=x) (by rw [← he];exact hx)).1
    omega
   obtain ⟨y,hy⟩:=aL hj2
   have hpy:p=y:=by
    have:=(hL.next j x y hx hy).2
    rw [hp] at this;injection this
   subst hpy
   have hr2:=vM hlen hl h hp
   have e1:(L.take (j+1+1)).map (·.dot)=(L.take (j+1)).map (·.dot)++[x.par]:=by
    rw [bQ hy,List.map_append];simp [h.z6 hp]
   have edt:∀ d:Dt,dF d.cells=some d.ds:=fun _=>rfl
   refine SW.seq (SW.seq ?_)
   refine SW.g1 [0,1,3,4,5,6,7,8,16,21] mixed (h1) hr2 ?_
   refine SW.au rfl (SW.skip ?_)
   refine SW.block (SW.seq ?_)
   refine SW.g1 [0,1,3,4,5,6,7,8,16,21] mixed (edt) hr2 ?_
   refine SW.g1 [0,1,3,4,5,6,7,8,16,21] mixed U hr2 ?_
   dsimp only
   refine ⟨⟨(j+1,p),hy⟩,fun n=>if n=2 then 3 else n,by show L.length - (j+1)<L.length - j;omega,?_⟩
   exact bg.mk (And.intro e1 (And.intro (Dt.jm x.par) U))
  ·have h1:decide (x.level>0)=false:=decide_eq_false hpos
   have hlast:j+1=L.length:=by
    refine Classical.byContradiction fun hn=> ?_
    obtain ⟨y,hy⟩:=aL (show j+1<L.length by omega)
    exact hpos (hL.next j x y hx hy).1
   refine SW.seq (SW.seq ?_)
   refine SW.g0 [0,1,3,4,5,6,7,8,16,21] mixed (h1) ?_
   refine SW.ak rfl (SW.exit ?_)
   rw [hlast,List.take_length]
   refine SW.seq ?_
   refine SW.g0 [0,1,3,4,5,6,7,8,16,21] mixed U ?_
   refine SW.freeze 2 ((L.map (·.dot)).flatMap Dt.ds) rfl rfl (SW.ret ?_)
   exact End.mk [] (h4:=⟨by simp [eF,SV.gu],rfl⟩) (h5:=by simp [eF,SV.gu,SV.ok,SV.aI])
theorem uO (d:Dt)(L:List Cr)(hL:lZ T.at_ (MM.get T.at_ d) L)(xX:L.length<1000000)(k:Nat):bp Try.prog ref16_Chain.f [ops l,.agg d.cells] [] k 0 (hU T.at_ d L) []:=(A4 hlen hl h d L hL xX).sc (by unfold hU;split <;> rfl) k
end
end
section
attribute [local irreducible] SW RW bp SC af aa
theorem A5  :Go.Sl.Pure Try.prog tree_Tree_none.f [.d .ow] (bl true):=by
 refine tree_Tree_none.enter (by first | rfl | simp [SV.ok,SV.aI]) (by first | rfl | simp [Hp.ok,Ob.ok,SV.ok,SV.aI,aS.aj]) (by simp) ?_
 dsimp only [tree_Tree_none.s,Co.M,Co.G,Co.J,Co.H,Co.N,Co.F,Co.C,Co.Z,Co.B,Co.b8,Co.aA,Co.bz,Co.i6,Co.z8,Co.dm]
 (repeat (first | refine SW.seq ?_ | refine SW.block ?_ | refine SW.g0 [0,2] mixed U ?_ | refine SW.skip ?_ | refine SW.exit ?_ | refine SW.ret ?_ | refine SW.au rfl ?_ | refine SW.ak rfl ?_))
 exact End.mk [] (h4:=⟨rfl,rfl⟩)
theorem A6  (k:Nat):bp Try.prog tree_Tree_none.f [.d .ow] [] k 0 (bl true) []:=(A5).sc rfl k
theorem De (d:Dt):Go.Sl.Pure Try.prog tree_Tree_Get.f [.d .ow,.agg d.cells] (.cg [.agg Cr.zero.cells,i64 1]):=by
 refine tree_Tree_Get.enter (by first | rfl | simp [SV.ok,SV.aI]) (by first | rfl | simp [Hp.ok,Ob.ok,SV.ok,SV.aI,aS.aj]) (by simp) ?_
 dsimp only [tree_Tree_Get.s,Co.M,Co.G,Co.J,Co.H,Co.N,Co.F,Co.C,Co.Z,Co.B,Co.b8,Co.aA,Co.bz,Co.i6,Co.z8,Co.dm]
 (repeat (first | refine SW.seq ?_ | refine SW.block ?_ | refine SW.g1 [0,1,3,4,5,6,7,9,21] mixed U A6 ?_ | refine SW.skip ?_ | refine SW.exit ?_ | refine SW.ret ?_ | refine SW.au rfl ?_ | refine SW.ak rfl ?_))
 exact End.mk [] (h4:=⟨rfl,rfl⟩)
theorem Df (d:Dt)(k:Nat):bp Try.prog tree_Tree_Get.f [.d .ow,.agg d.cells] [] k 0 (.cg [.agg Cr.zero.cells,i64 1]) []:=(De d).sc rfl k
end
section
attribute [local irreducible] SW RW bp SC af aa
theorem pq (a:MM Dt Cr)(m:MM Dt aq):(∀ q:Nat→Bool,((aH Dt.cells cv a).all fun e=>e.2.1.ok q && e.2.2.ok q)=true)∧(∀ q:Nat→Bool,((aH Dt.cells ov m).all fun e=>e.2.1.ok q && e.2.2.ok q)=true)∧(∀ r:Nat→Nat,(aH Dt.cells cv a).map (fun e=>(e.1,e.2.1.aV r,e.2.2.aV r))=aH Dt.cells cv a)∧(∀ r:Nat→Nat,(aH Dt.cells ov m).map (fun e=>(e.1,e.2.1.aV r,e.2.2.aV r))=aH Dt.cells ov m):=
 ⟨fun q=>oS q a,fun q=>oR q m,fun r=>jA r a,fun r=>jy r m⟩
theorem Tn.Ip {l:List aq}{a:MM Dt Cr}{ca:Nat}{m:MM Dt aq}{cm:Nat}(h:Tn l a ca m cm)(hl:l.length<1000000000):
  bp Try.prog tree_New.f [ops l] [] 1 7 (.ptr 3 0) [(3,.box 71 [.mp 1,.mp 2]),(1,.map (aH Dt.cells cv a) ca),(2,.map (aH Dt.cells ov m) cm)]:=by
 have e:cU l 1=⟨3,1,2,a,ca,m,cm⟩:=by
  have h0:=h.new
  unfold cU Tr.sh at h0 ⊢
  injection h0 with h1 h2 h3 h4 h5 h6 h7
  rw [h4,h5,h6,h7]
  congr 1
  ·omega
  ·omega
  ·omega
 have:=yZ l hl 1
 rw [e] at this
 exact this
end
end Go.Proofs.Ytefjaphfnkbbkaa
namespace Go.Proofs.Ytefjaphfnkbbkaa
open Go.Sl Go.Proofs Go.Sort
section
attribute [local irreducible] SW RW bp SC af aa
def ahead (d:Dt)(x:Dt):Bool:=decide (Dt.cmp x d<0)
theorem jF {α:Type}(p:α→Bool):∀ (l:List α) (i:Nat),(∀ j x,j<i→l[j]? =some x→p x=true)→(∀ x,l[i]? =some x→p x=false)→i≤l.length→l.takeWhile p=l.take i∧l.dropWhile p=l.drop i
 | [],i,_,_,h=>by
   have:i=0:=by simpa using h
   subst this;exact ⟨rfl,rfl⟩
 | x::l,0,_,h,_=>by
  have:=h x rfl
  simp [this]
 | x::l,i+1,h1,h2,h3=>by
  have hx:=h1 0 x (by omega) rfl
  obtain ⟨a,b⟩:=jF p l i (fun j y hj hy=>h1 (j+1) y (by omega) hy) (fun y hy=>h2 y hy) (by simpa using h3)
  simp [hx,a,b]
theorem uP:∀ (l:List Dt) (i:Nat),(l.flatMap Dt.ds).drop (i*2)=(l.drop i).flatMap Dt.ds
 | [],i=>by simp
 | x::l,0=>by simp
 | x::l,i+1=>by
  have:=uP l i
  rw [List.drop_succ_cons,← this,List.flatMap_cons,List.drop_append]
  rw [show (i+1)*2 - x.ds.length=i*2 by rw [Dt.l8];omega,List.drop_of_length_le (by rw [Dt.l8];omega)]
  rfl
theorem uQ (l:List Dt)(i:Nat):((l.flatMap Dt.ds).drop (i*2)).take ((l.length - i)*2)=(l.drop i).flatMap Dt.ds:=by
 rw [uP,List.take_of_length_le]
 rw [BZ];simp
set_option maxHeartbeats 1000000 in
theorem E3 (l:List Dt)(d:Dt)(hl:l.length<100000000)(Ja:∀ x,x∈l→x.wf)(Jm:d.wf):Go.Sl.Pure Try.prog ref03_with.f [ic l,.agg d.cells] (ic (Dt.ins l d)):=by
 have hl':l.length<1000000000:=by omega
 refine ref03_with.enter (by first | rfl | simp [SV.ok,SV.aI]) (by first | rfl | simp [Hp.ok,Ob.ok,SV.ok,SV.aI,aS.aj]) (by simp) ?_
 dsimp only [ref03_with.s,Co.M,Co.G,Co.J,Co.H,Co.N,Co.F,Co.C,Co.Z,Co.B,Co.b8,Co.aA,Co.bz,Co.i6,Co.z8,Co.dm]
 by_cases hm:d∈l
 ·have h1:decide (d∈l)=true:=by simp [hm]
  (repeat (first | refine SW.seq ?_ | refine SW.block ?_ | (refine SW.ai [0,1,3,4,5,6,9,23] mixed ?_;(repeat (first | refine RW.ro (h1) (h:= ?_) | refine RW.skip (h:= ?_) | refine RW.op (h1) (h:= ?_) | refine RW.aF (h1) (h:= ?_) | refine RW.ah (h:= ?_) | (refine RW.ax (h:= ?_);(first | refine af.mk (h1) (hc:=iX _ _ (by first | assumption | omega) _) (h:= ?_) | refine af.mk (h1) (hc:=b_ _ _ (by first | assumption | omega) (by first | assumption | omega) _) (h:= ?_)))));refine RW.nil ⟨by kernel_rfl,aa.mk (h:= ?_)⟩) | refine SW.skip ?_ | refine SW.exit ?_ | refine SW.ret ?_ | refine SW.au rfl ?_ | refine SW.ak rfl ?_))
  exact End.mk [] (h4:=⟨by simp [Dt.ins,hm,eF],rfl⟩)
 ·have h1:decide (d∈l)=false:=by simp [hm]
  refine SW.seq ?_
  (refine SW.ai [0,1,3,4,5,6,9,23] mixed ?_;(repeat (first | refine RW.ro U (h:= ?_) | refine RW.skip (h:= ?_) | refine RW.op U (h:= ?_) | refine RW.aF U (h:= ?_) | refine RW.ah (h:= ?_) | (refine RW.ax (h:= ?_);(first | refine af.mk U (hc:=iX _ _ (by first | assumption | omega) _) (h:= ?_) | refine af.mk U (hc:=b_ _ _ (by first | assumption | omega) (by first | assumption | omega) _) (h:= ?_)))));refine RW.nil ⟨by kernel_rfl,aa.mk (h:= ?_)⟩)
  refine SW.seq (SW.seq ?_)
  (refine SW.ai [0,1,3,4,5,6,9,23] mixed ?_;(repeat (first | refine RW.ro (h1) (h:= ?_) | refine RW.skip (h:= ?_) | refine RW.op (h1) (h:= ?_) | refine RW.aF (h1) (h:= ?_) | refine RW.ah (h:= ?_) | (refine RW.ax (h:= ?_);(first | refine af.mk (h1) (hc:=iX _ _ (by first | assumption | omega) _) (h:= ?_) | refine af.mk (h1) (hc:=b_ _ _ (by first | assumption | omega) (by first | assumption | omega) _) (h:= ?_)))));refine RW.nil ⟨by kernel_rfl,aa.mk (h:= ?_)⟩)
  refine SW.ak rfl (SW.skip ?_)
  refine SW.seq ?_
  (refine SW.ai [0,1,3,4,5,6,9,23] mixed ?_;(repeat (first | refine RW.ro U (h:= ?_) | refine RW.skip (h:= ?_) | refine RW.op U (h:= ?_) | refine RW.aF U (h:= ?_) | refine RW.ah (h:= ?_) | (refine RW.ax (h:= ?_);(first | refine af.mk U (hc:=iX _ _ (by first | assumption | omega) _) (h:= ?_) | refine af.mk U (hc:=b_ _ _ (by first | assumption | omega) (by first | assumption | omega) _) (h:= ?_)))));refine RW.nil ⟨by kernel_rfl,aa.mk (h:= ?_)⟩)
  refine SW.nM 5 29 2 rfl ?_
  refine SW.seq ?_
  (refine SW.ai [0,1,3,4,5,6,9,23] mixed ?_;(repeat (first | refine RW.ro U (h:= ?_) | refine RW.skip (h:= ?_) | refine RW.op U (h:= ?_) | refine RW.aF U (h:= ?_) | refine RW.ah (h:= ?_) | (refine RW.ax (h:= ?_);(first | refine af.mk U (hc:=iX _ _ (by first | assumption | omega) _) (h:= ?_) | refine af.mk U (hc:=b_ _ _ (by first | assumption | omega) (by first | assumption | omega) _) (h:= ?_)))));refine RW.nil ⟨by kernel_rfl,aa.mk (h:= ?_)⟩)
  refine SW.seq (SW.block ?_)
  refine SW.c8 (α:={i:Nat // i≤l.length∧∀ j x,j<i→l[j]? =some x→ahead d x=true}) (fun i=>⟨[(6,i64 i.1),(0,ic l),(3,.ptr 0 0),(5,.gs 1 i.1)],[(1,.arr 29 2 i.1 (((l.take i.1).flatMap Dt.ds).map .d)),(0,.box 29 d.cells)],2⟩) (fun i=>l.length - i.1) ⟨0,by omega,by omega⟩ id U (round:= ?_)
  rintro ⟨i,hi,hs⟩
  have e0:(i:Int).toNat=i:=Int.toNat_natCast i
  by_cases h:i<l.length
  ·obtain ⟨x,hx⟩:=aL h
   have hwx:x.wf:=Ja x (List.mem_of_getElem? hx)
   have h1:decide ((i:Int)<l.length)=true:=by simp;exact h
   by_cases hc:Dt.cmp x d<0
   ·have h2:decide (Dt.cmp x d<0)=true:=by simp [hc]
    (repeat (first | refine SW.seq ?_ | refine SW.block ?_ | (have fx:=(And.intro (h1) (And.intro (gf hx) (h2)));refine SW.ai [0,1,3,4,5,6,9,23] mixed ?_;(repeat (first | refine RW.ro fx (h:= ?_) | refine RW.skip (h:= ?_) | refine RW.op fx (h:= ?_) | refine RW.aF fx (h:= ?_) | refine RW.ah (h:= ?_) | (refine RW.ax (h:= ?_);(first | refine af.mk fx (hc:=iX _ _ (by first | assumption | omega) _) (h:= ?_) | refine af.mk fx (hc:=b_ _ _ (by first | assumption | omega) (by first | assumption | omega) _) (h:= ?_)))));refine RW.nil ⟨by kernel_rfl,aa.mk (h:= ?_)⟩) | refine SW.skip ?_ | refine SW.exit ?_ | refine SW.ret ?_ | refine SW.au rfl ?_ | refine SW.ak rfl ?_))
    have e1:l.take (i+1)=l.take i++[x]:=bQ hx
    refine ⟨⟨i+1,by omega,fun j y hj hy=> ?_⟩,fun n=>if n=1 then 2 else n,by simp;omega,bg.mk (And.intro e1 (Dt.jm x))⟩
    by_cases e:j=i
    ·subst e;rw [hx] at hy;injection hy with hy;subst hy;exact h2
    ·exact hs j y (by omega) hy
   ·have h2:decide (Dt.cmp x d<0)=false:=by simp [hc]
    refine SW.seq (SW.seq ?_)
    (have fx:=(And.intro (h1) (And.intro (gf hx) (h2)));refine SW.ai [0,1,3,4,5,6,9,23] mixed ?_;(repeat (first | refine RW.ro fx (h:= ?_) | refine RW.skip (h:= ?_) | refine RW.op fx (h:= ?_) | refine RW.aF fx (h:= ?_) | refine RW.ah (h:= ?_) | (refine RW.ax (h:= ?_);(first | refine af.mk fx (hc:=iX _ _ (by first | assumption | omega) _) (h:= ?_) | refine af.mk fx (hc:=b_ _ _ (by first | assumption | omega) (by first | assumption | omega) _) (h:= ?_)))));refine RW.nil ⟨by kernel_rfl,aa.mk (h:= ?_)⟩)
    refine SW.ak rfl (SW.exit ?_)
    refine SW.seq ?_
    (refine SW.ai [0,1,3,4,5,6,9,23] mixed ?_;(repeat (first | refine RW.ro (e0) (h:= ?_) | refine RW.skip (h:= ?_) | refine RW.op (e0) (h:= ?_) | refine RW.aF (e0) (h:= ?_) | refine RW.ah (h:= ?_) | (refine RW.ax (h:= ?_);(first | refine af.mk (e0) (hc:=iX _ _ (by first | assumption | omega) _) (h:= ?_) | refine af.mk (e0) (hc:=b_ _ _ (by first | assumption | omega) (by first | assumption | omega) _) (h:= ?_)))));refine RW.nil ⟨by kernel_rfl,aa.mk (h:= ?_)⟩)
    refine SW.seq ?_
    (refine SW.ai [0,1,3,4,5,6,9,23] mixed ?_;(repeat (first | refine RW.ro (e0) (h:= ?_) | refine RW.skip (h:= ?_) | refine RW.op (e0) (h:= ?_) | refine RW.aF (e0) (h:= ?_) | refine RW.ah (h:= ?_) | (refine RW.ax (h:= ?_);(first | refine af.mk (e0) (hc:=iX _ _ (by first | assumption | omega) _) (h:= ?_) | refine af.mk (e0) (hc:=b_ _ _ (by first | assumption | omega) (by first | assumption | omega) _) (h:= ?_)))));refine RW.nil ⟨by kernel_rfl,aa.mk (h:= ?_)⟩)
    have hins:Dt.ins l d=l.take i++d::l.drop i:=by
     have:=jF (ahead d) l i hs (fun y hy=>by rw [hx] at hy;injection hy with hy;subst hy;exact h2) hi
     unfold Dt.ins ahead at*
     rw [if_neg hm,this.1,this.2]
    have hlen:(Dt.ins l d).length=i+1+(l.length - i):=by rw [hins];simp;omega
    refine SW.freeze 3 ((Dt.ins l d).flatMap Dt.ds) rfl (by rw [uQ,hins];simp) ?_
    simp only [kU,SV.gu,List.map_cons,List.map_nil,if_true,if_false,reduceIte,dx,Nat.reduceEqDiff,← hlen]
    refine SW.ret ?_
    exact End.mk [] (h4:=⟨rfl,rfl⟩)
  ·have h1:decide ((i:Int)<l.length)=false:=by simp;omega
   have h2:i=l.length:=by omega
   refine SW.seq (SW.seq ?_)
   (refine SW.ai [0,1,3,4,5,6,9,23] mixed ?_;(repeat (first | refine RW.ro (h1) (h:= ?_) | refine RW.skip (h:= ?_) | refine RW.op (h1) (h:= ?_) | refine RW.aF (h1) (h:= ?_) | refine RW.ah (h:= ?_) | (refine RW.ax (h:= ?_);(first | refine af.mk (h1) (hc:=iX _ _ (by first | assumption | omega) _) (h:= ?_) | refine af.mk (h1) (hc:=b_ _ _ (by first | assumption | omega) (by first | assumption | omega) _) (h:= ?_)))));refine RW.nil ⟨by kernel_rfl,aa.mk (h:= ?_)⟩)
   refine SW.ak rfl (SW.exit ?_)
   refine SW.seq ?_
   (refine SW.ai [0,1,3,4,5,6,9,23] mixed ?_;(repeat (first | refine RW.ro (e0) (h:= ?_) | refine RW.skip (h:= ?_) | refine RW.op (e0) (h:= ?_) | refine RW.aF (e0) (h:= ?_) | refine RW.ah (h:= ?_) | (refine RW.ax (h:= ?_);(first | refine af.mk (e0) (hc:=iX _ _ (by first | assumption | omega) _) (h:= ?_) | refine af.mk (e0) (hc:=b_ _ _ (by first | assumption | omega) (by first | assumption | omega) _) (h:= ?_)))));refine RW.nil ⟨by kernel_rfl,aa.mk (h:= ?_)⟩)
   refine SW.seq ?_
   (refine SW.ai [0,1,3,4,5,6,9,23] mixed ?_;(repeat (first | refine RW.ro (e0) (h:= ?_) | refine RW.skip (h:= ?_) | refine RW.op (e0) (h:= ?_) | refine RW.aF (e0) (h:= ?_) | refine RW.ah (h:= ?_) | (refine RW.ax (h:= ?_);(first | refine af.mk (e0) (hc:=iX _ _ (by first | assumption | omega) _) (h:= ?_) | refine af.mk (e0) (hc:=b_ _ _ (by first | assumption | omega) (by first | assumption | omega) _) (h:= ?_)))));refine RW.nil ⟨by kernel_rfl,aa.mk (h:= ?_)⟩)
   have hins:Dt.ins l d=l.take i++d::l.drop i:=by
    have:=jF (ahead d) l i hs (fun y hy=>by rw [List.getElem?_eq_none (by omega)] at hy;cases hy) hi
    unfold Dt.ins ahead at*
    rw [if_neg hm,this.1,this.2]
   have hlen:(Dt.ins l d).length=i+1+(l.length - i):=by rw [hins];simp;omega
   refine SW.freeze 3 ((Dt.ins l d).flatMap Dt.ds) rfl (by rw [uQ,hins];simp) ?_
   simp only [kU,SV.gu,List.map_cons,List.map_nil,if_true,if_false,reduceIte,dx,Nat.reduceEqDiff,← hlen]
   refine SW.ret ?_
   exact End.mk [] (h4:=⟨rfl,rfl⟩)
theorem pz (l:List Dt)(d:Dt)(hl:l.length<100000000)(Ja:∀ x,x∈l→x.wf)(Jm:d.wf)(k:Nat):bp Try.prog ref03_with.f [ic l,.agg d.cells] [] k 0 (ic (Dt.ins l d)) []:=(E3 l d hl Ja Jm).sc rfl k
theorem Dt.E4 {l:List Dt}{d x:Dt}:x∈Dt.ins l d↔x∈l∨x=d:=by
 unfold Dt.ins
 split
 ·rename_i h
  refine ⟨.inl,fun h'=> ?_⟩
  rcases h' with h' | rfl
  ·exact h'
  ·exact h
 ·have:=List.takeWhile_append_dropWhile (p:=fun x=>decide (Dt.cmp x d<0)) (l:=l)
  have h2:x∈l↔x∈l.takeWhile (fun x=>decide (Dt.cmp x d<0))∨x∈l.dropWhile (fun x=>decide (Dt.cmp x d<0)):=by
   rw [← List.mem_append,this]
  rw [h2,List.mem_append,List.mem_cons]
  constructor
  ·rintro (h | h | h)
   ·exact .inl (.inl h)
   ·exact .inr h
   ·exact .inl (.inr h)
  ·rintro ((h | h) | h)
   ·exact .inl h
   ·exact .inr (.inr h)
   ·exact .inr (.inl h)
theorem Dt.A7 {l:List Dt}(h:Dt.nA l)(d:Dt):Dt.nA (Dt.ins l d):=by
 unfold Dt.ins
 split
 ·exact h
 ·rename_i hd
  induction l with
  | nil=>simp [Dt.nA]
  | cons x l ih=>
   have h1:=List.pairwise_cons.1 h
   by_cases hx:Dt.cmp x d<0
   ·simp only [List.takeWhile_cons,List.dropWhile_cons,hx,decide_true,if_true,List.cons_append]
    refine List.pairwise_cons.2 ⟨fun y hy=> ?_,ih h1.2 fun hm=>hd (List.mem_cons_of_mem _ hm)⟩
    rcases List.mem_append.1 hy with hy | hy
    ·exact h1.1 y ((List.takeWhile_sublist _).subset hy)
    ·rcases List.mem_cons.1 hy with rfl | hy
     ·exact hx
     ·exact h1.1 y ((List.dropWhile_sublist _).subset hy)
   ·simp only [List.takeWhile_cons,List.dropWhile_cons,hx,decide_false,Bool.false_eq_true,if_false,List.nil_append]
    have hlt:Dt.cmp d x<0:=by
     have e:=Dt.tc d x
     have:Dt.cmp x d≠0:=fun e=>hd (by rw [(Dt.td x d).1 e];simp)
     omega
    refine List.pairwise_cons.2 ⟨fun y hy=> ?_,h⟩
    rcases List.mem_cons.1 hy with rfl | hy
    ·exact hlt
    ·have:=h1.1 y hy
     rw [Dt.s_] at*
     omega
def Dt.tP (l:List Dt):List Dt:=l.foldl Dt.ins []
theorem Dt.ql (l:List Dt)(d:Dt):Dt.tP (l++[d])=Dt.ins (Dt.tP l) d:=by simp [Dt.tP,List.foldl_append]
theorem Dt.ry (l:List Dt):Dt.tP l=Dt.set l:=by
 refine Dt.vI ?_ (Dt.uN l) fun d=> ?_
 ·induction l using ez with
  | nil=>exact List.Pairwise.nil
  | snoc l d ih=>rw [Dt.ql];exact Dt.A7 ih d
 ·rw [Dt.mem_set]
  induction l using ez with
  | nil=>simp [Dt.tP]
  | snoc l x ih=>rw [Dt.ql,Dt.E4,ih];simp
theorem Dt.xw (l:List Dt):(Dt.tP l).length≤l.length:=by
 rw [Dt.ry]
 unfold Dt.set
 rw [(Dt.sorted_perm _).length_eq]
 simp only [MM.keys,List.length_map]
 exact Dd l
theorem Dg (l:List Dt)(hl:l.length<100000000)(hw:∀ x,x∈l→x.wf):Go.Sl.Pure Try.prog ref03_Sort.f [ic l] (ic (Dt.set l)):=by
 refine ref03_Sort.enter (by first | rfl | simp [SV.ok,SV.aI]) (by first | rfl | simp [Hp.ok,Ob.ok,SV.ok,SV.aI,aS.aj]) (by simp) ?_
 dsimp only [ref03_Sort.s,Co.M,Co.G,Co.J,Co.H,Co.N,Co.F,Co.C,Co.Z,Co.B,Co.b8,Co.aA,Co.bz,Co.i6,Co.z8,Co.dm]
 refine SW.seq ?_
 (refine SW.ai [0,2,3,4,8] mixed ?_;(repeat (first | refine RW.ro U (h:= ?_) | refine RW.skip (h:= ?_) | refine RW.op U (h:= ?_) | refine RW.aF U (h:= ?_) | refine RW.ah (h:= ?_) | (refine RW.ax (h:= ?_);(first | refine af.mk U (hc:=pz _ _ (by first | assumption | omega) (by first | assumption | omega) (by first | assumption | omega) _) (h:= ?_)))));refine RW.nil ⟨by kernel_rfl,aa.mk (h:= ?_)⟩)
 refine SW.seq ?_
 (refine SW.ai [0,2,3,4,8] mixed ?_;(repeat (first | refine RW.ro U (h:= ?_) | refine RW.skip (h:= ?_) | refine RW.op U (h:= ?_) | refine RW.aF U (h:= ?_) | refine RW.ah (h:= ?_) | (refine RW.ax (h:= ?_);(first | refine af.mk U (hc:=pz _ _ (by first | assumption | omega) (by first | assumption | omega) (by first | assumption | omega) _) (h:= ?_)))));refine RW.nil ⟨by kernel_rfl,aa.mk (h:= ?_)⟩)
 refine SW.ay 3 rfl ?_
 refine SW.seq (SW.seq ?_)
 (refine SW.ai [0,2,3,4,8] mixed ?_;(repeat (first | refine RW.ro U (h:= ?_) | refine RW.skip (h:= ?_) | refine RW.op U (h:= ?_) | refine RW.aF U (h:= ?_) | refine RW.ah (h:= ?_) | (refine RW.ax (h:= ?_);(first | refine af.mk U (hc:=pz _ _ (by first | assumption | omega) (by first | assumption | omega) (by first | assumption | omega) _) (h:= ?_)))));refine RW.nil ⟨by kernel_rfl,aa.mk (h:= ?_)⟩)
 refine SW.block ?_
 refine SW.c8 (α:={i:Nat // i≤l.length}) (fun i=>⟨[(4,i64 i.1),(0,ic l),(3,ic (Dt.tP (l.take i.1)))],[],0⟩) (fun i=>l.length - i.1) ⟨0,by omega⟩ id (And.intro (show Dt.tP []=[] from rfl) U) (round:= ?_)
 rintro ⟨i,hi⟩
 have hlen:(Dt.tP (l.take i)).length<100000000:=by
  have:=Dt.xw (l.take i)
  have h2:(l.take i).length≤l.length:=by rw [List.length_take];omega
  omega
 have hwi:∀ x,x∈Dt.tP (l.take i)→x.wf:=fun x hx=>by
  rw [Dt.ry,Dt.mem_set] at hx
  exact hw x (List.mem_of_mem_take hx)
 by_cases h:i<l.length
 ·obtain ⟨x,hx⟩:=aL h
  have hwx:x.wf:=hw x (List.mem_of_getElem? hx)
  have h1:decide ((i:Int)<l.length)=true:=by simp;exact h
  have e1:l.take (i+1)=l.take i++[x]:=bQ hx
  (repeat (first | refine SW.seq ?_ | refine SW.block ?_ | (have fx:=(And.intro (h1) (gf hx));refine SW.ai [0,2,3,4,8] mixed ?_;(repeat (first | refine RW.ro fx (h:= ?_) | refine RW.skip (h:= ?_) | refine RW.op fx (h:= ?_) | refine RW.aF fx (h:= ?_) | refine RW.ah (h:= ?_) | (refine RW.ax (h:= ?_);(first | refine af.mk fx (hc:=pz _ _ (by first | assumption | omega) (by first | assumption | omega) (by first | assumption | omega) _) (h:= ?_)))));refine RW.nil ⟨by kernel_rfl,aa.mk (h:= ?_)⟩) | refine SW.skip ?_ | refine SW.exit ?_ | refine SW.ret ?_ | refine SW.au rfl ?_ | refine SW.ak rfl ?_))
  exact ⟨⟨i+1,by omega⟩,id,by simp;omega,bg.mk (And.intro e1 (And.intro (Dt.ql (l.take i) x) U))⟩
 ·have h1:decide ((i:Int)<l.length)=false:=by simp;omega
  have h2:i=l.length:=by omega
  subst h2
  simp only [List.take_length,Dt.ry]
  (repeat (first | refine SW.seq ?_ | refine SW.block ?_ | (refine SW.ai [0,2,3,4,8] mixed ?_;(repeat (first | refine RW.ro (h1) (h:= ?_) | refine RW.skip (h:= ?_) | refine RW.op (h1) (h:= ?_) | refine RW.aF (h1) (h:= ?_) | refine RW.ah (h:= ?_) | (refine RW.ax (h:= ?_);(first | refine af.mk (h1) (hc:=pz _ _ (by first | assumption | omega) (by first | assumption | omega) (by first | assumption | omega) _) (h:= ?_)))));refine RW.nil ⟨by kernel_rfl,aa.mk (h:= ?_)⟩) | refine SW.skip ?_ | refine SW.exit ?_ | refine SW.ret ?_ | refine SW.au rfl ?_ | refine SW.ak rfl ?_))
  exact End.mk [] (h4:=⟨rfl,rfl⟩)
end
section
attribute [local irreducible] SW RW bp SC af aa
theorem Dh (l:List Dt)(hl:l.length<100000000)(hw:∀ x,x∈l→x.wf)(k:Nat):bp Try.prog ref03_Sort.f [ic l] [] k 0 (ic (Dt.set l)) []:=(Dg l hl hw).sc rfl k
end
end Go.Proofs.Ytefjaphfnkbbkaa
