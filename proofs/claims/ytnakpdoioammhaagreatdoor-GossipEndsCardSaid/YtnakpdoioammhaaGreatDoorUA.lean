/-
 The kit's sort, at rows of operations (printed by lay.py).
-/
import Derived.Test.YtnakpdoioammhaaGreatDoorChecked
import Derived.Shelf.SlSortCmp.NoneTotal
import Derived.Test.YtnakpdoioammhaaGreatDoorUV
import Derived.Test.YtnakpdoioammhaaGreatDoorUK
import Derived.Test.YtnakpdoioammhaaGreatDoorU9
import Derived.Test.YtnakpdoioammhaaGreatDoorUL
import Derived.Test.YtnakpdoioammhaaGreatDoorUM
set_option linter.unusedVariables false
namespace Go.Proofs.YtnakpdoioammhaaGreatDoor
open Go.Proofs Go.Shelf
def q9:Go.Shelf.Ren:=⟨fun | 6=>59 | 15=>69 | 14=>77 | 28=>89 | 29=>90 | 20=>95 | 21=>96 | 22=>97 | 23=>98 | 24=>99 | 25=>100 | 26=>101 | 27=>102 | 46=>110 | 47=>105 | 48=>106 | 49=>111 | 50=>112 | 57=>114 | n=>n,fun | 22=>22 | 24=>51 | 25=>92 | 3=>3 | 39=>119 | 0=>0 | 53=>32 | 55=>48 | 4=>4 | 46=>133 | 45=>132 | 50=>86 | 5=>5 | 9=>9 | 66=>149 | 70=>153 | 76=>158 | 77=>159 | n=>n,fun | n=>n⟩
theorem FG:Go.Proofs.SlLaysF0.n6 Tryz.prog q9 where
 mixed:=by kernel_rfl
 f6:=⟨ "slices.SortFunc[[]tranter/api.Op,tranter/api.Op]",by decide,Tryz.func59.trans (congrArg some (by kernel_rfl))⟩
 f14:=⟨ "slices.pdqsortCmpFunc[tranter/api.Op]",by decide,Tryz.func77.trans (congrArg some (by kernel_rfl))⟩
 f15:= Tryz.func69.trans (congrArg some (by kernel_rfl))
 f20:=⟨ "slices.insertionSortCmpFunc[tranter/api.Op]",by decide,Tryz.func95.trans (congrArg some (by kernel_rfl))⟩
 f21:=⟨ "slices.heapSortCmpFunc[tranter/api.Op]",by decide,Tryz.func96.trans (congrArg some (by kernel_rfl))⟩
 f22:=⟨ "slices.breakPatternsCmpFunc[tranter/api.Op]",by decide,Tryz.func97.trans (congrArg some (by kernel_rfl))⟩
 f23:=⟨ "slices.choosePivotCmpFunc[tranter/api.Op]",by decide,Tryz.func98.trans (congrArg some (by kernel_rfl))⟩
 f24:=⟨ "slices.reverseRangeCmpFunc[tranter/api.Op]",by decide,Tryz.func99.trans (congrArg some (by kernel_rfl))⟩
 f25:=⟨ "slices.partialInsertionSortCmpFunc[tranter/api.Op]",by decide,Tryz.func100.trans (congrArg some (by kernel_rfl))⟩
 f26:=⟨ "slices.partitionEqualCmpFunc[tranter/api.Op]",by decide,Tryz.func101.trans (congrArg some (by kernel_rfl))⟩
 f27:=⟨ "slices.partitionCmpFunc[tranter/api.Op]",by decide,Tryz.func102.trans (congrArg some (by kernel_rfl))⟩
 f28:= Tryz.func89.trans (congrArg some (by kernel_rfl))
 f29:= Tryz.func90.trans (congrArg some (by kernel_rfl))
 f46:=⟨ "slices.siftDownCmpFunc[tranter/api.Op]",by decide,Tryz.func110.trans (congrArg some (by kernel_rfl))⟩
 f47:= Tryz.func105.trans (congrArg some (by kernel_rfl))
 f48:= Tryz.func106.trans (congrArg some (by kernel_rfl))
 f49:=⟨ "slices.medianAdjacentCmpFunc[tranter/api.Op]",by decide,Tryz.func111.trans (congrArg some (by kernel_rfl))⟩
 f50:=⟨ "slices.medianCmpFunc[tranter/api.Op]",by decide,Tryz.func112.trans (congrArg some (by kernel_rfl))⟩
 f57:=⟨ "slices.order2CmpFunc[tranter/api.Op]",by decide,Tryz.func114.trans (congrArg some (by kernel_rfl))⟩
 t0:= Tryz.underlying0
 a0:= Tryz.isAgg0
 z0:= Tryz.sizeOf0
 v0:= Tryz.zeroValue0
 t3:= Tryz.underlying3
 a3:= Tryz.isAgg3
 z3:= Tryz.sizeOf3
 v3:= Tryz.zeroValue3
 t4:= Tryz.underlying4
 a4:= Tryz.isAgg4
 z4:= Tryz.sizeOf4
 v4:= Tryz.zeroValue4
 t5:= Tryz.underlying5
 a5:= Tryz.isAgg5
 z5:= Tryz.sizeOf5
 v5:= Tryz.zeroValue5
 t9:= Tryz.underlying9
 a9:= Tryz.isAgg9
 z9:= Tryz.sizeOf9
 v9:= Tryz.zeroValue9
 t22:= Tryz.underlying22
 a22:= Tryz.isAgg22
 z22:= Tryz.sizeOf22
 v22:= Tryz.zeroValue22
 t25:= Tryz.underlying92
 a25:= Tryz.isAgg92
 z25:= Tryz.sizeOf92
 v25:= Tryz.zeroValue92
 t39:= Tryz.underlying119
 a39:= Tryz.isAgg119
 z39:= Tryz.sizeOf119
 v39:= Tryz.zeroValue119
 t45:= Tryz.underlying132
 a45:= Tryz.isAgg132
 z45:= Tryz.sizeOf132
 v45:= Tryz.zeroValue132
 t46:= Tryz.underlying133
 a46:= Tryz.isAgg133
 z46:= Tryz.sizeOf133
 v46:= Tryz.zeroValue133
 t50:= Tryz.underlying86
 a50:= Tryz.isAgg86
 z50:= Tryz.sizeOf86
 v50:= Tryz.zeroValue86
 t53:= Tryz.underlying32
 a53:= Tryz.isAgg32
 z53:= Tryz.sizeOf32
 v53:= Tryz.zeroValue32
 t55:= Tryz.underlying48
 a55:= Tryz.isAgg48
 z55:= Tryz.sizeOf48
 v55:= Tryz.zeroValue48
 t66:= Tryz.underlying149
 a66:= Tryz.isAgg149
 z66:= Tryz.sizeOf149
 v66:= Tryz.zeroValue149
 t70:= Tryz.underlying153
 a70:= Tryz.isAgg153
 z70:= Tryz.sizeOf153
 v70:= Tryz.zeroValue153
 t76:= Tryz.underlying158
 a76:= Tryz.isAgg158
 z76:= Tryz.sizeOf158
 v76:= Tryz.zeroValue158
 t77:= Tryz.underlying159
 a77:= Tryz.isAgg159
 z77:= Tryz.sizeOf159
 v77:= Tryz.zeroValue159
end Go.Proofs.YtnakpdoioammhaaGreatDoor
set_option linter.unusedSectionVars false
set_option linter.unusedSimpArgs false
namespace Go.Proofs.YtnakpdoioammhaaGreatDoor
open Go.Sl Go.Proofs
section
attribute [local irreducible] SW RW bB SC ai aa
theorem Dr (n:Int):Go.Sl.Pure Tryz.prog cmp_isNaN_uint8.f [.d (.int .u8 n)] (bl false):=by
 refine cmp_isNaN_uint8.enter (by first | rfl | simp [SV.ok,SV.aF]) (by first | rfl | simp [Hp.ok,Ob.ok,SV.ok,SV.aF,ag.an]) (by simp) ?_
 dsimp only [cmp_isNaN_uint8.s,Co.M,Co.G,Co.J,Co.H,Co.N,Co.F,Co.C,Co.Z,Co.B,Co.b8,Co.aJ,Co.b_,Co.i6,Co.z8,Co.cn]
 have e1:(n != n)=false:=bne_self_eq_false n
 (repeat (first | refine SW.seq ?_ | refine SW.block ?_ | (refine SW.au [0,2] mixed ?_;(repeat (first | refine RW.ro (e1) (h:= ?_) | refine RW.skip (h:= ?_) | refine RW.op (e1) (h:= ?_) | refine RW.aL (e1) (h:= ?_) | refine RW.aj (h:= ?_)));refine RW.nil ⟨by kernel_rfl,aa.mk (h:= ?_)⟩) | refine SW.skip ?_ | refine SW.exit ?_ | refine SW.ret ?_ | refine SW.aC rfl ?_ | refine SW.ay rfl ?_))
 exact End.mk [] (h4:=⟨rfl,rfl⟩)
theorem iC (n:Int)(k:Nat):bB Tryz.prog cmp_isNaN_uint8.f [.d (.int .u8 n)] [] k 0 (.d (.bool false)) []:=(Dr n).sc rfl k
theorem A8 (n:Int):Go.Sl.Pure Tryz.prog cmp_isNaN_uint32.f [.d (.int .u32 n)] (bl false):=by
 refine cmp_isNaN_uint32.enter (by first | rfl | simp [SV.ok,SV.aF]) (by first | rfl | simp [Hp.ok,Ob.ok,SV.ok,SV.aF,ag.an]) (by simp) ?_
 dsimp only [cmp_isNaN_uint32.s,Co.M,Co.G,Co.J,Co.H,Co.N,Co.F,Co.C,Co.Z,Co.B,Co.b8,Co.aJ,Co.b_,Co.i6,Co.z8,Co.cn]
 have e1:(n != n)=false:=bne_self_eq_false n
 (repeat (first | refine SW.seq ?_ | refine SW.block ?_ | (refine SW.au [0,2] mixed ?_;(repeat (first | refine RW.ro (e1) (h:= ?_) | refine RW.skip (h:= ?_) | refine RW.op (e1) (h:= ?_) | refine RW.aL (e1) (h:= ?_) | refine RW.aj (h:= ?_)));refine RW.nil ⟨by kernel_rfl,aa.mk (h:= ?_)⟩) | refine SW.skip ?_ | refine SW.exit ?_ | refine SW.ret ?_ | refine SW.aC rfl ?_ | refine SW.ay rfl ?_))
 exact End.mk [] (h4:=⟨rfl,rfl⟩)
theorem gx (n:Int)(k:Nat):bB Tryz.prog cmp_isNaN_uint32.f [.d (.int .u32 n)] [] k 0 (.d (.bool false)) []:=(A8 n).sc rfl k
theorem A9 (n:Int):Go.Sl.Pure Tryz.prog cmp_isNaN_uint64.f [.d (.int .u64 n)] (bl false):=by
 refine cmp_isNaN_uint64.enter (by first | rfl | simp [SV.ok,SV.aF]) (by first | rfl | simp [Hp.ok,Ob.ok,SV.ok,SV.aF,ag.an]) (by simp) ?_
 dsimp only [cmp_isNaN_uint64.s,Co.M,Co.G,Co.J,Co.H,Co.N,Co.F,Co.C,Co.Z,Co.B,Co.b8,Co.aJ,Co.b_,Co.i6,Co.z8,Co.cn]
 have e1:(n != n)=false:=bne_self_eq_false n
 (repeat (first | refine SW.seq ?_ | refine SW.block ?_ | (refine SW.au [0,2] mixed ?_;(repeat (first | refine RW.ro (e1) (h:= ?_) | refine RW.skip (h:= ?_) | refine RW.op (e1) (h:= ?_) | refine RW.aL (e1) (h:= ?_) | refine RW.aj (h:= ?_)));refine RW.nil ⟨by kernel_rfl,aa.mk (h:= ?_)⟩) | refine SW.skip ?_ | refine SW.exit ?_ | refine SW.ret ?_ | refine SW.aC rfl ?_ | refine SW.ay rfl ?_))
 exact End.mk [] (h4:=⟨rfl,rfl⟩)
theorem gy (n:Int)(k:Nat):bB Tryz.prog cmp_isNaN_uint64.f [.d (.int .u64 n)] [] k 0 (.d (.bool false)) []:=(A9 n).sc rfl k
def gD (a b:Int):Int:=if a<b then -1 else if a>b then 1 else 0
theorem Ds (a b:Int):Go.Sl.Pure Tryz.prog cmp_Compare_uint8.f [.d (.int .u8 a),.d (.int .u8 b)] (i64 (gD a b)):=by
 refine cmp_Compare_uint8.enter (by first | rfl | simp [SV.ok,SV.aF]) (by first | rfl | simp [Hp.ok,Ob.ok,SV.ok,SV.aF,ag.an]) (by simp) ?_
 dsimp only [cmp_Compare_uint8.s,Co.M,Co.G,Co.J,Co.H,Co.N,Co.F,Co.C,Co.Z,Co.B,Co.b8,Co.aJ,Co.b_,Co.i6,Co.z8,Co.cn]
 rcases Int.lt_trichotomy a b with h | h | h
 ·have e1:decide (a<b)=true:=by simp [h]
  have e2:gD a b= -1:=by simp [gD,h]
  (repeat (first | refine SW.seq ?_ | refine SW.block ?_ | (refine SW.au [0,1,4,5,6,11,12,13,16,19] mixed ?_;(repeat (first | refine RW.ro (e1) (h:= ?_) | refine RW.skip (h:= ?_) | refine RW.op (e1) (h:= ?_) | refine RW.aL (e1) (h:= ?_) | refine RW.aj (h:= ?_) | (refine RW.aG (h:= ?_);(first | refine ai.mk (e1) (hc:=iC _ _) (h:= ?_) | refine ai.mk (e1) (hc:=gx _ _) (h:= ?_) | refine ai.mk (e1) (hc:=gy _ _) (h:= ?_)))));refine RW.nil ⟨by kernel_rfl,aa.mk (h:= ?_)⟩) | refine SW.skip ?_ | refine SW.exit ?_ | refine SW.ret ?_ | refine SW.aC rfl ?_ | refine SW.ay rfl ?_))
  exact End.mk [] (h4:=⟨by rw [e2];rfl,rfl⟩)
 ·have e1:decide (a<b)=false:=by simp [h]
  have e3:decide (a>b)=false:=by simp [h]
  have e2:gD a b=0:=by simp [gD,h]
  (repeat (first | refine SW.seq ?_ | refine SW.block ?_ | (refine SW.au [0,1,4,5,6,11,12,13,16,19] mixed ?_;(repeat (first | refine RW.ro (And.intro (e1) (e3)) (h:= ?_) | refine RW.skip (h:= ?_) | refine RW.op (And.intro (e1) (e3)) (h:= ?_) | refine RW.aL (And.intro (e1) (e3)) (h:= ?_) | refine RW.aj (h:= ?_) | (refine RW.aG (h:= ?_);(first | refine ai.mk (And.intro (e1) (e3)) (hc:=iC _ _) (h:= ?_) | refine ai.mk (And.intro (e1) (e3)) (hc:=gx _ _) (h:= ?_) | refine ai.mk (And.intro (e1) (e3)) (hc:=gy _ _) (h:= ?_)))));refine RW.nil ⟨by kernel_rfl,aa.mk (h:= ?_)⟩) | refine SW.skip ?_ | refine SW.exit ?_ | refine SW.ret ?_ | refine SW.aC rfl ?_ | refine SW.ay rfl ?_))
  exact End.mk [] (h4:=⟨by rw [e2];rfl,rfl⟩)
 ·have e1:decide (a<b)=false:=by simp;omega
  have e3:decide (a>b)=true:=by simp [h]
  have e2:gD a b=1:=by unfold gD;rw [if_neg (by omega),if_pos h]
  (repeat (first | refine SW.seq ?_ | refine SW.block ?_ | (refine SW.au [0,1,4,5,6,11,12,13,16,19] mixed ?_;(repeat (first | refine RW.ro (And.intro (e1) (e3)) (h:= ?_) | refine RW.skip (h:= ?_) | refine RW.op (And.intro (e1) (e3)) (h:= ?_) | refine RW.aL (And.intro (e1) (e3)) (h:= ?_) | refine RW.aj (h:= ?_) | (refine RW.aG (h:= ?_);(first | refine ai.mk (And.intro (e1) (e3)) (hc:=iC _ _) (h:= ?_) | refine ai.mk (And.intro (e1) (e3)) (hc:=gx _ _) (h:= ?_) | refine ai.mk (And.intro (e1) (e3)) (hc:=gy _ _) (h:= ?_)))));refine RW.nil ⟨by kernel_rfl,aa.mk (h:= ?_)⟩) | refine SW.skip ?_ | refine SW.exit ?_ | refine SW.ret ?_ | refine SW.aC rfl ?_ | refine SW.ay rfl ?_))
  exact End.mk [] (h4:=⟨by rw [e2];rfl,rfl⟩)
theorem A_ (a b:Int):Go.Sl.Pure Tryz.prog cmp_Compare_uint32.f [.d (.int .u32 a),.d (.int .u32 b)] (i64 (gD a b)):=by
 refine cmp_Compare_uint32.enter (by first | rfl | simp [SV.ok,SV.aF]) (by first | rfl | simp [Hp.ok,Ob.ok,SV.ok,SV.aF,ag.an]) (by simp) ?_
 dsimp only [cmp_Compare_uint32.s,Co.M,Co.G,Co.J,Co.H,Co.N,Co.F,Co.C,Co.Z,Co.B,Co.b8,Co.aJ,Co.b_,Co.i6,Co.z8,Co.cn]
 rcases Int.lt_trichotomy a b with h | h | h
 ·have e1:decide (a<b)=true:=by simp [h]
  have e2:gD a b= -1:=by simp [gD,h]
  (repeat (first | refine SW.seq ?_ | refine SW.block ?_ | (refine SW.au [0,1,4,5,6,11,12,13,16,19] mixed ?_;(repeat (first | refine RW.ro (e1) (h:= ?_) | refine RW.skip (h:= ?_) | refine RW.op (e1) (h:= ?_) | refine RW.aL (e1) (h:= ?_) | refine RW.aj (h:= ?_) | (refine RW.aG (h:= ?_);(first | refine ai.mk (e1) (hc:=iC _ _) (h:= ?_) | refine ai.mk (e1) (hc:=gx _ _) (h:= ?_) | refine ai.mk (e1) (hc:=gy _ _) (h:= ?_)))));refine RW.nil ⟨by kernel_rfl,aa.mk (h:= ?_)⟩) | refine SW.skip ?_ | refine SW.exit ?_ | refine SW.ret ?_ | refine SW.aC rfl ?_ | refine SW.ay rfl ?_))
  exact End.mk [] (h4:=⟨by rw [e2];rfl,rfl⟩)
 ·have e1:decide (a<b)=false:=by simp [h]
  have e3:decide (a>b)=false:=by simp [h]
  have e2:gD a b=0:=by simp [gD,h]
  (repeat (first | refine SW.seq ?_ | refine SW.block ?_ | (refine SW.au [0,1,4,5,6,11,12,13,16,19] mixed ?_;(repeat (first | refine RW.ro (And.intro (e1) (e3)) (h:= ?_) | refine RW.skip (h:= ?_) | refine RW.op (And.intro (e1) (e3)) (h:= ?_) | refine RW.aL (And.intro (e1) (e3)) (h:= ?_) | refine RW.aj (h:= ?_) | (refine RW.aG (h:= ?_);(first | refine ai.mk (And.intro (e1) (e3)) (hc:=iC _ _) (h:= ?_) | refine ai.mk (And.intro (e1) (e3)) (hc:=gx _ _) (h:= ?_) | refine ai.mk (And.intro (e1) (e3)) (hc:=gy _ _) (h:= ?_)))));refine RW.nil ⟨by kernel_rfl,aa.mk (h:= ?_)⟩) | refine SW.skip ?_ | refine SW.exit ?_ | refine SW.ret ?_ | refine SW.aC rfl ?_ | refine SW.ay rfl ?_))
  exact End.mk [] (h4:=⟨by rw [e2];rfl,rfl⟩)
 ·have e1:decide (a<b)=false:=by simp;omega
  have e3:decide (a>b)=true:=by simp [h]
  have e2:gD a b=1:=by unfold gD;rw [if_neg (by omega),if_pos h]
  (repeat (first | refine SW.seq ?_ | refine SW.block ?_ | (refine SW.au [0,1,4,5,6,11,12,13,16,19] mixed ?_;(repeat (first | refine RW.ro (And.intro (e1) (e3)) (h:= ?_) | refine RW.skip (h:= ?_) | refine RW.op (And.intro (e1) (e3)) (h:= ?_) | refine RW.aL (And.intro (e1) (e3)) (h:= ?_) | refine RW.aj (h:= ?_) | (refine RW.aG (h:= ?_);(first | refine ai.mk (And.intro (e1) (e3)) (hc:=iC _ _) (h:= ?_) | refine ai.mk (And.intro (e1) (e3)) (hc:=gx _ _) (h:= ?_) | refine ai.mk (And.intro (e1) (e3)) (hc:=gy _ _) (h:= ?_)))));refine RW.nil ⟨by kernel_rfl,aa.mk (h:= ?_)⟩) | refine SW.skip ?_ | refine SW.exit ?_ | refine SW.ret ?_ | refine SW.aC rfl ?_ | refine SW.ay rfl ?_))
  exact End.mk [] (h4:=⟨by rw [e2];rfl,rfl⟩)
theorem Ba (a b:Int):Go.Sl.Pure Tryz.prog cmp_Compare_uint64.f [.d (.int .u64 a),.d (.int .u64 b)] (i64 (gD a b)):=by
 refine cmp_Compare_uint64.enter (by first | rfl | simp [SV.ok,SV.aF]) (by first | rfl | simp [Hp.ok,Ob.ok,SV.ok,SV.aF,ag.an]) (by simp) ?_
 dsimp only [cmp_Compare_uint64.s,Co.M,Co.G,Co.J,Co.H,Co.N,Co.F,Co.C,Co.Z,Co.B,Co.b8,Co.aJ,Co.b_,Co.i6,Co.z8,Co.cn]
 rcases Int.lt_trichotomy a b with h | h | h
 ·have e1:decide (a<b)=true:=by simp [h]
  have e2:gD a b= -1:=by simp [gD,h]
  (repeat (first | refine SW.seq ?_ | refine SW.block ?_ | (refine SW.au [0,1,4,5,6,11,12,13,16,19] mixed ?_;(repeat (first | refine RW.ro (e1) (h:= ?_) | refine RW.skip (h:= ?_) | refine RW.op (e1) (h:= ?_) | refine RW.aL (e1) (h:= ?_) | refine RW.aj (h:= ?_) | (refine RW.aG (h:= ?_);(first | refine ai.mk (e1) (hc:=iC _ _) (h:= ?_) | refine ai.mk (e1) (hc:=gx _ _) (h:= ?_) | refine ai.mk (e1) (hc:=gy _ _) (h:= ?_)))));refine RW.nil ⟨by kernel_rfl,aa.mk (h:= ?_)⟩) | refine SW.skip ?_ | refine SW.exit ?_ | refine SW.ret ?_ | refine SW.aC rfl ?_ | refine SW.ay rfl ?_))
  exact End.mk [] (h4:=⟨by rw [e2];rfl,rfl⟩)
 ·have e1:decide (a<b)=false:=by simp [h]
  have e3:decide (a>b)=false:=by simp [h]
  have e2:gD a b=0:=by simp [gD,h]
  (repeat (first | refine SW.seq ?_ | refine SW.block ?_ | (refine SW.au [0,1,4,5,6,11,12,13,16,19] mixed ?_;(repeat (first | refine RW.ro (And.intro (e1) (e3)) (h:= ?_) | refine RW.skip (h:= ?_) | refine RW.op (And.intro (e1) (e3)) (h:= ?_) | refine RW.aL (And.intro (e1) (e3)) (h:= ?_) | refine RW.aj (h:= ?_) | (refine RW.aG (h:= ?_);(first | refine ai.mk (And.intro (e1) (e3)) (hc:=iC _ _) (h:= ?_) | refine ai.mk (And.intro (e1) (e3)) (hc:=gx _ _) (h:= ?_) | refine ai.mk (And.intro (e1) (e3)) (hc:=gy _ _) (h:= ?_)))));refine RW.nil ⟨by kernel_rfl,aa.mk (h:= ?_)⟩) | refine SW.skip ?_ | refine SW.exit ?_ | refine SW.ret ?_ | refine SW.aC rfl ?_ | refine SW.ay rfl ?_))
  exact End.mk [] (h4:=⟨by rw [e2];rfl,rfl⟩)
 ·have e1:decide (a<b)=false:=by simp;omega
  have e3:decide (a>b)=true:=by simp [h]
  have e2:gD a b=1:=by unfold gD;rw [if_neg (by omega),if_pos h]
  (repeat (first | refine SW.seq ?_ | refine SW.block ?_ | (refine SW.au [0,1,4,5,6,11,12,13,16,19] mixed ?_;(repeat (first | refine RW.ro (And.intro (e1) (e3)) (h:= ?_) | refine RW.skip (h:= ?_) | refine RW.op (And.intro (e1) (e3)) (h:= ?_) | refine RW.aL (And.intro (e1) (e3)) (h:= ?_) | refine RW.aj (h:= ?_) | (refine RW.aG (h:= ?_);(first | refine ai.mk (And.intro (e1) (e3)) (hc:=iC _ _) (h:= ?_) | refine ai.mk (And.intro (e1) (e3)) (hc:=gx _ _) (h:= ?_) | refine ai.mk (And.intro (e1) (e3)) (hc:=gy _ _) (h:= ?_)))));refine RW.nil ⟨by kernel_rfl,aa.mk (h:= ?_)⟩) | refine SW.skip ?_ | refine SW.exit ?_ | refine SW.ret ?_ | refine SW.aC rfl ?_ | refine SW.ay rfl ?_))
  exact End.mk [] (h4:=⟨by rw [e2];rfl,rfl⟩)
theorem Du (a b:Int)(k:Nat):bB Tryz.prog cmp_Compare_uint8.f [.d (.int .u8 a),.d (.int .u8 b)] [] k 0 (.d (.int .i64 (gD a b))) []:=(Ds a b).sc rfl k
theorem Bb (a b:Int)(k:Nat):bB Tryz.prog cmp_Compare_uint32.f [.d (.int .u32 a),.d (.int .u32 b)] [] k 0 (.d (.int .i64 (gD a b))) []:=(A_ a b).sc rfl k
theorem Bc (a b:Int)(k:Nat):bB Tryz.prog cmp_Compare_uint64.f [.d (.int .u64 a),.d (.int .u64 b)] [] k 0 (.d (.int .i64 (gD a b))) []:=(Ba a b).sc rfl k
def ET (a b c:Int):Int:=if a=0 then (if b=0 then c else b) else a
theorem FH (a b c:Int):Go.Sl.Pure Tryz.prog cmp_Or_int.f [.d (.sl 3 [.int .i64 a,.int .i64 b,.int .i64 c])] (i64 (ET a b c)):=by
 refine cmp_Or_int.enter (by first | rfl | simp [SV.ok,SV.aF]) (by first | rfl | simp [Hp.ok,Ob.ok,SV.ok,SV.aF,ag.an]) (by simp) ?_
 dsimp only [cmp_Or_int.s,Co.M,Co.G,Co.J,Co.H,Co.N,Co.F,Co.C,Co.Z,Co.B,Co.b8,Co.aJ,Co.b_,Co.i6,Co.z8,Co.cn]
 (repeat (first | refine SW.seq ?_ | refine SW.block ?_ | (refine SW.au [0,2,3,5,6,7,8,9,14] mixed ?_;(repeat (first | refine RW.ro U (h:= ?_) | refine RW.skip (h:= ?_) | refine RW.op U (h:= ?_) | refine RW.aL U (h:= ?_) | refine RW.aj (h:= ?_)));refine RW.nil ⟨by kernel_rfl,aa.mk (h:= ?_)⟩) | refine SW.skip ?_ | refine SW.exit ?_ | refine SW.ret ?_ | refine SW.aC rfl ?_ | refine SW.ay rfl ?_))
 refine SW.fI (α:={i:Nat // i≤3∧(1≤i→a=0)∧(2≤i→b=0)∧(3≤i→c=0)}) (fun i=>⟨[(8,i64 i.1),(6,.d (.sl 3 [.int .i64 a,.int .i64 b,.int .i64 c])),(7,i64 3),(3,i64 0)],[],0⟩) (fun i=>3 - i.1) ⟨0,by omega⟩ id U (round:= ?_)
 rintro ⟨i,hi,ha,hb,hc⟩
 match i,hi,ha,hb,hc with
 | 0,_,_,_,_=>
  rcases h1:(a != 0) with _ | _
  ·(repeat (first | refine SW.seq ?_ | refine SW.block ?_ | (refine SW.au [0,2,3,5,6,7,8,9,14] mixed ?_;(repeat (first | refine RW.ro (h1) (h:= ?_) | refine RW.skip (h:= ?_) | refine RW.op (h1) (h:= ?_) | refine RW.aL (h1) (h:= ?_) | refine RW.aj (h:= ?_)));refine RW.nil ⟨by kernel_rfl,aa.mk (h:= ?_)⟩) | refine SW.skip ?_ | refine SW.exit ?_ | refine SW.ret ?_ | refine SW.aC rfl ?_ | refine SW.ay rfl ?_))
   exact Next.mk ⟨1,by omega,fun _=>by simpa using h1,by omega⟩ id U
  ·(repeat (first | refine SW.seq ?_ | refine SW.block ?_ | (refine SW.au [0,2,3,5,6,7,8,9,14] mixed ?_;(repeat (first | refine RW.ro (h1) (h:= ?_) | refine RW.skip (h:= ?_) | refine RW.op (h1) (h:= ?_) | refine RW.aL (h1) (h:= ?_) | refine RW.aj (h:= ?_)));refine RW.nil ⟨by kernel_rfl,aa.mk (h:= ?_)⟩) | refine SW.skip ?_ | refine SW.exit ?_ | refine SW.ret ?_ | refine SW.aC rfl ?_ | refine SW.ay rfl ?_))
   exact End.mk [] (h4:=⟨by simp at h1;unfold ET;rw [if_neg h1];rfl,rfl⟩)
 | 1,_,ha,_,_=>
  rcases h1:(b != 0) with _ | _
  ·(repeat (first | refine SW.seq ?_ | refine SW.block ?_ | (refine SW.au [0,2,3,5,6,7,8,9,14] mixed ?_;(repeat (first | refine RW.ro (h1) (h:= ?_) | refine RW.skip (h:= ?_) | refine RW.op (h1) (h:= ?_) | refine RW.aL (h1) (h:= ?_) | refine RW.aj (h:= ?_)));refine RW.nil ⟨by kernel_rfl,aa.mk (h:= ?_)⟩) | refine SW.skip ?_ | refine SW.exit ?_ | refine SW.ret ?_ | refine SW.aC rfl ?_ | refine SW.ay rfl ?_))
   exact Next.mk ⟨2,by omega,fun _=>ha (by omega),fun _=>by simpa using h1,by omega⟩ id U
  ·(repeat (first | refine SW.seq ?_ | refine SW.block ?_ | (refine SW.au [0,2,3,5,6,7,8,9,14] mixed ?_;(repeat (first | refine RW.ro (h1) (h:= ?_) | refine RW.skip (h:= ?_) | refine RW.op (h1) (h:= ?_) | refine RW.aL (h1) (h:= ?_) | refine RW.aj (h:= ?_)));refine RW.nil ⟨by kernel_rfl,aa.mk (h:= ?_)⟩) | refine SW.skip ?_ | refine SW.exit ?_ | refine SW.ret ?_ | refine SW.aC rfl ?_ | refine SW.ay rfl ?_))
   exact End.mk [] (h4:=⟨by simp at h1;unfold ET;rw [if_pos (ha (by omega)),if_neg h1];rfl,rfl⟩)
 | 2,_,ha,hb,_=>
  rcases h1:(c != 0) with _ | _
  ·(repeat (first | refine SW.seq ?_ | refine SW.block ?_ | (refine SW.au [0,2,3,5,6,7,8,9,14] mixed ?_;(repeat (first | refine RW.ro (h1) (h:= ?_) | refine RW.skip (h:= ?_) | refine RW.op (h1) (h:= ?_) | refine RW.aL (h1) (h:= ?_) | refine RW.aj (h:= ?_)));refine RW.nil ⟨by kernel_rfl,aa.mk (h:= ?_)⟩) | refine SW.skip ?_ | refine SW.exit ?_ | refine SW.ret ?_ | refine SW.aC rfl ?_ | refine SW.ay rfl ?_))
   exact Next.mk ⟨3,by omega,fun _=>ha (by omega),fun _=>hb (by omega),fun _=>by simpa using h1⟩ id U
  ·(repeat (first | refine SW.seq ?_ | refine SW.block ?_ | (refine SW.au [0,2,3,5,6,7,8,9,14] mixed ?_;(repeat (first | refine RW.ro (h1) (h:= ?_) | refine RW.skip (h:= ?_) | refine RW.op (h1) (h:= ?_) | refine RW.aL (h1) (h:= ?_) | refine RW.aj (h:= ?_)));refine RW.nil ⟨by kernel_rfl,aa.mk (h:= ?_)⟩) | refine SW.skip ?_ | refine SW.exit ?_ | refine SW.ret ?_ | refine SW.aC rfl ?_ | refine SW.ay rfl ?_))
   exact End.mk [] (h4:=⟨by unfold ET;rw [if_pos (ha (by omega)),if_pos (hb (by omega))];rfl,rfl⟩)
 | 3,_,ha,hb,hc=>
  (repeat (first | refine SW.seq ?_ | refine SW.block ?_ | (refine SW.au [0,2,3,5,6,7,8,9,14] mixed ?_;(repeat (first | refine RW.ro U (h:= ?_) | refine RW.skip (h:= ?_) | refine RW.op U (h:= ?_) | refine RW.aL U (h:= ?_) | refine RW.aj (h:= ?_)));refine RW.nil ⟨by kernel_rfl,aa.mk (h:= ?_)⟩) | refine SW.skip ?_ | refine SW.exit ?_ | refine SW.ret ?_ | refine SW.aC rfl ?_ | refine SW.ay rfl ?_))
  exact End.mk [] (h4:=⟨by unfold ET;rw [if_pos (ha (by omega)),if_pos (hb (by omega)),hc (by omega)];rfl,rfl⟩)
theorem FI (a b c:Int)(k:Nat):bB Tryz.prog cmp_Or_int.f [.d (.sl 3 [.int .i64 a,.int .i64 b,.int .i64 c])] [] k 0 (.d (.int .i64 (ET a b c))) []:=(FH a b c).sc rfl k
theorem wO:∀ (x y z a b c:SV),bV (bV (bV [x,y,z] 0 [a]) 1 [b]) 2 [c]=[a,b,c]:=fun _ _ _ _ _ _=>rfl
theorem Dv (a b:ah):ET (gD a.time b.time) (gD a.dot.r b.dot.r) (gD a.dot.n b.dot.n)=pI a b:=by
  unfold pI ET gD
  by_cases h1:a.lt b=true
  · rw [if_pos h1]
    rw [ah.lt_iff] at h1
    repeat' split
    all_goals omega
  · by_cases h2:b.lt a=true
    · rw [if_neg h1,if_pos h2]
      rw [ah.lt_iff] at h1 h2
      repeat' split
      all_goals omega
    · rw [if_neg h1,if_neg h2]
      rw [ah.lt_iff] at h1 h2
      repeat' split
      all_goals omega
theorem vk (a b:ah):Go.Sl.Pure Tryz.prog order_Compare.f [.agg a.cells,.agg b.cells] (i64 (pI a b)):=by
 rw [← Dv]
 refine order_Compare.enter (by first | rfl | simp [SV.ok,SV.aF]) (by first | rfl | simp [Hp.ok,Ob.ok,SV.ok,SV.aF,ag.an]) (by simp) ?_
 dsimp only [order_Compare.s,Co.M,Co.G,Co.J,Co.H,Co.N,Co.F,Co.C,Co.Z,Co.B,Co.b8,Co.aJ,Co.b_,Co.i6,Co.z8,Co.cn]
 (repeat (first | refine SW.seq ?_ | refine SW.block ?_ | (refine SW.au [0,1,2,3,4] mixed ?_;(repeat (first | refine RW.ro (wO) (h:= ?_) | refine RW.skip (h:= ?_) | refine RW.op (wO) (h:= ?_) | refine RW.aL (wO) (h:= ?_) | refine RW.aj (h:= ?_) | (refine RW.aG (h:= ?_);(first | refine ai.mk (wO) (hc:=Bc _ _ _) (h:= ?_) | refine ai.mk (wO) (hc:=Du _ _ _) (h:= ?_) | refine ai.mk (wO) (hc:=Bb _ _ _) (h:= ?_) | refine ai.mk (wO) (hc:=FI _ _ _ _) (h:= ?_)))));refine RW.nil ⟨by kernel_rfl,aa.mk (h:= ?_)⟩) | refine SW.skip ?_ | refine SW.exit ?_ | refine SW.ret ?_ | refine SW.aC rfl ?_ | refine SW.ay rfl ?_))
 exact End.mk [] (h4:=⟨rfl,rfl⟩)
theorem lE (a b:ah)(k:Nat):bB Tryz.prog order_Compare.f [.agg a.cells,.agg b.cells] [] k 0 (.d (.int .i64 (pI a b))) []:=(vk a b).sc rfl k
theorem FJ (r n:Int):Go.Sl.Pure Tryz.prog dot_May.f [.agg [.d (.int .u8 r),.d (.int .u32 n)]] (bl (decide (r<8) && decide (n>0))):=by
 refine dot_May.enter (by first | rfl | simp [SV.ok,SV.aF]) (by first | rfl | simp [Hp.ok,Ob.ok,SV.ok,SV.aF,ag.an]) (by simp) ?_
 dsimp only [dot_May.s,Co.M,Co.G,Co.J,Co.H,Co.N,Co.F,Co.C,Co.Z,Co.B,Co.b8,Co.aJ,Co.b_,Co.i6,Co.z8,Co.cn]
 rcases h1:decide (r<8) with _ | _
 ·(repeat (first | refine SW.seq ?_ | refine SW.block ?_ | (refine SW.au [0,1,2] mixed ?_;(repeat (first | refine RW.ro (h1) (h:= ?_) | refine RW.skip (h:= ?_) | refine RW.op (h1) (h:= ?_) | refine RW.aL (h1) (h:= ?_) | refine RW.aj (h:= ?_)));refine RW.nil ⟨by kernel_rfl,aa.mk (h:= ?_)⟩) | refine SW.skip ?_ | refine SW.exit ?_ | refine SW.ret ?_ | refine SW.aC rfl ?_ | refine SW.ay rfl ?_))
  exact End.mk [] (h4:=⟨rfl,rfl⟩)
 ·(repeat (first | refine SW.seq ?_ | refine SW.block ?_ | (refine SW.au [0,1,2] mixed ?_;(repeat (first | refine RW.ro (h1) (h:= ?_) | refine RW.skip (h:= ?_) | refine RW.op (h1) (h:= ?_) | refine RW.aL (h1) (h:= ?_) | refine RW.aj (h:= ?_)));refine RW.nil ⟨by kernel_rfl,aa.mk (h:= ?_)⟩) | refine SW.skip ?_ | refine SW.exit ?_ | refine SW.ret ?_ | refine SW.aC rfl ?_ | refine SW.ay rfl ?_))
  exact End.mk [] (h4:=⟨rfl,rfl⟩)
theorem Bd (d:Dt)(k:Nat):bB Tryz.prog dot_May.f [.agg d.cells] [] k 0 (bl d.may) []:=by
 have:=(FJ d.r d.n).sc rfl k
 have e:d.may=(decide ((d.r:Int)<8) && decide ((d.n:Int)>0)):=by
  unfold Dt.may
  rw [Bool.eq_iff_iff];simp only [Bool.and_eq_true,decide_eq_true_eq];omega
 rw [e];exact this
theorem yU (v:ag)(d:Dt):Go.Sl.Pure Tryz.prog vector_Covers.f [.agg v.cells,.agg d.cells] (bl (v.aV d)):=by
 refine vector_Covers.enter (by first | rfl | simp [SV.ok,SV.aF]) (by first | rfl | simp [Hp.ok,Ob.ok,SV.ok,SV.aF,ag.an]) (by simp) ?_
 dsimp only [vector_Covers.s,Co.M,Co.G,Co.J,Co.H,Co.N,Co.F,Co.C,Co.Z,Co.B,Co.b8,Co.aJ,Co.b_,Co.i6,Co.z8,Co.cn]
 rcases h:d.may with _ | _
 ·(repeat (first | refine SW.seq ?_ | refine SW.block ?_ | (refine SW.au [0,1,2,3,4] mixed ?_;(repeat (first | refine RW.ro (h) (h:= ?_) | refine RW.skip (h:= ?_) | refine RW.op (h) (h:= ?_) | refine RW.aL (h) (h:= ?_) | refine RW.aj (h:= ?_) | (refine RW.aG (h:= ?_);(first | refine ai.mk (h) (hc:=Bd _ _) (h:= ?_)))));refine RW.nil ⟨by kernel_rfl,aa.mk (h:= ?_)⟩) | refine SW.skip ?_ | refine SW.exit ?_ | refine SW.ret ?_ | refine SW.aC rfl ?_ | refine SW.ay rfl ?_))
  have e:v.aV d=false:=by unfold ag.aV;rw [h];rfl
  exact End.mk [] (h4:=⟨by rw [e];rfl,rfl⟩)
 ·have hr:d.r<8:=by
   have:=h
   simp only [Dt.may,Bool.and_eq_true,decide_eq_true_eq] at this
   exact this.1
  have e:v.aV d=decide ((v.get d.r:Int)≥d.n):=by
   unfold ag.aV
   rw [h,Bool.true_and,Bool.eq_iff_iff];simp only [decide_eq_true_eq];omega
  (repeat (first | refine SW.seq ?_ | refine SW.block ?_ | (have fx:=(And.intro (h) (ag.er v hr));refine SW.au [0,1,2,3,4] mixed ?_;(repeat (first | refine RW.ro fx (h:= ?_) | refine RW.skip (h:= ?_) | refine RW.op fx (h:= ?_) | refine RW.aL fx (h:= ?_) | refine RW.aj (h:= ?_) | (refine RW.aG (h:= ?_);(first | refine ai.mk fx (hc:=Bd _ _) (h:= ?_)))));refine RW.nil ⟨by kernel_rfl,aa.mk (h:= ?_)⟩) | refine SW.skip ?_ | refine SW.exit ?_ | refine SW.ret ?_ | refine SW.aC rfl ?_ | refine SW.ay rfl ?_))
  exact End.mk [] (h4:=⟨by rw [e];rfl,rfl⟩)
theorem lZ (v:ag)(d:Dt)(k:Nat):bB Tryz.prog vector_Covers.f [.agg v.cells,.agg d.cells] [] k 0 (bl (v.aV d)) []:=(yU v d).sc rfl k
end
section
attribute [local irreducible] SW RW bB SC ai aa
set_option maxHeartbeats 1000000 in
theorem Be (l:List ah)(hl:l.length<4611686018427387904)(hw:∀ x,x∈l→x.dot.wf):Go.Sl.Pure Tryz.prog order_Known.f [ops l] (.agg (az l).cells):=by
 refine order_Known.enter (by first | rfl | simp [SV.ok,SV.aF]) (by first | rfl | simp [Hp.ok,Ob.ok,SV.ok,SV.aF,ag.an]) (by simp) ?_
 dsimp only [order_Known.s,Co.M,Co.G,Co.J,Co.H,Co.N,Co.F,Co.C,Co.Z,Co.B,Co.b8,Co.aJ,Co.b_,Co.i6,Co.z8,Co.cn]
 (repeat (first | refine SW.seq ?_ | refine SW.block ?_ | (refine SW.au [0,2,3,5,6,7,8,9,16] mixed ?_;(repeat (first | refine RW.ro U (h:= ?_) | refine RW.skip (h:= ?_) | refine RW.op U (h:= ?_) | refine RW.aL U (h:= ?_) | refine RW.aj (h:= ?_)));refine RW.nil ⟨by kernel_rfl,aa.mk (h:= ?_)⟩) | refine SW.skip ?_ | refine SW.exit ?_ | refine SW.ret ?_ | refine SW.aC rfl ?_ | refine SW.ay rfl ?_))
 refine SW.fI (α:={i:Nat // i≤l.length}) (fun i=>⟨[(8,i64 i.1),(6,ops l),(7,i64 l.length),(2,.ptr 0 0),(3,.ptr 1 0)],[(1,.box 34 (az (l.take i.1)).cells),(0,.box 34 ag.zero.cells)],2⟩) (fun i=>l.length - i.1) ⟨0,by omega⟩ id (And.intro (show az []=ag.zero from rfl) U) (round:= ?_)
 rintro ⟨i,hi⟩
 dsimp only
 by_cases h:i<l.length
 ·have h1:decide ((i:Int)<l.length)=true:=by simp only [decide_eq_true_eq];omega
  obtain ⟨x,hx⟩:=bR h
  have hxw:=hw x (List.mem_of_getElem? hx)
  have e2:IntKind.i64.wrap ((i:Int)+1)=((i+1:Nat):Int):=wrap_i64 _ (by omega)
  have e3:IntKind.i64.wrap (x.dot.r:Int)=(x.dot.r:Int):=wrap_i64 _ (by have:=hxw.1;omega)
  have e1:l.take (i+1)=l.take i++[x]:=eR hx
  have hsn:=oZ (l.take i) x
  rw [← e1] at hsn
  unfold dx at hsn
  generalize az (l.take i)=v at hsn ⊢
  by_cases hr:x.dot.r<8
  ·have e4:decide ((x.dot.r:Int)<8)=true:=by simp;omega
   rw [if_pos hr] at hsn
   have e5:(if (x.dot.n:Int)>((v.get x.dot.r:Nat):Int) then (x.dot.n:Int) else ((v.get x.dot.r:Nat):Int))=((max (v.get x.dot.r) x.dot.n:Nat):Int):=by split <;> omega
   have e6:bV v.cells x.dot.r [.d (.int .u32 ((max (v.get x.dot.r) x.dot.n:Nat):Int))]=(v.set x.dot.r (max (v.get x.dot.r) x.dot.n)).cells:=by rw [C'];exact ag.sI v hr _
   (repeat (first | refine SW.seq ?_ | refine SW.block ?_ | (have fx:=(And.intro (h1) (And.intro (eX hx) (And.intro (bQ hx) (And.intro (e2) (And.intro (e3) (And.intro (e4) (And.intro (ag.er v hr) (And.intro (e5) (e6)))))))));refine SW.au [0,2,3,5,6,7,8,9,16] mixed ?_;(repeat (first | refine RW.ro fx (h:= ?_) | refine RW.skip (h:= ?_) | refine RW.op fx (h:= ?_) | refine RW.aL fx (h:= ?_) | refine RW.aj (h:= ?_)));refine RW.nil ⟨by kernel_rfl,aa.mk (h:= ?_)⟩) | refine SW.skip ?_ | refine SW.exit ?_ | refine SW.ret ?_ | refine SW.aC rfl ?_ | refine SW.ay rfl ?_))
   dsimp only
   exact ⟨⟨i+1,by omega⟩,id,by show l.length - (i+1)<_;omega,bk.mk (And.intro hsn U)⟩
  ·have e4:decide ((x.dot.r:Int)<8)=false:=by simp;omega
   rw [if_neg hr] at hsn
   (repeat (first | refine SW.seq ?_ | refine SW.block ?_ | (have fx:=(And.intro (h1) (And.intro (eX hx) (And.intro (bQ hx) (And.intro (e2) (And.intro (e3) (e4))))));refine SW.au [0,2,3,5,6,7,8,9,16] mixed ?_;(repeat (first | refine RW.ro fx (h:= ?_) | refine RW.skip (h:= ?_) | refine RW.op fx (h:= ?_) | refine RW.aL fx (h:= ?_) | refine RW.aj (h:= ?_)));refine RW.nil ⟨by kernel_rfl,aa.mk (h:= ?_)⟩) | refine SW.skip ?_ | refine SW.exit ?_ | refine SW.ret ?_ | refine SW.aC rfl ?_ | refine SW.ay rfl ?_))
   dsimp only
   exact ⟨⟨i+1,by omega⟩,id,by show l.length - (i+1)<_;omega,bk.mk (And.intro hsn U)⟩
 ·have h1:decide ((i:Int)<l.length)=false:=by simp only [decide_eq_false_iff_not];omega
  have h2:i=l.length:=by omega
  subst h2
  rw [List.take_length]
  (repeat (first | refine SW.seq ?_ | refine SW.block ?_ | (refine SW.au [0,2,3,5,6,7,8,9,16] mixed ?_;(repeat (first | refine RW.ro (h1) (h:= ?_) | refine RW.skip (h:= ?_) | refine RW.op (h1) (h:= ?_) | refine RW.aL (h1) (h:= ?_) | refine RW.aj (h:= ?_)));refine RW.nil ⟨by kernel_rfl,aa.mk (h:= ?_)⟩) | refine SW.skip ?_ | refine SW.exit ?_ | refine SW.ret ?_ | refine SW.aC rfl ?_ | refine SW.ay rfl ?_))
  exact End.mk [] (h4:=⟨rfl,rfl⟩)
theorem dG (l:List ah)(hl:l.length<4611686018427387904)(hw:∀ x,x∈l→x.dot.wf)(k:Nat):bB Tryz.prog order_Known.f [ops l] [] k 0 (.agg (az l).cells) []:=(Be l hl hw).sc rfl k
end
end Go.Proofs.YtnakpdoioammhaaGreatDoor
namespace Go.Proofs.YtnakpdoioammhaaGreatDoor
open Go.Sl Go.Proofs Go.RowKit
section
attribute [local irreducible] SW RW bB SC ai aa
theorem Hr {l:List Cm}{i:Nat}{x:Cm}(h:l[i]? =some x):List.take 4 (List.drop (i*4) (List.map SV.d (l.flatMap Cm.ds)))=x.line.cells++x.ij.cells:=by
 rw [← List.map_drop,← List.map_take,jM Cm.ds 4 (fun _=>rfl) l i x h]
 rfl
theorem Bf {l:List Cm}{i:Nat}{x:Cm}(h:l[i]? =some x):(i*4+4≤(List.map SV.d (l.flatMap Cm.ds)).length)=True:=eq_true (by
 have:=dw h
 rw [List.length_map,xK]
 omega)
theorem Dw (x:Cm):eZ [true,true,true,true] (x.line.cells++x.ij.cells) (x.line.cells++x.ij.cells)=some true:=by simp [eZ,yw,Dt.cells]
set_option maxHeartbeats 4000000 in
theorem Bg (o:ah)(hn:o.lines= .aY):Go.Sl.Pure Tryz.prog ref05_Same.f [.agg o.cells,.agg o.cells] (bl true):=by
 refine ref05_Same.enter (by first | rfl | simp [SV.ok,SV.aF]) (by first | rfl | simp [Hp.ok,Ob.ok,SV.ok,SV.aF,ag.an]) (by simp) ?_
 dsimp only [ref05_Same.s,Co.M,Co.G,Co.J,Co.H,Co.N,Co.F,Co.C,Co.Z,Co.B,Co.b8,Co.aJ,Co.b_,Co.i6,Co.z8,Co.cn]
 have b0:((0:Int) != 0)=false:=by decide
 have b1:decide ((0:Int)<0)=false:=by decide
 have d1:∀ d:Dt,decide (d=d)=true:=fun d=>by simp
 have d2:∀ d:ag,decide (d=d)=true:=fun d=>by simp
 have d3:∀ d:Int,(d == d)=true:=fun d=>by simp
 (repeat (first | refine SW.seq ?_ | refine SW.block ?_ | (refine SW.au [0,1,2,3,4,5,12,17,30] mixed ?_;(repeat (first | refine RW.ro (And.intro (hn) (b0)) (h:= ?_) | refine RW.skip (h:= ?_) | refine RW.op (And.intro (hn) (b0)) (h:= ?_) | refine RW.aL (And.intro (hn) (b0)) (h:= ?_) | refine RW.aj (h:= ?_)));refine RW.nil ⟨by kernel_rfl,aa.mk (h:= ?_)⟩) | refine SW.skip ?_ | refine SW.exit ?_ | refine SW.ret ?_ | refine SW.aC rfl ?_ | refine SW.ay rfl ?_))
 refine SW.fI (α:=Unit) (fun i=>⟨[(5,i64 0),(2,.ptr 0 0),(3,.ptr 1 0)],[(1,.box 51 o.cells),(0,.box 51 o.cells)],2⟩) (fun i=>0) () id U (round:= ?_)
 rintro ⟨⟩
 (repeat (first | refine SW.seq ?_ | refine SW.block ?_ | (refine SW.au [0,1,2,3,4,5,12,17,30] mixed ?_;(repeat (first | refine RW.ro (And.intro (hn) (b1)) (h:= ?_) | refine RW.skip (h:= ?_) | refine RW.op (And.intro (hn) (b1)) (h:= ?_) | refine RW.aL (And.intro (hn) (b1)) (h:= ?_) | refine RW.aj (h:= ?_)));refine RW.nil ⟨by kernel_rfl,aa.mk (h:= ?_)⟩) | refine SW.skip ?_ | refine SW.exit ?_ | refine SW.ret ?_ | refine SW.aC rfl ?_ | refine SW.ay rfl ?_))
 (repeat (first | refine SW.seq ?_ | refine SW.block ?_ | (have fx:=(And.intro (d1) (And.intro (d2) (d3)));refine SW.au [0,1,2,3,4,5,12,17,30] mixed ?_;(repeat (first | refine RW.ro fx (h:= ?_) | refine RW.skip (h:= ?_) | refine RW.op fx (h:= ?_) | refine RW.aL fx (h:= ?_) | refine RW.aj (h:= ?_)));refine RW.nil ⟨by kernel_rfl,aa.mk (h:= ?_)⟩) | refine SW.skip ?_ | refine SW.exit ?_ | refine SW.ret ?_ | refine SW.aC rfl ?_ | refine SW.ay rfl ?_))
 exact End.mk [] (h4:=⟨rfl,rfl⟩)
set_option maxHeartbeats 4000000 in
theorem Bh (o:ah)(hl:o.jf):Go.Sl.Pure Tryz.prog ref05_Same.f [.agg o.cells,.agg o.cells] (bl true):=by
 have hn:=hl.eq
 have hlen:=hl.le
 generalize o.cl=cl at hn hlen
 refine ref05_Same.enter (by first | rfl | simp [SV.ok,SV.aF]) (by first | rfl | simp [Hp.ok,Ob.ok,SV.ok,SV.aF,ag.an]) (by simp) ?_
 dsimp only [ref05_Same.s,Co.M,Co.G,Co.J,Co.H,Co.N,Co.F,Co.C,Co.Z,Co.B,Co.b8,Co.aJ,Co.b_,Co.i6,Co.z8,Co.cn]
 have b0:(((cl.length:Nat):Int) != ((cl.length:Nat):Int))=false:=by simp
 have d1:∀ d:Dt,decide (d=d)=true:=fun d=>by simp
 have d2:∀ d:ag,decide (d=d)=true:=fun d=>by simp
 have d3:∀ d:Int,(d == d)=true:=fun d=>by simp
 (repeat (first | refine SW.seq ?_ | refine SW.block ?_ | (refine SW.au [0,1,2,3,4,5,12,17,30] mixed ?_;(repeat (first | refine RW.ro (And.intro (hn) (b0)) (h:= ?_) | refine RW.skip (h:= ?_) | refine RW.op (And.intro (hn) (b0)) (h:= ?_) | refine RW.aL (And.intro (hn) (b0)) (h:= ?_) | refine RW.aj (h:= ?_)));refine RW.nil ⟨by kernel_rfl,aa.mk (h:= ?_)⟩) | refine SW.skip ?_ | refine SW.exit ?_ | refine SW.ret ?_ | refine SW.aC rfl ?_ | refine SW.ay rfl ?_))
 refine SW.fI (α:={i:Nat // i≤cl.length}) (fun i=>⟨[(5,i64 i.1),(2,.ptr 0 0),(3,.ptr 1 0)],[(1,.box 51 o.cells),(0,.box 51 o.cells)],2⟩) (fun i=>cl.length - i.1) ⟨0,by omega⟩ id U (round:= ?_)
 rintro ⟨i,hi⟩
 by_cases h:i<cl.length
 ·have h1:decide ((i:Int)<cl.length)=true:=by simp only [decide_eq_true_eq];omega
  obtain ⟨x,hx⟩:=bR h
  have e2:IntKind.i64.wrap ((i:Int)+1)=((i+1:Nat):Int):=wrap_i64 _ (by omega)
  (repeat (first | refine SW.seq ?_ | refine SW.block ?_ | (have fx:=(And.intro (hn) (And.intro (h1) (And.intro (Hr hx) (And.intro (Bf hx) (And.intro (Dw) (e2))))));refine SW.au [0,1,2,3,4,5,12,17,30] mixed ?_;(repeat (first | refine RW.ro fx (h:= ?_) | refine RW.skip (h:= ?_) | refine RW.op fx (h:= ?_) | refine RW.aL fx (h:= ?_) | refine RW.aj (h:= ?_)));refine RW.nil ⟨by kernel_rfl,aa.mk (h:= ?_)⟩) | refine SW.skip ?_ | refine SW.exit ?_ | refine SW.ret ?_ | refine SW.aC rfl ?_ | refine SW.ay rfl ?_))
  exact Next.mk ⟨i+1,by omega⟩ id U
 ·have h1:decide ((i:Int)<cl.length)=false:=by simp only [decide_eq_false_iff_not];omega
  (repeat (first | refine SW.seq ?_ | refine SW.block ?_ | (refine SW.au [0,1,2,3,4,5,12,17,30] mixed ?_;(repeat (first | refine RW.ro (And.intro (hn) (h1)) (h:= ?_) | refine RW.skip (h:= ?_) | refine RW.op (And.intro (hn) (h1)) (h:= ?_) | refine RW.aL (And.intro (hn) (h1)) (h:= ?_) | refine RW.aj (h:= ?_)));refine RW.nil ⟨by kernel_rfl,aa.mk (h:= ?_)⟩) | refine SW.skip ?_ | refine SW.exit ?_ | refine SW.ret ?_ | refine SW.aC rfl ?_ | refine SW.ay rfl ?_))
  (repeat (first | refine SW.seq ?_ | refine SW.block ?_ | (have fx:=(And.intro (d1) (And.intro (d2) (d3)));refine SW.au [0,1,2,3,4,5,12,17,30] mixed ?_;(repeat (first | refine RW.ro fx (h:= ?_) | refine RW.skip (h:= ?_) | refine RW.op fx (h:= ?_) | refine RW.aL fx (h:= ?_) | refine RW.aj (h:= ?_)));refine RW.nil ⟨by kernel_rfl,aa.mk (h:= ?_)⟩) | refine SW.skip ?_ | refine SW.exit ?_ | refine SW.ret ?_ | refine SW.aC rfl ?_ | refine SW.ay rfl ?_))
  exact End.mk [] (h4:=⟨rfl,rfl⟩)
def Bi (o:ah):Prop:=o.lines= .aY∨o.jf
theorem tW (o:ah)(h:Bi o)(k:Nat):bB Tryz.prog ref05_Same.f [.agg o.cells,.agg o.cells] [] k 0 (bl true) []:=by
 rcases h with h | h
 ·exact (Bg o h).sc rfl k
 ·exact (Bh o h).sc rfl k
theorem wP (l:List ah)(hl:l.length<4611686018427387904)(hw:∀ x,x∈l→Bi x):Go.Sl.Pure Tryz.prog ref05_SameAll.f [ops l,ops l] (bl true):=by
 refine ref05_SameAll.enter (by first | rfl | simp [SV.ok,SV.aF]) (by first | rfl | simp [Hp.ok,Ob.ok,SV.ok,SV.aF,ag.an]) (by simp) ?_
 dsimp only [ref05_SameAll.s,Co.M,Co.G,Co.J,Co.H,Co.N,Co.F,Co.C,Co.Z,Co.B,Co.b8,Co.aJ,Co.b_,Co.i6,Co.z8,Co.cn]
 have b0:(((l.length:Nat):Int) != ((l.length:Nat):Int))=false:=by simp
 (repeat (first | refine SW.seq ?_ | refine SW.block ?_ | (refine SW.au [0,1,4,5,10,14,26] mixed ?_;(repeat (first | refine RW.ro (b0) (h:= ?_) | refine RW.skip (h:= ?_) | refine RW.op (b0) (h:= ?_) | refine RW.aL (b0) (h:= ?_) | refine RW.aj (h:= ?_) | (refine RW.aG (h:= ?_);(first | refine ai.mk (b0) (hc:=tW _ (by assumption) _) (h:= ?_)))));refine RW.nil ⟨by kernel_rfl,aa.mk (h:= ?_)⟩) | refine SW.skip ?_ | refine SW.exit ?_ | refine SW.ret ?_ | refine SW.aC rfl ?_ | refine SW.ay rfl ?_))
 refine SW.fI (α:={i:Nat // i≤l.length}) (fun i=>⟨[(5,i64 i.1),(0,ops l),(1,ops l)],[],0⟩) (fun i=>l.length - i.1) ⟨0,by omega⟩ id U (round:= ?_)
 rintro ⟨i,hi⟩
 by_cases h:i<l.length
 ·have h1:decide ((i:Int)<l.length)=true:=by simp only [decide_eq_true_eq];omega
  obtain ⟨x,hx⟩:=bR h
  have hxl:=hw x (List.mem_of_getElem? hx)
  have e2:IntKind.i64.wrap ((i:Int)+1)=((i+1:Nat):Int):=wrap_i64 _ (by omega)
  (repeat (first | refine SW.seq ?_ | refine SW.block ?_ | (have fx:=(And.intro (h1) (And.intro (eX hx) (And.intro (bQ hx) (e2))));refine SW.au [0,1,4,5,10,14,26] mixed ?_;(repeat (first | refine RW.ro fx (h:= ?_) | refine RW.skip (h:= ?_) | refine RW.op fx (h:= ?_) | refine RW.aL fx (h:= ?_) | refine RW.aj (h:= ?_) | (refine RW.aG (h:= ?_);(first | refine ai.mk fx (hc:=tW _ (by assumption) _) (h:= ?_)))));refine RW.nil ⟨by kernel_rfl,aa.mk (h:= ?_)⟩) | refine SW.skip ?_ | refine SW.exit ?_ | refine SW.ret ?_ | refine SW.aC rfl ?_ | refine SW.ay rfl ?_))
  exact Next.mk ⟨i+1,by omega⟩ id U
 ·have h1:decide ((i:Int)<l.length)=false:=by simp only [decide_eq_false_iff_not];omega
  (repeat (first | refine SW.seq ?_ | refine SW.block ?_ | (refine SW.au [0,1,4,5,10,14,26] mixed ?_;(repeat (first | refine RW.ro (h1) (h:= ?_) | refine RW.skip (h:= ?_) | refine RW.op (h1) (h:= ?_) | refine RW.aL (h1) (h:= ?_) | refine RW.aj (h:= ?_) | (refine RW.aG (h:= ?_);(first | refine ai.mk (h1) (hc:=tW _ (by assumption) _) (h:= ?_)))));refine RW.nil ⟨by kernel_rfl,aa.mk (h:= ?_)⟩) | refine SW.skip ?_ | refine SW.exit ?_ | refine SW.ret ?_ | refine SW.aC rfl ?_ | refine SW.ay rfl ?_))
  exact End.mk [] (h4:=⟨rfl,rfl⟩)
theorem ja (l:List ah)(hl:l.length<4611686018427387904)(hw:∀ x,x∈l→Bi x)(k:Nat):bB Tryz.prog ref05_SameAll.f [ops l,ops l] [] k 0 (bl true) []:=(wP l hl hw).sc rfl k
end
section
attribute [local irreducible] SW RW bB SC ai aa
theorem yV (cl:List Cm)(hl:cl.length≤1048576):Go.Sl.Pure Tryz.prog slices_Clone_Lapi_Claim_api_Claim.f [.d (.sl cl.length (cl.flatMap Cm.ds))] (.d (.sl cl.length (cl.flatMap Cm.ds))):=by
 refine slices_Clone_Lapi_Claim_api_Claim.enter (by first | rfl | simp [SV.ok,SV.aF]) (by first | rfl | simp [Hp.ok,Ob.ok,SV.ok,SV.aF,ag.an]) (by simp) ?_
 dsimp only [slices_Clone_Lapi_Claim_api_Claim.s,Co.M,Co.G,Co.J,Co.H,Co.N,Co.F,Co.C,Co.Z,Co.B,Co.b8,Co.aJ,Co.b_,Co.i6,Co.z8,Co.cn]
 refine SW.seq ?_
 (refine SW.au [0,2,4] mixed ?_;(repeat (first | refine RW.ro U (h:= ?_) | refine RW.skip (h:= ?_) | refine RW.op U (h:= ?_) | refine RW.aL U (h:= ?_) | refine RW.aj (h:= ?_)));refine RW.nil ⟨by kernel_rfl,aa.mk (h:= ?_)⟩)
 refine SW.seq (SW.seq (SW.H7 (n:=cl.length) (cs:=cl.flatMap Cm.ds) rfl ?_ fun h0=> ?_))
 ·refine SW.ay rfl (SW.skip ?_)
  refine (?_:Sl.SW _ _ _ _ _ _)
  refine SW.seq ?_
  have hlen:cl.length*4=cl.length*4:=rfl
  (refine SW.au [0,2,4] mixed ?_;(repeat (first | refine RW.ro U (h:= ?_) | refine RW.skip (h:= ?_) | refine RW.op U (h:= ?_) | refine RW.aL U (h:= ?_) | refine RW.aj (h:= ?_)));refine RW.nil ⟨by kernel_rfl,aa.mk (h:= ?_)⟩)
  refine SW.freeze 1 (cl.flatMap Cm.ds) rfl (by simp) ?_
  simp only [mL,SV.kW,List.map_cons,List.map_nil,if_true,if_false,reduceIte,bL,Nat.reduceEqDiff]
  refine SW.ret ?_
  exact End.mk [] (h4:=⟨by simp [gI],rfl⟩)
 ·have hl0:cl=[]:=List.eq_nil_of_length_eq_zero h0
  subst hl0
  refine SW.aC rfl (SW.seq ?_)
  (refine SW.au [0,2,4] mixed ?_;(repeat (first | refine RW.ro U (h:= ?_) | refine RW.skip (h:= ?_) | refine RW.op U (h:= ?_) | refine RW.aL U (h:= ?_) | refine RW.aj (h:= ?_)));refine RW.nil ⟨by kernel_rfl,aa.mk (h:= ?_)⟩)
  refine SW.aY 2 rfl ?_
  refine SW.ret ?_
  exact End.mk [] (h4:=⟨rfl,rfl⟩)
theorem s9 (o:ah)(h:o.jf)(hl:o.cl.length≤1048576)(k:Nat):bB Tryz.prog slices_Clone_Lapi_Claim_api_Claim.f [.d o.lines] [] k 0 (.d o.lines) []:=by
 have:=(yV o.cl hl).sc rfl k
 rwa [← h.eq] at this
theorem Bj:∀ (l:List ah) (i:Nat),(l.flatMap ah.ds).drop (i*29)=(l.drop i).flatMap ah.ds
 | [],i=>by simp
 | x::l,0=>by simp
 | x::l,i+1=>by
  have:=Bj l i
  rw [List.drop_succ_cons,← this,List.flatMap_cons,List.drop_append]
  rw [show (i+1)*29 - x.ds.length=i*29 by rw [ah.ku];omega,List.drop_of_length_le (by rw [ah.ku];omega)]
  rfl
theorem vl:∀ (l:List ah) (i:Nat),(l.flatMap ah.ds).take (i*29)=(l.take i).flatMap ah.ds
 | [],i=>by simp
 | x::l,0=>by simp
 | x::l,i+1=>by
  have:=vl l i
  rw [List.take_succ_cons,List.flatMap_cons,List.flatMap_cons,List.take_append,← this,ah.ku,show (i+1)*29 - 29=i*29 by omega,List.take_of_length_le (by rw [ah.ku];omega)]
set_option maxRecDepth 100000 in
theorem dZ {P:Program}{env:List (Nat×SV)}{hp:Hp}{k d p:Nat}{r:List SI}{K:St→List (Bool×List Nat)→Prop}{a:ah}{z:List SV}(hz:z=vZ)
  (ha:env.lookup p=some (.agg a.cells))
  (h:RW P r ⟨(d,ops [a])::env,hp,k⟩ fun st' ts=>K st' ((false,[])::ts)):RW P (⟨some d,.nV 51 29 1 z [(0,29,.t p)],none⟩::r) ⟨env,hp,k⟩ K:=by
 subst hz
 refine RW.cons (e:=⟨ops [a],[],[],0,((29=29∧0+29≤29∧True))⟩) (fun c_=>⟨.kW::c_,fm (.inl rfl) ?_⟩) (by show 29=29∧0+29≤29∧True;decide) ?_
 ·have h1:gM (fun t=>env.lookup t) [(0,29,X.t p)]=some [(0,29,.agg a.cells)]:=by
   simp only [gM,ev,ha]
  have h2:c9 vZ [(0,29,.agg a.cells)]=some (a.cells,((29=29∧0+29≤29∧True))):=rfl
  have h3:bC a.cells=some ([a].flatMap ah.ds):=rfl
  have h4:a.cells.all SV.aZ=true:=rfl
  simp only [bZ,bW,h1,h2,h3,h4,if_true,Bool.false_or]
  rfl
 ·exact h
end
section
attribute [local irreducible] SW RW bB SC ai aa
def eA (l:List ah)(v:ag):List ah:=(gC l).filter fun o=> !v.aV o.dot
theorem wQ (l:List ah)(x:ah)(v:ag):eA (l++[x]) v=if (!v.aV x.dot && !(dD l x.dot).isSome) then eA l v++[x] else eA l v:=by
 unfold eA
 rw [sO]
 by_cases h:(dD l x.dot).isSome=true
 ·simp [h]
 ·rw [if_neg h,List.filter_append]
  cases hc:v.aV x.dot <;> simp [h,hc]
theorem q_ (l:List ah)(v:ag):cS (eA l v):=(jR l).sub List.filter_sublist
theorem ox (l:List ah)(v:ag):(eA l v).length≤l.length:=Nat.le_trans (List.length_filter_le _ _) (k_ l).length_le
theorem oy {l:List ah}{v:ag}{o:ah}(h:o∈eA l v):o∈l:=(k_ l).subset (List.mem_filter.1 h).1
end
end Go.Proofs.YtnakpdoioammhaaGreatDoor
namespace Go.Proofs.YtnakpdoioammhaaGreatDoor
open Go.Sl Go.Proofs Go.Sort
attribute [local irreducible] SW RW bB SC ai aa
theorem ah.swo:SWO (ltOf pI):=by
 have key:∀ a b:ah,ltOf pI a b=a.lt b:=fun a b=>by
  unfold ltOf
  rw [Bool.eq_iff_iff,decide_eq_true_eq,kB]
 refine ⟨fun x=> ?_,fun x y z h1 h2=> ?_,fun x y z h1 h2=> ?_⟩
 ·rw [key];exact ah.lt_irrefl x
 ·rw [key] at *;exact ah.lt_trans h1 h2
 ·rw [key] at*
  rw [Bool.eq_false_iff,ne_eq,ah.lt_iff] at*
  omega
theorem s_ (n:Nat)(l:List ah)(hu:cS l)(hl:l.length<4611686018427387904)(k:Nat):bB Tryz.prog 59 [.gs n l.length,.fn (.func order_Compare.f) [] []] [(n,.arr 51 29 l.length (uU l))] k 0 (.cW []) [(n,.arr 51 29 l.length (uU (aA l)))]:=by
 have h:=SC.AY (P:= Tryz.prog) (ρ:=q9) FG 29 Tryz.isAgg51 Tryz.sizeOf51 (by kernel_rfl) ah.ds (fun _=>rfl) pI ah.swo order_Compare.f [] (by kernel_rfl) (fun x y k=>lE x y k) n 51 l hl k
 unfold bB
 refine SC.mono h ?_
 rintro r F' ⟨rfl,l',hp,hs,rfl⟩
 have hr:gb l':=by
  have h2:cS l':=hu.perm hp
  unfold cS List.Nodup at h2
  rw [List.pairwise_map] at h2
  refine List.Pairwise.imp₂ (fun a b hab hne=> ?_) hs h2
  rcases ah.nA hne with h | h
  ·exact h
  ·rw [← kB] at h
   simp [ltOf] at hab;omega
 rw [hr.unique (dz hu) (hp.trans (aT l).symm)]
 exact ⟨rfl,rfl⟩
def nS (d:Dt):List SV:=[.d (.int .u32 d.r),.d (.int .u32 d.n)]
theorem lF (a b:Dt):eZ [true,true] (nS a) (nS b)=some (decide (a=b)):=by
 have h:eZ [true,true] (nS a) (nS b)=some (((a.r:Int) == b.r) && (((a.n:Int) == b.n) && true)):=by simp [eZ,yw,nS]
 rw [h]
 congr 1
 obtain ⟨a0,a1⟩:=a
 obtain ⟨b0,b1⟩:=b
 rw [Bool.eq_iff_iff]
 simp
 omega
theorem Dx (d:Dt){V:Type}(vs:V→SV)(L:MM Dt V):bM [true,true] true (.agg (nS d)) (aN nS vs L) 0=some (MM.idx L d):=by
 rw [lT lF d L 0];cases MM.idx L d <;> rfl
theorem FK (d:Dt):bK [true,true] true (.agg (nS d))=true:=by simp [bK,bD,SV.cells,lF]
end Go.Proofs.YtnakpdoioammhaaGreatDoor
