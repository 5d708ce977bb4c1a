/-
  The kit's sort, at rows of operations (printed by lay.py).
-/
import Derived.Test.YtgjgfamgbhlmfaaChecked
import Derived.Shelf.SlSortCmp.NoneTotal
import Derived.Test.YtgjgfamgbhlmfaaUV
import Derived.Test.YtgjgfamgbhlmfaaUK
import Derived.Test.YtgjgfamgbhlmfaaU9
import Derived.Test.YtgjgfamgbhlmfaaUL
import Derived.Test.YtgjgfamgbhlmfaaUM
set_option linter.unusedVariables false
namespace Go.Proofs.Ytgjgfamgbhlmfaa
open Go.Proofs Go.Shelf
def opsort_ren : Go.Shelf.Ren := ⟨fun | 6 => 29 | 15 => 39 | 14 => 38 | 28 => 54 | 29 => 55 | 20 => 46 | 21 => 47 | 22 => 48 | 23 => 49 | 24 => 50 | 25 => 51 | 26 => 52 | 27 => 53 | 46 => 60 | 47 => 61 | 48 => 62 | 49 => 63 | 50 => 64 | 57 => 65 | n => n, fun | 22 => 22 | 24 => 48 | 25 => 67 | 3 => 3 | 39 => 77 | 0 => 0 | 53 => 23 | 55 => 45 | 4 => 4 | 46 => 87 | 45 => 86 | 50 => 91 | 5 => 5 | 9 => 9 | 66 => 100 | 70 => 104 | 76 => 106 | 77 => 107 | n => n, fun | n => n⟩
theorem opsort : Go.Proofs.SlLaysF0.n6 Try.prog opsort_ren where
  mixed := by kernel_rfl
  f6 := ⟨ "slices.SortFunc[[]tranter/api.Op,tranter/api.Op]", by decide, Try.func29.trans (congrArg some (by kernel_rfl))⟩
  f14 := ⟨ "slices.pdqsortCmpFunc[tranter/api.Op]", by decide, Try.func38.trans (congrArg some (by kernel_rfl))⟩
  f15 := Try.func39.trans (congrArg some (by kernel_rfl))
  f20 := ⟨ "slices.insertionSortCmpFunc[tranter/api.Op]", by decide, Try.func46.trans (congrArg some (by kernel_rfl))⟩
  f21 := ⟨ "slices.heapSortCmpFunc[tranter/api.Op]", by decide, Try.func47.trans (congrArg some (by kernel_rfl))⟩
  f22 := ⟨ "slices.breakPatternsCmpFunc[tranter/api.Op]", by decide, Try.func48.trans (congrArg some (by kernel_rfl))⟩
  f23 := ⟨ "slices.choosePivotCmpFunc[tranter/api.Op]", by decide, Try.func49.trans (congrArg some (by kernel_rfl))⟩
  f24 := ⟨ "slices.reverseRangeCmpFunc[tranter/api.Op]", by decide, Try.func50.trans (congrArg some (by kernel_rfl))⟩
  f25 := ⟨ "slices.partialInsertionSortCmpFunc[tranter/api.Op]", by decide, Try.func51.trans (congrArg some (by kernel_rfl))⟩
  f26 := ⟨ "slices.partitionEqualCmpFunc[tranter/api.Op]", by decide, Try.func52.trans (congrArg some (by kernel_rfl))⟩
  f27 := ⟨ "slices.partitionCmpFunc[tranter/api.Op]", by decide, Try.func53.trans (congrArg some (by kernel_rfl))⟩
  f28 := Try.func54.trans (congrArg some (by kernel_rfl))
  f29 := Try.func55.trans (congrArg some (by kernel_rfl))
  f46 := ⟨ "slices.siftDownCmpFunc[tranter/api.Op]", by decide, Try.func60.trans (congrArg some (by kernel_rfl))⟩
  f47 := Try.func61.trans (congrArg some (by kernel_rfl))
  f48 := Try.func62.trans (congrArg some (by kernel_rfl))
  f49 := ⟨ "slices.medianAdjacentCmpFunc[tranter/api.Op]", by decide, Try.func63.trans (congrArg some (by kernel_rfl))⟩
  f50 := ⟨ "slices.medianCmpFunc[tranter/api.Op]", by decide, Try.func64.trans (congrArg some (by kernel_rfl))⟩
  f57 := ⟨ "slices.order2CmpFunc[tranter/api.Op]", by decide, Try.func65.trans (congrArg some (by kernel_rfl))⟩
  t0 := Try.underlying0
  a0 := Try.isAgg0
  z0 := Try.sizeOf0
  v0 := Try.zeroValue0
  t3 := Try.underlying3
  a3 := Try.isAgg3
  z3 := Try.sizeOf3
  v3 := Try.zeroValue3
  t4 := Try.underlying4
  a4 := Try.isAgg4
  z4 := Try.sizeOf4
  v4 := Try.zeroValue4
  t5 := Try.underlying5
  a5 := Try.isAgg5
  z5 := Try.sizeOf5
  v5 := Try.zeroValue5
  t9 := Try.underlying9
  a9 := Try.isAgg9
  z9 := Try.sizeOf9
  v9 := Try.zeroValue9
  t22 := Try.underlying22
  a22 := Try.isAgg22
  z22 := Try.sizeOf22
  v22 := Try.zeroValue22
  t25 := Try.underlying67
  a25 := Try.isAgg67
  z25 := Try.sizeOf67
  v25 := Try.zeroValue67
  t39 := Try.underlying77
  a39 := Try.isAgg77
  z39 := Try.sizeOf77
  v39 := Try.zeroValue77
  t45 := Try.underlying86
  a45 := Try.isAgg86
  z45 := Try.sizeOf86
  v45 := Try.zeroValue86
  t46 := Try.underlying87
  a46 := Try.isAgg87
  z46 := Try.sizeOf87
  v46 := Try.zeroValue87
  t50 := Try.underlying91
  a50 := Try.isAgg91
  z50 := Try.sizeOf91
  v50 := Try.zeroValue91
  t53 := Try.underlying23
  a53 := Try.isAgg23
  z53 := Try.sizeOf23
  v53 := Try.zeroValue23
  t55 := Try.underlying45
  a55 := Try.isAgg45
  z55 := Try.sizeOf45
  v55 := Try.zeroValue45
  t66 := Try.underlying100
  a66 := Try.isAgg100
  z66 := Try.sizeOf100
  v66 := Try.zeroValue100
  t70 := Try.underlying104
  a70 := Try.isAgg104
  z70 := Try.sizeOf104
  v70 := Try.zeroValue104
  t76 := Try.underlying106
  a76 := Try.isAgg106
  z76 := Try.sizeOf106
  v76 := Try.zeroValue106
  t77 := Try.underlying107
  a77 := Try.isAgg107
  z77 := Try.sizeOf107
  v77 := Try.zeroValue107
end Go.Proofs.Ytgjgfamgbhlmfaa

/-
  Operations in the order: numbers compared, operations compared; what vectors cover.
-/
set_option linter.unusedSectionVars false
set_option linter.unusedVariables false
set_option linter.unusedSimpArgs false
namespace Go.Proofs.Ytgjgfamgbhlmfaa
open Go.Sl Go.Proofs
attribute [local irreducible] SW RW SCd SC CallP Pruned

theorem nan8_ok (n : Int) : Go.Sl.Pure Try.prog cmp_isNaN_uint8.f [.d (.int .u8 n)] (bl false) := by
  refine cmp_isNaN_uint8.enter (by first | rfl | simp [SV.ok, SV.oks]) (by first | rfl | simp [Hp.ok, Ob.ok, SV.ok, SV.oks, Vec.cells_ok]) (by simp) ?_
  dsimp only [cmp_isNaN_uint8.s, Co.M, Co.G, Co.J, Co.H, Co.N, Co.F, Co.C, Co.Z, Co.B, Co.b8, Co.b32, Co.b64, Co.i6, Co.z8, Co.z29]
  have e1 : (n != n) = false := bne_self_eq_false n
  (repeat (first | refine SW.seq ?_ | refine SW.block ?_ | (refine SW.regL [0, 2] mixed ?_; (repeat (first | refine RW.ro (e1) (h := ?_) | refine RW.skip (h := ?_) | refine RW.op (e1) (h := ?_) | refine RW.opN (e1) (h := ?_) | refine RW.skip0 (h := ?_))); refine RW.nil ⟨by kernel_rfl, Pruned.mk (h := ?_)⟩) | refine SW.skip ?_ | refine SW.exit ?_ | refine SW.ret ?_ | refine SW.condT rfl ?_ | refine SW.condF rfl ?_))
  exact End.mk [] (h4 := ⟨rfl, rfl⟩)
theorem nan8_at (n : Int) (k : Nat) : SCd Try.prog cmp_isNaN_uint8.f [.d (.int .u8 n)] [] k 0 (.d (.bool false)) [] := (nan8_ok n).sc rfl k
theorem nan32_ok (n : Int) : Go.Sl.Pure Try.prog cmp_isNaN_uint32.f [.d (.int .u32 n)] (bl false) := by
  refine cmp_isNaN_uint32.enter (by first | rfl | simp [SV.ok, SV.oks]) (by first | rfl | simp [Hp.ok, Ob.ok, SV.ok, SV.oks, Vec.cells_ok]) (by simp) ?_
  dsimp only [cmp_isNaN_uint32.s, Co.M, Co.G, Co.J, Co.H, Co.N, Co.F, Co.C, Co.Z, Co.B, Co.b8, Co.b32, Co.b64, Co.i6, Co.z8, Co.z29]
  have e1 : (n != n) = false := bne_self_eq_false n
  (repeat (first | refine SW.seq ?_ | refine SW.block ?_ | (refine SW.regL [0, 2] mixed ?_; (repeat (first | refine RW.ro (e1) (h := ?_) | refine RW.skip (h := ?_) | refine RW.op (e1) (h := ?_) | refine RW.opN (e1) (h := ?_) | refine RW.skip0 (h := ?_))); refine RW.nil ⟨by kernel_rfl, Pruned.mk (h := ?_)⟩) | refine SW.skip ?_ | refine SW.exit ?_ | refine SW.ret ?_ | refine SW.condT rfl ?_ | refine SW.condF rfl ?_))
  exact End.mk [] (h4 := ⟨rfl, rfl⟩)
theorem nan32_at (n : Int) (k : Nat) : SCd Try.prog cmp_isNaN_uint32.f [.d (.int .u32 n)] [] k 0 (.d (.bool false)) [] := (nan32_ok n).sc rfl k
theorem nan64_ok (n : Int) : Go.Sl.Pure Try.prog cmp_isNaN_uint64.f [.d (.int .u64 n)] (bl false) := by
  refine cmp_isNaN_uint64.enter (by first | rfl | simp [SV.ok, SV.oks]) (by first | rfl | simp [Hp.ok, Ob.ok, SV.ok, SV.oks, Vec.cells_ok]) (by simp) ?_
  dsimp only [cmp_isNaN_uint64.s, Co.M, Co.G, Co.J, Co.H, Co.N, Co.F, Co.C, Co.Z, Co.B, Co.b8, Co.b32, Co.b64, Co.i6, Co.z8, Co.z29]
  have e1 : (n != n) = false := bne_self_eq_false n
  (repeat (first | refine SW.seq ?_ | refine SW.block ?_ | (refine SW.regL [0, 2] mixed ?_; (repeat (first | refine RW.ro (e1) (h := ?_) | refine RW.skip (h := ?_) | refine RW.op (e1) (h := ?_) | refine RW.opN (e1) (h := ?_) | refine RW.skip0 (h := ?_))); refine RW.nil ⟨by kernel_rfl, Pruned.mk (h := ?_)⟩) | refine SW.skip ?_ | refine SW.exit ?_ | refine SW.ret ?_ | refine SW.condT rfl ?_ | refine SW.condF rfl ?_))
  exact End.mk [] (h4 := ⟨rfl, rfl⟩)
theorem nan64_at (n : Int) (k : Nat) : SCd Try.prog cmp_isNaN_uint64.f [.d (.int .u64 n)] [] k 0 (.d (.bool false)) [] := (nan64_ok n).sc rfl k

/-- How two numbers stand. -/
def cmpZ (a b : Int) : Int := if a < b then -1 else if a > b then 1 else 0

theorem cmp8_ok (a b : Int) : Go.Sl.Pure Try.prog cmp_Compare_uint8.f [.d (.int .u8 a), .d (.int .u8 b)] (i64 (cmpZ a b)) := by
  refine cmp_Compare_uint8.enter (by first | rfl | simp [SV.ok, SV.oks]) (by first | rfl | simp [Hp.ok, Ob.ok, SV.ok, SV.oks, Vec.cells_ok]) (by simp) ?_
  dsimp only [cmp_Compare_uint8.s, Co.M, Co.G, Co.J, Co.H, Co.N, Co.F, Co.C, Co.Z, Co.B, Co.b8, Co.b32, Co.b64, Co.i6, Co.z8, Co.z29]
  rcases Int.lt_trichotomy a b with h | h | h
  · have e1 : decide (a < b) = true := by simp [h]
    have e2 : cmpZ a b = -1 := by simp [cmpZ, h]
    (repeat (first | refine SW.seq ?_ | refine SW.block ?_ | (refine SW.regL [0, 1, 4, 5, 6, 11, 12, 13, 16, 19] mixed ?_; (repeat (first | refine RW.ro (e1) (h := ?_) | refine RW.skip (h := ?_) | refine RW.op (e1) (h := ?_) | refine RW.opN (e1) (h := ?_) | refine RW.skip0 (h := ?_) | (refine RW.callC (h := ?_); (first | refine CallP.mk (e1) (hc := nan8_at _ _) (h := ?_) | refine CallP.mk (e1) (hc := nan32_at _ _) (h := ?_) | refine CallP.mk (e1) (hc := nan64_at _ _) (h := ?_))))); refine RW.nil ⟨by kernel_rfl, Pruned.mk (h := ?_)⟩) | refine SW.skip ?_ | refine SW.exit ?_ | refine SW.ret ?_ | refine SW.condT rfl ?_ | refine SW.condF rfl ?_))
    exact End.mk [] (h4 := ⟨by rw [e2]; rfl, rfl⟩)
  · have e1 : decide (a < b) = false := by simp [h]
    have e3 : decide (a > b) = false := by simp [h]
    have e2 : cmpZ a b = 0 := by simp [cmpZ, h]
    (repeat (first | refine SW.seq ?_ | refine SW.block ?_ | (refine SW.regL [0, 1, 4, 5, 6, 11, 12, 13, 16, 19] mixed ?_; (repeat (first | refine RW.ro (And.intro (e1) (e3)) (h := ?_) | refine RW.skip (h := ?_) | refine RW.op (And.intro (e1) (e3)) (h := ?_) | refine RW.opN (And.intro (e1) (e3)) (h := ?_) | refine RW.skip0 (h := ?_) | (refine RW.callC (h := ?_); (first | refine CallP.mk (And.intro (e1) (e3)) (hc := nan8_at _ _) (h := ?_) | refine CallP.mk (And.intro (e1) (e3)) (hc := nan32_at _ _) (h := ?_) | refine CallP.mk (And.intro (e1) (e3)) (hc := nan64_at _ _) (h := ?_))))); refine RW.nil ⟨by kernel_rfl, Pruned.mk (h := ?_)⟩) | refine SW.skip ?_ | refine SW.exit ?_ | refine SW.ret ?_ | refine SW.condT rfl ?_ | refine SW.condF rfl ?_))
    exact End.mk [] (h4 := ⟨by rw [e2]; rfl, rfl⟩)
  · have e1 : decide (a < b) = false := by simp; omega
    have e3 : decide (a > b) = true := by simp [h]
    have e2 : cmpZ a b = 1 := by unfold cmpZ; rw [if_neg (by omega), if_pos h]
    (repeat (first | refine SW.seq ?_ | refine SW.block ?_ | (refine SW.regL [0, 1, 4, 5, 6, 11, 12, 13, 16, 19] mixed ?_; (repeat (first | refine RW.ro (And.intro (e1) (e3)) (h := ?_) | refine RW.skip (h := ?_) | refine RW.op (And.intro (e1) (e3)) (h := ?_) | refine RW.opN (And.intro (e1) (e3)) (h := ?_) | refine RW.skip0 (h := ?_) | (refine RW.callC (h := ?_); (first | refine CallP.mk (And.intro (e1) (e3)) (hc := nan8_at _ _) (h := ?_) | refine CallP.mk (And.intro (e1) (e3)) (hc := nan32_at _ _) (h := ?_) | refine CallP.mk (And.intro (e1) (e3)) (hc := nan64_at _ _) (h := ?_))))); refine RW.nil ⟨by kernel_rfl, Pruned.mk (h := ?_)⟩) | refine SW.skip ?_ | refine SW.exit ?_ | refine SW.ret ?_ | refine SW.condT rfl ?_ | refine SW.condF rfl ?_))
    exact End.mk [] (h4 := ⟨by rw [e2]; rfl, rfl⟩)
theorem cmp32_ok (a b : Int) : Go.Sl.Pure Try.prog cmp_Compare_uint32.f [.d (.int .u32 a), .d (.int .u32 b)] (i64 (cmpZ a b)) := by
  refine cmp_Compare_uint32.enter (by first | rfl | simp [SV.ok, SV.oks]) (by first | rfl | simp [Hp.ok, Ob.ok, SV.ok, SV.oks, Vec.cells_ok]) (by simp) ?_
  dsimp only [cmp_Compare_uint32.s, Co.M, Co.G, Co.J, Co.H, Co.N, Co.F, Co.C, Co.Z, Co.B, Co.b8, Co.b32, Co.b64, Co.i6, Co.z8, Co.z29]
  rcases Int.lt_trichotomy a b with h | h | h
  · have e1 : decide (a < b) = true := by simp [h]
    have e2 : cmpZ a b = -1 := by simp [cmpZ, h]
    (repeat (first | refine SW.seq ?_ | refine SW.block ?_ | (refine SW.regL [0, 1, 4, 5, 6, 11, 12, 13, 16, 19] mixed ?_; (repeat (first | refine RW.ro (e1) (h := ?_) | refine RW.skip (h := ?_) | refine RW.op (e1) (h := ?_) | refine RW.opN (e1) (h := ?_) | refine RW.skip0 (h := ?_) | (refine RW.callC (h := ?_); (first | refine CallP.mk (e1) (hc := nan8_at _ _) (h := ?_) | refine CallP.mk (e1) (hc := nan32_at _ _) (h := ?_) | refine CallP.mk (e1) (hc := nan64_at _ _) (h := ?_))))); refine RW.nil ⟨by kernel_rfl, Pruned.mk (h := ?_)⟩) | refine SW.skip ?_ | refine SW.exit ?_ | refine SW.ret ?_ | refine SW.condT rfl ?_ | refine SW.condF rfl ?_))
    exact End.mk [] (h4 := ⟨by rw [e2]; rfl, rfl⟩)
  · have e1 : decide (a < b) = false := by simp [h]
    have e3 : decide (a > b) = false := by simp [h]
    have e2 : cmpZ a b = 0 := by simp [cmpZ, h]
    (repeat (first | refine SW.seq ?_ | refine SW.block ?_ | (refine SW.regL [0, 1, 4, 5, 6, 11, 12, 13, 16, 19] mixed ?_; (repeat (first | refine RW.ro (And.intro (e1) (e3)) (h := ?_) | refine RW.skip (h := ?_) | refine RW.op (And.intro (e1) (e3)) (h := ?_) | refine RW.opN (And.intro (e1) (e3)) (h := ?_) | refine RW.skip0 (h := ?_) | (refine RW.callC (h := ?_); (first | refine CallP.mk (And.intro (e1) (e3)) (hc := nan8_at _ _) (h := ?_) | refine CallP.mk (And.intro (e1) (e3)) (hc := nan32_at _ _) (h := ?_) | refine CallP.mk (And.intro (e1) (e3)) (hc := nan64_at _ _) (h := ?_))))); refine RW.nil ⟨by kernel_rfl, Pruned.mk (h := ?_)⟩) | refine SW.skip ?_ | refine SW.exit ?_ | refine SW.ret ?_ | refine SW.condT rfl ?_ | refine SW.condF rfl ?_))
    exact End.mk [] (h4 := ⟨by rw [e2]; rfl, rfl⟩)
  · have e1 : decide (a < b) = false := by simp; omega
    have e3 : decide (a > b) = true := by simp [h]
    have e2 : cmpZ a b = 1 := by unfold cmpZ; rw [if_neg (by omega), if_pos h]
    (repeat (first | refine SW.seq ?_ | refine SW.block ?_ | (refine SW.regL [0, 1, 4, 5, 6, 11, 12, 13, 16, 19] mixed ?_; (repeat (first | refine RW.ro (And.intro (e1) (e3)) (h := ?_) | refine RW.skip (h := ?_) | refine RW.op (And.intro (e1) (e3)) (h := ?_) | refine RW.opN (And.intro (e1) (e3)) (h := ?_) | refine RW.skip0 (h := ?_) | (refine RW.callC (h := ?_); (first | refine CallP.mk (And.intro (e1) (e3)) (hc := nan8_at _ _) (h := ?_) | refine CallP.mk (And.intro (e1) (e3)) (hc := nan32_at _ _) (h := ?_) | refine CallP.mk (And.intro (e1) (e3)) (hc := nan64_at _ _) (h := ?_))))); refine RW.nil ⟨by kernel_rfl, Pruned.mk (h := ?_)⟩) | refine SW.skip ?_ | refine SW.exit ?_ | refine SW.ret ?_ | refine SW.condT rfl ?_ | refine SW.condF rfl ?_))
    exact End.mk [] (h4 := ⟨by rw [e2]; rfl, rfl⟩)
theorem cmp64_ok (a b : Int) : Go.Sl.Pure Try.prog cmp_Compare_uint64.f [.d (.int .u64 a), .d (.int .u64 b)] (i64 (cmpZ a b)) := by
  refine cmp_Compare_uint64.enter (by first | rfl | simp [SV.ok, SV.oks]) (by first | rfl | simp [Hp.ok, Ob.ok, SV.ok, SV.oks, Vec.cells_ok]) (by simp) ?_
  dsimp only [cmp_Compare_uint64.s, Co.M, Co.G, Co.J, Co.H, Co.N, Co.F, Co.C, Co.Z, Co.B, Co.b8, Co.b32, Co.b64, Co.i6, Co.z8, Co.z29]
  rcases Int.lt_trichotomy a b with h | h | h
  · have e1 : decide (a < b) = true := by simp [h]
    have e2 : cmpZ a b = -1 := by simp [cmpZ, h]
    (repeat (first | refine SW.seq ?_ | refine SW.block ?_ | (refine SW.regL [0, 1, 4, 5, 6, 11, 12, 13, 16, 19] mixed ?_; (repeat (first | refine RW.ro (e1) (h := ?_) | refine RW.skip (h := ?_) | refine RW.op (e1) (h := ?_) | refine RW.opN (e1) (h := ?_) | refine RW.skip0 (h := ?_) | (refine RW.callC (h := ?_); (first | refine CallP.mk (e1) (hc := nan8_at _ _) (h := ?_) | refine CallP.mk (e1) (hc := nan32_at _ _) (h := ?_) | refine CallP.mk (e1) (hc := nan64_at _ _) (h := ?_))))); refine RW.nil ⟨by kernel_rfl, Pruned.mk (h := ?_)⟩) | refine SW.skip ?_ | refine SW.exit ?_ | refine SW.ret ?_ | refine SW.condT rfl ?_ | refine SW.condF rfl ?_))
    exact End.mk [] (h4 := ⟨by rw [e2]; rfl, rfl⟩)
  · have e1 : decide (a < b) = false := by simp [h]
    have e3 : decide (a > b) = false := by simp [h]
    have e2 : cmpZ a b = 0 := by simp [cmpZ, h]
    (repeat (first | refine SW.seq ?_ | refine SW.block ?_ | (refine SW.regL [0, 1, 4, 5, 6, 11, 12, 13, 16, 19] mixed ?_; (repeat (first | refine RW.ro (And.intro (e1) (e3)) (h := ?_) | refine RW.skip (h := ?_) | refine RW.op (And.intro (e1) (e3)) (h := ?_) | refine RW.opN (And.intro (e1) (e3)) (h := ?_) | refine RW.skip0 (h := ?_) | (refine RW.callC (h := ?_); (first | refine CallP.mk (And.intro (e1) (e3)) (hc := nan8_at _ _) (h := ?_) | refine CallP.mk (And.intro (e1) (e3)) (hc := nan32_at _ _) (h := ?_) | refine CallP.mk (And.intro (e1) (e3)) (hc := nan64_at _ _) (h := ?_))))); refine RW.nil ⟨by kernel_rfl, Pruned.mk (h := ?_)⟩) | refine SW.skip ?_ | refine SW.exit ?_ | refine SW.ret ?_ | refine SW.condT rfl ?_ | refine SW.condF rfl ?_))
    exact End.mk [] (h4 := ⟨by rw [e2]; rfl, rfl⟩)
  · have e1 : decide (a < b) = false := by simp; omega
    have e3 : decide (a > b) = true := by simp [h]
    have e2 : cmpZ a b = 1 := by unfold cmpZ; rw [if_neg (by omega), if_pos h]
    (repeat (first | refine SW.seq ?_ | refine SW.block ?_ | (refine SW.regL [0, 1, 4, 5, 6, 11, 12, 13, 16, 19] mixed ?_; (repeat (first | refine RW.ro (And.intro (e1) (e3)) (h := ?_) | refine RW.skip (h := ?_) | refine RW.op (And.intro (e1) (e3)) (h := ?_) | refine RW.opN (And.intro (e1) (e3)) (h := ?_) | refine RW.skip0 (h := ?_) | (refine RW.callC (h := ?_); (first | refine CallP.mk (And.intro (e1) (e3)) (hc := nan8_at _ _) (h := ?_) | refine CallP.mk (And.intro (e1) (e3)) (hc := nan32_at _ _) (h := ?_) | refine CallP.mk (And.intro (e1) (e3)) (hc := nan64_at _ _) (h := ?_))))); refine RW.nil ⟨by kernel_rfl, Pruned.mk (h := ?_)⟩) | refine SW.skip ?_ | refine SW.exit ?_ | refine SW.ret ?_ | refine SW.condT rfl ?_ | refine SW.condF rfl ?_))
    exact End.mk [] (h4 := ⟨by rw [e2]; rfl, rfl⟩)
theorem cmp8_at (a b : Int) (k : Nat) : SCd Try.prog cmp_Compare_uint8.f [.d (.int .u8 a), .d (.int .u8 b)] [] k 0 (.d (.int .i64 (cmpZ a b))) [] := (cmp8_ok a b).sc rfl k
theorem cmp32_at (a b : Int) (k : Nat) : SCd Try.prog cmp_Compare_uint32.f [.d (.int .u32 a), .d (.int .u32 b)] [] k 0 (.d (.int .i64 (cmpZ a b))) [] := (cmp32_ok a b).sc rfl k
theorem cmp64_at (a b : Int) (k : Nat) : SCd Try.prog cmp_Compare_uint64.f [.d (.int .u64 a), .d (.int .u64 b)] [] k 0 (.d (.int .i64 (cmpZ a b))) [] := (cmp64_ok a b).sc rfl k
def orZ (a b c : Int) : Int := if a = 0 then (if b = 0 then c else b) else a
theorem or3_ok (a b c : Int) : Go.Sl.Pure Try.prog cmp_Or_int.f [.d (.sl 3 [.int .i64 a, .int .i64 b, .int .i64 c])] (i64 (orZ a b c)) := by
  refine cmp_Or_int.enter (by first | rfl | simp [SV.ok, SV.oks]) (by first | rfl | simp [Hp.ok, Ob.ok, SV.ok, SV.oks, Vec.cells_ok]) (by simp) ?_
  dsimp only [cmp_Or_int.s, Co.M, Co.G, Co.J, Co.H, Co.N, Co.F, Co.C, Co.Z, Co.B, Co.b8, Co.b32, Co.b64, Co.i6, Co.z8, Co.z29]
  (repeat (first | refine SW.seq ?_ | refine SW.block ?_ | (refine SW.regL [0, 2, 3, 5, 6, 7, 8, 9, 14] mixed ?_; (repeat (first | refine RW.ro bq_tt (h := ?_) | refine RW.skip (h := ?_) | refine RW.op bq_tt (h := ?_) | refine RW.opN bq_tt (h := ?_) | refine RW.skip0 (h := ?_))); refine RW.nil ⟨by kernel_rfl, Pruned.mk (h := ?_)⟩) | refine SW.skip ?_ | refine SW.exit ?_ | refine SW.ret ?_ | refine SW.condT rfl ?_ | refine SW.condF rfl ?_))
  refine SW.loopA (α := {i : Nat // i ≤ 3 ∧ (1 ≤ i → a = 0) ∧ (2 ≤ i → b = 0) ∧ (3 ≤ i → c = 0)}) (fun i => ⟨[(8, i64 i.1), (6, .d (.sl 3 [.int .i64 a, .int .i64 b, .int .i64 c])), (7, i64 3), (3, i64 0)], [], 0⟩) (fun i => 3 - i.1) ⟨0, by omega⟩ id bq_tt (round := ?_)
  rintro ⟨i, hi, ha, hb, hc⟩
  match i, hi, ha, hb, hc with
  | 0, _, _, _, _ =>
    rcases h1 : (a != 0) with _ | _
    · (repeat (first | refine SW.seq ?_ | refine SW.block ?_ | (refine SW.regL [0, 2, 3, 5, 6, 7, 8, 9, 14] mixed ?_; (repeat (first | refine RW.ro (h1) (h := ?_) | refine RW.skip (h := ?_) | refine RW.op (h1) (h := ?_) | refine RW.opN (h1) (h := ?_) | refine RW.skip0 (h := ?_))); refine RW.nil ⟨by kernel_rfl, Pruned.mk (h := ?_)⟩) | refine SW.skip ?_ | refine SW.exit ?_ | refine SW.ret ?_ | refine SW.condT rfl ?_ | refine SW.condF rfl ?_))
      exact Next.mk ⟨1, by omega, fun _ => by simpa using h1, by omega⟩ id bq_tt
    · (repeat (first | refine SW.seq ?_ | refine SW.block ?_ | (refine SW.regL [0, 2, 3, 5, 6, 7, 8, 9, 14] mixed ?_; (repeat (first | refine RW.ro (h1) (h := ?_) | refine RW.skip (h := ?_) | refine RW.op (h1) (h := ?_) | refine RW.opN (h1) (h := ?_) | refine RW.skip0 (h := ?_))); refine RW.nil ⟨by kernel_rfl, Pruned.mk (h := ?_)⟩) | refine SW.skip ?_ | refine SW.exit ?_ | refine SW.ret ?_ | refine SW.condT rfl ?_ | refine SW.condF rfl ?_))
      exact End.mk [] (h4 := ⟨by simp at h1; unfold orZ; rw [if_neg h1]; rfl, rfl⟩)
  | 1, _, ha, _, _ =>
    rcases h1 : (b != 0) with _ | _
    · (repeat (first | refine SW.seq ?_ | refine SW.block ?_ | (refine SW.regL [0, 2, 3, 5, 6, 7, 8, 9, 14] mixed ?_; (repeat (first | refine RW.ro (h1) (h := ?_) | refine RW.skip (h := ?_) | refine RW.op (h1) (h := ?_) | refine RW.opN (h1) (h := ?_) | refine RW.skip0 (h := ?_))); refine RW.nil ⟨by kernel_rfl, Pruned.mk (h := ?_)⟩) | refine SW.skip ?_ | refine SW.exit ?_ | refine SW.ret ?_ | refine SW.condT rfl ?_ | refine SW.condF rfl ?_))
      exact Next.mk ⟨2, by omega, fun _ => ha (by omega), fun _ => by simpa using h1, by omega⟩ id bq_tt
    · (repeat (first | refine SW.seq ?_ | refine SW.block ?_ | (refine SW.regL [0, 2, 3, 5, 6, 7, 8, 9, 14] mixed ?_; (repeat (first | refine RW.ro (h1) (h := ?_) | refine RW.skip (h := ?_) | refine RW.op (h1) (h := ?_) | refine RW.opN (h1) (h := ?_) | refine RW.skip0 (h := ?_))); refine RW.nil ⟨by kernel_rfl, Pruned.mk (h := ?_)⟩) | refine SW.skip ?_ | refine SW.exit ?_ | refine SW.ret ?_ | refine SW.condT rfl ?_ | refine SW.condF rfl ?_))
      exact End.mk [] (h4 := ⟨by simp at h1; unfold orZ; rw [if_pos (ha (by omega)), if_neg h1]; rfl, rfl⟩)
  | 2, _, ha, hb, _ =>
    rcases h1 : (c != 0) with _ | _
    · (repeat (first | refine SW.seq ?_ | refine SW.block ?_ | (refine SW.regL [0, 2, 3, 5, 6, 7, 8, 9, 14] mixed ?_; (repeat (first | refine RW.ro (h1) (h := ?_) | refine RW.skip (h := ?_) | refine RW.op (h1) (h := ?_) | refine RW.opN (h1) (h := ?_) | refine RW.skip0 (h := ?_))); refine RW.nil ⟨by kernel_rfl, Pruned.mk (h := ?_)⟩) | refine SW.skip ?_ | refine SW.exit ?_ | refine SW.ret ?_ | refine SW.condT rfl ?_ | refine SW.condF rfl ?_))
      exact Next.mk ⟨3, by omega, fun _ => ha (by omega), fun _ => hb (by omega), fun _ => by simpa using h1⟩ id bq_tt
    · (repeat (first | refine SW.seq ?_ | refine SW.block ?_ | (refine SW.regL [0, 2, 3, 5, 6, 7, 8, 9, 14] mixed ?_; (repeat (first | refine RW.ro (h1) (h := ?_) | refine RW.skip (h := ?_) | refine RW.op (h1) (h := ?_) | refine RW.opN (h1) (h := ?_) | refine RW.skip0 (h := ?_))); refine RW.nil ⟨by kernel_rfl, Pruned.mk (h := ?_)⟩) | refine SW.skip ?_ | refine SW.exit ?_ | refine SW.ret ?_ | refine SW.condT rfl ?_ | refine SW.condF rfl ?_))
      exact End.mk [] (h4 := ⟨by unfold orZ; rw [if_pos (ha (by omega)), if_pos (hb (by omega))]; rfl, rfl⟩)
  | 3, _, ha, hb, hc =>
    (repeat (first | refine SW.seq ?_ | refine SW.block ?_ | (refine SW.regL [0, 2, 3, 5, 6, 7, 8, 9, 14] mixed ?_; (repeat (first | refine RW.ro bq_tt (h := ?_) | refine RW.skip (h := ?_) | refine RW.op bq_tt (h := ?_) | refine RW.opN bq_tt (h := ?_) | refine RW.skip0 (h := ?_))); refine RW.nil ⟨by kernel_rfl, Pruned.mk (h := ?_)⟩) | refine SW.skip ?_ | refine SW.exit ?_ | refine SW.ret ?_ | refine SW.condT rfl ?_ | refine SW.condF rfl ?_))
    exact End.mk [] (h4 := ⟨by unfold orZ; rw [if_pos (ha (by omega)), if_pos (hb (by omega)), hc (by omega)]; rfl, rfl⟩)
theorem or3_at (a b c : Int) (k : Nat) : SCd Try.prog cmp_Or_int.f [.d (.sl 3 [.int .i64 a, .int .i64 b, .int .i64 c])] [] k 0 (.d (.int .i64 (orZ a b c))) [] := (or3_ok a b c).sc rfl k
theorem spl3 : ∀ (x y z a b c : SV), spl (spl (spl [x, y, z] 0 [a]) 1 [b]) 2 [c] = [a, b, c] := fun _ _ _ _ _ _ => rfl
theorem ocmp_eq (a b : OpD) : orZ (cmpZ a.time b.time) (cmpZ a.dot.r b.dot.r) (cmpZ a.dot.n b.dot.n) = ocmp a b := by
  unfold ocmp orZ cmpZ
  by_cases h1 : a.lt b = true
  · rw [if_pos h1]
    rw [OpD.lt_iff] at h1
    repeat' split
    all_goals omega
  · by_cases h2 : b.lt a = true
    · rw [if_neg h1, if_pos h2]
      rw [OpD.lt_iff] at h1 h2
      repeat' split
      all_goals omega
    · rw [if_neg h1, if_neg h2]
      rw [OpD.lt_iff] at h1 h2
      repeat' split
      all_goals omega
theorem ocompare_ok (a b : OpD) : Go.Sl.Pure Try.prog order_Compare.f [.agg a.cells, .agg b.cells] (i64 (ocmp a b)) := by
  rw [← ocmp_eq]
  refine order_Compare.enter (by first | rfl | simp [SV.ok, SV.oks]) (by first | rfl | simp [Hp.ok, Ob.ok, SV.ok, SV.oks, Vec.cells_ok]) (by simp) ?_
  dsimp only [order_Compare.s, Co.M, Co.G, Co.J, Co.H, Co.N, Co.F, Co.C, Co.Z, Co.B, Co.b8, Co.b32, Co.b64, Co.i6, Co.z8, Co.z29]
  (repeat (first | refine SW.seq ?_ | refine SW.block ?_ | (refine SW.regL [0, 1, 2, 3, 4] mixed ?_; (repeat (first | refine RW.ro (spl3) (h := ?_) | refine RW.skip (h := ?_) | refine RW.op (spl3) (h := ?_) | refine RW.opN (spl3) (h := ?_) | refine RW.skip0 (h := ?_) | (refine RW.callC (h := ?_); (first | refine CallP.mk (spl3) (hc := cmp64_at _ _ _) (h := ?_) | refine CallP.mk (spl3) (hc := cmp8_at _ _ _) (h := ?_) | refine CallP.mk (spl3) (hc := cmp32_at _ _ _) (h := ?_) | refine CallP.mk (spl3) (hc := or3_at _ _ _ _) (h := ?_))))); refine RW.nil ⟨by kernel_rfl, Pruned.mk (h := ?_)⟩) | refine SW.skip ?_ | refine SW.exit ?_ | refine SW.ret ?_ | refine SW.condT rfl ?_ | refine SW.condF rfl ?_))
  exact End.mk [] (h4 := ⟨rfl, rfl⟩)
theorem ocompare_at (a b : OpD) (k : Nat) : SCd Try.prog order_Compare.f [.agg a.cells, .agg b.cells] [] k 0 (.d (.int .i64 (ocmp a b))) [] := (ocompare_ok a b).sc rfl k
theorem may_ok (r n : Int) : Go.Sl.Pure Try.prog dot_May.f [.agg [.d (.int .u8 r), .d (.int .u32 n)]] (bl (decide (r < 8) && decide (n > 0))) := by
  refine dot_May.enter (by first | rfl | simp [SV.ok, SV.oks]) (by first | rfl | simp [Hp.ok, Ob.ok, SV.ok, SV.oks, Vec.cells_ok]) (by simp) ?_
  dsimp only [dot_May.s, Co.M, Co.G, Co.J, Co.H, Co.N, Co.F, Co.C, Co.Z, Co.B, Co.b8, Co.b32, Co.b64, Co.i6, Co.z8, Co.z29]
  rcases h1 : decide (r < 8) with _ | _
  · (repeat (first | refine SW.seq ?_ | refine SW.block ?_ | (refine SW.regL [0, 1, 2] mixed ?_; (repeat (first | refine RW.ro (h1) (h := ?_) | refine RW.skip (h := ?_) | refine RW.op (h1) (h := ?_) | refine RW.opN (h1) (h := ?_) | refine RW.skip0 (h := ?_))); refine RW.nil ⟨by kernel_rfl, Pruned.mk (h := ?_)⟩) | refine SW.skip ?_ | refine SW.exit ?_ | refine SW.ret ?_ | refine SW.condT rfl ?_ | refine SW.condF rfl ?_))
    exact End.mk [] (h4 := ⟨rfl, rfl⟩)
  · (repeat (first | refine SW.seq ?_ | refine SW.block ?_ | (refine SW.regL [0, 1, 2] mixed ?_; (repeat (first | refine RW.ro (h1) (h := ?_) | refine RW.skip (h := ?_) | refine RW.op (h1) (h := ?_) | refine RW.opN (h1) (h := ?_) | refine RW.skip0 (h := ?_))); refine RW.nil ⟨by kernel_rfl, Pruned.mk (h := ?_)⟩) | refine SW.skip ?_ | refine SW.exit ?_ | refine SW.ret ?_ | refine SW.condT rfl ?_ | refine SW.condF rfl ?_))
    exact End.mk [] (h4 := ⟨rfl, rfl⟩)
theorem may_at (d : Dt) (k : Nat) : SCd Try.prog dot_May.f [.agg d.cells] [] k 0 (bl d.may) [] := by
  have := (may_ok d.r d.n).sc rfl k
  have e : d.may = (decide ((d.r : Int) < 8) && decide ((d.n : Int) > 0)) := by
    unfold Dt.may
    rw [Bool.eq_iff_iff]; simp only [Bool.and_eq_true, decide_eq_true_eq]; omega
  rw [e]; exact this
theorem covers_ok (v : Vec) (d : Dt) : Go.Sl.Pure Try.prog vector_Covers.f [.agg v.cells, .agg d.cells] (bl (v.covers d)) := by
  refine vector_Covers.enter (by first | rfl | simp [SV.ok, SV.oks]) (by first | rfl | simp [Hp.ok, Ob.ok, SV.ok, SV.oks, Vec.cells_ok]) (by simp) ?_
  dsimp only [vector_Covers.s, Co.M, Co.G, Co.J, Co.H, Co.N, Co.F, Co.C, Co.Z, Co.B, Co.b8, Co.b32, Co.b64, Co.i6, Co.z8, Co.z29]
  rcases h : d.may with _ | _
  · (repeat (first | refine SW.seq ?_ | refine SW.block ?_ | (refine SW.regL [0, 1, 2, 3, 4] mixed ?_; (repeat (first | refine RW.ro (h) (h := ?_) | refine RW.skip (h := ?_) | refine RW.op (h) (h := ?_) | refine RW.opN (h) (h := ?_) | refine RW.skip0 (h := ?_) | (refine RW.callC (h := ?_); (first | refine CallP.mk (h) (hc := may_at _ _) (h := ?_))))); refine RW.nil ⟨by kernel_rfl, Pruned.mk (h := ?_)⟩) | refine SW.skip ?_ | refine SW.exit ?_ | refine SW.ret ?_ | refine SW.condT rfl ?_ | refine SW.condF rfl ?_))
    have e : v.covers d = false := by unfold Vec.covers; rw [h]; rfl
    exact End.mk [] (h4 := ⟨by rw [e]; rfl, rfl⟩)
  · have hr : d.r < 8 := by
      have := h
      simp only [Dt.may, Bool.and_eq_true, decide_eq_true_eq] at this
      exact this.1
    have e : v.covers d = decide ((v.get d.r : Int) ≥ d.n) := by
      unfold Vec.covers
      rw [h, Bool.true_and, Bool.eq_iff_iff]; simp only [decide_eq_true_eq]; omega
    (repeat (first | refine SW.seq ?_ | refine SW.block ?_ | (refine SW.regL [0, 1, 2, 3, 4] mixed ?_; (repeat (first | refine RW.ro (And.intro (h) (Vec.cells_get v hr)) (h := ?_) | refine RW.skip (h := ?_) | refine RW.op (And.intro (h) (Vec.cells_get v hr)) (h := ?_) | refine RW.opN (And.intro (h) (Vec.cells_get v hr)) (h := ?_) | refine RW.skip0 (h := ?_) | (refine RW.callC (h := ?_); (first | refine CallP.mk (And.intro (h) (Vec.cells_get v hr)) (hc := may_at _ _) (h := ?_))))); refine RW.nil ⟨by kernel_rfl, Pruned.mk (h := ?_)⟩) | refine SW.skip ?_ | refine SW.exit ?_ | refine SW.ret ?_ | refine SW.condT rfl ?_ | refine SW.condF rfl ?_))
    exact End.mk [] (h4 := ⟨by rw [e]; rfl, rfl⟩)
theorem covers_at (v : Vec) (d : Dt) (k : Nat) : SCd Try.prog vector_Covers.f [.agg v.cells, .agg d.cells] [] k 0 (bl (v.covers d)) [] := (covers_ok v d).sc rfl k
end Go.Proofs.Ytgjgfamgbhlmfaa

/-
  Operations in the order: the document's order; rows that are the same; what a row knows.
-/
set_option linter.unusedSectionVars false
set_option linter.unusedVariables false
set_option linter.unusedSimpArgs false
namespace Go.Proofs.Ytgjgfamgbhlmfaa
open Go.Sl Go.Proofs
attribute [local irreducible] SW RW SCd SC CallP Pruned

theorem ahead_ok (a b : OpD) : Go.Sl.Pure Try.prog ref11_Ahead.f [.agg a.cells, .agg b.cells] (bl (a.lt b)) := by
  refine ref11_Ahead.enter (by first | rfl | simp [SV.ok, SV.oks]) (by first | rfl | simp [Hp.ok, Ob.ok, SV.ok, SV.oks, Vec.cells_ok]) (by simp) ?_
  dsimp only [ref11_Ahead.s, Co.M, Co.G, Co.J, Co.H, Co.N, Co.F, Co.C, Co.Z, Co.B, Co.b8, Co.b32, Co.b64, Co.i6, Co.z8, Co.z29]
  by_cases h1 : a.time = b.time
  · have e1 : ((a.time : Int) != (b.time : Int)) = false := by simp; omega
    by_cases h2 : a.dot.r = b.dot.r
    · have e2 : ((a.dot.r : Int) != (b.dot.r : Int)) = false := by simp; omega
      have e : a.lt b = decide ((a.dot.n : Int) < (b.dot.n : Int)) := by
        rw [Bool.eq_iff_iff, OpD.lt_iff, decide_eq_true_eq]; omega
      rw [e]
      (repeat (first | refine SW.seq ?_ | refine SW.block ?_ | (refine SW.regL [0, 1, 2, 3, 4, 9, 21] mixed ?_; (repeat (first | refine RW.ro (And.intro (e1) (e2)) (h := ?_) | refine RW.skip (h := ?_) | refine RW.op (And.intro (e1) (e2)) (h := ?_) | refine RW.opN (And.intro (e1) (e2)) (h := ?_) | refine RW.skip0 (h := ?_))); refine RW.nil ⟨by kernel_rfl, Pruned.mk (h := ?_)⟩) | refine SW.skip ?_ | refine SW.exit ?_ | refine SW.ret ?_ | refine SW.condT rfl ?_ | refine SW.condF rfl ?_))
      exact End.mk [] (h4 := ⟨rfl, rfl⟩)
    · have e2 : ((a.dot.r : Int) != (b.dot.r : Int)) = true := by simp; omega
      have e : a.lt b = decide ((a.dot.r : Int) < (b.dot.r : Int)) := by
        rw [Bool.eq_iff_iff, OpD.lt_iff, decide_eq_true_eq]; omega
      rw [e]
      (repeat (first | refine SW.seq ?_ | refine SW.block ?_ | (refine SW.regL [0, 1, 2, 3, 4, 9, 21] mixed ?_; (repeat (first | refine RW.ro (And.intro (e1) (e2)) (h := ?_) | refine RW.skip (h := ?_) | refine RW.op (And.intro (e1) (e2)) (h := ?_) | refine RW.opN (And.intro (e1) (e2)) (h := ?_) | refine RW.skip0 (h := ?_))); refine RW.nil ⟨by kernel_rfl, Pruned.mk (h := ?_)⟩) | refine SW.skip ?_ | refine SW.exit ?_ | refine SW.ret ?_ | refine SW.condT rfl ?_ | refine SW.condF rfl ?_))
      exact End.mk [] (h4 := ⟨rfl, rfl⟩)
  · have e1 : ((a.time : Int) != (b.time : Int)) = true := by simp; omega
    have e : a.lt b = decide ((a.time : Int) < (b.time : Int)) := by
      rw [Bool.eq_iff_iff, OpD.lt_iff, decide_eq_true_eq]; omega
    rw [e]
    (repeat (first | refine SW.seq ?_ | refine SW.block ?_ | (refine SW.regL [0, 1, 2, 3, 4, 9, 21] mixed ?_; (repeat (first | refine RW.ro (e1) (h := ?_) | refine RW.skip (h := ?_) | refine RW.op (e1) (h := ?_) | refine RW.opN (e1) (h := ?_) | refine RW.skip0 (h := ?_))); refine RW.nil ⟨by kernel_rfl, Pruned.mk (h := ?_)⟩) | refine SW.skip ?_ | refine SW.exit ?_ | refine SW.ret ?_ | refine SW.condT rfl ?_ | refine SW.condF rfl ?_))
    exact End.mk [] (h4 := ⟨rfl, rfl⟩)
theorem ahead_at (a b : OpD) (k : Nat) : SCd Try.prog ref11_Ahead.f [.agg a.cells, .agg b.cells] [] k 0 (bl (a.lt b)) [] := (ahead_ok a b).sc rfl k
theorem rcov_ok (v : Vec) (d : Dt) : Go.Sl.Pure Try.prog ref14_covers.f [.agg v.cells, .agg d.cells] (bl (v.covers d)) := by
  refine ref14_covers.enter (by first | rfl | simp [SV.ok, SV.oks]) (by first | rfl | simp [Hp.ok, Ob.ok, SV.ok, SV.oks, Vec.cells_ok]) (by simp) ?_
  dsimp only [ref14_covers.s, Co.M, Co.G, Co.J, Co.H, Co.N, Co.F, Co.C, Co.Z, Co.B, Co.b8, Co.b32, Co.b64, Co.i6, Co.z8, Co.z29]
  by_cases hr : d.r < 8
  · have h1 : decide ((d.r : Int) < 8) = true := by simp; omega
    by_cases hn : 1 ≤ d.n
    · have h2 : decide ((d.n : Int) ≥ 1) = true := by simp; omega
      have e : v.covers d = decide (((v.get d.r : Nat) : Int) ≥ ((d.n : Nat) : Int)) := by
        unfold Vec.covers Dt.may
        rw [Bool.eq_iff_iff]
        simp only [Bool.and_eq_true, decide_eq_true_eq]
        omega
      rw [e]
      (repeat (first | refine SW.seq ?_ | refine SW.block ?_ | (refine SW.regL [0, 1, 2, 3, 4] mixed ?_; (repeat (first | refine RW.ro (And.intro (h1) (And.intro (h2) (Vec.cells_get v hr))) (h := ?_) | refine RW.skip (h := ?_) | refine RW.op (And.intro (h1) (And.intro (h2) (Vec.cells_get v hr))) (h := ?_) | refine RW.opN (And.intro (h1) (And.intro (h2) (Vec.cells_get v hr))) (h := ?_) | refine RW.skip0 (h := ?_))); refine RW.nil ⟨by kernel_rfl, Pruned.mk (h := ?_)⟩) | refine SW.skip ?_ | refine SW.exit ?_ | refine SW.ret ?_ | refine SW.condT rfl ?_ | refine SW.condF rfl ?_))
      exact End.mk [] (h4 := ⟨rfl, rfl⟩)
    · have h2 : decide ((d.n : Int) ≥ 1) = false := by simp; omega
      have e : v.covers d = false := by
        unfold Vec.covers Dt.may
        rw [Bool.eq_false_iff]
        simp only [ne_eq, Bool.and_eq_true, decide_eq_true_eq]
        omega
      rw [e]
      (repeat (first | refine SW.seq ?_ | refine SW.block ?_ | (refine SW.regL [0, 1, 2, 3, 4] mixed ?_; (repeat (first | refine RW.ro (And.intro (h1) (h2)) (h := ?_) | refine RW.skip (h := ?_) | refine RW.op (And.intro (h1) (h2)) (h := ?_) | refine RW.opN (And.intro (h1) (h2)) (h := ?_) | refine RW.skip0 (h := ?_))); refine RW.nil ⟨by kernel_rfl, Pruned.mk (h := ?_)⟩) | refine SW.skip ?_ | refine SW.exit ?_ | refine SW.ret ?_ | refine SW.condT rfl ?_ | refine SW.condF rfl ?_))
      exact End.mk [] (h4 := ⟨rfl, rfl⟩)
  · have h1 : decide ((d.r : Int) < 8) = false := by simp; omega
    have e : v.covers d = false := by
      unfold Vec.covers Dt.may
      rw [Bool.eq_false_iff]
      simp only [ne_eq, Bool.and_eq_true, decide_eq_true_eq]
      omega
    rw [e]
    (repeat (first | refine SW.seq ?_ | refine SW.block ?_ | (refine SW.regL [0, 1, 2, 3, 4] mixed ?_; (repeat (first | refine RW.ro (h1) (h := ?_) | refine RW.skip (h := ?_) | refine RW.op (h1) (h := ?_) | refine RW.opN (h1) (h := ?_) | refine RW.skip0 (h := ?_))); refine RW.nil ⟨by kernel_rfl, Pruned.mk (h := ?_)⟩) | refine SW.skip ?_ | refine SW.exit ?_ | refine SW.ret ?_ | refine SW.condT rfl ?_ | refine SW.condF rfl ?_))
    exact End.mk [] (h4 := ⟨rfl, rfl⟩)
theorem rcov_at (v : Vec) (d : Dt) (k : Nat) : SCd Try.prog ref14_covers.f [.agg v.cells, .agg d.cells] [] k 0 (bl (v.covers d)) [] := (rcov_ok v d).sc rfl k

/-! ### rows of operations -/
theorem op_load {l : List OpD} {i : Nat} {x : OpD} (h : l[i]? = some x) : List.take 2 (List.drop (i * 29) (List.map SV.d (l.flatMap OpD.ds))) = x.dot.cells := by
  have := op_part h (j := 0) (n := 2) (by omega)
  rw [Nat.add_zero, List.drop_zero] at this
  rw [this]; rfl
theorem op_roomd {l : List OpD} {i : Nat} {x : OpD} (h : l[i]? = some x) : (i * 29 + 2 ≤ (List.map SV.d (l.flatMap OpD.ds)).length) = True := op_room (j := 0) (n := 2) h (by omega)
set_option maxHeartbeats 1000000 in
theorem has_ok (l : List OpD) (hl : l.length < 4611686018427387904) (d : Dt) : Go.Sl.Pure Try.prog ref14_has.f [ops l, .agg d.cells] (bl (findO l d).isSome) := by
  refine ref14_has.enter (by first | rfl | simp [SV.ok, SV.oks]) (by first | rfl | simp [Hp.ok, Ob.ok, SV.ok, SV.oks, Vec.cells_ok]) (by simp) ?_
  dsimp only [ref14_has.s, Co.M, Co.G, Co.J, Co.H, Co.N, Co.F, Co.C, Co.Z, Co.B, Co.b8, Co.b32, Co.b64, Co.i6, Co.z8, Co.z29]
  (repeat (first | refine SW.seq ?_ | refine SW.block ?_ | (refine SW.regL [0, 1, 3, 4, 5, 9, 18] mixed ?_; (repeat (first | refine RW.ro bq_tt (h := ?_) | refine RW.skip (h := ?_) | refine RW.op bq_tt (h := ?_) | refine RW.opN bq_tt (h := ?_) | refine RW.skip0 (h := ?_))); refine RW.nil ⟨by kernel_rfl, Pruned.mk (h := ?_)⟩) | refine SW.skip ?_ | refine SW.exit ?_ | refine SW.ret ?_ | refine SW.condT rfl ?_ | refine SW.condF rfl ?_))
  refine SW.loopA (α := {i : Nat // i ≤ l.length ∧ ∀ j x, j < i → l[j]? = some x → x.dot ≠ d}) (fun i => ⟨[(5, i64 i.1), (0, ops l), (3, .ptr 0 0)], [(0, .box 44 d.cells)], 1⟩) (fun i => l.length - i.1) ⟨0, by omega, by omega⟩ id bq_tt (round := ?_)
  rintro ⟨i, hi, hs⟩
  by_cases h : i < l.length
  · have h1 : decide ((i : Int) < l.length) = true := by simp only [decide_eq_true_eq]; omega
    obtain ⟨x, hx⟩ := get_of_lt h
    have e2 : IntKind.i64.wrap ((i : Int) + 1) = ((i + 1 : Nat) : Int) := wrap_i64 _ (by omega)
    by_cases he : x.dot = d
    · have e3 : decide (x.dot = d) = true := by simp [he]
      have e : (findO l d).isSome = true := findO_isSome.2 ⟨x, List.mem_of_getElem? hx, he⟩
      rw [e]
      (repeat (first | refine SW.seq ?_ | refine SW.block ?_ | (refine SW.regL [0, 1, 3, 4, 5, 9, 18] mixed ?_; (repeat (first | refine RW.ro (And.intro (h1) (And.intro (op_load hx) (And.intro (op_roomd hx) (And.intro (e2) (e3))))) (h := ?_) | refine RW.skip (h := ?_) | refine RW.op (And.intro (h1) (And.intro (op_load hx) (And.intro (op_roomd hx) (And.intro (e2) (e3))))) (h := ?_) | refine RW.opN (And.intro (h1) (And.intro (op_load hx) (And.intro (op_roomd hx) (And.intro (e2) (e3))))) (h := ?_) | refine RW.skip0 (h := ?_))); refine RW.nil ⟨by kernel_rfl, Pruned.mk (h := ?_)⟩) | refine SW.skip ?_ | refine SW.exit ?_ | refine SW.ret ?_ | refine SW.condT rfl ?_ | refine SW.condF rfl ?_))
      exact End.mk [] (h4 := ⟨rfl, rfl⟩)
    · have e3 : decide (x.dot = d) = false := by simp [he]
      (repeat (first | refine SW.seq ?_ | refine SW.block ?_ | (refine SW.regL [0, 1, 3, 4, 5, 9, 18] mixed ?_; (repeat (first | refine RW.ro (And.intro (h1) (And.intro (op_load hx) (And.intro (op_roomd hx) (And.intro (e2) (e3))))) (h := ?_) | refine RW.skip (h := ?_) | refine RW.op (And.intro (h1) (And.intro (op_load hx) (And.intro (op_roomd hx) (And.intro (e2) (e3))))) (h := ?_) | refine RW.opN (And.intro (h1) (And.intro (op_load hx) (And.intro (op_roomd hx) (And.intro (e2) (e3))))) (h := ?_) | refine RW.skip0 (h := ?_))); refine RW.nil ⟨by kernel_rfl, Pruned.mk (h := ?_)⟩) | refine SW.skip ?_ | refine SW.exit ?_ | refine SW.ret ?_ | refine SW.condT rfl ?_ | refine SW.condF rfl ?_))
      refine Next.mk ⟨i + 1, by omega, fun j y hj hy => ?_⟩ id bq_tt
      rcases Nat.lt_or_ge j i with h2 | h2
      · exact hs j y h2 hy
      · have : j = i := by omega
        subst this
        rw [hx] at hy; injection hy with hy; rw [← hy]; exact he
  · have h1 : decide ((i : Int) < l.length) = false := by simp only [decide_eq_false_iff_not]; omega
    have e : (findO l d).isSome = false := by
      rw [Bool.eq_false_iff]
      intro hh
      obtain ⟨x, hx, e⟩ := findO_isSome.1 hh
      obtain ⟨j, hj⟩ := List.mem_iff_getElem?.1 hx
      exact hs j x (by have := lt_of_get hj; omega) hj e
    rw [e]
    (repeat (first | refine SW.seq ?_ | refine SW.block ?_ | (refine SW.regL [0, 1, 3, 4, 5, 9, 18] mixed ?_; (repeat (first | refine RW.ro (h1) (h := ?_) | refine RW.skip (h := ?_) | refine RW.op (h1) (h := ?_) | refine RW.opN (h1) (h := ?_) | refine RW.skip0 (h := ?_))); refine RW.nil ⟨by kernel_rfl, Pruned.mk (h := ?_)⟩) | refine SW.skip ?_ | refine SW.exit ?_ | refine SW.ret ?_ | refine SW.condT rfl ?_ | refine SW.condF rfl ?_))
    exact End.mk [] (h4 := ⟨rfl, rfl⟩)
theorem has_at (l : List OpD) (hl : l.length < 4611686018427387904) (d : Dt) (k : Nat) : SCd Try.prog ref14_has.f [ops l, .agg d.cells] [] k 0 (bl (findO l d).isSome) [] := (has_ok l hl d).sc rfl k

set_option maxHeartbeats 1000000 in
theorem known_ok (l : List OpD) (hl : l.length < 4611686018427387904) (hw : ∀ x, x ∈ l → x.dot.wf) : Go.Sl.Pure Try.prog order_Known.f [ops l] (.agg (knownV l).cells) := by
  refine order_Known.enter (by first | rfl | simp [SV.ok, SV.oks]) (by first | rfl | simp [Hp.ok, Ob.ok, SV.ok, SV.oks, Vec.cells_ok]) (by simp) ?_
  dsimp only [order_Known.s, Co.M, Co.G, Co.J, Co.H, Co.N, Co.F, Co.C, Co.Z, Co.B, Co.b8, Co.b32, Co.b64, Co.i6, Co.z8, Co.z29]
  (repeat (first | refine SW.seq ?_ | refine SW.block ?_ | (refine SW.regL [0, 2, 3, 5, 6, 7, 8, 9, 16] mixed ?_; (repeat (first | refine RW.ro bq_tt (h := ?_) | refine RW.skip (h := ?_) | refine RW.op bq_tt (h := ?_) | refine RW.opN bq_tt (h := ?_) | refine RW.skip0 (h := ?_))); refine RW.nil ⟨by kernel_rfl, Pruned.mk (h := ?_)⟩) | refine SW.skip ?_ | refine SW.exit ?_ | refine SW.ret ?_ | refine SW.condT rfl ?_ | refine SW.condF rfl ?_))
  refine SW.loopA (α := {i : Nat // i ≤ l.length}) (fun i => ⟨[(8, i64 i.1), (6, ops l), (7, i64 l.length), (2, .ptr 0 0), (3, .ptr 1 0)], [(1, .box 25 (knownV (l.take i.1)).cells), (0, .box 25 Vec.zero.cells)], 2⟩) (fun i => l.length - i.1) ⟨0, by omega⟩ id (And.intro (show knownV [] = Vec.zero from rfl) bq_tt) (round := ?_)
  rintro ⟨i, hi⟩
  dsimp only
  by_cases h : i < l.length
  · have h1 : decide ((i : Int) < l.length) = true := by simp only [decide_eq_true_eq]; omega
    obtain ⟨x, hx⟩ := get_of_lt h
    have hxw := hw x (List.mem_of_getElem? hx)
    have e2 : IntKind.i64.wrap ((i : Int) + 1) = ((i + 1 : Nat) : Int) := wrap_i64 _ (by omega)
    have e3 : IntKind.i64.wrap (x.dot.r : Int) = (x.dot.r : Int) := wrap_i64 _ (by have := hxw.1; omega)
    have e1 : l.take (i + 1) = l.take i ++ [x] := take_snoc hx
    have hsn := knownV_snoc (l.take i) x
    rw [← e1] at hsn
    unfold knStep at hsn
    generalize knownV (l.take i) = v at hsn ⊢
    by_cases hr : x.dot.r < 8
    · have e4 : decide ((x.dot.r : Int) < 8) = true := by simp; omega
      rw [if_pos hr] at hsn
      have e5 : (if (x.dot.n : Int) > ((v.get x.dot.r : Nat) : Int) then (x.dot.n : Int) else ((v.get x.dot.r : Nat) : Int)) = ((max (v.get x.dot.r) x.dot.n : Nat) : Int) := by split <;> omega
      have e6 : spl v.cells x.dot.r [.d (.int .u32 ((max (v.get x.dot.r) x.dot.n : Nat) : Int))] = (v.set x.dot.r (max (v.get x.dot.r) x.dot.n)).cells := by rw [spl_one]; exact Vec.cells_set v hr _
      (repeat (first | refine SW.seq ?_ | refine SW.block ?_ | (refine SW.regL [0, 2, 3, 5, 6, 7, 8, 9, 16] mixed ?_; (repeat (first | refine RW.ro (And.intro (h1) (And.intro (op_at hx) (And.intro (op_room0 hx) (And.intro (e2) (And.intro (e3) (And.intro (e4) (And.intro (Vec.cells_get v hr) (And.intro (e5) (e6))))))))) (h := ?_) | refine RW.skip (h := ?_) | refine RW.op (And.intro (h1) (And.intro (op_at hx) (And.intro (op_room0 hx) (And.intro (e2) (And.intro (e3) (And.intro (e4) (And.intro (Vec.cells_get v hr) (And.intro (e5) (e6))))))))) (h := ?_) | refine RW.opN (And.intro (h1) (And.intro (op_at hx) (And.intro (op_room0 hx) (And.intro (e2) (And.intro (e3) (And.intro (e4) (And.intro (Vec.cells_get v hr) (And.intro (e5) (e6))))))))) (h := ?_) | refine RW.skip0 (h := ?_))); refine RW.nil ⟨by kernel_rfl, Pruned.mk (h := ?_)⟩) | refine SW.skip ?_ | refine SW.exit ?_ | refine SW.ret ?_ | refine SW.condT rfl ?_ | refine SW.condF rfl ?_))
      dsimp only
      exact ⟨⟨i + 1, by omega⟩, id, by show l.length - (i + 1) < _; omega, Weak.mk (And.intro hsn bq_tt)⟩
    · have e4 : decide ((x.dot.r : Int) < 8) = false := by simp; omega
      rw [if_neg hr] at hsn
      (repeat (first | refine SW.seq ?_ | refine SW.block ?_ | (refine SW.regL [0, 2, 3, 5, 6, 7, 8, 9, 16] mixed ?_; (repeat (first | refine RW.ro (And.intro (h1) (And.intro (op_at hx) (And.intro (op_room0 hx) (And.intro (e2) (And.intro (e3) (e4)))))) (h := ?_) | refine RW.skip (h := ?_) | refine RW.op (And.intro (h1) (And.intro (op_at hx) (And.intro (op_room0 hx) (And.intro (e2) (And.intro (e3) (e4)))))) (h := ?_) | refine RW.opN (And.intro (h1) (And.intro (op_at hx) (And.intro (op_room0 hx) (And.intro (e2) (And.intro (e3) (e4)))))) (h := ?_) | refine RW.skip0 (h := ?_))); refine RW.nil ⟨by kernel_rfl, Pruned.mk (h := ?_)⟩) | refine SW.skip ?_ | refine SW.exit ?_ | refine SW.ret ?_ | refine SW.condT rfl ?_ | refine SW.condF rfl ?_))
      dsimp only
      exact ⟨⟨i + 1, by omega⟩, id, by show l.length - (i + 1) < _; omega, Weak.mk (And.intro hsn bq_tt)⟩
  · have h1 : decide ((i : Int) < l.length) = false := by simp only [decide_eq_false_iff_not]; omega
    have h2 : i = l.length := by omega
    subst h2
    rw [List.take_length]
    (repeat (first | refine SW.seq ?_ | refine SW.block ?_ | (refine SW.regL [0, 2, 3, 5, 6, 7, 8, 9, 16] mixed ?_; (repeat (first | refine RW.ro (h1) (h := ?_) | refine RW.skip (h := ?_) | refine RW.op (h1) (h := ?_) | refine RW.opN (h1) (h := ?_) | refine RW.skip0 (h := ?_))); refine RW.nil ⟨by kernel_rfl, Pruned.mk (h := ?_)⟩) | refine SW.skip ?_ | refine SW.exit ?_ | refine SW.ret ?_ | refine SW.condT rfl ?_ | refine SW.condF rfl ?_))
    exact End.mk [] (h4 := ⟨rfl, rfl⟩)
theorem known_at (l : List OpD) (hl : l.length < 4611686018427387904) (hw : ∀ x, x ∈ l → x.dot.wf) (k : Nat) : SCd Try.prog order_Known.f [ops l] [] k 0 (.agg (knownV l).cells) [] := (known_ok l hl hw).sc rfl k
set_option maxHeartbeats 1000000 in
theorem rknown_ok (l : List OpD) (hl : l.length < 4611686018427387904) (hw : ∀ x, x ∈ l → x.dot.wf) : Go.Sl.Pure Try.prog ref14_Known.f [ops l] (.agg (knownV l).cells) := by
  refine ref14_Known.enter (by first | rfl | simp [SV.ok, SV.oks]) (by first | rfl | simp [Hp.ok, Ob.ok, SV.ok, SV.oks, Vec.cells_ok]) (by simp) ?_
  dsimp only [ref14_Known.s, Co.M, Co.G, Co.J, Co.H, Co.N, Co.F, Co.C, Co.Z, Co.B, Co.b8, Co.b32, Co.b64, Co.i6, Co.z8, Co.z29]
  (repeat (first | refine SW.seq ?_ | refine SW.block ?_ | (refine SW.regL [0, 2, 3, 4, 5, 9, 19] mixed ?_; (repeat (first | refine RW.ro bq_tt (h := ?_) | refine RW.skip (h := ?_) | refine RW.op bq_tt (h := ?_) | refine RW.opN bq_tt (h := ?_) | refine RW.skip0 (h := ?_))); refine RW.nil ⟨by kernel_rfl, Pruned.mk (h := ?_)⟩) | refine SW.skip ?_ | refine SW.exit ?_ | refine SW.ret ?_ | refine SW.condT rfl ?_ | refine SW.condF rfl ?_))
  refine SW.loopA (α := {i : Nat // i ≤ l.length}) (fun i => ⟨[(4, i64 i.1), (0, ops l), (2, .ptr 0 0), (3, .ptr 1 0)], [(1, .box 25 (knownV (l.take i.1)).cells), (0, .box 25 Vec.zero.cells)], 2⟩) (fun i => l.length - i.1) ⟨0, by omega⟩ id (And.intro (show knownV [] = Vec.zero from rfl) bq_tt) (round := ?_)
  rintro ⟨i, hi⟩
  dsimp only
  by_cases h : i < l.length
  · have h1 : decide ((i : Int) < l.length) = true := by simp only [decide_eq_true_eq]; omega
    obtain ⟨x, hx⟩ := get_of_lt h
    have hxw := hw x (List.mem_of_getElem? hx)
    have e2 : IntKind.i64.wrap ((i : Int) + 1) = ((i + 1 : Nat) : Int) := wrap_i64 _ (by omega)
    have e1 : l.take (i + 1) = l.take i ++ [x] := take_snoc hx
    have hsn := knownV_snoc (l.take i) x
    rw [← e1] at hsn
    unfold knStep at hsn
    generalize knownV (l.take i) = v at hsn ⊢
    by_cases hr : x.dot.r < 8
    · have e4 : decide ((x.dot.r : Int) < 8) = true := by simp; omega
      rw [if_pos hr] at hsn
      have e5 : (if (x.dot.n : Int) > ((v.get x.dot.r : Nat) : Int) then (x.dot.n : Int) else ((v.get x.dot.r : Nat) : Int)) = ((max (v.get x.dot.r) x.dot.n : Nat) : Int) := by split <;> omega
      have e6 : spl v.cells x.dot.r [.d (.int .u32 ((max (v.get x.dot.r) x.dot.n : Nat) : Int))] = (v.set x.dot.r (max (v.get x.dot.r) x.dot.n)).cells := by rw [spl_one]; exact Vec.cells_set v hr _
      (repeat (first | refine SW.seq ?_ | refine SW.block ?_ | (refine SW.regL [0, 2, 3, 4, 5, 9, 19] mixed ?_; (repeat (first | refine RW.ro (And.intro (h1) (And.intro (op_load hx) (And.intro (op_roomd hx) (And.intro (e2) (And.intro (e4) (And.intro (Vec.cells_get v hr) (And.intro (e5) (e6)))))))) (h := ?_) | refine RW.skip (h := ?_) | refine RW.op (And.intro (h1) (And.intro (op_load hx) (And.intro (op_roomd hx) (And.intro (e2) (And.intro (e4) (And.intro (Vec.cells_get v hr) (And.intro (e5) (e6)))))))) (h := ?_) | refine RW.opN (And.intro (h1) (And.intro (op_load hx) (And.intro (op_roomd hx) (And.intro (e2) (And.intro (e4) (And.intro (Vec.cells_get v hr) (And.intro (e5) (e6)))))))) (h := ?_) | refine RW.skip0 (h := ?_))); refine RW.nil ⟨by kernel_rfl, Pruned.mk (h := ?_)⟩) | refine SW.skip ?_ | refine SW.exit ?_ | refine SW.ret ?_ | refine SW.condT rfl ?_ | refine SW.condF rfl ?_))
      dsimp only
      exact ⟨⟨i + 1, by omega⟩, id, by show l.length - (i + 1) < _; omega, Weak.mk (And.intro hsn bq_tt)⟩
    · have e4 : decide ((x.dot.r : Int) < 8) = false := by simp; omega
      rw [if_neg hr] at hsn
      (repeat (first | refine SW.seq ?_ | refine SW.block ?_ | (refine SW.regL [0, 2, 3, 4, 5, 9, 19] mixed ?_; (repeat (first | refine RW.ro (And.intro (h1) (And.intro (op_load hx) (And.intro (op_roomd hx) (And.intro (e2) (e4))))) (h := ?_) | refine RW.skip (h := ?_) | refine RW.op (And.intro (h1) (And.intro (op_load hx) (And.intro (op_roomd hx) (And.intro (e2) (e4))))) (h := ?_) | refine RW.opN (And.intro (h1) (And.intro (op_load hx) (And.intro (op_roomd hx) (And.intro (e2) (e4))))) (h := ?_) | refine RW.skip0 (h := ?_))); refine RW.nil ⟨by kernel_rfl, Pruned.mk (h := ?_)⟩) | refine SW.skip ?_ | refine SW.exit ?_ | refine SW.ret ?_ | refine SW.condT rfl ?_ | refine SW.condF rfl ?_))
      dsimp only
      exact ⟨⟨i + 1, by omega⟩, id, by show l.length - (i + 1) < _; omega, Weak.mk (And.intro hsn bq_tt)⟩
  · have h1 : decide ((i : Int) < l.length) = false := by simp only [decide_eq_false_iff_not]; omega
    have h2 : i = l.length := by omega
    subst h2
    rw [List.take_length]
    (repeat (first | refine SW.seq ?_ | refine SW.block ?_ | (refine SW.regL [0, 2, 3, 4, 5, 9, 19] mixed ?_; (repeat (first | refine RW.ro (h1) (h := ?_) | refine RW.skip (h := ?_) | refine RW.op (h1) (h := ?_) | refine RW.opN (h1) (h := ?_) | refine RW.skip0 (h := ?_))); refine RW.nil ⟨by kernel_rfl, Pruned.mk (h := ?_)⟩) | refine SW.skip ?_ | refine SW.exit ?_ | refine SW.ret ?_ | refine SW.condT rfl ?_ | refine SW.condF rfl ?_))
    exact End.mk [] (h4 := ⟨rfl, rfl⟩)
theorem rknown_at (l : List OpD) (hl : l.length < 4611686018427387904) (hw : ∀ x, x ∈ l → x.dot.wf) (k : Nat) : SCd Try.prog ref14_Known.f [ops l] [] k 0 (.agg (knownV l).cells) [] := (rknown_ok l hl hw).sc rfl k
end Go.Proofs.Ytgjgfamgbhlmfaa

/-
  Operations in the order: a row is the same as itself; lines cloned; the document's sorted rows.
-/
set_option linter.unusedSectionVars false
set_option linter.unusedVariables false
set_option linter.unusedSimpArgs false
namespace Go.Proofs.Ytgjgfamgbhlmfaa
open Go.Sl Go.Proofs Go.RowKit
attribute [local irreducible] SW RW SCd SC CallP Pruned

theorem cm_at {l : List Cm} {i : Nat} {x : Cm} (h : l[i]? = some x) : List.take 4 (List.drop (i * 4) (List.map SV.d (l.flatMap Cm.ds))) = x.line.cells ++ x.ver.cells := by
  rw [← List.map_drop, ← List.map_take, flat_take Cm.ds 4 (fun _ => rfl) l i x h]
  rfl
theorem cm_room0 {l : List Cm} {i : Nat} {x : Cm} (h : l[i]? = some x) : (i * 4 + 4 ≤ (List.map SV.d (l.flatMap Cm.ds)).length) = True := eq_true (by
  have := lt_of_get h
  rw [List.length_map, cms_len]
  omega)
theorem cm_self (x : Cm) : csqS [true, true, true, true] (x.line.cells ++ x.ver.cells) (x.line.cells ++ x.ver.cells) = some true := by simp [csqS, cqS, Dt.cells]
theorem vec_self (v : Vec) : csqS [true, true, true, true, true, true, true, true] v.cells v.cells = some true := by rw [Vec.eqb8]; simp
theorem dt_self (d : Dt) : csqS [true, true] d.cells d.cells = some true := by rw [Dt.eqb]; simp
set_option maxHeartbeats 4000000 in
theorem same_nil (o : OpD) (hn : o.lines = .nils) : Go.Sl.Pure Try.prog ref05_Same.f [.agg o.cells, .agg o.cells] (bl true) := by
  refine ref05_Same.enter (by first | rfl | simp [SV.ok, SV.oks]) (by first | rfl | simp [Hp.ok, Ob.ok, SV.ok, SV.oks, Vec.cells_ok]) (by simp) ?_
  dsimp only [ref05_Same.s, Co.M, Co.G, Co.J, Co.H, Co.N, Co.F, Co.C, Co.Z, Co.B, Co.b8, Co.b32, Co.b64, Co.i6, Co.z8, Co.z29]
  have b0 : ((0 : Int) != 0) = false := by decide
  have b1 : decide ((0 : Int) < 0) = false := by decide
  have d1 : ∀ d : Dt, decide (d = d) = true := fun d => by simp
  have d2 : ∀ d : Vec, decide (d = d) = true := fun d => by simp
  have d3 : ∀ d : Int, (d == d) = true := fun d => by simp
  (repeat (first | refine SW.seq ?_ | refine SW.block ?_ | (refine SW.regL [0, 1, 2, 3, 4, 5, 12, 17, 30] mixed ?_; (repeat (first | refine RW.ro (And.intro (hn) (b0)) (h := ?_) | refine RW.skip (h := ?_) | refine RW.op (And.intro (hn) (b0)) (h := ?_) | refine RW.opN (And.intro (hn) (b0)) (h := ?_) | refine RW.skip0 (h := ?_))); refine RW.nil ⟨by kernel_rfl, Pruned.mk (h := ?_)⟩) | refine SW.skip ?_ | refine SW.exit ?_ | refine SW.ret ?_ | refine SW.condT rfl ?_ | refine SW.condF rfl ?_))
  refine SW.loopA (α := Unit) (fun i => ⟨[(5, i64 0), (2, .ptr 0 0), (3, .ptr 1 0)], [(1, .box 48 o.cells), (0, .box 48 o.cells)], 2⟩) (fun i => 0) () id bq_tt (round := ?_)
  rintro ⟨⟩
  (repeat (first | refine SW.seq ?_ | refine SW.block ?_ | (refine SW.regL [0, 1, 2, 3, 4, 5, 12, 17, 30] mixed ?_; (repeat (first | refine RW.ro (And.intro (hn) (b1)) (h := ?_) | refine RW.skip (h := ?_) | refine RW.op (And.intro (hn) (b1)) (h := ?_) | refine RW.opN (And.intro (hn) (b1)) (h := ?_) | refine RW.skip0 (h := ?_))); refine RW.nil ⟨by kernel_rfl, Pruned.mk (h := ?_)⟩) | refine SW.skip ?_ | refine SW.exit ?_ | refine SW.ret ?_ | refine SW.condT rfl ?_ | refine SW.condF rfl ?_))
  (repeat (first | refine SW.seq ?_ | refine SW.block ?_ | (refine SW.regL [0, 1, 2, 3, 4, 5, 12, 17, 30] mixed ?_; (repeat (first | refine RW.ro (And.intro (d1) (And.intro (d2) (d3))) (h := ?_) | refine RW.skip (h := ?_) | refine RW.op (And.intro (d1) (And.intro (d2) (d3))) (h := ?_) | refine RW.opN (And.intro (d1) (And.intro (d2) (d3))) (h := ?_) | refine RW.skip0 (h := ?_))); refine RW.nil ⟨by kernel_rfl, Pruned.mk (h := ?_)⟩) | refine SW.skip ?_ | refine SW.exit ?_ | refine SW.ret ?_ | refine SW.condT rfl ?_ | refine SW.condF rfl ?_))
  exact End.mk [] (h4 := ⟨rfl, rfl⟩)
set_option maxHeartbeats 4000000 in
theorem same_lin (o : OpD) (hl : o.lin) : Go.Sl.Pure Try.prog ref05_Same.f [.agg o.cells, .agg o.cells] (bl true) := by
  have hn := hl.eq
  have hlen := hl.le
  generalize o.cl = cl at hn hlen
  refine ref05_Same.enter (by first | rfl | simp [SV.ok, SV.oks]) (by first | rfl | simp [Hp.ok, Ob.ok, SV.ok, SV.oks, Vec.cells_ok]) (by simp) ?_
  dsimp only [ref05_Same.s, Co.M, Co.G, Co.J, Co.H, Co.N, Co.F, Co.C, Co.Z, Co.B, Co.b8, Co.b32, Co.b64, Co.i6, Co.z8, Co.z29]
  have b0 : (((cl.length : Nat) : Int) != ((cl.length : Nat) : Int)) = false := by simp
  have d1 : ∀ d : Dt, decide (d = d) = true := fun d => by simp
  have d2 : ∀ d : Vec, decide (d = d) = true := fun d => by simp
  have d3 : ∀ d : Int, (d == d) = true := fun d => by simp
  (repeat (first | refine SW.seq ?_ | refine SW.block ?_ | (refine SW.regL [0, 1, 2, 3, 4, 5, 12, 17, 30] mixed ?_; (repeat (first | refine RW.ro (And.intro (hn) (b0)) (h := ?_) | refine RW.skip (h := ?_) | refine RW.op (And.intro (hn) (b0)) (h := ?_) | refine RW.opN (And.intro (hn) (b0)) (h := ?_) | refine RW.skip0 (h := ?_))); refine RW.nil ⟨by kernel_rfl, Pruned.mk (h := ?_)⟩) | refine SW.skip ?_ | refine SW.exit ?_ | refine SW.ret ?_ | refine SW.condT rfl ?_ | refine SW.condF rfl ?_))
  refine SW.loopA (α := {i : Nat // i ≤ cl.length}) (fun i => ⟨[(5, i64 i.1), (2, .ptr 0 0), (3, .ptr 1 0)], [(1, .box 48 o.cells), (0, .box 48 o.cells)], 2⟩) (fun i => cl.length - i.1) ⟨0, by omega⟩ id bq_tt (round := ?_)
  rintro ⟨i, hi⟩
  by_cases h : i < cl.length
  · have h1 : decide ((i : Int) < cl.length) = true := by simp only [decide_eq_true_eq]; omega
    obtain ⟨x, hx⟩ := get_of_lt h
    have e2 : IntKind.i64.wrap ((i : Int) + 1) = ((i + 1 : Nat) : Int) := wrap_i64 _ (by omega)
    (repeat (first | refine SW.seq ?_ | refine SW.block ?_ | (refine SW.regL [0, 1, 2, 3, 4, 5, 12, 17, 30] mixed ?_; (repeat (first | refine RW.ro (And.intro (hn) (And.intro (h1) (And.intro (cm_at hx) (And.intro (cm_room0 hx) (And.intro (cm_self) (e2)))))) (h := ?_) | refine RW.skip (h := ?_) | refine RW.op (And.intro (hn) (And.intro (h1) (And.intro (cm_at hx) (And.intro (cm_room0 hx) (And.intro (cm_self) (e2)))))) (h := ?_) | refine RW.opN (And.intro (hn) (And.intro (h1) (And.intro (cm_at hx) (And.intro (cm_room0 hx) (And.intro (cm_self) (e2)))))) (h := ?_) | refine RW.skip0 (h := ?_))); refine RW.nil ⟨by kernel_rfl, Pruned.mk (h := ?_)⟩) | refine SW.skip ?_ | refine SW.exit ?_ | refine SW.ret ?_ | refine SW.condT rfl ?_ | refine SW.condF rfl ?_))
    exact Next.mk ⟨i + 1, by omega⟩ id bq_tt
  · have h1 : decide ((i : Int) < cl.length) = false := by simp only [decide_eq_false_iff_not]; omega
    (repeat (first | refine SW.seq ?_ | refine SW.block ?_ | (refine SW.regL [0, 1, 2, 3, 4, 5, 12, 17, 30] mixed ?_; (repeat (first | refine RW.ro (And.intro (hn) (h1)) (h := ?_) | refine RW.skip (h := ?_) | refine RW.op (And.intro (hn) (h1)) (h := ?_) | refine RW.opN (And.intro (hn) (h1)) (h := ?_) | refine RW.skip0 (h := ?_))); refine RW.nil ⟨by kernel_rfl, Pruned.mk (h := ?_)⟩) | refine SW.skip ?_ | refine SW.exit ?_ | refine SW.ret ?_ | refine SW.condT rfl ?_ | refine SW.condF rfl ?_))
    (repeat (first | refine SW.seq ?_ | refine SW.block ?_ | (refine SW.regL [0, 1, 2, 3, 4, 5, 12, 17, 30] mixed ?_; (repeat (first | refine RW.ro (And.intro (d1) (And.intro (d2) (d3))) (h := ?_) | refine RW.skip (h := ?_) | refine RW.op (And.intro (d1) (And.intro (d2) (d3))) (h := ?_) | refine RW.opN (And.intro (d1) (And.intro (d2) (d3))) (h := ?_) | refine RW.skip0 (h := ?_))); refine RW.nil ⟨by kernel_rfl, Pruned.mk (h := ?_)⟩) | refine SW.skip ?_ | refine SW.exit ?_ | refine SW.ret ?_ | refine SW.condT rfl ?_ | refine SW.condF rfl ?_))
    exact End.mk [] (h4 := ⟨rfl, rfl⟩)
/-- What lines may be. -/
def lnOk (o : OpD) : Prop := o.lines = .nils ∨ o.lin
theorem same_at (o : OpD) (h : lnOk o) (k : Nat) : SCd Try.prog ref05_Same.f [.agg o.cells, .agg o.cells] [] k 0 (bl true) [] := by
  rcases h with h | h
  · exact (same_nil o h).sc rfl k
  · exact (same_lin o h).sc rfl k
theorem sameAll_ok (l : List OpD) (hl : l.length < 4611686018427387904) (hw : ∀ x, x ∈ l → lnOk x) : Go.Sl.Pure Try.prog ref05_SameAll.f [ops l, ops l] (bl true) := by
  refine ref05_SameAll.enter (by first | rfl | simp [SV.ok, SV.oks]) (by first | rfl | simp [Hp.ok, Ob.ok, SV.ok, SV.oks, Vec.cells_ok]) (by simp) ?_
  dsimp only [ref05_SameAll.s, Co.M, Co.G, Co.J, Co.H, Co.N, Co.F, Co.C, Co.Z, Co.B, Co.b8, Co.b32, Co.b64, Co.i6, Co.z8, Co.z29]
  have b0 : (((l.length : Nat) : Int) != ((l.length : Nat) : Int)) = false := by simp
  (repeat (first | refine SW.seq ?_ | refine SW.block ?_ | (refine SW.regL [0, 1, 4, 5, 10, 14, 26] mixed ?_; (repeat (first | refine RW.ro (b0) (h := ?_) | refine RW.skip (h := ?_) | refine RW.op (b0) (h := ?_) | refine RW.opN (b0) (h := ?_) | refine RW.skip0 (h := ?_) | (refine RW.callC (h := ?_); (first | refine CallP.mk (b0) (hc := same_at _ (by assumption) _) (h := ?_))))); refine RW.nil ⟨by kernel_rfl, Pruned.mk (h := ?_)⟩) | refine SW.skip ?_ | refine SW.exit ?_ | refine SW.ret ?_ | refine SW.condT rfl ?_ | refine SW.condF rfl ?_))
  refine SW.loopA (α := {i : Nat // i ≤ l.length}) (fun i => ⟨[(5, i64 i.1), (0, ops l), (1, ops l)], [], 0⟩) (fun i => l.length - i.1) ⟨0, by omega⟩ id bq_tt (round := ?_)
  rintro ⟨i, hi⟩
  by_cases h : i < l.length
  · have h1 : decide ((i : Int) < l.length) = true := by simp only [decide_eq_true_eq]; omega
    obtain ⟨x, hx⟩ := get_of_lt h
    have hxl := hw x (List.mem_of_getElem? hx)
    have e2 : IntKind.i64.wrap ((i : Int) + 1) = ((i + 1 : Nat) : Int) := wrap_i64 _ (by omega)
    (repeat (first | refine SW.seq ?_ | refine SW.block ?_ | (refine SW.regL [0, 1, 4, 5, 10, 14, 26] mixed ?_; (repeat (first | refine RW.ro (And.intro (h1) (And.intro (op_at hx) (And.intro (op_room0 hx) (e2)))) (h := ?_) | refine RW.skip (h := ?_) | refine RW.op (And.intro (h1) (And.intro (op_at hx) (And.intro (op_room0 hx) (e2)))) (h := ?_) | refine RW.opN (And.intro (h1) (And.intro (op_at hx) (And.intro (op_room0 hx) (e2)))) (h := ?_) | refine RW.skip0 (h := ?_) | (refine RW.callC (h := ?_); (first | refine CallP.mk (And.intro (h1) (And.intro (op_at hx) (And.intro (op_room0 hx) (e2)))) (hc := same_at _ (by assumption) _) (h := ?_))))); refine RW.nil ⟨by kernel_rfl, Pruned.mk (h := ?_)⟩) | refine SW.skip ?_ | refine SW.exit ?_ | refine SW.ret ?_ | refine SW.condT rfl ?_ | refine SW.condF rfl ?_))
    exact Next.mk ⟨i + 1, by omega⟩ id bq_tt
  · have h1 : decide ((i : Int) < l.length) = false := by simp only [decide_eq_false_iff_not]; omega
    (repeat (first | refine SW.seq ?_ | refine SW.block ?_ | (refine SW.regL [0, 1, 4, 5, 10, 14, 26] mixed ?_; (repeat (first | refine RW.ro (h1) (h := ?_) | refine RW.skip (h := ?_) | refine RW.op (h1) (h := ?_) | refine RW.opN (h1) (h := ?_) | refine RW.skip0 (h := ?_) | (refine RW.callC (h := ?_); (first | refine CallP.mk (h1) (hc := same_at _ (by assumption) _) (h := ?_))))); refine RW.nil ⟨by kernel_rfl, Pruned.mk (h := ?_)⟩) | refine SW.skip ?_ | refine SW.exit ?_ | refine SW.ret ?_ | refine SW.condT rfl ?_ | refine SW.condF rfl ?_))
    exact End.mk [] (h4 := ⟨rfl, rfl⟩)
theorem sameAll_at (l : List OpD) (hl : l.length < 4611686018427387904) (hw : ∀ x, x ∈ l → lnOk x) (k : Nat) : SCd Try.prog ref05_SameAll.f [ops l, ops l] [] k 0 (bl true) [] := (sameAll_ok l hl hw).sc rfl k

/-! ### lines cloned -/
theorem clone_nil : Go.Sl.Pure Try.prog slices_Clone_Lapi_Claim_api_Claim.f [.d .nils] (.d .nils) := by
  refine slices_Clone_Lapi_Claim_api_Claim.enter (by first | rfl | simp [SV.ok, SV.oks]) (by first | rfl | simp [Hp.ok, Ob.ok, SV.ok, SV.oks, Vec.cells_ok]) (by simp) ?_
  dsimp only [slices_Clone_Lapi_Claim_api_Claim.s, Co.M, Co.G, Co.J, Co.H, Co.N, Co.F, Co.C, Co.Z, Co.B, Co.b8, Co.b32, Co.b64, Co.i6, Co.z8, Co.z29]
  (repeat (first | refine SW.seq ?_ | refine SW.block ?_ | (refine SW.regL [0, 2, 4] mixed ?_; (repeat (first | refine RW.ro bq_tt (h := ?_) | refine RW.skip (h := ?_) | refine RW.op bq_tt (h := ?_) | refine RW.opN bq_tt (h := ?_) | refine RW.skip0 (h := ?_))); refine RW.nil ⟨by kernel_rfl, Pruned.mk (h := ?_)⟩) | refine SW.skip ?_ | refine SW.exit ?_ | refine SW.ret ?_ | refine SW.condT rfl ?_ | refine SW.condF rfl ?_))
  exact End.mk [] (h4 := ⟨rfl, rfl⟩)
end Go.Proofs.Ytgjgfamgbhlmfaa

/-
  Operations in the order: lines cloned; the document's sorted rows, and what one lacks.
-/
set_option linter.unusedSectionVars false
set_option linter.unusedVariables false
set_option linter.unusedSimpArgs false
namespace Go.Proofs.Ytgjgfamgbhlmfaa
open Go.Sl Go.Proofs Go.RowKit
attribute [local irreducible] SW RW SCd SC CallP Pruned

theorem cloneL_ok (cl : List Cm) (hl : cl.length ≤ 1048576) : Go.Sl.Pure Try.prog slices_Clone_Lapi_Claim_api_Claim.f [.d (.sl cl.length (cl.flatMap Cm.ds))] (.d (.sl cl.length (cl.flatMap Cm.ds))) := by
  refine slices_Clone_Lapi_Claim_api_Claim.enter (by first | rfl | simp [SV.ok, SV.oks]) (by first | rfl | simp [Hp.ok, Ob.ok, SV.ok, SV.oks, Vec.cells_ok]) (by simp) ?_
  dsimp only [slices_Clone_Lapi_Claim_api_Claim.s, Co.M, Co.G, Co.J, Co.H, Co.N, Co.F, Co.C, Co.Z, Co.B, Co.b8, Co.b32, Co.b64, Co.i6, Co.z8, Co.z29]
  refine SW.seq ?_
  (refine SW.regL [0, 2, 4] mixed ?_; (repeat (first | refine RW.ro bq_tt (h := ?_) | refine RW.skip (h := ?_) | refine RW.op bq_tt (h := ?_) | refine RW.opN bq_tt (h := ?_) | refine RW.skip0 (h := ?_))); refine RW.nil ⟨by kernel_rfl, Pruned.mk (h := ?_)⟩)
  refine SW.seq (SW.seq (SW.nilS (n := cl.length) (cs := cl.flatMap Cm.ds) rfl ?_ fun h0 => ?_))
  · refine SW.condF rfl (SW.skip ?_)
    refine (?_ : Sl.SW _ _ _ _ _ _)
    refine SW.seq ?_
    have hlen : cl.length * 4 = cl.length * 4 := rfl
    (refine SW.regL [0, 2, 4] mixed ?_; (repeat (first | refine RW.ro bq_tt (h := ?_) | refine RW.skip (h := ?_) | refine RW.op bq_tt (h := ?_) | refine RW.opN bq_tt (h := ?_) | refine RW.skip0 (h := ?_))); refine RW.nil ⟨by kernel_rfl, Pruned.mk (h := ?_)⟩)
    refine SW.freeze 1 (cl.flatMap Cm.ds) rfl (by simp) ?_
    simp only [frzE, SV.frz, List.map_cons, List.map_nil, if_true, if_false, reduceIte, hdel, Nat.reduceEqDiff]
    refine SW.ret ?_
    exact End.mk [] (h4 := ⟨by simp [retV], rfl⟩)
  · have hl0 : cl = [] := List.eq_nil_of_length_eq_zero h0
    subst hl0
    refine SW.condT rfl (SW.seq ?_)
    (refine SW.regL [0, 2, 4] mixed ?_; (repeat (first | refine RW.ro bq_tt (h := ?_) | refine RW.skip (h := ?_) | refine RW.op bq_tt (h := ?_) | refine RW.opN bq_tt (h := ?_) | refine RW.skip0 (h := ?_))); refine RW.nil ⟨by kernel_rfl, Pruned.mk (h := ?_)⟩)
    refine SW.nils 2 rfl ?_
    refine SW.ret ?_
    exact End.mk [] (h4 := ⟨rfl, rfl⟩)
theorem cloneL_at (o : OpD) (h : o.lin) (hl : o.cl.length ≤ 1048576) (k : Nat) : SCd Try.prog slices_Clone_Lapi_Claim_api_Claim.f [.d o.lines] [] k 0 (.d o.lines) [] := by
  have := (cloneL_ok o.cl hl).sc rfl k
  rwa [← h.eq] at this

/-! ### the document's sorted rows -/
theorem ops_drop : ∀ (l : List OpD) (i : Nat), (l.flatMap OpD.ds).drop (i * 29) = (l.drop i).flatMap OpD.ds
  | [], i => by simp
  | x :: l, 0 => by simp
  | x :: l, i + 1 => by
    have := ops_drop l i
    rw [List.drop_succ_cons, ← this, List.flatMap_cons, List.drop_append]
    rw [show (i + 1) * 29 - x.ds.length = i * 29 by rw [OpD.ds_len]; omega, List.drop_of_length_le (by rw [OpD.ds_len]; omega)]
    rfl
theorem ops_rest (l : List OpD) (i : Nat) : ((l.flatMap OpD.ds).drop (i * 29)).take ((l.length - i) * 29) = (l.drop i).flatMap OpD.ds := by
  rw [ops_drop, List.take_of_length_le]
  rw [ops_len]; simp
theorem ops_take : ∀ (l : List OpD) (i : Nat), (l.flatMap OpD.ds).take (i * 29) = (l.take i).flatMap OpD.ds
  | [], i => by simp
  | x :: l, 0 => by simp
  | x :: l, i + 1 => by
    have := ops_take l i
    rw [List.take_succ_cons, List.flatMap_cons, List.flatMap_cons, List.take_append, ← this, OpD.ds_len, show (i + 1) * 29 - 29 = i * 29 by omega, List.take_of_length_le (by rw [OpD.ds_len]; omega)]
set_option maxRecDepth 100000 in
theorem lit1 {P : Program} {env : List (Nat × SV)} {hp : Hp} {k d p : Nat} {r : List SI} {K : St → List (Bool × List Nat) → Prop} {a : OpD} {z : List SV} (hz : z = zOp)
    (ha : env.lookup p = some (.agg a.cells))
    (h : RW P r ⟨(d, ops [a]) :: env, hp, k⟩ fun st' ts => K st' ((false, []) :: ts)) : RW P (⟨some d, .bsl 48 29 1 z [(0, 29, .t p)], none⟩ :: r) ⟨env, hp, k⟩ K := by
  subst hz
  refine RW.cons (e := ⟨ops [a], [], [], 0, ((29 = 29 ∧ 0 + 29 ≤ 29 ∧ True))⟩) (fun crs => ⟨.frz :: crs, runOp_some (.inl rfl) ?_⟩) (by show 29 = 29 ∧ 0 + 29 ≤ 29 ∧ True; decide) ?_
  · have h1 : evp (fun t => env.lookup t) [(0, 29, X.t p)] = some [(0, 29, .agg a.cells)] := by
      simp only [evp, ev, ha]
    have h2 : bldS zOp [(0, 29, .agg a.cells)] = some (a.cells, ((29 = 29 ∧ 0 + 29 ≤ 29 ∧ True))) := rfl
    have h3 : datas a.cells = some ([a].flatMap OpD.ds) := rfl
    have h4 : a.cells.all SV.isOne = true := rfl
    simp only [goOp, sop, h1, h2, h3, h4, if_true, Bool.false_or]
    rfl
  · exact h
set_option maxHeartbeats 4000000 in
theorem rsorted_ok (l : List OpD) (hl : l.length ≤ 1048576) : Go.Sl.Pure Try.prog ref11_Sorted.f [ops l] (ops (sortedR l)) := by
  refine ref11_Sorted.enter (by first | rfl | simp [SV.ok, SV.oks]) (by first | rfl | simp [Hp.ok, Ob.ok, SV.ok, SV.oks, Vec.cells_ok]) (by simp) ?_
  dsimp only [ref11_Sorted.s, Co.M, Co.G, Co.J, Co.H, Co.N, Co.F, Co.C, Co.Z, Co.B, Co.b8, Co.b32, Co.b64, Co.i6, Co.z8, Co.z29]
  refine SW.seq ?_
  (refine SW.regL [0, 2, 3, 4, 5, 9, 26] mixed ?_; (repeat (first | refine RW.ro bq_tt (h := ?_) | refine RW.skip (h := ?_) | refine RW.op bq_tt (h := ?_) | refine RW.opN bq_tt (h := ?_) | refine RW.skip0 (h := ?_) | refine lit1 rfl rfl (h := ?_) | (refine RW.callC (h := ?_); (first | refine CallP.mk bq_tt (hc := ahead_at _ _ _) (h := ?_))))); refine RW.nil ⟨by kernel_rfl, Pruned.mk (h := ?_)⟩)
  refine SW.seq ?_
  (refine SW.regL [0, 2, 3, 4, 5, 9, 26] mixed ?_; (repeat (first | refine RW.ro bq_tt (h := ?_) | refine RW.skip (h := ?_) | refine RW.op bq_tt (h := ?_) | refine RW.opN bq_tt (h := ?_) | refine RW.skip0 (h := ?_) | refine lit1 rfl rfl (h := ?_) | (refine RW.callC (h := ?_); (first | refine CallP.mk bq_tt (hc := ahead_at _ _ _) (h := ?_))))); refine RW.nil ⟨by kernel_rfl, Pruned.mk (h := ?_)⟩)
  refine SW.nils 3 rfl ?_
  refine SW.seq (SW.seq ?_)
  (refine SW.regL [0, 2, 3, 4, 5, 9, 26] mixed ?_; (repeat (first | refine RW.ro bq_tt (h := ?_) | refine RW.skip (h := ?_) | refine RW.op bq_tt (h := ?_) | refine RW.opN bq_tt (h := ?_) | refine RW.skip0 (h := ?_) | refine lit1 rfl rfl (h := ?_) | (refine RW.callC (h := ?_); (first | refine CallP.mk bq_tt (hc := ahead_at _ _ _) (h := ?_))))); refine RW.nil ⟨by kernel_rfl, Pruned.mk (h := ?_)⟩)
  refine SW.block ?_
  refine SW.loopA (α := {i : Nat // i ≤ l.length}) (fun i => ⟨[(4, i64 i.1), (0, ops l), (3, ops (sortedR (l.take i.1)))], [], 0⟩) (fun i => l.length - i.1) ⟨0, by omega⟩ id (And.intro (show sortedR [] = [] from rfl) bq_tt) (round := ?_)
  rintro ⟨i, hi⟩
  dsimp only
  by_cases h : i < l.length
  · have h1 : decide ((i : Int) < l.length) = true := by simp only [decide_eq_true_eq]; omega
    obtain ⟨x, hx⟩ := get_of_lt h
    have e2 : IntKind.i64.wrap ((i : Int) + 1) = ((i + 1 : Nat) : Int) := wrap_i64 _ (by omega)
    have e1 : l.take (i + 1) = l.take i ++ [x] := take_snoc hx
    have hsn := sortedR_snoc (l.take i) x
    rw [← e1] at hsn
    have hlen : (sortedR (l.take i)).length ≤ i := by rw [(sortedR_perm _).length_eq]; simp; omega
    generalize sortedR (l.take i) = s at hsn hlen ⊢
    refine SW.seq (SW.seq ?_)
    (refine SW.regL [0, 2, 3, 4, 5, 9, 26] mixed ?_; (repeat (first | refine RW.ro (h1) (h := ?_) | refine RW.skip (h := ?_) | refine RW.op (h1) (h := ?_) | refine RW.opN (h1) (h := ?_) | refine RW.skip0 (h := ?_) | refine lit1 rfl rfl (h := ?_) | (refine RW.callC (h := ?_); (first | refine CallP.mk (h1) (hc := ahead_at _ _ _) (h := ?_))))); refine RW.nil ⟨by kernel_rfl, Pruned.mk (h := ?_)⟩)
    refine SW.condT rfl (SW.skip ?_)
    refine SW.seq (SW.block (SW.seq ?_))
    (refine SW.regL [0, 2, 3, 4, 5, 9, 26] mixed ?_; (repeat (first | refine RW.ro bq_tt (h := ?_) | refine RW.skip (h := ?_) | refine RW.op bq_tt (h := ?_) | refine RW.opN bq_tt (h := ?_) | refine RW.skip0 (h := ?_) | refine lit1 rfl rfl (h := ?_) | (refine RW.callC (h := ?_); (first | refine CallP.mk bq_tt (hc := ahead_at _ _ _) (h := ?_))))); refine RW.nil ⟨by kernel_rfl, Pruned.mk (h := ?_)⟩)
    refine SW.seq (SW.block ?_)
    refine SW.loopA (α := {k : Nat // k ≤ s.length ∧ ∀ j y, j < k → s[j]? = some y → y.lt x = true}) (fun k => ⟨[(5, i64 k.1), (4, i64 i), (0, ops l), (3, ops s)], [], 0⟩) (fun k => s.length - k.1) ⟨0, by omega, by omega⟩ id bq_tt (round := ?_)
    rintro ⟨k, hk, hs⟩
    have last : ∀ (hn : ∀ y, s[k]? = some y → y.lt x = false), insL s x = s.take k ++ x :: s.drop k := fun hn => by
      have key : ∀ (s : List OpD) (k : Nat), k ≤ s.length → (∀ j y, j < k → s[j]? = some y → y.lt x = true) → (∀ y, s[k]? = some y → y.lt x = false) → s.takeWhile (fun y => y.lt x) = s.take k ∧ s.dropWhile (fun y => y.lt x) = s.drop k := by
        intro s
        induction s with
        | nil => intro k hk _ _; have : k = 0 := by simpa using hk
                 subst this; exact ⟨rfl, rfl⟩
        | cons z s ih =>
          intro k hk h1 h2
          cases k with
          | zero => have := h2 z rfl; simp [this]
          | succ k =>
            have hz := h1 0 z (by omega) rfl
            obtain ⟨a, b⟩ := ih k (by simpa using hk) (fun j y hj hy => h1 (j + 1) y (by omega) hy) (fun y hy => h2 y hy)
            simp [hz, a, b]
      unfold insL
      rw [(key s k hk hs hn).1, (key s k hk hs hn).2]
    by_cases hks : k < s.length
    · obtain ⟨y, hy⟩ := get_of_lt hks
      have k1 : decide ((k : Int) < s.length) = true := by simp only [decide_eq_true_eq]; omega
      have k2 : IntKind.i64.wrap ((k : Int) + 1) = ((k + 1 : Nat) : Int) := wrap_i64 _ (by omega)
      rcases hyx : y.lt x with _ | _
      · refine SW.seq (SW.seq ?_)
        (refine SW.regL [0, 2, 3, 4, 5, 9, 26] mixed ?_; (repeat (first | refine RW.ro (And.intro (k1) (And.intro (op_at hy) (And.intro (op_room0 hy) (And.intro (op_at hx) (And.intro (op_room0 hx) (hyx)))))) (h := ?_) | refine RW.skip (h := ?_) | refine RW.op (And.intro (k1) (And.intro (op_at hy) (And.intro (op_room0 hy) (And.intro (op_at hx) (And.intro (op_room0 hx) (hyx)))))) (h := ?_) | refine RW.opN (And.intro (k1) (And.intro (op_at hy) (And.intro (op_room0 hy) (And.intro (op_at hx) (And.intro (op_room0 hx) (hyx)))))) (h := ?_) | refine RW.skip0 (h := ?_) | refine lit1 rfl rfl (h := ?_) | (refine RW.callC (h := ?_); (first | refine CallP.mk (And.intro (k1) (And.intro (op_at hy) (And.intro (op_room0 hy) (And.intro (op_at hx) (And.intro (op_room0 hx) (hyx)))))) (hc := ahead_at _ _ _) (h := ?_))))); refine RW.nil ⟨by kernel_rfl, Pruned.mk (h := ?_)⟩)
        have hins := last fun z hz => by rw [hy] at hz; injection hz with hz; rw [← hz]; exact hyx
        refine SW.condF rfl (SW.exit ?_)
        have e0 : (k : Int).toNat = k := Int.toNat_natCast k
        (refine SW.regL [0, 2, 3, 4, 5, 9, 26] mixed ?_; (repeat (first | refine RW.ro (And.intro (e0) (And.intro (op_at hx) (op_room0 hx))) (h := ?_) | refine RW.skip (h := ?_) | refine RW.op (And.intro (e0) (And.intro (op_at hx) (op_room0 hx))) (h := ?_) | refine RW.opN (And.intro (e0) (And.intro (op_at hx) (op_room0 hx))) (h := ?_) | refine RW.skip0 (h := ?_) | refine lit1 rfl rfl (h := ?_) | (refine RW.callC (h := ?_); (first | refine CallP.mk (And.intro (e0) (And.intro (op_at hx) (op_room0 hx))) (hc := ahead_at _ _ _) (h := ?_))))); refine RW.nil ⟨by kernel_rfl, Pruned.mk (h := ?_)⟩)
        have hlen2 : k - 0 + [x].length + (s.length - k) = (insL s x).length := by rw [hins]; simp; omega
        refine SW.freeze 3 ((insL s x).flatMap OpD.ds) rfl (by rw [ops_rest, Nat.sub_zero, ops_take, hins]; simp) ?_
        simp only [frzE, SV.frz, List.map_cons, List.map_nil, if_true, if_false, reduceIte, hdel, Nat.reduceEqDiff, hlen2]
        (repeat (first | refine SW.seq ?_ | refine SW.block ?_ | (refine SW.regL [0, 2, 3, 4, 5, 9, 26] mixed ?_; (repeat (first | refine RW.ro (e2) (h := ?_) | refine RW.skip (h := ?_) | refine RW.op (e2) (h := ?_) | refine RW.opN (e2) (h := ?_) | refine RW.skip0 (h := ?_) | refine lit1 rfl rfl (h := ?_) | (refine RW.callC (h := ?_); (first | refine CallP.mk (e2) (hc := ahead_at _ _ _) (h := ?_))))); refine RW.nil ⟨by kernel_rfl, Pruned.mk (h := ?_)⟩) | refine SW.skip ?_ | refine SW.exit ?_ | refine SW.ret ?_ | refine SW.condT rfl ?_ | refine SW.condF rfl ?_))
        dsimp only
        exact ⟨⟨i + 1, by omega⟩, id, by show l.length - (i + 1) < _; omega, Weak.mk (And.intro hsn bq_tt)⟩
      · (repeat (first | refine SW.seq ?_ | refine SW.block ?_ | (refine SW.regL [0, 2, 3, 4, 5, 9, 26] mixed ?_; (repeat (first | refine RW.ro (And.intro (k1) (And.intro (op_at hy) (And.intro (op_room0 hy) (And.intro (op_at hx) (And.intro (op_room0 hx) (And.intro (hyx) (k2))))))) (h := ?_) | refine RW.skip (h := ?_) | refine RW.op (And.intro (k1) (And.intro (op_at hy) (And.intro (op_room0 hy) (And.intro (op_at hx) (And.intro (op_room0 hx) (And.intro (hyx) (k2))))))) (h := ?_) | refine RW.opN (And.intro (k1) (And.intro (op_at hy) (And.intro (op_room0 hy) (And.intro (op_at hx) (And.intro (op_room0 hx) (And.intro (hyx) (k2))))))) (h := ?_) | refine RW.skip0 (h := ?_) | refine lit1 rfl rfl (h := ?_) | (refine RW.callC (h := ?_); (first | refine CallP.mk (And.intro (k1) (And.intro (op_at hy) (And.intro (op_room0 hy) (And.intro (op_at hx) (And.intro (op_room0 hx) (And.intro (hyx) (k2))))))) (hc := ahead_at _ _ _) (h := ?_))))); refine RW.nil ⟨by kernel_rfl, Pruned.mk (h := ?_)⟩) | refine SW.skip ?_ | refine SW.exit ?_ | refine SW.ret ?_ | refine SW.condT rfl ?_ | refine SW.condF rfl ?_))
        refine Next.mk ⟨k + 1, by omega, fun j z hj hz => ?_⟩ id bq_tt
        rcases Nat.lt_or_ge j k with h3 | h3
        · exact hs j z h3 hz
        · have : j = k := by omega
          subst this
          rw [hy] at hz; injection hz with hz; rw [← hz]; exact hyx
    · have k1 : decide ((k : Int) < s.length) = false := by simp only [decide_eq_false_iff_not]; omega
      have hins := last fun z hz => by rw [List.getElem?_eq_none (by omega)] at hz; cases hz
      refine SW.seq (SW.seq ?_)
      (refine SW.regL [0, 2, 3, 4, 5, 9, 26] mixed ?_; (repeat (first | refine RW.ro (k1) (h := ?_) | refine RW.skip (h := ?_) | refine RW.op (k1) (h := ?_) | refine RW.opN (k1) (h := ?_) | refine RW.skip0 (h := ?_) | refine lit1 rfl rfl (h := ?_) | (refine RW.callC (h := ?_); (first | refine CallP.mk (k1) (hc := ahead_at _ _ _) (h := ?_))))); refine RW.nil ⟨by kernel_rfl, Pruned.mk (h := ?_)⟩)
      refine SW.condF rfl (SW.exit ?_)
      have e0 : (k : Int).toNat = k := Int.toNat_natCast k
      (refine SW.regL [0, 2, 3, 4, 5, 9, 26] mixed ?_; (repeat (first | refine RW.ro (And.intro (e0) (And.intro (op_at hx) (op_room0 hx))) (h := ?_) | refine RW.skip (h := ?_) | refine RW.op (And.intro (e0) (And.intro (op_at hx) (op_room0 hx))) (h := ?_) | refine RW.opN (And.intro (e0) (And.intro (op_at hx) (op_room0 hx))) (h := ?_) | refine RW.skip0 (h := ?_) | refine lit1 rfl rfl (h := ?_) | (refine RW.callC (h := ?_); (first | refine CallP.mk (And.intro (e0) (And.intro (op_at hx) (op_room0 hx))) (hc := ahead_at _ _ _) (h := ?_))))); refine RW.nil ⟨by kernel_rfl, Pruned.mk (h := ?_)⟩)
      have hlen2 : k - 0 + [x].length + (s.length - k) = (insL s x).length := by rw [hins]; simp; omega
      refine SW.freeze 3 ((insL s x).flatMap OpD.ds) rfl (by rw [ops_rest, Nat.sub_zero, ops_take, hins]; simp) ?_
      simp only [frzE, SV.frz, List.map_cons, List.map_nil, if_true, if_false, reduceIte, hdel, Nat.reduceEqDiff, hlen2]
      (repeat (first | refine SW.seq ?_ | refine SW.block ?_ | (refine SW.regL [0, 2, 3, 4, 5, 9, 26] mixed ?_; (repeat (first | refine RW.ro (e2) (h := ?_) | refine RW.skip (h := ?_) | refine RW.op (e2) (h := ?_) | refine RW.opN (e2) (h := ?_) | refine RW.skip0 (h := ?_) | refine lit1 rfl rfl (h := ?_) | (refine RW.callC (h := ?_); (first | refine CallP.mk (e2) (hc := ahead_at _ _ _) (h := ?_))))); refine RW.nil ⟨by kernel_rfl, Pruned.mk (h := ?_)⟩) | refine SW.skip ?_ | refine SW.exit ?_ | refine SW.ret ?_ | refine SW.condT rfl ?_ | refine SW.condF rfl ?_))
      dsimp only
      exact ⟨⟨i + 1, by omega⟩, id, by show l.length - (i + 1) < _; omega, Weak.mk (And.intro hsn bq_tt)⟩
  · have h1 : decide ((i : Int) < l.length) = false := by simp only [decide_eq_false_iff_not]; omega
    have h2 : i = l.length := by omega
    subst h2
    rw [List.take_length]
    have hlen : (sortedR l).length = l.length := (sortedR_perm l).length_eq
    (repeat (first | refine SW.seq ?_ | refine SW.block ?_ | (refine SW.regL [0, 2, 3, 4, 5, 9, 26] mixed ?_; (repeat (first | refine RW.ro (h1) (h := ?_) | refine RW.skip (h := ?_) | refine RW.op (h1) (h := ?_) | refine RW.opN (h1) (h := ?_) | refine RW.skip0 (h := ?_) | refine lit1 rfl rfl (h := ?_) | (refine RW.callC (h := ?_); (first | refine CallP.mk (h1) (hc := ahead_at _ _ _) (h := ?_))))); refine RW.nil ⟨by kernel_rfl, Pruned.mk (h := ?_)⟩) | refine SW.skip ?_ | refine SW.exit ?_ | refine SW.ret ?_ | refine SW.condT rfl ?_ | refine SW.condF rfl ?_))
    exact End.mk [] (h4 := ⟨rfl, rfl⟩)
theorem rsorted_at (l : List OpD) (hl : l.length ≤ 1048576) (k : Nat) : SCd Try.prog ref11_Sorted.f [ops l] [] k 0 (ops (sortedR l)) [] := (rsorted_ok l hl).sc rfl k
end Go.Proofs.Ytgjgfamgbhlmfaa

/-
  Gossip: what one lacks, by the document.
-/
set_option linter.unusedSectionVars false
set_option linter.unusedVariables false
set_option linter.unusedSimpArgs false
namespace Go.Proofs.Ytgjgfamgbhlmfaa
open Go.Sl Go.Proofs Go.RowKit
attribute [local irreducible] SW RW SCd SC CallP Pruned

/-- What of a row a vector does not cover, each dot once. -/
def lackL (l : List OpD) (v : Vec) : List OpD := (fstO l).filter fun o => !v.covers o.dot
theorem lackL_snoc (l : List OpD) (x : OpD) (v : Vec) : lackL (l ++ [x]) v = if (!v.covers x.dot && !(findO l x.dot).isSome) then lackL l v ++ [x] else lackL l v := by
  unfold lackL
  rw [fstO_snoc]
  by_cases h : (findO l x.dot).isSome = true
  · simp [h]
  · rw [if_neg h, List.filter_append]
    cases hc : v.covers x.dot <;> simp [h, hc]
theorem lackL_uniq (l : List OpD) (v : Vec) : Uniq (lackL l v) := (fstO_uniq l).sub List.filter_sublist
theorem lackL_len (l : List OpD) (v : Vec) : (lackL l v).length ≤ l.length := Nat.le_trans (List.length_filter_le _ _) (fstO_sub l).length_le
theorem lackL_mem {l : List OpD} {v : Vec} {o : OpD} (h : o ∈ lackL l v) : o ∈ l := (fstO_sub l).subset (List.mem_filter.1 h).1
theorem ops_cut (l : List OpD) (i : Nat) (h : i ≤ l.length) : ops (l.take i) = .d (.sl (i - 0) (List.take ((i - 0) * 29) (l.flatMap OpD.ds))) := by
  unfold ops
  rw [Nat.sub_zero, ops_take, List.length_take, Nat.min_eq_left h]
set_option maxHeartbeats 4000000 in
theorem rlacks_ok (l : List OpD) (hl : l.length ≤ 1048576) (v : Vec) : Go.Sl.Pure Try.prog ref14_Lacks.f [ops l, .agg v.cells] (ops (sortedR (lackL l v))) := by
  refine ref14_Lacks.enter (by first | rfl | simp [SV.ok, SV.oks]) (by first | rfl | simp [Hp.ok, Ob.ok, SV.ok, SV.oks, Vec.cells_ok]) (by simp) ?_
  dsimp only [ref14_Lacks.s, Co.M, Co.G, Co.J, Co.H, Co.N, Co.F, Co.C, Co.Z, Co.B, Co.b8, Co.b32, Co.b64, Co.i6, Co.z8, Co.z29]
  refine SW.seq ?_
  (refine SW.regL [0, 1, 3, 4, 5, 6, 10, 32] mixed ?_; (repeat (first | refine RW.ro bq_tt (h := ?_) | refine RW.skip (h := ?_) | refine RW.op bq_tt (h := ?_) | refine RW.opN bq_tt (h := ?_) | refine RW.skip0 (h := ?_) | refine lit1 rfl rfl (h := ?_))); refine RW.nil ⟨by kernel_rfl, Pruned.mk (h := ?_)⟩)
  refine SW.seq ?_
  (refine SW.regL [0, 1, 3, 4, 5, 6, 10, 32] mixed ?_; (repeat (first | refine RW.ro bq_tt (h := ?_) | refine RW.skip (h := ?_) | refine RW.op bq_tt (h := ?_) | refine RW.opN bq_tt (h := ?_) | refine RW.skip0 (h := ?_) | refine lit1 rfl rfl (h := ?_))); refine RW.nil ⟨by kernel_rfl, Pruned.mk (h := ?_)⟩)
  refine SW.nilrow 5 48 29 rfl ?_
  refine SW.seq (SW.seq ?_)
  (refine SW.regL [0, 1, 3, 4, 5, 6, 10, 32] mixed ?_; (repeat (first | refine RW.ro bq_tt (h := ?_) | refine RW.skip (h := ?_) | refine RW.op bq_tt (h := ?_) | refine RW.opN bq_tt (h := ?_) | refine RW.skip0 (h := ?_) | refine lit1 rfl rfl (h := ?_))); refine RW.nil ⟨by kernel_rfl, Pruned.mk (h := ?_)⟩)
  refine SW.block ?_
  refine SW.loopA (α := {i : Nat // i ≤ l.length}) (fun i => ⟨[(6, i64 i.1), (0, ops l), (3, .ptr 0 0), (5, .gs 1 (lackL (l.take i.1) v).length)], [(1, .arr 48 29 (lackL (l.take i.1) v).length (opc (lackL (l.take i.1) v))), (0, .box 25 v.cells)], 2⟩) (fun i => l.length - i.1) ⟨0, by omega⟩ id (And.intro (show lackL [] v = [] from rfl) bq_tt) (round := ?_)
  rintro ⟨i, hi⟩
  dsimp only
  by_cases h : i < l.length
  · have h1 : decide ((i : Int) < l.length) = true := by simp only [decide_eq_true_eq]; omega
    obtain ⟨x, hx⟩ := get_of_lt h
    have e2 : IntKind.i64.wrap ((i : Int) + 1) = ((i + 1 : Nat) : Int) := wrap_i64 _ (by omega)
    have e1 : l.take (i + 1) = l.take i ++ [x] := take_snoc hx
    have hsn := lackL_snoc (l.take i) x v
    rw [← e1] at hsn
    have hlen : (lackL (l.take i) v).length ≤ i := Nat.le_trans (lackL_len _ _) (by simp; omega)
    have hh := fun k => has_at (l.take i) (by simp; omega) x.dot k
    rw [ops_cut l i hi] at hh
    have e0 : (i : Int).toNat = i := Int.toNat_natCast i
    have hc := rcov_at v x.dot
    generalize lackL (l.take i) v = s at hsn hlen ⊢
    rcases c1 : v.covers x.dot with _ | _
    · rcases c2 : (findO (l.take i) x.dot).isSome with _ | _
      · rw [c1] at hc; rw [c2] at hh
        rw [c1, c2] at hsn
        simp only [Bool.not_false, Bool.and_self, if_true] at hsn
        (repeat (first | refine SW.seq ?_ | refine SW.block ?_ | (refine SW.regL [0, 1, 3, 4, 5, 6, 10, 32] mixed ?_; (repeat (first | refine RW.ro (And.intro (h1) (And.intro (op_load hx) (And.intro (op_roomd hx) (And.intro (op_at hx) (And.intro (op_room0 hx) (And.intro (e0) (e2))))))) (h := ?_) | refine RW.skip (h := ?_) | refine RW.op (And.intro (h1) (And.intro (op_load hx) (And.intro (op_roomd hx) (And.intro (op_at hx) (And.intro (op_room0 hx) (And.intro (e0) (e2))))))) (h := ?_) | refine RW.opN (And.intro (h1) (And.intro (op_load hx) (And.intro (op_roomd hx) (And.intro (op_at hx) (And.intro (op_room0 hx) (And.intro (e0) (e2))))))) (h := ?_) | refine RW.skip0 (h := ?_) | refine lit1 rfl rfl (h := ?_) | (refine RW.callC (h := ?_); (first | refine CallP.mk (And.intro (h1) (And.intro (op_load hx) (And.intro (op_roomd hx) (And.intro (op_at hx) (And.intro (op_room0 hx) (And.intro (e0) (e2))))))) (hc := hc _) (h := ?_) | refine CallP.mk (And.intro (h1) (And.intro (op_load hx) (And.intro (op_roomd hx) (And.intro (op_at hx) (And.intro (op_room0 hx) (And.intro (e0) (e2))))))) (hc := hh _) (h := ?_))))); refine RW.nil ⟨by kernel_rfl, Pruned.mk (h := ?_)⟩) | refine SW.skip ?_ | refine SW.exit ?_ | refine SW.ret ?_ | refine SW.condT rfl ?_ | refine SW.condF rfl ?_))
        dsimp only
        have e5 : (s ++ [x]).length = s.length + [x].length := by simp
        have e6 : List.map SV.d ((s ++ [x]).flatMap OpD.ds) = List.map SV.d (s.flatMap OpD.ds) ++ List.map SV.d ([x].flatMap OpD.ds) := by simp
        refine ⟨⟨i + 1, by omega⟩, fun n => if n = 1 then 2 else n, by show l.length - (i + 1) < _; omega, ?_⟩
        dsimp only
        rw [hsn]
        exact Weak.mk (And.intro e5 e6)
      · rw [c1] at hc; rw [c2] at hh
        rw [c1, c2] at hsn
        simp only [Bool.not_false, Bool.not_true, Bool.and_false, Bool.false_eq_true, if_false] at hsn
        (repeat (first | refine SW.seq ?_ | refine SW.block ?_ | (refine SW.regL [0, 1, 3, 4, 5, 6, 10, 32] mixed ?_; (repeat (first | refine RW.ro (And.intro (h1) (And.intro (op_load hx) (And.intro (op_roomd hx) (And.intro (op_at hx) (And.intro (op_room0 hx) (And.intro (e0) (e2))))))) (h := ?_) | refine RW.skip (h := ?_) | refine RW.op (And.intro (h1) (And.intro (op_load hx) (And.intro (op_roomd hx) (And.intro (op_at hx) (And.intro (op_room0 hx) (And.intro (e0) (e2))))))) (h := ?_) | refine RW.opN (And.intro (h1) (And.intro (op_load hx) (And.intro (op_roomd hx) (And.intro (op_at hx) (And.intro (op_room0 hx) (And.intro (e0) (e2))))))) (h := ?_) | refine RW.skip0 (h := ?_) | refine lit1 rfl rfl (h := ?_) | (refine RW.callC (h := ?_); (first | refine CallP.mk (And.intro (h1) (And.intro (op_load hx) (And.intro (op_roomd hx) (And.intro (op_at hx) (And.intro (op_room0 hx) (And.intro (e0) (e2))))))) (hc := hc _) (h := ?_) | refine CallP.mk (And.intro (h1) (And.intro (op_load hx) (And.intro (op_roomd hx) (And.intro (op_at hx) (And.intro (op_room0 hx) (And.intro (e0) (e2))))))) (hc := hh _) (h := ?_))))); refine RW.nil ⟨by kernel_rfl, Pruned.mk (h := ?_)⟩) | refine SW.skip ?_ | refine SW.exit ?_ | refine SW.ret ?_ | refine SW.condT rfl ?_ | refine SW.condF rfl ?_))
        dsimp only
        refine ⟨⟨i + 1, by omega⟩, id, by show l.length - (i + 1) < _; omega, ?_⟩
        dsimp only
        rw [hsn]
        exact Weak.mk bq_tt
    · rw [c1] at hc
      rw [c1] at hsn
      simp only [Bool.not_true, Bool.false_and, Bool.false_eq_true, if_false] at hsn
      (repeat (first | refine SW.seq ?_ | refine SW.block ?_ | (refine SW.regL [0, 1, 3, 4, 5, 6, 10, 32] mixed ?_; (repeat (first | refine RW.ro (And.intro (h1) (And.intro (op_load hx) (And.intro (op_roomd hx) (And.intro (op_at hx) (And.intro (op_room0 hx) (And.intro (e0) (e2))))))) (h := ?_) | refine RW.skip (h := ?_) | refine RW.op (And.intro (h1) (And.intro (op_load hx) (And.intro (op_roomd hx) (And.intro (op_at hx) (And.intro (op_room0 hx) (And.intro (e0) (e2))))))) (h := ?_) | refine RW.opN (And.intro (h1) (And.intro (op_load hx) (And.intro (op_roomd hx) (And.intro (op_at hx) (And.intro (op_room0 hx) (And.intro (e0) (e2))))))) (h := ?_) | refine RW.skip0 (h := ?_) | refine lit1 rfl rfl (h := ?_) | (refine RW.callC (h := ?_); (first | refine CallP.mk (And.intro (h1) (And.intro (op_load hx) (And.intro (op_roomd hx) (And.intro (op_at hx) (And.intro (op_room0 hx) (And.intro (e0) (e2))))))) (hc := hc _) (h := ?_))))); refine RW.nil ⟨by kernel_rfl, Pruned.mk (h := ?_)⟩) | refine SW.skip ?_ | refine SW.exit ?_ | refine SW.ret ?_ | refine SW.condT rfl ?_ | refine SW.condF rfl ?_))
      dsimp only
      refine ⟨⟨i + 1, by omega⟩, id, by show l.length - (i + 1) < _; omega, ?_⟩
      dsimp only
      rw [hsn]
      exact Weak.mk bq_tt
  · have h1 : decide ((i : Int) < l.length) = false := by simp only [decide_eq_false_iff_not]; omega
    have h2 : i = l.length := by omega
    subst h2
    rw [List.take_length]
    have hs := rsorted_at (lackL l v) (Nat.le_trans (lackL_len _ _) hl)
    refine SW.seq (SW.seq ?_)
    (refine SW.regL [0, 1, 3, 4, 5, 6, 10, 32] mixed ?_; (repeat (first | refine RW.ro (h1) (h := ?_) | refine RW.skip (h := ?_) | refine RW.op (h1) (h := ?_) | refine RW.opN (h1) (h := ?_) | refine RW.skip0 (h := ?_) | refine lit1 rfl rfl (h := ?_) | (refine RW.callC (h := ?_); (first | refine CallP.mk (h1) (hc := hc _) (h := ?_))))); refine RW.nil ⟨by kernel_rfl, Pruned.mk (h := ?_)⟩)
    refine SW.condF rfl (SW.exit ?_)
    refine SW.freeze 1 ((lackL l v).flatMap OpD.ds) rfl rfl ?_
    simp only [frzE, SV.frz, List.map_cons, List.map_nil, if_true, if_false, reduceIte, hdel, Nat.reduceEqDiff]
    (repeat (first | refine SW.seq ?_ | refine SW.block ?_ | (refine SW.regL [0, 1, 3, 4, 5, 6, 10, 32] mixed ?_; (repeat (first | refine RW.ro bq_tt (h := ?_) | refine RW.skip (h := ?_) | refine RW.op bq_tt (h := ?_) | refine RW.opN bq_tt (h := ?_) | refine RW.skip0 (h := ?_) | refine lit1 rfl rfl (h := ?_) | (refine RW.callC (h := ?_); (first | refine CallP.mk bq_tt (hc := hs _) (h := ?_))))); refine RW.nil ⟨by kernel_rfl, Pruned.mk (h := ?_)⟩) | refine SW.skip ?_ | refine SW.exit ?_ | refine SW.ret ?_ | refine SW.condT rfl ?_ | refine SW.condF rfl ?_))
    exact End.mk [] (h4 := ⟨rfl, rfl⟩)
theorem rlacks_at (l : List OpD) (hl : l.length ≤ 1048576) (v : Vec) (k : Nat) : SCd Try.prog ref14_Lacks.f [ops l, .agg v.cells] [] k 0 (ops (sortedR (lackL l v))) [] := (rlacks_ok l hl v).sc rfl k
end Go.Proofs.Ytgjgfamgbhlmfaa

/-
  Gossip: rows of operations sorted; what one lacks, one by one.
-/
set_option linter.unusedSectionVars false
set_option linter.unusedVariables false
set_option linter.unusedSimpArgs false
namespace Go.Proofs.Ytgjgfamgbhlmfaa
open Go.Sl Go.Proofs Go.Sort
attribute [local irreducible] SW RW SCd SC CallP Pruned

theorem OpD.swo : SWO (ltOf ocmp) := by
  have key : ∀ a b : OpD, ltOf ocmp a b = a.lt b := fun a b => by
    unfold ltOf
    rw [Bool.eq_iff_iff, decide_eq_true_eq, ocmp_lt]
  refine ⟨fun x => ?_, fun x y z h1 h2 => ?_, fun x y z h1 h2 => ?_⟩
  · rw [key]; exact OpD.lt_irrefl x
  · rw [key] at *; exact OpD.lt_trans h1 h2
  · rw [key] at *
    rw [Bool.eq_false_iff, ne_eq, OpD.lt_iff] at *
    omega
theorem opsort_at (n : Nat) (l : List OpD) (hu : Uniq l) (hl : l.length < 4611686018427387904) (k : Nat) : SCd Try.prog 29 [.gs n l.length, .fn (.func order_Compare.f) [] []] [(n, .arr 48 29 l.length (opc l))] k 0 (.tup []) [(n, .arr 48 29 l.length (opc (osorted l)))] := by
  have h := SC.sortFunc (P := Try.prog) (ρ := opsort_ren) opsort 29 Try.isAgg48 Try.sizeOf48 (by kernel_rfl) OpD.ds (fun _ => rfl) ocmp OpD.swo order_Compare.f [] (by kernel_rfl) (fun x y k => ocompare_at x y k) n 48 l hl k
  unfold SCd
  refine SC.mono h ?_
  rintro r F' ⟨rfl, l', hp, hs, rfl⟩
  have hr : Rises l' := by
    have h2 : Uniq l' := hu.perm hp
    unfold Uniq List.Nodup at h2
    rw [List.pairwise_map] at h2
    refine List.Pairwise.imp₂ (fun a b hab hne => ?_) hs h2
    rcases OpD.lt_total hne with h | h
    · exact h
    · rw [← ocmp_lt] at h
      simp [ltOf] at hab; omega
  rw [hr.unique (osorted_rises hu) (hp.trans (osorted_perm l).symm)]
  exact ⟨rfl, rfl⟩

/-- A dot as a pair of numbers. -/
def nmc (d : Dt) : List SV := [.d (.int .u32 d.r), .d (.int .u32 d.n)]
theorem nmc_eq (a b : Dt) : csqS [true, true] (nmc a) (nmc b) = some (decide (a = b)) := by
  have h : csqS [true, true] (nmc a) (nmc b) = some (((a.r : Int) == b.r) && (((a.n : Int) == b.n) && true)) := by simp [csqS, cqS, nmc]
  rw [h]
  congr 1
  obtain ⟨a0, a1⟩ := a
  obtain ⟨b0, b1⟩ := b
  rw [Bool.eq_iff_iff]
  simp
  omega
theorem find_nm (d : Dt) {V : Type} (vs : V → SV) (L : MM Dt V) : findS [true, true] true (.agg (nmc d)) (mapE nmc vs L) 0 = some (MM.idx L d) := by
  rw [find_mapE nmc_eq d L 0]; cases MM.idx L d <;> rfl
theorem nm_key (d : Dt) : keyOk [true, true] true (.agg (nmc d)) = true := by simp [keyOk, isAggS, SV.cells, nmc_eq]
end Go.Proofs.Ytgjgfamgbhlmfaa
