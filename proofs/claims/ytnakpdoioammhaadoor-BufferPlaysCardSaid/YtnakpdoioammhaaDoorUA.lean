/-
  The kit's sort, at rows of operations (printed by lay.py).
-/
import Derived.Test.YtnakpdoioammhaaDoorChecked
import Derived.Shelf.SlSortCmp.NoneTotal
import Derived.Shelf.SlMaps.Clone
import Derived.Test.YtnakpdoioammhaaDoorUM
import Derived.Test.YtnakpdoioammhaaDoorUK
import Derived.Test.YtnakpdoioammhaaDoorUV
import Derived.Test.YtnakpdoioammhaaDoorU9
import Derived.Test.YtnakpdoioammhaaDoorUL
set_option linter.unusedVariables false
namespace Go.Proofs.YtnakpdoioammhaaDoor
open Go.Proofs Go.Shelf
def opsort_ren : Go.Shelf.Ren := ⟨fun | 6 => 71 | 15 => 80 | 14 => 79 | 28 => 95 | 29 => 96 | 20 => 87 | 21 => 88 | 22 => 89 | 23 => 90 | 24 => 91 | 25 => 92 | 26 => 93 | 27 => 94 | 46 => 98 | 47 => 99 | 48 => 100 | 49 => 101 | 50 => 102 | 57 => 103 | n => n, fun | 22 => 22 | 24 => 37 | 25 => 93 | 3 => 3 | 39 => 120 | 0 => 0 | 53 => 27 | 55 => 34 | 4 => 4 | 46 => 131 | 45 => 130 | 50 => 102 | 5 => 5 | 9 => 9 | 66 => 138 | 70 => 142 | 76 => 144 | 77 => 145 | n => n, fun | n => n⟩
theorem opsort : Go.Proofs.SlLaysF0.n6 Tryd.prog opsort_ren where
  mixed := by kernel_rfl
  f6 := ⟨ "slices.SortFunc[[]tranter/api.Op,tranter/api.Op]", by decide, Tryd.func71.trans (congrArg some (by kernel_rfl))⟩
  f14 := ⟨ "slices.pdqsortCmpFunc[tranter/api.Op]", by decide, Tryd.func79.trans (congrArg some (by kernel_rfl))⟩
  f15 := Tryd.func80.trans (congrArg some (by kernel_rfl))
  f20 := ⟨ "slices.insertionSortCmpFunc[tranter/api.Op]", by decide, Tryd.func87.trans (congrArg some (by kernel_rfl))⟩
  f21 := ⟨ "slices.heapSortCmpFunc[tranter/api.Op]", by decide, Tryd.func88.trans (congrArg some (by kernel_rfl))⟩
  f22 := ⟨ "slices.breakPatternsCmpFunc[tranter/api.Op]", by decide, Tryd.func89.trans (congrArg some (by kernel_rfl))⟩
  f23 := ⟨ "slices.choosePivotCmpFunc[tranter/api.Op]", by decide, Tryd.func90.trans (congrArg some (by kernel_rfl))⟩
  f24 := ⟨ "slices.reverseRangeCmpFunc[tranter/api.Op]", by decide, Tryd.func91.trans (congrArg some (by kernel_rfl))⟩
  f25 := ⟨ "slices.partialInsertionSortCmpFunc[tranter/api.Op]", by decide, Tryd.func92.trans (congrArg some (by kernel_rfl))⟩
  f26 := ⟨ "slices.partitionEqualCmpFunc[tranter/api.Op]", by decide, Tryd.func93.trans (congrArg some (by kernel_rfl))⟩
  f27 := ⟨ "slices.partitionCmpFunc[tranter/api.Op]", by decide, Tryd.func94.trans (congrArg some (by kernel_rfl))⟩
  f28 := Tryd.func95.trans (congrArg some (by kernel_rfl))
  f29 := Tryd.func96.trans (congrArg some (by kernel_rfl))
  f46 := ⟨ "slices.siftDownCmpFunc[tranter/api.Op]", by decide, Tryd.func98.trans (congrArg some (by kernel_rfl))⟩
  f47 := Tryd.func99.trans (congrArg some (by kernel_rfl))
  f48 := Tryd.func100.trans (congrArg some (by kernel_rfl))
  f49 := ⟨ "slices.medianAdjacentCmpFunc[tranter/api.Op]", by decide, Tryd.func101.trans (congrArg some (by kernel_rfl))⟩
  f50 := ⟨ "slices.medianCmpFunc[tranter/api.Op]", by decide, Tryd.func102.trans (congrArg some (by kernel_rfl))⟩
  f57 := ⟨ "slices.order2CmpFunc[tranter/api.Op]", by decide, Tryd.func103.trans (congrArg some (by kernel_rfl))⟩
  t0 := Tryd.underlying0
  a0 := Tryd.isAgg0
  z0 := Tryd.sizeOf0
  v0 := Tryd.zeroValue0
  t3 := Tryd.underlying3
  a3 := Tryd.isAgg3
  z3 := Tryd.sizeOf3
  v3 := Tryd.zeroValue3
  t4 := Tryd.underlying4
  a4 := Tryd.isAgg4
  z4 := Tryd.sizeOf4
  v4 := Tryd.zeroValue4
  t5 := Tryd.underlying5
  a5 := Tryd.isAgg5
  z5 := Tryd.sizeOf5
  v5 := Tryd.zeroValue5
  t9 := Tryd.underlying9
  a9 := Tryd.isAgg9
  z9 := Tryd.sizeOf9
  v9 := Tryd.zeroValue9
  t22 := Tryd.underlying22
  a22 := Tryd.isAgg22
  z22 := Tryd.sizeOf22
  v22 := Tryd.zeroValue22
  t25 := Tryd.underlying93
  a25 := Tryd.isAgg93
  z25 := Tryd.sizeOf93
  v25 := Tryd.zeroValue93
  t39 := Tryd.underlying120
  a39 := Tryd.isAgg120
  z39 := Tryd.sizeOf120
  v39 := Tryd.zeroValue120
  t45 := Tryd.underlying130
  a45 := Tryd.isAgg130
  z45 := Tryd.sizeOf130
  v45 := Tryd.zeroValue130
  t46 := Tryd.underlying131
  a46 := Tryd.isAgg131
  z46 := Tryd.sizeOf131
  v46 := Tryd.zeroValue131
  t50 := Tryd.underlying102
  a50 := Tryd.isAgg102
  z50 := Tryd.sizeOf102
  v50 := Tryd.zeroValue102
  t53 := Tryd.underlying27
  a53 := Tryd.isAgg27
  z53 := Tryd.sizeOf27
  v53 := Tryd.zeroValue27
  t55 := Tryd.underlying34
  a55 := Tryd.isAgg34
  z55 := Tryd.sizeOf34
  v55 := Tryd.zeroValue34
  t66 := Tryd.underlying138
  a66 := Tryd.isAgg138
  z66 := Tryd.sizeOf138
  v66 := Tryd.zeroValue138
  t70 := Tryd.underlying142
  a70 := Tryd.isAgg142
  z70 := Tryd.sizeOf142
  v70 := Tryd.zeroValue142
  t76 := Tryd.underlying144
  a76 := Tryd.isAgg144
  z76 := Tryd.sizeOf144
  v76 := Tryd.zeroValue144
  t77 := Tryd.underlying145
  a77 := Tryd.isAgg145
  z77 := Tryd.sizeOf145
  v77 := Tryd.zeroValue145
end Go.Proofs.YtnakpdoioammhaaDoor
namespace Go.Proofs.YtnakpdoioammhaaDoor
open Go.Proofs Go.Shelf
def mclone_ren : Go.Shelf.Ren := ⟨fun | 5 => 38 | 7 => 57 | n => n, fun | 23 => 56 | 25 => 33 | 3 => 37 | 4 => 4 | 20 => 20 | n => n, fun | n => n⟩
theorem mclone : Go.Proofs.SlLaysW.n5 Tryd.prog mclone_ren where
  mixed := by kernel_rfl
  f5 := ⟨ "maps.Clone[map[tranter/api.Dot]tranter/api.Op,tranter/api.Dot,tranter/api.Op]", by decide, Tryd.func38.trans (congrArg some (by kernel_rfl))⟩
  f7 := Tryd.func57.trans (congrArg some (by kernel_rfl))
  t4 := Tryd.underlying4
  a4 := Tryd.isAgg4
  z4 := Tryd.sizeOf4
  v4 := Tryd.zeroValue4
  t20 := Tryd.underlying20
  a20 := Tryd.isAgg20
  z20 := Tryd.sizeOf20
  v20 := Tryd.zeroValue20
  t23 := Tryd.underlying56
  a23 := Tryd.isAgg56
  z23 := Tryd.sizeOf56
  v23 := Tryd.zeroValue56
theorem mapsClone_at (n k : Nat) (hnk : n ≠ k) (ob : Go.Sl.Ob) (hob : ob = .nomap ∨ ∃ es c, ob = .map es c) : Go.Sl.SCd Tryd.prog 38 [.mp n] [(n, ob)] k 1 (.mp k) [(k, ob), (n, ob)] :=
  Go.Sl.SC.mapsClone (ρ := mclone_ren) mclone (by kernel_rfl) n k hnk ob hob
end Go.Proofs.YtnakpdoioammhaaDoor
set_option linter.unusedSectionVars false
set_option linter.unusedSimpArgs false
namespace Go.Proofs.YtnakpdoioammhaaDoor
open Go.Sl Go.Proofs
attribute [local irreducible] SW RW SCd SC CallP Pruned
theorem nan8_ok (n : Int) : Go.Sl.Pure Tryd.prog cmp_isNaN_uint8.f [.d (.int .u8 n)] (bl false) := by
  refine cmp_isNaN_uint8.enter (by first | rfl | simp [SV.ok, SV.oks]) (by first | rfl | simp [Hp.ok, Ob.ok, SV.ok, SV.oks, Vec.cells_ok]) (by simp) ?_
  dsimp only [cmp_isNaN_uint8.s, Co.M, Co.G, Co.J, Co.H, Co.N, Co.F, Co.C, Co.Z, Co.B, Co.b8, Co.b32, Co.b64, Co.i6, Co.z8, Co.z29]
  have e1 : (n != n) = false := bne_self_eq_false n
  (repeat (first | refine SW.seq ?_ | refine SW.block ?_ | refine SW.g0 [0, 2] mixed (e1) ?_ | refine SW.skip ?_ | refine SW.exit ?_ | refine SW.ret ?_ | refine SW.condT rfl ?_ | refine SW.condF rfl ?_))
  exact End.mk [] (h4 := ⟨rfl, rfl⟩)
theorem nan8_at (n : Int) (k : Nat) : SCd Tryd.prog cmp_isNaN_uint8.f [.d (.int .u8 n)] [] k 0 (.d (.bool false)) [] := (nan8_ok n).sc rfl k
theorem nan32_ok (n : Int) : Go.Sl.Pure Tryd.prog cmp_isNaN_uint32.f [.d (.int .u32 n)] (bl false) := by
  refine cmp_isNaN_uint32.enter (by first | rfl | simp [SV.ok, SV.oks]) (by first | rfl | simp [Hp.ok, Ob.ok, SV.ok, SV.oks, Vec.cells_ok]) (by simp) ?_
  dsimp only [cmp_isNaN_uint32.s, Co.M, Co.G, Co.J, Co.H, Co.N, Co.F, Co.C, Co.Z, Co.B, Co.b8, Co.b32, Co.b64, Co.i6, Co.z8, Co.z29]
  have e1 : (n != n) = false := bne_self_eq_false n
  (repeat (first | refine SW.seq ?_ | refine SW.block ?_ | refine SW.g0 [0, 2] mixed (e1) ?_ | refine SW.skip ?_ | refine SW.exit ?_ | refine SW.ret ?_ | refine SW.condT rfl ?_ | refine SW.condF rfl ?_))
  exact End.mk [] (h4 := ⟨rfl, rfl⟩)
theorem nan32_at (n : Int) (k : Nat) : SCd Tryd.prog cmp_isNaN_uint32.f [.d (.int .u32 n)] [] k 0 (.d (.bool false)) [] := (nan32_ok n).sc rfl k
theorem nan64_ok (n : Int) : Go.Sl.Pure Tryd.prog cmp_isNaN_uint64.f [.d (.int .u64 n)] (bl false) := by
  refine cmp_isNaN_uint64.enter (by first | rfl | simp [SV.ok, SV.oks]) (by first | rfl | simp [Hp.ok, Ob.ok, SV.ok, SV.oks, Vec.cells_ok]) (by simp) ?_
  dsimp only [cmp_isNaN_uint64.s, Co.M, Co.G, Co.J, Co.H, Co.N, Co.F, Co.C, Co.Z, Co.B, Co.b8, Co.b32, Co.b64, Co.i6, Co.z8, Co.z29]
  have e1 : (n != n) = false := bne_self_eq_false n
  (repeat (first | refine SW.seq ?_ | refine SW.block ?_ | refine SW.g0 [0, 2] mixed (e1) ?_ | refine SW.skip ?_ | refine SW.exit ?_ | refine SW.ret ?_ | refine SW.condT rfl ?_ | refine SW.condF rfl ?_))
  exact End.mk [] (h4 := ⟨rfl, rfl⟩)
theorem nan64_at (n : Int) (k : Nat) : SCd Tryd.prog cmp_isNaN_uint64.f [.d (.int .u64 n)] [] k 0 (.d (.bool false)) [] := (nan64_ok n).sc rfl k
def cmpZ (a b : Int) : Int := if a < b then -1 else if a > b then 1 else 0
theorem cmp8_ok (a b : Int) : Go.Sl.Pure Tryd.prog cmp_Compare_uint8.f [.d (.int .u8 a), .d (.int .u8 b)] (i64 (cmpZ a b)) := by
  refine cmp_Compare_uint8.enter (by first | rfl | simp [SV.ok, SV.oks]) (by first | rfl | simp [Hp.ok, Ob.ok, SV.ok, SV.oks, Vec.cells_ok]) (by simp) ?_
  dsimp only [cmp_Compare_uint8.s, Co.M, Co.G, Co.J, Co.H, Co.N, Co.F, Co.C, Co.Z, Co.B, Co.b8, Co.b32, Co.b64, Co.i6, Co.z8, Co.z29]
  rcases Int.lt_trichotomy a b with h | h | h
  · have e1 : decide (a < b) = true := by simp [h]
    have e2 : cmpZ a b = -1 := by simp [cmpZ, h]
    (repeat (first | refine SW.seq ?_ | refine SW.block ?_ | (refine SW.regL [0, 1, 4, 5, 6, 11, 12, 13, 16, 19] mixed ?_; (repeat (first | refine RW.ro (e1) (h := ?_) | refine RW.skip (h := ?_) | refine RW.op (e1) (h := ?_) | refine RW.opN (e1) (h := ?_) | refine RW.skip0 (h := ?_) | (refine RW.callC (h := ?_); (first | refine CallP.mk (e1) (hc := nan8_at _ _) (h := ?_) | refine CallP.mk (e1) (hc := nan32_at _ _) (h := ?_) | refine CallP.mk (e1) (hc := nan64_at _ _) (h := ?_))))); refine RW.nil ⟨by kernel_rfl, Pruned.mk (h := ?_)⟩) | refine SW.skip ?_ | refine SW.exit ?_ | refine SW.ret ?_ | refine SW.condT rfl ?_ | refine SW.condF rfl ?_))
    exact End.mk [] (h4 := ⟨by rw [e2]; rfl, rfl⟩)
  · have e1 : decide (a < b) = false := by simp [h]
    have e3 : decide (a > b) = false := by simp [h]
    have e2 : cmpZ a b = 0 := by simp [cmpZ, h]
    (repeat (first | refine SW.seq ?_ | refine SW.block ?_ | (refine SW.regL [0, 1, 4, 5, 6, 11, 12, 13, 16, 19] mixed ?_; (repeat (first | refine RW.ro (And.intro (e1) (e3)) (h := ?_) | refine RW.skip (h := ?_) | refine RW.op (And.intro (e1) (e3)) (h := ?_) | refine RW.opN (And.intro (e1) (e3)) (h := ?_) | refine RW.skip0 (h := ?_) | (refine RW.callC (h := ?_); (first | refine CallP.mk (And.intro (e1) (e3)) (hc := nan8_at _ _) (h := ?_) | refine CallP.mk (And.intro (e1) (e3)) (hc := nan32_at _ _) (h := ?_) | refine CallP.mk (And.intro (e1) (e3)) (hc := nan64_at _ _) (h := ?_))))); refine RW.nil ⟨by kernel_rfl, Pruned.mk (h := ?_)⟩) | refine SW.skip ?_ | refine SW.exit ?_ | refine SW.ret ?_ | refine SW.condT rfl ?_ | refine SW.condF rfl ?_))
    exact End.mk [] (h4 := ⟨by rw [e2]; rfl, rfl⟩)
  · have e1 : decide (a < b) = false := by simp; omega
    have e3 : decide (a > b) = true := by simp [h]
    have e2 : cmpZ a b = 1 := by unfold cmpZ; rw [if_neg (by omega), if_pos h]
    (repeat (first | refine SW.seq ?_ | refine SW.block ?_ | (refine SW.regL [0, 1, 4, 5, 6, 11, 12, 13, 16, 19] mixed ?_; (repeat (first | refine RW.ro (And.intro (e1) (e3)) (h := ?_) | refine RW.skip (h := ?_) | refine RW.op (And.intro (e1) (e3)) (h := ?_) | refine RW.opN (And.intro (e1) (e3)) (h := ?_) | refine RW.skip0 (h := ?_) | (refine RW.callC (h := ?_); (first | refine CallP.mk (And.intro (e1) (e3)) (hc := nan8_at _ _) (h := ?_) | refine CallP.mk (And.intro (e1) (e3)) (hc := nan32_at _ _) (h := ?_) | refine CallP.mk (And.intro (e1) (e3)) (hc := nan64_at _ _) (h := ?_))))); refine RW.nil ⟨by kernel_rfl, Pruned.mk (h := ?_)⟩) | refine SW.skip ?_ | refine SW.exit ?_ | refine SW.ret ?_ | refine SW.condT rfl ?_ | refine SW.condF rfl ?_))
    exact End.mk [] (h4 := ⟨by rw [e2]; rfl, rfl⟩)
theorem cmp32_ok (a b : Int) : Go.Sl.Pure Tryd.prog cmp_Compare_uint32.f [.d (.int .u32 a), .d (.int .u32 b)] (i64 (cmpZ a b)) := by
  refine cmp_Compare_uint32.enter (by first | rfl | simp [SV.ok, SV.oks]) (by first | rfl | simp [Hp.ok, Ob.ok, SV.ok, SV.oks, Vec.cells_ok]) (by simp) ?_
  dsimp only [cmp_Compare_uint32.s, Co.M, Co.G, Co.J, Co.H, Co.N, Co.F, Co.C, Co.Z, Co.B, Co.b8, Co.b32, Co.b64, Co.i6, Co.z8, Co.z29]
  rcases Int.lt_trichotomy a b with h | h | h
  · have e1 : decide (a < b) = true := by simp [h]
    have e2 : cmpZ a b = -1 := by simp [cmpZ, h]
    (repeat (first | refine SW.seq ?_ | refine SW.block ?_ | (refine SW.regL [0, 1, 4, 5, 6, 11, 12, 13, 16, 19] mixed ?_; (repeat (first | refine RW.ro (e1) (h := ?_) | refine RW.skip (h := ?_) | refine RW.op (e1) (h := ?_) | refine RW.opN (e1) (h := ?_) | refine RW.skip0 (h := ?_) | (refine RW.callC (h := ?_); (first | refine CallP.mk (e1) (hc := nan8_at _ _) (h := ?_) | refine CallP.mk (e1) (hc := nan32_at _ _) (h := ?_) | refine CallP.mk (e1) (hc := nan64_at _ _) (h := ?_))))); refine RW.nil ⟨by kernel_rfl, Pruned.mk (h := ?_)⟩) | refine SW.skip ?_ | refine SW.exit ?_ | refine SW.ret ?_ | refine SW.condT rfl ?_ | refine SW.condF rfl ?_))
    exact End.mk [] (h4 := ⟨by rw [e2]; rfl, rfl⟩)
  · have e1 : decide (a < b) = false := by simp [h]
    have e3 : decide (a > b) = false := by simp [h]
    have e2 : cmpZ a b = 0 := by simp [cmpZ, h]
    (repeat (first | refine SW.seq ?_ | refine SW.block ?_ | (refine SW.regL [0, 1, 4, 5, 6, 11, 12, 13, 16, 19] mixed ?_; (repeat (first | refine RW.ro (And.intro (e1) (e3)) (h := ?_) | refine RW.skip (h := ?_) | refine RW.op (And.intro (e1) (e3)) (h := ?_) | refine RW.opN (And.intro (e1) (e3)) (h := ?_) | refine RW.skip0 (h := ?_) | (refine RW.callC (h := ?_); (first | refine CallP.mk (And.intro (e1) (e3)) (hc := nan8_at _ _) (h := ?_) | refine CallP.mk (And.intro (e1) (e3)) (hc := nan32_at _ _) (h := ?_) | refine CallP.mk (And.intro (e1) (e3)) (hc := nan64_at _ _) (h := ?_))))); refine RW.nil ⟨by kernel_rfl, Pruned.mk (h := ?_)⟩) | refine SW.skip ?_ | refine SW.exit ?_ | refine SW.ret ?_ | refine SW.condT rfl ?_ | refine SW.condF rfl ?_))
    exact End.mk [] (h4 := ⟨by rw [e2]; rfl, rfl⟩)
  · have e1 : decide (a < b) = false := by simp; omega
    have e3 : decide (a > b) = true := by simp [h]
    have e2 : cmpZ a b = 1 := by unfold cmpZ; rw [if_neg (by omega), if_pos h]
    (repeat (first | refine SW.seq ?_ | refine SW.block ?_ | (refine SW.regL [0, 1, 4, 5, 6, 11, 12, 13, 16, 19] mixed ?_; (repeat (first | refine RW.ro (And.intro (e1) (e3)) (h := ?_) | refine RW.skip (h := ?_) | refine RW.op (And.intro (e1) (e3)) (h := ?_) | refine RW.opN (And.intro (e1) (e3)) (h := ?_) | refine RW.skip0 (h := ?_) | (refine RW.callC (h := ?_); (first | refine CallP.mk (And.intro (e1) (e3)) (hc := nan8_at _ _) (h := ?_) | refine CallP.mk (And.intro (e1) (e3)) (hc := nan32_at _ _) (h := ?_) | refine CallP.mk (And.intro (e1) (e3)) (hc := nan64_at _ _) (h := ?_))))); refine RW.nil ⟨by kernel_rfl, Pruned.mk (h := ?_)⟩) | refine SW.skip ?_ | refine SW.exit ?_ | refine SW.ret ?_ | refine SW.condT rfl ?_ | refine SW.condF rfl ?_))
    exact End.mk [] (h4 := ⟨by rw [e2]; rfl, rfl⟩)
theorem cmp64_ok (a b : Int) : Go.Sl.Pure Tryd.prog cmp_Compare_uint64.f [.d (.int .u64 a), .d (.int .u64 b)] (i64 (cmpZ a b)) := by
  refine cmp_Compare_uint64.enter (by first | rfl | simp [SV.ok, SV.oks]) (by first | rfl | simp [Hp.ok, Ob.ok, SV.ok, SV.oks, Vec.cells_ok]) (by simp) ?_
  dsimp only [cmp_Compare_uint64.s, Co.M, Co.G, Co.J, Co.H, Co.N, Co.F, Co.C, Co.Z, Co.B, Co.b8, Co.b32, Co.b64, Co.i6, Co.z8, Co.z29]
  rcases Int.lt_trichotomy a b with h | h | h
  · have e1 : decide (a < b) = true := by simp [h]
    have e2 : cmpZ a b = -1 := by simp [cmpZ, h]
    (repeat (first | refine SW.seq ?_ | refine SW.block ?_ | (refine SW.regL [0, 1, 4, 5, 6, 11, 12, 13, 16, 19] mixed ?_; (repeat (first | refine RW.ro (e1) (h := ?_) | refine RW.skip (h := ?_) | refine RW.op (e1) (h := ?_) | refine RW.opN (e1) (h := ?_) | refine RW.skip0 (h := ?_) | (refine RW.callC (h := ?_); (first | refine CallP.mk (e1) (hc := nan8_at _ _) (h := ?_) | refine CallP.mk (e1) (hc := nan32_at _ _) (h := ?_) | refine CallP.mk (e1) (hc := nan64_at _ _) (h := ?_))))); refine RW.nil ⟨by kernel_rfl, Pruned.mk (h := ?_)⟩) | refine SW.skip ?_ | refine SW.exit ?_ | refine SW.ret ?_ | refine SW.condT rfl ?_ | refine SW.condF rfl ?_))
    exact End.mk [] (h4 := ⟨by rw [e2]; rfl, rfl⟩)
  · have e1 : decide (a < b) = false := by simp [h]
    have e3 : decide (a > b) = false := by simp [h]
    have e2 : cmpZ a b = 0 := by simp [cmpZ, h]
    (repeat (first | refine SW.seq ?_ | refine SW.block ?_ | (refine SW.regL [0, 1, 4, 5, 6, 11, 12, 13, 16, 19] mixed ?_; (repeat (first | refine RW.ro (And.intro (e1) (e3)) (h := ?_) | refine RW.skip (h := ?_) | refine RW.op (And.intro (e1) (e3)) (h := ?_) | refine RW.opN (And.intro (e1) (e3)) (h := ?_) | refine RW.skip0 (h := ?_) | (refine RW.callC (h := ?_); (first | refine CallP.mk (And.intro (e1) (e3)) (hc := nan8_at _ _) (h := ?_) | refine CallP.mk (And.intro (e1) (e3)) (hc := nan32_at _ _) (h := ?_) | refine CallP.mk (And.intro (e1) (e3)) (hc := nan64_at _ _) (h := ?_))))); refine RW.nil ⟨by kernel_rfl, Pruned.mk (h := ?_)⟩) | refine SW.skip ?_ | refine SW.exit ?_ | refine SW.ret ?_ | refine SW.condT rfl ?_ | refine SW.condF rfl ?_))
    exact End.mk [] (h4 := ⟨by rw [e2]; rfl, rfl⟩)
  · have e1 : decide (a < b) = false := by simp; omega
    have e3 : decide (a > b) = true := by simp [h]
    have e2 : cmpZ a b = 1 := by unfold cmpZ; rw [if_neg (by omega), if_pos h]
    (repeat (first | refine SW.seq ?_ | refine SW.block ?_ | (refine SW.regL [0, 1, 4, 5, 6, 11, 12, 13, 16, 19] mixed ?_; (repeat (first | refine RW.ro (And.intro (e1) (e3)) (h := ?_) | refine RW.skip (h := ?_) | refine RW.op (And.intro (e1) (e3)) (h := ?_) | refine RW.opN (And.intro (e1) (e3)) (h := ?_) | refine RW.skip0 (h := ?_) | (refine RW.callC (h := ?_); (first | refine CallP.mk (And.intro (e1) (e3)) (hc := nan8_at _ _) (h := ?_) | refine CallP.mk (And.intro (e1) (e3)) (hc := nan32_at _ _) (h := ?_) | refine CallP.mk (And.intro (e1) (e3)) (hc := nan64_at _ _) (h := ?_))))); refine RW.nil ⟨by kernel_rfl, Pruned.mk (h := ?_)⟩) | refine SW.skip ?_ | refine SW.exit ?_ | refine SW.ret ?_ | refine SW.condT rfl ?_ | refine SW.condF rfl ?_))
    exact End.mk [] (h4 := ⟨by rw [e2]; rfl, rfl⟩)
theorem cmp8_at (a b : Int) (k : Nat) : SCd Tryd.prog cmp_Compare_uint8.f [.d (.int .u8 a), .d (.int .u8 b)] [] k 0 (.d (.int .i64 (cmpZ a b))) [] := (cmp8_ok a b).sc rfl k
theorem cmp32_at (a b : Int) (k : Nat) : SCd Tryd.prog cmp_Compare_uint32.f [.d (.int .u32 a), .d (.int .u32 b)] [] k 0 (.d (.int .i64 (cmpZ a b))) [] := (cmp32_ok a b).sc rfl k
theorem cmp64_at (a b : Int) (k : Nat) : SCd Tryd.prog cmp_Compare_uint64.f [.d (.int .u64 a), .d (.int .u64 b)] [] k 0 (.d (.int .i64 (cmpZ a b))) [] := (cmp64_ok a b).sc rfl k
def orZ (a b c : Int) : Int := if a = 0 then (if b = 0 then c else b) else a
theorem or3_ok (a b c : Int) : Go.Sl.Pure Tryd.prog cmp_Or_int.f [.d (.sl 3 [.int .i64 a, .int .i64 b, .int .i64 c])] (i64 (orZ a b c)) := by
  refine cmp_Or_int.enter (by first | rfl | simp [SV.ok, SV.oks]) (by first | rfl | simp [Hp.ok, Ob.ok, SV.ok, SV.oks, Vec.cells_ok]) (by simp) ?_
  dsimp only [cmp_Or_int.s, Co.M, Co.G, Co.J, Co.H, Co.N, Co.F, Co.C, Co.Z, Co.B, Co.b8, Co.b32, Co.b64, Co.i6, Co.z8, Co.z29]
  (repeat (first | refine SW.seq ?_ | refine SW.block ?_ | refine SW.g0 [0, 2, 3, 5, 6, 7, 8, 9, 14] mixed bq_tt ?_ | refine SW.skip ?_ | refine SW.exit ?_ | refine SW.ret ?_ | refine SW.condT rfl ?_ | refine SW.condF rfl ?_))
  refine SW.loopA (α := {i : Nat // i ≤ 3 ∧ (1 ≤ i → a = 0) ∧ (2 ≤ i → b = 0) ∧ (3 ≤ i → c = 0)}) (fun i => ⟨[(8, i64 i.1), (6, .d (.sl 3 [.int .i64 a, .int .i64 b, .int .i64 c])), (7, i64 3), (3, i64 0)], [], 0⟩) (fun i => 3 - i.1) ⟨0, by omega⟩ id bq_tt (round := ?_)
  rintro ⟨i, hi, ha, hb, hc⟩
  match i, hi, ha, hb, hc with
  | 0, _, _, _, _ =>
    rcases h1 : (a != 0) with _ | _
    · (repeat (first | refine SW.seq ?_ | refine SW.block ?_ | refine SW.g0 [0, 2, 3, 5, 6, 7, 8, 9, 14] mixed (h1) ?_ | refine SW.skip ?_ | refine SW.exit ?_ | refine SW.ret ?_ | refine SW.condT rfl ?_ | refine SW.condF rfl ?_))
      exact Next.mk ⟨1, by omega, fun _ => by simpa using h1, by omega⟩ id bq_tt
    · (repeat (first | refine SW.seq ?_ | refine SW.block ?_ | refine SW.g0 [0, 2, 3, 5, 6, 7, 8, 9, 14] mixed (h1) ?_ | refine SW.skip ?_ | refine SW.exit ?_ | refine SW.ret ?_ | refine SW.condT rfl ?_ | refine SW.condF rfl ?_))
      exact End.mk [] (h4 := ⟨by simp at h1; unfold orZ; rw [if_neg h1]; rfl, rfl⟩)
  | 1, _, ha, _, _ =>
    rcases h1 : (b != 0) with _ | _
    · (repeat (first | refine SW.seq ?_ | refine SW.block ?_ | refine SW.g0 [0, 2, 3, 5, 6, 7, 8, 9, 14] mixed (h1) ?_ | refine SW.skip ?_ | refine SW.exit ?_ | refine SW.ret ?_ | refine SW.condT rfl ?_ | refine SW.condF rfl ?_))
      exact Next.mk ⟨2, by omega, fun _ => ha (by omega), fun _ => by simpa using h1, by omega⟩ id bq_tt
    · (repeat (first | refine SW.seq ?_ | refine SW.block ?_ | refine SW.g0 [0, 2, 3, 5, 6, 7, 8, 9, 14] mixed (h1) ?_ | refine SW.skip ?_ | refine SW.exit ?_ | refine SW.ret ?_ | refine SW.condT rfl ?_ | refine SW.condF rfl ?_))
      exact End.mk [] (h4 := ⟨by simp at h1; unfold orZ; rw [if_pos (ha (by omega)), if_neg h1]; rfl, rfl⟩)
  | 2, _, ha, hb, _ =>
    rcases h1 : (c != 0) with _ | _
    · (repeat (first | refine SW.seq ?_ | refine SW.block ?_ | refine SW.g0 [0, 2, 3, 5, 6, 7, 8, 9, 14] mixed (h1) ?_ | refine SW.skip ?_ | refine SW.exit ?_ | refine SW.ret ?_ | refine SW.condT rfl ?_ | refine SW.condF rfl ?_))
      exact Next.mk ⟨3, by omega, fun _ => ha (by omega), fun _ => hb (by omega), fun _ => by simpa using h1⟩ id bq_tt
    · (repeat (first | refine SW.seq ?_ | refine SW.block ?_ | refine SW.g0 [0, 2, 3, 5, 6, 7, 8, 9, 14] mixed (h1) ?_ | refine SW.skip ?_ | refine SW.exit ?_ | refine SW.ret ?_ | refine SW.condT rfl ?_ | refine SW.condF rfl ?_))
      exact End.mk [] (h4 := ⟨by unfold orZ; rw [if_pos (ha (by omega)), if_pos (hb (by omega))]; rfl, rfl⟩)
  | 3, _, ha, hb, hc =>
    (repeat (first | refine SW.seq ?_ | refine SW.block ?_ | refine SW.g0 [0, 2, 3, 5, 6, 7, 8, 9, 14] mixed bq_tt ?_ | refine SW.skip ?_ | refine SW.exit ?_ | refine SW.ret ?_ | refine SW.condT rfl ?_ | refine SW.condF rfl ?_))
    exact End.mk [] (h4 := ⟨by unfold orZ; rw [if_pos (ha (by omega)), if_pos (hb (by omega)), hc (by omega)]; rfl, rfl⟩)
theorem or3_at (a b c : Int) (k : Nat) : SCd Tryd.prog cmp_Or_int.f [.d (.sl 3 [.int .i64 a, .int .i64 b, .int .i64 c])] [] k 0 (.d (.int .i64 (orZ a b c))) [] := (or3_ok a b c).sc rfl k
theorem spl3 : ∀ (x y z a b c : SV), spl (spl (spl [x, y, z] 0 [a]) 1 [b]) 2 [c] = [a, b, c] := fun _ _ _ _ _ _ => rfl
theorem ocmp_eq (a b : OpD) : orZ (cmpZ a.time b.time) (cmpZ a.dot.r b.dot.r) (cmpZ a.dot.n b.dot.n) = ocmp a b := by
  unfold ocmp orZ cmpZ
  by_cases h1 : a.lt b = true
  · rw [if_pos h1]
    rw [OpD.lt_iff] at h1
    repeat' split
    all_goals omega
  · by_cases h2 : b.lt a = true
    · rw [if_neg h1, if_pos h2]
      rw [OpD.lt_iff] at h1 h2
      repeat' split
      all_goals omega
    · rw [if_neg h1, if_neg h2]
      rw [OpD.lt_iff] at h1 h2
      repeat' split
      all_goals omega
theorem ocompare_ok (a b : OpD) : Go.Sl.Pure Tryd.prog order_Compare.f [.agg a.cells, .agg b.cells] (i64 (ocmp a b)) := by
  rw [← ocmp_eq]
  refine order_Compare.enter (by first | rfl | simp [SV.ok, SV.oks]) (by first | rfl | simp [Hp.ok, Ob.ok, SV.ok, SV.oks, Vec.cells_ok]) (by simp) ?_
  dsimp only [order_Compare.s, Co.M, Co.G, Co.J, Co.H, Co.N, Co.F, Co.C, Co.Z, Co.B, Co.b8, Co.b32, Co.b64, Co.i6, Co.z8, Co.z29]
  (repeat (first | refine SW.seq ?_ | refine SW.block ?_ | (refine SW.regL [0, 1, 2, 3, 4] mixed ?_; (repeat (first | refine RW.ro (spl3) (h := ?_) | refine RW.skip (h := ?_) | refine RW.op (spl3) (h := ?_) | refine RW.opN (spl3) (h := ?_) | refine RW.skip0 (h := ?_) | (refine RW.callC (h := ?_); (first | refine CallP.mk (spl3) (hc := cmp64_at _ _ _) (h := ?_) | refine CallP.mk (spl3) (hc := cmp8_at _ _ _) (h := ?_) | refine CallP.mk (spl3) (hc := cmp32_at _ _ _) (h := ?_) | refine CallP.mk (spl3) (hc := or3_at _ _ _ _) (h := ?_))))); refine RW.nil ⟨by kernel_rfl, Pruned.mk (h := ?_)⟩) | refine SW.skip ?_ | refine SW.exit ?_ | refine SW.ret ?_ | refine SW.condT rfl ?_ | refine SW.condF rfl ?_))
  exact End.mk [] (h4 := ⟨rfl, rfl⟩)
theorem ocompare_at (a b : OpD) (k : Nat) : SCd Tryd.prog order_Compare.f [.agg a.cells, .agg b.cells] [] k 0 (.d (.int .i64 (ocmp a b))) [] := (ocompare_ok a b).sc rfl k
theorem may_ok (r n : Int) : Go.Sl.Pure Tryd.prog dot_May.f [.agg [.d (.int .u8 r), .d (.int .u32 n)]] (bl (decide (r < 8) && decide (n > 0))) := by
  refine dot_May.enter (by first | rfl | simp [SV.ok, SV.oks]) (by first | rfl | simp [Hp.ok, Ob.ok, SV.ok, SV.oks, Vec.cells_ok]) (by simp) ?_
  dsimp only [dot_May.s, Co.M, Co.G, Co.J, Co.H, Co.N, Co.F, Co.C, Co.Z, Co.B, Co.b8, Co.b32, Co.b64, Co.i6, Co.z8, Co.z29]
  rcases h1 : decide (r < 8) with _ | _
  · (repeat (first | refine SW.seq ?_ | refine SW.block ?_ | refine SW.g0 [0, 1, 2] mixed (h1) ?_ | refine SW.skip ?_ | refine SW.exit ?_ | refine SW.ret ?_ | refine SW.condT rfl ?_ | refine SW.condF rfl ?_))
    exact End.mk [] (h4 := ⟨rfl, rfl⟩)
  · (repeat (first | refine SW.seq ?_ | refine SW.block ?_ | refine SW.g0 [0, 1, 2] mixed (h1) ?_ | refine SW.skip ?_ | refine SW.exit ?_ | refine SW.ret ?_ | refine SW.condT rfl ?_ | refine SW.condF rfl ?_))
    exact End.mk [] (h4 := ⟨rfl, rfl⟩)
theorem may_at (d : Dt) (k : Nat) : SCd Tryd.prog dot_May.f [.agg d.cells] [] k 0 (bl d.may) [] := by
  have := (may_ok d.r d.n).sc rfl k
  have e : d.may = (decide ((d.r : Int) < 8) && decide ((d.n : Int) > 0)) := by
    unfold Dt.may
    rw [Bool.eq_iff_iff]; simp only [Bool.and_eq_true, decide_eq_true_eq]; omega
  rw [e]; exact this
theorem covers_ok (v : Vec) (d : Dt) : Go.Sl.Pure Tryd.prog vector_Covers.f [.agg v.cells, .agg d.cells] (bl (v.covers d)) := by
  refine vector_Covers.enter (by first | rfl | simp [SV.ok, SV.oks]) (by first | rfl | simp [Hp.ok, Ob.ok, SV.ok, SV.oks, Vec.cells_ok]) (by simp) ?_
  dsimp only [vector_Covers.s, Co.M, Co.G, Co.J, Co.H, Co.N, Co.F, Co.C, Co.Z, Co.B, Co.b8, Co.b32, Co.b64, Co.i6, Co.z8, Co.z29]
  rcases h : d.may with _ | _
  · (repeat (first | refine SW.seq ?_ | refine SW.block ?_ | (refine SW.regL [0, 1, 2, 3, 4] mixed ?_; (repeat (first | refine RW.ro (h) (h := ?_) | refine RW.skip (h := ?_) | refine RW.op (h) (h := ?_) | refine RW.opN (h) (h := ?_) | refine RW.skip0 (h := ?_) | (refine RW.callC (h := ?_); (first | refine CallP.mk (h) (hc := may_at _ _) (h := ?_))))); refine RW.nil ⟨by kernel_rfl, Pruned.mk (h := ?_)⟩) | refine SW.skip ?_ | refine SW.exit ?_ | refine SW.ret ?_ | refine SW.condT rfl ?_ | refine SW.condF rfl ?_))
    have e : v.covers d = false := by unfold Vec.covers; rw [h]; rfl
    exact End.mk [] (h4 := ⟨by rw [e]; rfl, rfl⟩)
  · have hr : d.r < 8 := by
      have := h
      simp only [Dt.may, Bool.and_eq_true, decide_eq_true_eq] at this
      exact this.1
    have e : v.covers d = decide ((v.get d.r : Int) ≥ d.n) := by
      unfold Vec.covers
      rw [h, Bool.true_and, Bool.eq_iff_iff]; simp only [decide_eq_true_eq]; omega
    (repeat (first | refine SW.seq ?_ | refine SW.block ?_ | (have fx := (And.intro (h) (Vec.cells_get v hr)); refine SW.regL [0, 1, 2, 3, 4] mixed ?_; (repeat (first | refine RW.ro fx (h := ?_) | refine RW.skip (h := ?_) | refine RW.op fx (h := ?_) | refine RW.opN fx (h := ?_) | refine RW.skip0 (h := ?_) | (refine RW.callC (h := ?_); (first | refine CallP.mk fx (hc := may_at _ _) (h := ?_))))); refine RW.nil ⟨by kernel_rfl, Pruned.mk (h := ?_)⟩) | refine SW.skip ?_ | refine SW.exit ?_ | refine SW.ret ?_ | refine SW.condT rfl ?_ | refine SW.condF rfl ?_))
    exact End.mk [] (h4 := ⟨by rw [e]; rfl, rfl⟩)
theorem covers_at (v : Vec) (d : Dt) (k : Nat) : SCd Tryd.prog vector_Covers.f [.agg v.cells, .agg d.cells] [] k 0 (bl (v.covers d)) [] := (covers_ok v d).sc rfl k
end Go.Proofs.YtnakpdoioammhaaDoor
namespace Go.Proofs.YtnakpdoioammhaaDoor
open Go.Sl Go.Proofs Go.Sort Go.RowKit
attribute [local irreducible] SW RW SCd SC CallP Pruned
set_option maxRecDepth 100000 in
theorem lit1 {P : Program} {env : List (Nat × SV)} {hp : Hp} {k d p : Nat} {r : List SI} {K : St → List (Bool × List Nat) → Prop} {a : OpD} {z : List SV} (hz : z = zOp)
    (ha : env.lookup p = some (.agg a.cells))
    (h : RW P r ⟨(d, ops [a]) :: env, hp, k⟩ fun st' ts => K st' ((false, []) :: ts)) : RW P (⟨some d, .bsl 37 29 1 z [(0, 29, .t p)], none⟩ :: r) ⟨env, hp, k⟩ K := by
  subst hz
  refine RW.cons (e := ⟨ops [a], [], [], 0, ((29 = 29 ∧ 0 + 29 ≤ 29 ∧ True))⟩) (fun crs => ⟨.frz :: crs, runOp_some (.inl rfl) ?_⟩) (by show 29 = 29 ∧ 0 + 29 ≤ 29 ∧ True; decide) ?_
  · have h1 : evp (fun t => env.lookup t) [(0, 29, X.t p)] = some [(0, 29, .agg a.cells)] := by
      simp only [evp, ev, ha]
    have h2 : bldS zOp [(0, 29, .agg a.cells)] = some (a.cells, ((29 = 29 ∧ 0 + 29 ≤ 29 ∧ True))) := rfl
    have h3 : datas a.cells = some ([a].flatMap OpD.ds) := rfl
    have h4 : a.cells.all SV.isOne = true := rfl
    simp only [goOp, sop, h1, h2, h3, h4, if_true, Bool.false_or]
    rfl
  · exact h
theorem cloneL_ok (cl : List Cm) (hl : cl.length ≤ 1048576) : Go.Sl.Pure Tryd.prog slices_Clone_Lapi_Claim_api_Claim.f [.d (.sl cl.length (cl.flatMap Cm.ds))] (.d (.sl cl.length (cl.flatMap Cm.ds))) := by
  refine slices_Clone_Lapi_Claim_api_Claim.enter (by first | rfl | simp [SV.ok, SV.oks]) (by first | rfl | simp [Hp.ok, Ob.ok, SV.ok, SV.oks, Vec.cells_ok]) (by simp) ?_
  dsimp only [slices_Clone_Lapi_Claim_api_Claim.s, Co.M, Co.G, Co.J, Co.H, Co.N, Co.F, Co.C, Co.Z, Co.B, Co.b8, Co.b32, Co.b64, Co.i6, Co.z8, Co.z29]
  refine SW.seq ?_
  (refine SW.regL [0, 2, 4] mixed ?_; (repeat (first | refine RW.ro bq_tt (h := ?_) | refine RW.skip (h := ?_) | refine RW.op bq_tt (h := ?_) | refine RW.opN bq_tt (h := ?_) | refine RW.skip0 (h := ?_))); refine RW.nil ⟨by kernel_rfl, Pruned.mk (h := ?_)⟩)
  refine SW.seq (SW.seq (SW.nilS (n := cl.length) (cs := cl.flatMap Cm.ds) rfl ?_ fun h0 => ?_))
  · refine SW.condF rfl (SW.skip ?_)
    refine (?_ : Sl.SW _ _ _ _ _ _)
    refine SW.seq ?_
    have hlen : cl.length * 4 = cl.length * 4 := rfl
    (refine SW.regL [0, 2, 4] mixed ?_; (repeat (first | refine RW.ro bq_tt (h := ?_) | refine RW.skip (h := ?_) | refine RW.op bq_tt (h := ?_) | refine RW.opN bq_tt (h := ?_) | refine RW.skip0 (h := ?_))); refine RW.nil ⟨by kernel_rfl, Pruned.mk (h := ?_)⟩)
    refine SW.freeze 1 (cl.flatMap Cm.ds) rfl (by simp) ?_
    simp only [frzE, SV.frz, List.map_cons, List.map_nil, if_true, if_false, reduceIte, hdel, Nat.reduceEqDiff]
    refine SW.ret ?_
    exact End.mk [] (h4 := ⟨by simp [retV], rfl⟩)
  · have hl0 : cl = [] := List.eq_nil_of_length_eq_zero h0
    subst hl0
    refine SW.condT rfl (SW.seq ?_)
    (refine SW.regL [0, 2, 4] mixed ?_; (repeat (first | refine RW.ro bq_tt (h := ?_) | refine RW.skip (h := ?_) | refine RW.op bq_tt (h := ?_) | refine RW.opN bq_tt (h := ?_) | refine RW.skip0 (h := ?_))); refine RW.nil ⟨by kernel_rfl, Pruned.mk (h := ?_)⟩)
    refine SW.nils 2 rfl ?_
    refine SW.ret ?_
    exact End.mk [] (h4 := ⟨rfl, rfl⟩)
theorem cloneL_at (o : OpD) (h : o.lin) (hl : o.cl.length ≤ 1048576) (k : Nat) : SCd Tryd.prog slices_Clone_Lapi_Claim_api_Claim.f [.d o.lines] [] k 0 (.d o.lines) [] := by
  have := (cloneL_ok o.cl hl).sc rfl k
  rwa [← h.eq] at this
theorem OpD.swo : SWO (ltOf ocmp) := by
  have key : ∀ a b : OpD, ltOf ocmp a b = a.lt b := fun a b => by
    unfold ltOf
    rw [Bool.eq_iff_iff, decide_eq_true_eq, ocmp_lt]
  refine ⟨fun x => ?_, fun x y z h1 h2 => ?_, fun x y z h1 h2 => ?_⟩
  · rw [key]; exact OpD.lt_irrefl x
  · rw [key] at *; exact OpD.lt_trans h1 h2
  · rw [key] at *
    rw [Bool.eq_false_iff, ne_eq, OpD.lt_iff] at *
    omega
theorem opsort_at (n : Nat) (l : List OpD) (hu : Uniq l) (hl : l.length < 4611686018427387904) (k : Nat) : SCd Tryd.prog 71 [.gs n l.length, .fn (.func order_Compare.f) [] []] [(n, .arr 37 29 l.length (opc l))] k 0 (.tup []) [(n, .arr 37 29 l.length (opc (osorted l)))] := by
  have h := SC.sortFunc (P := Tryd.prog) (ρ := opsort_ren) opsort 29 Tryd.isAgg37 Tryd.sizeOf37 (by kernel_rfl) OpD.ds (fun _ => rfl) ocmp OpD.swo order_Compare.f [] (by kernel_rfl) (fun x y k => ocompare_at x y k) n 37 l hl k
  unfold SCd
  refine SC.mono h ?_
  rintro r F' ⟨rfl, l', hp, hs, rfl⟩
  have hr : Rises l' := by
    have h2 : Uniq l' := hu.perm hp
    unfold Uniq List.Nodup at h2
    rw [List.pairwise_map] at h2
    refine List.Pairwise.imp₂ (fun a b hab hne => ?_) hs h2
    rcases OpD.lt_total hne with h | h
    · exact h
    · rw [← ocmp_lt] at h
      simp [ltOf] at hab; omega
  rw [hr.unique (osorted_rises hu) (hp.trans (osorted_perm l).symm)]
  exact ⟨rfl, rfl⟩
end Go.Proofs.YtnakpdoioammhaaDoor
namespace Go.Proofs.YtnakpdoioammhaaDoor
open Go.Sl Go.Proofs
attribute [local irreducible] SW RW SCd SC CallP Pruned
structure RowO (y bx : Nat) where
  l : List OpD
  rn : Nat
  h1 : rn ≠ y
  h2 : rn ≠ bx
def rowO (y bx N : Nat) (ts ps : List Nat) (ca cb : Code) (s : RowO y bx) : Hp :=
  [(y, .rcd N ts [.ptr bx 0] ps ca cb .ready none), (bx, .box 22 [.gs s.rn s.l.length]), (s.rn, .arr 37 29 s.l.length ((s.l.flatMap OpD.ds).map .d))]
set_option maxHeartbeats 1000000 in
theorem appendBodyO {y bx B : Nat} (hyb : y ≠ bx) (s0 : RowO y bx) (hB : s0.l.length + B < 2097152) {ca cb : Code} (hca : cK Tryd.prog 13 ca = some (.reg [⟨some 5, .alloc 37 zOp, none⟩, ⟨none, .store 29 (.t 5) (.t 7), none⟩] (fullB 2) false))
    (hcb : cK Tryd.prog 13 cb = some (.block 1 (.reg [⟨some 8, .load none (.t 2), none⟩, ⟨some 9, .load (some 29) (.t 5), none⟩, ⟨some 10, .bsl 37 29 1 zOp [(0, 29, .t 9)], none⟩, ⟨some 11, .app 37 29 144 (.t 8) (.t 10), none⟩, ⟨none, .store 1 (.t 2) (.t 11), none⟩] (fullB 5) false))) :
    YieldOk Tryd.prog y (fun x : OpD => .agg x.cells) 2 (rowO y bx 13 [2] [7] ca cb) (fun s x s' => s'.l = s.l ++ [x]) (fun _ => true) s0 B := by
  refine ⟨fun s => by simp [rowO, lk_cons], fun s x hx => ?_, fun s xs x k hon hlt hok _ => ?_⟩
  · have f1 := ne4 hyb
    have f2 := ne4 s.h1
    have f3 := ne4 s.h2
    simp only [rowO, List.mem_cons, List.not_mem_nil, or_false] at hx
    rcases hx with rfl | rfl | rfl <;> simp [rowO, lk_cons, f1, f2, f3]
  · have hlen : s.l.length = s0.l.length + xs.length := by
      clear hlt hok
      induction hon with
      | nil => rfl
      | snoc _ h ih => rw [h]; simp [ih]; omega
    obtain ⟨l, rn, h1, h2⟩ := s
    simp only at hlen
    simp only [rowO, Hp.ok, List.all_cons, List.all_nil, Ob.ok, SV.oks, SV.ok, SV.oks_d, Bool.and_true, Bool.and_eq_true, decide_eq_true_eq] at hok
    obtain ⟨⟨k1, _⟩, ⟨k2, _⟩, k3⟩ := hok
    have f1 := ne4 hyb
    have f2 := ne4 h1
    have f3 := ne4 h2
    have g1 := ne4 (show k ≠ y by omega)
    have g2 := ne4 (show k ≠ bx by omega)
    have g3 := ne4 (show k ≠ rn by omega)
    have g4 := ne4 (show k + 1 ≠ k by omega)
    have g5 := ne4 (show k + 1 ≠ y by omega)
    have g6 := ne4 (show k + 1 ≠ bx by omega)
    have g7 := ne4 (show k + 1 ≠ rn by omega)
    have e1 : (List.flatMap OpD.ds l ++ x.ds).map SV.d = (List.flatMap OpD.ds l).map SV.d ++ x.cells := by simp [OpD.map_ds]
    refine SYB.here (fun n => n == y || n == bx || n == rn) (SYB.of_code (cs := [.ptr bx 0]) (H := [(bx, .box 22 [.gs rn l.length]), (rn, .arr 37 29 l.length ((l.flatMap OpD.ds).map .d))]) hca hcb rfl rfl rfl (by simp) k1 (by simp [lk_cons, lk_nil, f1, f2]) (by simp [SV.oks, SV.ok]) (by simp [Hp.ok, Ob.ok, SV.oks, SV.ok, SV.oks_d]; omega) (by simp [SV.oks, SV.ok]; omega) ?_) ?_ (by simp [SV.oks, SV.ok]) (by simp [rowO, Hp.ok, Ob.ok, SV.oks, SV.ok, SV.oks_d]) ?_
    · skip
      show Go.Sl.SW _ _ _ _ ⟨[(7, .agg x.cells), (2, .ptr bx 0)], _, _⟩ _
      (have fx := (And.intro (f1) (And.intro (f2) (And.intro (f3) (And.intro (g1) (And.intro (g2) (g3)))))); refine SW.regL [2, 5, 7] mixed ?_; (repeat (first | refine RW.ro fx (h := ?_) | refine RW.skip (h := ?_) | refine RW.op fx (h := ?_) | refine RW.opN fx (h := ?_) | refine RW.skip0 (h := ?_) | refine lit1 rfl rfl (h := ?_))); refine RW.nil ⟨by kernel_rfl, Pruned.mk (h := ?_)⟩)
      refine ⟨rfl, SW.block ?_⟩
      (have fx := (And.intro (f1) (And.intro (f2) (And.intro (f3) (And.intro (g1) (And.intro (g2) (And.intro (g3) (And.intro (g4) (And.intro (g5) (And.intro (g6) (g7)))))))))); refine SW.regL [2, 5, 7] mixed ?_; (repeat (first | refine RW.ro fx (h := ?_) | refine RW.skip (h := ?_) | refine RW.op fx (h := ?_) | refine RW.opN fx (h := ?_) | refine RW.skip0 (h := ?_) | refine lit1 rfl rfl (h := ?_))); refine RW.nil ⟨by kernel_rfl, Pruned.mk (h := ?_)⟩)
      have e2 : ((l ++ [x]).flatMap OpD.ds).map SV.d = (List.flatMap OpD.ds l).map SV.d ++ x.ds.map SV.d := by simp
      refine ⟨none, true, [(bx, .box 22 [.gs (k + 1) (l ++ [x]).length]), (k + 1, .arr 37 29 (l ++ [x]).length (((l ++ [x]).flatMap OpD.ds).map .d))], ⟨rfl, rfl⟩, ?_, ?_, by simp, ⟨⟨l ++ [x], k + 1, by omega, by omega⟩, rfl, rfl, rfl, ?_, ?_⟩⟩
      · refine HSub.cons ?_ (HSub.cons ?_ (HSub.nil _))
        · simp [lk_cons, f1, f2, f3, g1, g2, g3, g4, g5, g6, g7, spl]
        · rw [e2]; simp [lk_cons]
      · simp [Hp.ok, Ob.ok, SV.oks, SV.ok, SV.oks_d, -List.flatMap_append, -List.map_append]; omega
      · simp [rowO, Hp.ok, Ob.ok, SV.oks, SV.ok, SV.oks_d, -List.flatMap_append, -List.map_append]; omega
      · intro n hn
        by_cases hy' : n = y
        · exact .inl (by simp [rowO, lk_cons, hy'])
        · by_cases hbx : n = bx
          · exact .inl (by simp [rowO, lk_cons, hbx, f1])
          · refine .inr ?_
            have : n = k + 1 := Classical.byContradiction fun hne => hn (by simp [rowO, lk_cons, lk_nil, hy', hbx, hne])
            omega
    · intro n hn
      simp only [Bool.or_eq_true, beq_iff_eq] at hn
      rcases hn with (rfl | rfl) | rfl <;> simp [rowO, lk_cons, f1, f2, f3]
    · rintro r F' ⟨s', hs', rfl, rfl, hok', hnm⟩ _ _
      obtain ⟨l', rn', h1', h2'⟩ := s'
      refine ⟨rfl, ?_⟩
      simp [rowO, Hp.ok, Ob.ok, SV.oks, SV.ok, SV.oks_d]
      have hh := hnm rn' (by simp [rowO, lk_cons, h1', h2'])
      rcases hh with hh | ⟨hh1, hh2⟩
      · have : rn' = rn := by
          refine Classical.byContradiction fun hne => hh ?_
          simp [rowO, lk_cons, lk_nil, h1', h2', hne]
        simp [this]
      · simp [hh1]; omega
theorem onBy_rowO {y bx : Nat} {s0 s : RowO y bx} {xs : List OpD} (h : OnBy (fun (s : RowO y bx) x s' => s'.l = s.l ++ [x]) s0 xs s) : s.l = s0.l ++ xs := by
  induction h with
  | nil => simp
  | snoc _ h ih => rw [h, ih]; simp
end Go.Proofs.YtnakpdoioammhaaDoor
