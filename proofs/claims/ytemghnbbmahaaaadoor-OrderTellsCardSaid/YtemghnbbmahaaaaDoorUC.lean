/-
  Operations in the order: numbers compared, operations compared; what vectors cover.
-/
import Derived.Test.YtemghnbbmahaaaaDoorUK
import Derived.Test.YtemghnbbmahaaaaDoorUV
import Derived.Test.YtemghnbbmahaaaaDoorUM
import Derived.Test.YtemghnbbmahaaaaDoorU9
import Derived.Test.YtemghnbbmahaaaaDoorUL
import Derived.Test.YtemghnbbmahaaaaDoorUB
set_option linter.unusedSectionVars false
set_option linter.unusedVariables false
set_option linter.unusedSimpArgs false
namespace Go.Proofs.YtemghnbbmahaaaaDoor
open Go.Sl Go.Proofs
attribute [local irreducible] SW RW SCd SC CallP Pruned
theorem nan8_ok (n : Int) : Go.Sl.Pure Tryd.prog cmp_isNaN_uint8.f [.d (.int .u8 n)] (bl false) := by
  refine cmp_isNaN_uint8.enter (by first | rfl | simp [SV.ok, SV.oks]) (by first | rfl | simp [Hp.ok, Ob.ok, SV.ok, SV.oks, Vec.cells_ok]) (by simp) ?_
  dsimp only [cmp_isNaN_uint8.s, Co.M, Co.G, Co.J, Co.H, Co.N, Co.F, Co.C, Co.Z, Co.B, Co.b8, Co.b32, Co.b64, Co.i6, Co.z8, Co.z29]
  have e1 : (n != n) = false := bne_self_eq_false n
  (repeat (first | refine SW.seq ?_ | refine SW.block ?_ | refine SW.g0 [0, 2] mixed (e1) ?_ | refine SW.skip ?_ | refine SW.exit ?_ | refine SW.ret ?_ | refine SW.condT rfl ?_ | refine SW.condF rfl ?_))
  exact End.mk [] (h4 := ⟨rfl, rfl⟩)
theorem nan8_at (n : Int) (k : Nat) : SCd Tryd.prog cmp_isNaN_uint8.f [.d (.int .u8 n)] [] k 0 (.d (.bool false)) [] := (nan8_ok n).sc rfl k
theorem nan32_ok (n : Int) : Go.Sl.Pure Tryd.prog cmp_isNaN_uint32.f [.d (.int .u32 n)] (bl false) := by
  refine cmp_isNaN_uint32.enter (by first | rfl | simp [SV.ok, SV.oks]) (by first | rfl | simp [Hp.ok, Ob.ok, SV.ok, SV.oks, Vec.cells_ok]) (by simp) ?_
  dsimp only [cmp_isNaN_uint32.s, Co.M, Co.G, Co.J, Co.H, Co.N, Co.F, Co.C, Co.Z, Co.B, Co.b8, Co.b32, Co.b64, Co.i6, Co.z8, Co.z29]
  have e1 : (n != n) = false := bne_self_eq_false n
  (repeat (first | refine SW.seq ?_ | refine SW.block ?_ | refine SW.g0 [0, 2] mixed (e1) ?_ | refine SW.skip ?_ | refine SW.exit ?_ | refine SW.ret ?_ | refine SW.condT rfl ?_ | refine SW.condF rfl ?_))
  exact End.mk [] (h4 := ⟨rfl, rfl⟩)
theorem nan32_at (n : Int) (k : Nat) : SCd Tryd.prog cmp_isNaN_uint32.f [.d (.int .u32 n)] [] k 0 (.d (.bool false)) [] := (nan32_ok n).sc rfl k
theorem nan64_ok (n : Int) : Go.Sl.Pure Tryd.prog cmp_isNaN_uint64.f [.d (.int .u64 n)] (bl false) := by
  refine cmp_isNaN_uint64.enter (by first | rfl | simp [SV.ok, SV.oks]) (by first | rfl | simp [Hp.ok, Ob.ok, SV.ok, SV.oks, Vec.cells_ok]) (by simp) ?_
  dsimp only [cmp_isNaN_uint64.s, Co.M, Co.G, Co.J, Co.H, Co.N, Co.F, Co.C, Co.Z, Co.B, Co.b8, Co.b32, Co.b64, Co.i6, Co.z8, Co.z29]
  have e1 : (n != n) = false := bne_self_eq_false n
  (repeat (first | refine SW.seq ?_ | refine SW.block ?_ | refine SW.g0 [0, 2] mixed (e1) ?_ | refine SW.skip ?_ | refine SW.exit ?_ | refine SW.ret ?_ | refine SW.condT rfl ?_ | refine SW.condF rfl ?_))
  exact End.mk [] (h4 := ⟨rfl, rfl⟩)
theorem nan64_at (n : Int) (k : Nat) : SCd Tryd.prog cmp_isNaN_uint64.f [.d (.int .u64 n)] [] k 0 (.d (.bool false)) [] := (nan64_ok n).sc rfl k
def cmpZ (a b : Int) : Int := if a < b then -1 else if a > b then 1 else 0
theorem cmp8_ok (a b : Int) : Go.Sl.Pure Tryd.prog cmp_Compare_uint8.f [.d (.int .u8 a), .d (.int .u8 b)] (i64 (cmpZ a b)) := by
  refine cmp_Compare_uint8.enter (by first | rfl | simp [SV.ok, SV.oks]) (by first | rfl | simp [Hp.ok, Ob.ok, SV.ok, SV.oks, Vec.cells_ok]) (by simp) ?_
  dsimp only [cmp_Compare_uint8.s, Co.M, Co.G, Co.J, Co.H, Co.N, Co.F, Co.C, Co.Z, Co.B, Co.b8, Co.b32, Co.b64, Co.i6, Co.z8, Co.z29]
  rcases Int.lt_trichotomy a b with h | h | h
  · have e1 : decide (a < b) = true := by simp [h]
    have e2 : cmpZ a b = -1 := by simp [cmpZ, h]
    (repeat (first | refine SW.seq ?_ | refine SW.block ?_ | (refine SW.regL [0, 1, 4, 5, 6, 11, 12, 13, 16, 19] mixed ?_; (repeat (first | refine RW.ro (e1) (h := ?_) | refine RW.skip (h := ?_) | refine RW.op (e1) (h := ?_) | refine RW.opN (e1) (h := ?_) | refine RW.skip0 (h := ?_) | (refine RW.callC (h := ?_); (first | refine CallP.mk (e1) (hc := nan8_at _ _) (h := ?_) | refine CallP.mk (e1) (hc := nan32_at _ _) (h := ?_) | refine CallP.mk (e1) (hc := nan64_at _ _) (h := ?_))))); refine RW.nil ⟨by kernel_rfl, Pruned.mk (h := ?_)⟩) | refine SW.skip ?_ | refine SW.exit ?_ | refine SW.ret ?_ | refine SW.condT rfl ?_ | refine SW.condF rfl ?_))
    exact End.mk [] (h4 := ⟨by rw [e2]; rfl, rfl⟩)
  · have e1 : decide (a < b) = false := by simp [h]
    have e3 : decide (a > b) = false := by simp [h]
    have e2 : cmpZ a b = 0 := by simp [cmpZ, h]
    (repeat (first | refine SW.seq ?_ | refine SW.block ?_ | (refine SW.regL [0, 1, 4, 5, 6, 11, 12, 13, 16, 19] mixed ?_; (repeat (first | refine RW.ro (And.intro (e1) (e3)) (h := ?_) | refine RW.skip (h := ?_) | refine RW.op (And.intro (e1) (e3)) (h := ?_) | refine RW.opN (And.intro (e1) (e3)) (h := ?_) | refine RW.skip0 (h := ?_) | (refine RW.callC (h := ?_); (first | refine CallP.mk (And.intro (e1) (e3)) (hc := nan8_at _ _) (h := ?_) | refine CallP.mk (And.intro (e1) (e3)) (hc := nan32_at _ _) (h := ?_) | refine CallP.mk (And.intro (e1) (e3)) (hc := nan64_at _ _) (h := ?_))))); refine RW.nil ⟨by kernel_rfl, Pruned.mk (h := ?_)⟩) | refine SW.skip ?_ | refine SW.exit ?_ | refine SW.ret ?_ | refine SW.condT rfl ?_ | refine SW.condF rfl ?_))
    exact End.mk [] (h4 := ⟨by rw [e2]; rfl, rfl⟩)
  · have e1 : decide (a < b) = false := by simp; omega
    have e3 : decide (a > b) = true := by simp [h]
    have e2 : cmpZ a b = 1 := by unfold cmpZ; rw [if_neg (by omega), if_pos h]
    (repeat (first | refine SW.seq ?_ | refine SW.block ?_ | (refine SW.regL [0, 1, 4, 5, 6, 11, 12, 13, 16, 19] mixed ?_; (repeat (first | refine RW.ro (And.intro (e1) (e3)) (h := ?_) | refine RW.skip (h := ?_) | refine RW.op (And.intro (e1) (e3)) (h := ?_) | refine RW.opN (And.intro (e1) (e3)) (h := ?_) | refine RW.skip0 (h := ?_) | (refine RW.callC (h := ?_); (first | refine CallP.mk (And.intro (e1) (e3)) (hc := nan8_at _ _) (h := ?_) | refine CallP.mk (And.intro (e1) (e3)) (hc := nan32_at _ _) (h := ?_) | refine CallP.mk (And.intro (e1) (e3)) (hc := nan64_at _ _) (h := ?_))))); refine RW.nil ⟨by kernel_rfl, Pruned.mk (h := ?_)⟩) | refine SW.skip ?_ | refine SW.exit ?_ | refine SW.ret ?_ | refine SW.condT rfl ?_ | refine SW.condF rfl ?_))
    exact End.mk [] (h4 := ⟨by rw [e2]; rfl, rfl⟩)
theorem cmp32_ok (a b : Int) : Go.Sl.Pure Tryd.prog cmp_Compare_uint32.f [.d (.int .u32 a), .d (.int .u32 b)] (i64 (cmpZ a b)) := by
  refine cmp_Compare_uint32.enter (by first | rfl | simp [SV.ok, SV.oks]) (by first | rfl | simp [Hp.ok, Ob.ok, SV.ok, SV.oks, Vec.cells_ok]) (by simp) ?_
  dsimp only [cmp_Compare_uint32.s, Co.M, Co.G, Co.J, Co.H, Co.N, Co.F, Co.C, Co.Z, Co.B, Co.b8, Co.b32, Co.b64, Co.i6, Co.z8, Co.z29]
  rcases Int.lt_trichotomy a b with h | h | h
  · have e1 : decide (a < b) = true := by simp [h]
    have e2 : cmpZ a b = -1 := by simp [cmpZ, h]
    (repeat (first | refine SW.seq ?_ | refine SW.block ?_ | (refine SW.regL [0, 1, 4, 5, 6, 11, 12, 13, 16, 19] mixed ?_; (repeat (first | refine RW.ro (e1) (h := ?_) | refine RW.skip (h := ?_) | refine RW.op (e1) (h := ?_) | refine RW.opN (e1) (h := ?_) | refine RW.skip0 (h := ?_) | (refine RW.callC (h := ?_); (first | refine CallP.mk (e1) (hc := nan8_at _ _) (h := ?_) | refine CallP.mk (e1) (hc := nan32_at _ _) (h := ?_) | refine CallP.mk (e1) (hc := nan64_at _ _) (h := ?_))))); refine RW.nil ⟨by kernel_rfl, Pruned.mk (h := ?_)⟩) | refine SW.skip ?_ | refine SW.exit ?_ | refine SW.ret ?_ | refine SW.condT rfl ?_ | refine SW.condF rfl ?_))
    exact End.mk [] (h4 := ⟨by rw [e2]; rfl, rfl⟩)
  · have e1 : decide (a < b) = false := by simp [h]
    have e3 : decide (a > b) = false := by simp [h]
    have e2 : cmpZ a b = 0 := by simp [cmpZ, h]
    (repeat (first | refine SW.seq ?_ | refine SW.block ?_ | (refine SW.regL [0, 1, 4, 5, 6, 11, 12, 13, 16, 19] mixed ?_; (repeat (first | refine RW.ro (And.intro (e1) (e3)) (h := ?_) | refine RW.skip (h := ?_) | refine RW.op (And.intro (e1) (e3)) (h := ?_) | refine RW.opN (And.intro (e1) (e3)) (h := ?_) | refine RW.skip0 (h := ?_) | (refine RW.callC (h := ?_); (first | refine CallP.mk (And.intro (e1) (e3)) (hc := nan8_at _ _) (h := ?_) | refine CallP.mk (And.intro (e1) (e3)) (hc := nan32_at _ _) (h := ?_) | refine CallP.mk (And.intro (e1) (e3)) (hc := nan64_at _ _) (h := ?_))))); refine RW.nil ⟨by kernel_rfl, Pruned.mk (h := ?_)⟩) | refine SW.skip ?_ | refine SW.exit ?_ | refine SW.ret ?_ | refine SW.condT rfl ?_ | refine SW.condF rfl ?_))
    exact End.mk [] (h4 := ⟨by rw [e2]; rfl, rfl⟩)
  · have e1 : decide (a < b) = false := by simp; omega
    have e3 : decide (a > b) = true := by simp [h]
    have e2 : cmpZ a b = 1 := by unfold cmpZ; rw [if_neg (by omega), if_pos h]
    (repeat (first | refine SW.seq ?_ | refine SW.block ?_ | (refine SW.regL [0, 1, 4, 5, 6, 11, 12, 13, 16, 19] mixed ?_; (repeat (first | refine RW.ro (And.intro (e1) (e3)) (h := ?_) | refine RW.skip (h := ?_) | refine RW.op (And.intro (e1) (e3)) (h := ?_) | refine RW.opN (And.intro (e1) (e3)) (h := ?_) | refine RW.skip0 (h := ?_) | (refine RW.callC (h := ?_); (first | refine CallP.mk (And.intro (e1) (e3)) (hc := nan8_at _ _) (h := ?_) | refine CallP.mk (And.intro (e1) (e3)) (hc := nan32_at _ _) (h := ?_) | refine CallP.mk (And.intro (e1) (e3)) (hc := nan64_at _ _) (h := ?_))))); refine RW.nil ⟨by kernel_rfl, Pruned.mk (h := ?_)⟩) | refine SW.skip ?_ | refine SW.exit ?_ | refine SW.ret ?_ | refine SW.condT rfl ?_ | refine SW.condF rfl ?_))
    exact End.mk [] (h4 := ⟨by rw [e2]; rfl, rfl⟩)
theorem cmp64_ok (a b : Int) : Go.Sl.Pure Tryd.prog cmp_Compare_uint64.f [.d (.int .u64 a), .d (.int .u64 b)] (i64 (cmpZ a b)) := by
  refine cmp_Compare_uint64.enter (by first | rfl | simp [SV.ok, SV.oks]) (by first | rfl | simp [Hp.ok, Ob.ok, SV.ok, SV.oks, Vec.cells_ok]) (by simp) ?_
  dsimp only [cmp_Compare_uint64.s, Co.M, Co.G, Co.J, Co.H, Co.N, Co.F, Co.C, Co.Z, Co.B, Co.b8, Co.b32, Co.b64, Co.i6, Co.z8, Co.z29]
  rcases Int.lt_trichotomy a b with h | h | h
  · have e1 : decide (a < b) = true := by simp [h]
    have e2 : cmpZ a b = -1 := by simp [cmpZ, h]
    (repeat (first | refine SW.seq ?_ | refine SW.block ?_ | (refine SW.regL [0, 1, 4, 5, 6, 11, 12, 13, 16, 19] mixed ?_; (repeat (first | refine RW.ro (e1) (h := ?_) | refine RW.skip (h := ?_) | refine RW.op (e1) (h := ?_) | refine RW.opN (e1) (h := ?_) | refine RW.skip0 (h := ?_) | (refine RW.callC (h := ?_); (first | refine CallP.mk (e1) (hc := nan8_at _ _) (h := ?_) | refine CallP.mk (e1) (hc := nan32_at _ _) (h := ?_) | refine CallP.mk (e1) (hc := nan64_at _ _) (h := ?_))))); refine RW.nil ⟨by kernel_rfl, Pruned.mk (h := ?_)⟩) | refine SW.skip ?_ | refine SW.exit ?_ | refine SW.ret ?_ | refine SW.condT rfl ?_ | refine SW.condF rfl ?_))
    exact End.mk [] (h4 := ⟨by rw [e2]; rfl, rfl⟩)
  · have e1 : decide (a < b) = false := by simp [h]
    have e3 : decide (a > b) = false := by simp [h]
    have e2 : cmpZ a b = 0 := by simp [cmpZ, h]
    (repeat (first | refine SW.seq ?_ | refine SW.block ?_ | (refine SW.regL [0, 1, 4, 5, 6, 11, 12, 13, 16, 19] mixed ?_; (repeat (first | refine RW.ro (And.intro (e1) (e3)) (h := ?_) | refine RW.skip (h := ?_) | refine RW.op (And.intro (e1) (e3)) (h := ?_) | refine RW.opN (And.intro (e1) (e3)) (h := ?_) | refine RW.skip0 (h := ?_) | (refine RW.callC (h := ?_); (first | refine CallP.mk (And.intro (e1) (e3)) (hc := nan8_at _ _) (h := ?_) | refine CallP.mk (And.intro (e1) (e3)) (hc := nan32_at _ _) (h := ?_) | refine CallP.mk (And.intro (e1) (e3)) (hc := nan64_at _ _) (h := ?_))))); refine RW.nil ⟨by kernel_rfl, Pruned.mk (h := ?_)⟩) | refine SW.skip ?_ | refine SW.exit ?_ | refine SW.ret ?_ | refine SW.condT rfl ?_ | refine SW.condF rfl ?_))
    exact End.mk [] (h4 := ⟨by rw [e2]; rfl, rfl⟩)
  · have e1 : decide (a < b) = false := by simp; omega
    have e3 : decide (a > b) = true := by simp [h]
    have e2 : cmpZ a b = 1 := by unfold cmpZ; rw [if_neg (by omega), if_pos h]
    (repeat (first | refine SW.seq ?_ | refine SW.block ?_ | (refine SW.regL [0, 1, 4, 5, 6, 11, 12, 13, 16, 19] mixed ?_; (repeat (first | refine RW.ro (And.intro (e1) (e3)) (h := ?_) | refine RW.skip (h := ?_) | refine RW.op (And.intro (e1) (e3)) (h := ?_) | refine RW.opN (And.intro (e1) (e3)) (h := ?_) | refine RW.skip0 (h := ?_) | (refine RW.callC (h := ?_); (first | refine CallP.mk (And.intro (e1) (e3)) (hc := nan8_at _ _) (h := ?_) | refine CallP.mk (And.intro (e1) (e3)) (hc := nan32_at _ _) (h := ?_) | refine CallP.mk (And.intro (e1) (e3)) (hc := nan64_at _ _) (h := ?_))))); refine RW.nil ⟨by kernel_rfl, Pruned.mk (h := ?_)⟩) | refine SW.skip ?_ | refine SW.exit ?_ | refine SW.ret ?_ | refine SW.condT rfl ?_ | refine SW.condF rfl ?_))
    exact End.mk [] (h4 := ⟨by rw [e2]; rfl, rfl⟩)
theorem cmp8_at (a b : Int) (k : Nat) : SCd Tryd.prog cmp_Compare_uint8.f [.d (.int .u8 a), .d (.int .u8 b)] [] k 0 (.d (.int .i64 (cmpZ a b))) [] := (cmp8_ok a b).sc rfl k
theorem cmp32_at (a b : Int) (k : Nat) : SCd Tryd.prog cmp_Compare_uint32.f [.d (.int .u32 a), .d (.int .u32 b)] [] k 0 (.d (.int .i64 (cmpZ a b))) [] := (cmp32_ok a b).sc rfl k
theorem cmp64_at (a b : Int) (k : Nat) : SCd Tryd.prog cmp_Compare_uint64.f [.d (.int .u64 a), .d (.int .u64 b)] [] k 0 (.d (.int .i64 (cmpZ a b))) [] := (cmp64_ok a b).sc rfl k
def orZ (a b c : Int) : Int := if a = 0 then (if b = 0 then c else b) else a
theorem or3_ok (a b c : Int) : Go.Sl.Pure Tryd.prog cmp_Or_int.f [.d (.sl 3 [.int .i64 a, .int .i64 b, .int .i64 c])] (i64 (orZ a b c)) := by
  refine cmp_Or_int.enter (by first | rfl | simp [SV.ok, SV.oks]) (by first | rfl | simp [Hp.ok, Ob.ok, SV.ok, SV.oks, Vec.cells_ok]) (by simp) ?_
  dsimp only [cmp_Or_int.s, Co.M, Co.G, Co.J, Co.H, Co.N, Co.F, Co.C, Co.Z, Co.B, Co.b8, Co.b32, Co.b64, Co.i6, Co.z8, Co.z29]
  (repeat (first | refine SW.seq ?_ | refine SW.block ?_ | refine SW.g0 [0, 2, 3, 5, 6, 7, 8, 9, 14] mixed bq_tt ?_ | refine SW.skip ?_ | refine SW.exit ?_ | refine SW.ret ?_ | refine SW.condT rfl ?_ | refine SW.condF rfl ?_))
  refine SW.loopA (α := {i : Nat // i ≤ 3 ∧ (1 ≤ i → a = 0) ∧ (2 ≤ i → b = 0) ∧ (3 ≤ i → c = 0)}) (fun i => ⟨[(8, i64 i.1), (6, .d (.sl 3 [.int .i64 a, .int .i64 b, .int .i64 c])), (7, i64 3), (3, i64 0)], [], 0⟩) (fun i => 3 - i.1) ⟨0, by omega⟩ id bq_tt (round := ?_)
  rintro ⟨i, hi, ha, hb, hc⟩
  match i, hi, ha, hb, hc with
  | 0, _, _, _, _ =>
    rcases h1 : (a != 0) with _ | _
    · (repeat (first | refine SW.seq ?_ | refine SW.block ?_ | refine SW.g0 [0, 2, 3, 5, 6, 7, 8, 9, 14] mixed (h1) ?_ | refine SW.skip ?_ | refine SW.exit ?_ | refine SW.ret ?_ | refine SW.condT rfl ?_ | refine SW.condF rfl ?_))
      exact Next.mk ⟨1, by omega, fun _ => by simpa using h1, by omega⟩ id bq_tt
    · (repeat (first | refine SW.seq ?_ | refine SW.block ?_ | refine SW.g0 [0, 2, 3, 5, 6, 7, 8, 9, 14] mixed (h1) ?_ | refine SW.skip ?_ | refine SW.exit ?_ | refine SW.ret ?_ | refine SW.condT rfl ?_ | refine SW.condF rfl ?_))
      exact End.mk [] (h4 := ⟨by simp at h1; unfold orZ; rw [if_neg h1]; rfl, rfl⟩)
  | 1, _, ha, _, _ =>
    rcases h1 : (b != 0) with _ | _
    · (repeat (first | refine SW.seq ?_ | refine SW.block ?_ | refine SW.g0 [0, 2, 3, 5, 6, 7, 8, 9, 14] mixed (h1) ?_ | refine SW.skip ?_ | refine SW.exit ?_ | refine SW.ret ?_ | refine SW.condT rfl ?_ | refine SW.condF rfl ?_))
      exact Next.mk ⟨2, by omega, fun _ => ha (by omega), fun _ => by simpa using h1, by omega⟩ id bq_tt
    · (repeat (first | refine SW.seq ?_ | refine SW.block ?_ | refine SW.g0 [0, 2, 3, 5, 6, 7, 8, 9, 14] mixed (h1) ?_ | refine SW.skip ?_ | refine SW.exit ?_ | refine SW.ret ?_ | refine SW.condT rfl ?_ | refine SW.condF rfl ?_))
      exact End.mk [] (h4 := ⟨by simp at h1; unfold orZ; rw [if_pos (ha (by omega)), if_neg h1]; rfl, rfl⟩)
  | 2, _, ha, hb, _ =>
    rcases h1 : (c != 0) with _ | _
    · (repeat (first | refine SW.seq ?_ | refine SW.block ?_ | refine SW.g0 [0, 2, 3, 5, 6, 7, 8, 9, 14] mixed (h1) ?_ | refine SW.skip ?_ | refine SW.exit ?_ | refine SW.ret ?_ | refine SW.condT rfl ?_ | refine SW.condF rfl ?_))
      exact Next.mk ⟨3, by omega, fun _ => ha (by omega), fun _ => hb (by omega), fun _ => by simpa using h1⟩ id bq_tt
    · (repeat (first | refine SW.seq ?_ | refine SW.block ?_ | refine SW.g0 [0, 2, 3, 5, 6, 7, 8, 9, 14] mixed (h1) ?_ | refine SW.skip ?_ | refine SW.exit ?_ | refine SW.ret ?_ | refine SW.condT rfl ?_ | refine SW.condF rfl ?_))
      exact End.mk [] (h4 := ⟨by unfold orZ; rw [if_pos (ha (by omega)), if_pos (hb (by omega))]; rfl, rfl⟩)
  | 3, _, ha, hb, hc =>
    (repeat (first | refine SW.seq ?_ | refine SW.block ?_ | refine SW.g0 [0, 2, 3, 5, 6, 7, 8, 9, 14] mixed bq_tt ?_ | refine SW.skip ?_ | refine SW.exit ?_ | refine SW.ret ?_ | refine SW.condT rfl ?_ | refine SW.condF rfl ?_))
    exact End.mk [] (h4 := ⟨by unfold orZ; rw [if_pos (ha (by omega)), if_pos (hb (by omega)), hc (by omega)]; rfl, rfl⟩)
theorem or3_at (a b c : Int) (k : Nat) : SCd Tryd.prog cmp_Or_int.f [.d (.sl 3 [.int .i64 a, .int .i64 b, .int .i64 c])] [] k 0 (.d (.int .i64 (orZ a b c))) [] := (or3_ok a b c).sc rfl k
theorem spl3 : ∀ (x y z a b c : SV), spl (spl (spl [x, y, z] 0 [a]) 1 [b]) 2 [c] = [a, b, c] := fun _ _ _ _ _ _ => rfl
theorem ocmp_eq (a b : OpD) : orZ (cmpZ a.time b.time) (cmpZ a.dot.r b.dot.r) (cmpZ a.dot.n b.dot.n) = ocmp a b := by
  unfold ocmp orZ cmpZ
  by_cases h1 : a.lt b = true
  · rw [if_pos h1]
    rw [OpD.lt_iff] at h1
    repeat' split
    all_goals omega
  · by_cases h2 : b.lt a = true
    · rw [if_neg h1, if_pos h2]
      rw [OpD.lt_iff] at h1 h2
      repeat' split
      all_goals omega
    · rw [if_neg h1, if_neg h2]
      rw [OpD.lt_iff] at h1 h2
      repeat' split
      all_goals omega
theorem ocompare_ok (a b : OpD) : Go.Sl.Pure Tryd.prog order_Compare.f [.agg a.cells, .agg b.cells] (i64 (ocmp a b)) := by
  rw [← ocmp_eq]
  refine order_Compare.enter (by first | rfl | simp [SV.ok, SV.oks]) (by first | rfl | simp [Hp.ok, Ob.ok, SV.ok, SV.oks, Vec.cells_ok]) (by simp) ?_
  dsimp only [order_Compare.s, Co.M, Co.G, Co.J, Co.H, Co.N, Co.F, Co.C, Co.Z, Co.B, Co.b8, Co.b32, Co.b64, Co.i6, Co.z8, Co.z29]
  (repeat (first | refine SW.seq ?_ | refine SW.block ?_ | (refine SW.regL [0, 1, 2, 3, 4] mixed ?_; (repeat (first | refine RW.ro (spl3) (h := ?_) | refine RW.skip (h := ?_) | refine RW.op (spl3) (h := ?_) | refine RW.opN (spl3) (h := ?_) | refine RW.skip0 (h := ?_) | (refine RW.callC (h := ?_); (first | refine CallP.mk (spl3) (hc := cmp64_at _ _ _) (h := ?_) | refine CallP.mk (spl3) (hc := cmp8_at _ _ _) (h := ?_) | refine CallP.mk (spl3) (hc := cmp32_at _ _ _) (h := ?_) | refine CallP.mk (spl3) (hc := or3_at _ _ _ _) (h := ?_))))); refine RW.nil ⟨by kernel_rfl, Pruned.mk (h := ?_)⟩) | refine SW.skip ?_ | refine SW.exit ?_ | refine SW.ret ?_ | refine SW.condT rfl ?_ | refine SW.condF rfl ?_))
  exact End.mk [] (h4 := ⟨rfl, rfl⟩)
theorem ocompare_at (a b : OpD) (k : Nat) : SCd Tryd.prog order_Compare.f [.agg a.cells, .agg b.cells] [] k 0 (.d (.int .i64 (ocmp a b))) [] := (ocompare_ok a b).sc rfl k
theorem may_ok (r n : Int) : Go.Sl.Pure Tryd.prog dot_May.f [.agg [.d (.int .u8 r), .d (.int .u32 n)]] (bl (decide (r < 8) && decide (n > 0))) := by
  refine dot_May.enter (by first | rfl | simp [SV.ok, SV.oks]) (by first | rfl | simp [Hp.ok, Ob.ok, SV.ok, SV.oks, Vec.cells_ok]) (by simp) ?_
  dsimp only [dot_May.s, Co.M, Co.G, Co.J, Co.H, Co.N, Co.F, Co.C, Co.Z, Co.B, Co.b8, Co.b32, Co.b64, Co.i6, Co.z8, Co.z29]
  rcases h1 : decide (r < 8) with _ | _
  · (repeat (first | refine SW.seq ?_ | refine SW.block ?_ | refine SW.g0 [0, 1, 2] mixed (h1) ?_ | refine SW.skip ?_ | refine SW.exit ?_ | refine SW.ret ?_ | refine SW.condT rfl ?_ | refine SW.condF rfl ?_))
    exact End.mk [] (h4 := ⟨rfl, rfl⟩)
  · (repeat (first | refine SW.seq ?_ | refine SW.block ?_ | refine SW.g0 [0, 1, 2] mixed (h1) ?_ | refine SW.skip ?_ | refine SW.exit ?_ | refine SW.ret ?_ | refine SW.condT rfl ?_ | refine SW.condF rfl ?_))
    exact End.mk [] (h4 := ⟨rfl, rfl⟩)
theorem may_at (d : Dt) (k : Nat) : SCd Tryd.prog dot_May.f [.agg d.cells] [] k 0 (bl d.may) [] := by
  have := (may_ok d.r d.n).sc rfl k
  have e : d.may = (decide ((d.r : Int) < 8) && decide ((d.n : Int) > 0)) := by
    unfold Dt.may
    rw [Bool.eq_iff_iff]; simp only [Bool.and_eq_true, decide_eq_true_eq]; omega
  rw [e]; exact this
theorem covers_ok (v : Vec) (d : Dt) : Go.Sl.Pure Tryd.prog vector_Covers.f [.agg v.cells, .agg d.cells] (bl (v.covers d)) := by
  refine vector_Covers.enter (by first | rfl | simp [SV.ok, SV.oks]) (by first | rfl | simp [Hp.ok, Ob.ok, SV.ok, SV.oks, Vec.cells_ok]) (by simp) ?_
  dsimp only [vector_Covers.s, Co.M, Co.G, Co.J, Co.H, Co.N, Co.F, Co.C, Co.Z, Co.B, Co.b8, Co.b32, Co.b64, Co.i6, Co.z8, Co.z29]
  rcases h : d.may with _ | _
  · (repeat (first | refine SW.seq ?_ | refine SW.block ?_ | (refine SW.regL [0, 1, 2, 3, 4] mixed ?_; (repeat (first | refine RW.ro (h) (h := ?_) | refine RW.skip (h := ?_) | refine RW.op (h) (h := ?_) | refine RW.opN (h) (h := ?_) | refine RW.skip0 (h := ?_) | (refine RW.callC (h := ?_); (first | refine CallP.mk (h) (hc := may_at _ _) (h := ?_))))); refine RW.nil ⟨by kernel_rfl, Pruned.mk (h := ?_)⟩) | refine SW.skip ?_ | refine SW.exit ?_ | refine SW.ret ?_ | refine SW.condT rfl ?_ | refine SW.condF rfl ?_))
    have e : v.covers d = false := by unfold Vec.covers; rw [h]; rfl
    exact End.mk [] (h4 := ⟨by rw [e]; rfl, rfl⟩)
  · have hr : d.r < 8 := by
      have := h
      simp only [Dt.may, Bool.and_eq_true, decide_eq_true_eq] at this
      exact this.1
    have e : v.covers d = decide ((v.get d.r : Int) ≥ d.n) := by
      unfold Vec.covers
      rw [h, Bool.true_and, Bool.eq_iff_iff]; simp only [decide_eq_true_eq]; omega
    (repeat (first | refine SW.seq ?_ | refine SW.block ?_ | (have fx := (And.intro (h) (Vec.cells_get v hr)); refine SW.regL [0, 1, 2, 3, 4] mixed ?_; (repeat (first | refine RW.ro fx (h := ?_) | refine RW.skip (h := ?_) | refine RW.op fx (h := ?_) | refine RW.opN fx (h := ?_) | refine RW.skip0 (h := ?_) | (refine RW.callC (h := ?_); (first | refine CallP.mk fx (hc := may_at _ _) (h := ?_))))); refine RW.nil ⟨by kernel_rfl, Pruned.mk (h := ?_)⟩) | refine SW.skip ?_ | refine SW.exit ?_ | refine SW.ret ?_ | refine SW.condT rfl ?_ | refine SW.condF rfl ?_))
    exact End.mk [] (h4 := ⟨by rw [e]; rfl, rfl⟩)
theorem covers_at (v : Vec) (d : Dt) (k : Nat) : SCd Tryd.prog vector_Covers.f [.agg v.cells, .agg d.cells] [] k 0 (bl (v.covers d)) [] := (covers_ok v d).sc rfl k
end Go.Proofs.YtemghnbbmahaaaaDoor
namespace Go.Proofs.YtemghnbbmahaaaaDoor
open Go.Sl Go.Proofs
attribute [local irreducible] SW RW SCd SC CallP Pruned
def ixO (t : List OpD) (d : Dt) : Option Int := (t.findIdx? fun o => decide (o.dot = d)).map fun i => (i : Int)
def AtO (M : MM Dt Int) (t : List OpD) : Prop := ∀ d, MM.get M d = ixO t d
theorem ixO_snoc (t : List OpD) (x : OpD) (d : Dt) : ixO (t ++ [x]) d = match ixO t d with
    | some i => some i
    | none => if x.dot = d then some (t.length : Int) else none := by
  unfold ixO
  rw [List.findIdx?_append]
  cases h : t.findIdx? fun o => decide (o.dot = d) with
  | some i => simp
  | none =>
    by_cases hx : x.dot = d
    · simp [List.findIdx?_cons, hx]
    · simp [List.findIdx?_cons, hx]
theorem keys_nd {M : MM Dt Int} {c : Nat} {d : Dt} {i : Int} (h : (MM.keys M).Nodup) (hh : MM.has M d = false) : (MM.keys (MM.put M c d i)).Nodup := by
  rw [MM.keys_put, hh]
  simp only [Bool.false_eq_true, if_false]
  rw [List.nodup_append]
  refine ⟨h, by simp, fun a ha b hb e => ?_⟩
  simp only [List.mem_singleton] at hb
  have := MM.has_iff.2 (e ▸ ha : b ∈ MM.keys M)
  rw [hb, hh] at this; cases this
def XO (l : List OpD) : Type := {x : Nat × MM Dt Int × Nat // x.1 ≤ l.length ∧ AtO x.2.1 (l.take x.1) ∧ (MM.keys x.2.1).Nodup}
def xo0 (l : List OpD) : XO l := ⟨(0, [], 0), ⟨Nat.zero_le _, fun d => rfl, List.nodup_nil⟩⟩
def idxS (l : List OpD) (m : Nat) : SV := .agg [ops l, .mp m]
set_option maxHeartbeats 1000000 in
theorem indexOf_sb (l : List OpD) (hl : l.length < 4611686018427387904) : SB Tryd.prog order_indexOf.f [ops l] [] 0 3 fun r F => r = idxS l 1 ∧ ∃ M c, (AtO M l ∧ (MM.keys M).Nodup) ∧ F = [(1, .map (mapE Dt.cells iv M) c)] := by
  refine order_indexOf.enter (by first | rfl | simp [SV.ok, SV.oks]) (by first | rfl | simp [Hp.ok, Ob.ok, SV.ok, SV.oks, Vec.cells_ok]) (by simp) ?_
  dsimp only [order_indexOf.s, Co.M, Co.G, Co.J, Co.H, Co.N, Co.F, Co.C, Co.Z, Co.B, Co.b8, Co.b32, Co.b64, Co.i6, Co.z8, Co.z29]
  have s1 : spl (spl [SV.d .nils, SV.d .nilm] 0 [ops l]) 1 [SV.mp 1] = [ops l, .mp 1] := rfl
  have s2 : spl [SV.d .nils, SV.d .nilm] 0 [ops l, .mp 1] = [ops l, .mp 1] := rfl
  refine SW.seq ?_
  refine SW.g0 [0, 2, 3, 4, 5, 7, 11, 12, 13, 14, 27] mixed bq_tt ?_
  refine SW.seq ?_
  refine SW.g0 [0, 2, 3, 4, 5, 7, 11, 12, 13, 14, 27] mixed (And.intro (s1) (s2)) ?_
  refine SW.seq (SW.seq ?_)
  refine SW.g0 [0, 2, 3, 4, 5, 7, 11, 12, 13, 14, 27] mixed bq_tt ?_
  refine SW.block ?_
  refine SW.loopA (α := XO l) (fun x => ⟨[(13, i64 x.1.1), (11, ops l), (12, i64 l.length), (3, .ptr 2 0), (2, .ptr 0 0), (0, ops l)], [(2, .box 54 [ops l, .mp 1]), (1, .map (mapE Dt.cells iv x.1.2.1) x.1.2.2), (0, .box 54 [.d .nils, .d .nilm])], 3⟩) (fun x => l.length - x.1.1) (xo0 l) id (And.intro (show (xo0 l).val = (0, [], 0) from rfl) (show mapE Dt.cells iv ([] : MM Dt Int) = [] from rfl)) (round := ?_)
  rintro ⟨⟨i, M, c⟩, hi, hM, hK⟩
  dsimp only at *
  by_cases h : i < l.length
  · have h1 : decide ((i : Int) < l.length) = true := by simp only [decide_eq_true_eq]; omega
    obtain ⟨x, hx⟩ := get_of_lt h
    have e2 : IntKind.i64.wrap ((i : Int) + 1) = ((i + 1 : Nat) : Int) := wrap_i64 _ (by omega)
    have e1 : l.take (i + 1) = l.take i ++ [x] := take_snoc hx
    have hsn := ixO_snoc (l.take i) x
    rw [← e1] at hsn
    have u1 := find_dt x.dot iv M
    have u3 := look_int (kc := Dt.cells) M x.dot
    have u4 := mset_int (kc := Dt.cells) M c x.dot (i : Int)
    refine SW.seq ?_
    refine SW.g0 [0, 2, 3, 4, 5, 7, 11, 12, 13, 14, 27] mixed (h1) ?_
    refine SW.seq (SW.condT rfl (SW.skip ?_))
    refine SW.seq (SW.block (SW.seq ?_))
    refine SW.g0 [0, 2, 3, 4, 5, 7, 11, 12, 13, 14, 27] mixed (And.intro (op_at hx) (op_room0 hx)) ?_
    refine SW.seq ?_
    rcases hh : MM.has M x.dot with _ | _
    · have hn : MM.get M x.dot = none := by
        rw [← MM.idx_none]
        rw [← MM.idx_isSome] at hh
        cases hz : MM.idx M x.dot with
        | none => rfl
        | some j => rw [hz] at hh; cases hh
      refine SW.g0 [0, 2, 3, 4, 5, 7, 11, 12, 13, 14, 27] mixed (And.intro (u1) (And.intro (u3) (And.intro (x.gDot) (hh)))) ?_
      refine SW.seq ?_
      refine SW.g0 [0, 2, 3, 4, 5, 7, 11, 12, 13, 14, 27] mixed bq_tt ?_
      refine SW.condT rfl ?_
      refine SW.g0 [0, 2, 3, 4, 5, 7, 11, 12, 13, 14, 27] mixed (And.intro (u1) (And.intro (u4) (x.gDot))) ?_
      refine SW.g0 [0, 2, 3, 4, 5, 7, 11, 12, 13, 14, 27] mixed (e2) ?_
      have hA : AtO (MM.put M c x.dot (i : Int)) (l.take (i + 1)) := fun d => by
        rw [MM.get_put, e1, ixO_snoc, ← hM d]
        have hti : (l.take i).length = i := by simp; omega
        by_cases hd : d = x.dot
        · subst hd
          rw [if_pos rfl, hn, hti]; simp
        · rw [if_neg hd]
          cases MM.get M d with
          | some j => rfl
          | none => rw [if_neg (fun e => hd e.symm)]
      exact ⟨⟨(i + 1, MM.put M c x.dot (i : Int), MM.clk M c x.dot), ⟨by show i + 1 ≤ _; omega, hA, keys_nd hK hh⟩⟩, id, by show l.length - (i + 1) < _; omega, Weak.mk (Φ := ((mapE Dt.cells iv (MM.put M c x.dot (i : Int))).all fun e => e.2.1.ok (fun n => decide (n < 3)) && e.2.2.ok (fun n => decide (n < 3))) = true) (mapE_ok _ _ (fun _ => rfl) (fun _ => rfl))⟩
    · refine SW.g0 [0, 2, 3, 4, 5, 7, 11, 12, 13, 14, 27] mixed (And.intro (u1) (And.intro (u3) (And.intro (x.gDot) (hh)))) ?_
      refine SW.seq ?_
      refine SW.g0 [0, 2, 3, 4, 5, 7, 11, 12, 13, 14, 27] mixed bq_tt ?_
      refine SW.condF rfl (SW.skip ?_)
      refine SW.g0 [0, 2, 3, 4, 5, 7, 11, 12, 13, 14, 27] mixed (e2) ?_
      have hA : AtO M (l.take (i + 1)) := fun d => by
        rw [e1, ixO_snoc, ← hM d]
        cases hg : MM.get M d with
        | some j => rfl
        | none =>
          by_cases hd : x.dot = d
          · subst hd
            rw [← MM.idx_isSome] at hh
            rw [← MM.idx_none] at hg
            rw [hg] at hh; cases hh
          · rw [if_neg hd]
      exact ⟨⟨(i + 1, M, c), ⟨by show i + 1 ≤ _; omega, hA, hK⟩⟩, id, by show l.length - (i + 1) < _; omega, Weak.mk (Φ := ((mapE Dt.cells iv M).all fun e => e.2.1.ok (fun n => decide (n < 3)) && e.2.2.ok (fun n => decide (n < 3))) = true) (mapE_ok _ _ (fun _ => rfl) (fun _ => rfl))⟩
  · have h1 : decide ((i : Int) < l.length) = false := by simp only [decide_eq_false_iff_not]; omega
    have h2 : i = l.length := by omega
    subst h2
    rw [List.take_length] at hM
    refine SW.seq ?_
    refine SW.g0 [0, 2, 3, 4, 5, 7, 11, 12, 13, 14, 27] mixed (h1) ?_
    refine SW.seq (SW.condF rfl (SW.exit ?_))
    refine SW.seq ?_
    refine SW.g0 [0, 2, 3, 4, 5, 7, 11, 12, 13, 14, 27] mixed (s2) ?_
    refine SW.ret ?_
    exact End.mk [(1, .map (mapE Dt.cells iv M) c)] (h4 := ⟨rfl, M, c, ⟨hM, hK⟩, rfl⟩) (h6 := by simp only [Hp.ok, List.all_cons, List.all_nil, Ob.ok, Bool.and_true]; rw [Bool.and_eq_true]; exact ⟨by simp, mapE_ok _ _ (fun _ => rfl) (fun _ => rfl)⟩)
set_option maxHeartbeats 1000000 in
theorem icompare_sb (l : List OpD) {i j : Nat} {a b : OpD} (ha : l[i]? = some a) (hb : l[j]? = some b) (m k : Nat) (hm : m < k) :
    SB Tryd.prog order_index_compare.f [idxS l m, i64 i, i64 j] [] k 0 fun r F => r = i64 (ocmp a b) ∧ F = [] := by
  have hi := lt_of_get ha
  have hj := lt_of_get hb
  refine order_index_compare.enter (by simp [idxS, SV.ok, SV.oks]; omega) (by simp [Hp.ok]) (by simp) ?_
  unfold idxS
  dsimp only [order_index_compare.s, Co.M, Co.G, Co.J, Co.H, Co.N, Co.F, Co.C, Co.Z, Co.B, Co.b8, Co.b32, Co.b64, Co.i6, Co.z8, Co.z29]
  refine SW.seq ?_
  (refine SW.regL [0, 1, 2, 3, 6] mixed ?_; (repeat (first | refine RW.ro bq_tt (h := ?_) | refine RW.skip (h := ?_) | refine RW.op bq_tt (h := ?_) | refine RW.opN bq_tt (h := ?_) | refine RW.skip0 (h := ?_) | (refine RW.callC (h := ?_); (first | refine CallP.mk bq_tt (hc := ocompare_at _ _ _) (h := ?_))))); refine RW.nil ⟨by kernel_rfl, Pruned.mk (h := ?_)⟩)
  refine SW.seq ?_
  (have fx := (And.intro (op_at ha) (And.intro (op_room0 ha) (And.intro (op_at hb) (op_room0 hb)))); refine SW.regL [0, 1, 2, 3, 6] mixed ?_; (repeat (first | refine RW.ro fx (h := ?_) | refine RW.skip (h := ?_) | refine RW.op fx (h := ?_) | refine RW.opN fx (h := ?_) | refine RW.skip0 (h := ?_) | (refine RW.callC (h := ?_); (first | refine CallP.mk fx (hc := ocompare_at _ _ _) (h := ?_))))); refine RW.nil ⟨by kernel_rfl, Pruned.mk (h := ?_)⟩)
  refine SW.ret ?_
  exact End.mk [] (h4 := ⟨rfl, rfl⟩)
end Go.Proofs.YtemghnbbmahaaaaDoor
namespace Go.Proofs.YtemghnbbmahaaaaDoor
open Go.Sl Go.Proofs
attribute [local irreducible] SW RW SCd SC CallP Pruned
section
variable {N k0 : Nat} {K : St → Prop}
theorem SWn.yieldOG {α σ : Type} {Fh : σ → Hp} {Step : σ → α → σ → Prop} {go : σ → Bool} {nky y B kk d t : Nat} {enc : α → SV} {s0 s : σ} {xs : List α} (hy : YieldOk Tryd.prog y enc nky Fh Step go s0 B) (x : α) {G : Hp} {env : List (Nat × SV)} (env1 : List (Nat × SV)) {r : List SI} {f a : X}
    (hO : Own G Fh s kk) (p1 : OnBy Step s0 xs s) (hlt : xs.length < B) (hgo : go s = true) (hk0 : k0 ≤ kk) (hE : env.lookup t = some (.d (.bool true)))
    (h1 : ev (fun t => env.lookup t) f = some (.yl y)) (h2 : ev (fun t => env.lookup t) a = some (enc x)) (he : ∀ b : Bool, EnvW id kk ((d, bl b) :: env) ((d, bl b) :: env1))
    (h : ∀ s', Step s x s' → Own G Fh s' (kk + nky) → OnBy Step s0 (xs ++ [x]) s' → SWn Tryd.prog N k0 r ⟨(d, bl (go s')) :: env1, G ++ Fh s', kk + nky⟩ K) :
    SWn Tryd.prog N k0 (⟨some d, .call f [a], some (t, true)⟩ :: r) ⟨env, G ++ Fh s, kk⟩ K := by
  refine SWn.yieldG (st := ⟨env, G ++ Fh s, kk⟩) hE h1 (by simp only [evs]; rw [h2]) (hy.isin s) (hy.call s xs x kk p1 hlt hO.okF hgo) hO.sub ?_
  rintro v F' ⟨s', hstep, rfl, rfl, hok', hnm⟩
  have hO' : Own G Fh s' (kk + nky) := ⟨hO.nd, fun n hn => by have := hO.lt n hn; omega, fun n hn => Classical.byContradiction fun hno => (hnm n hno).elim (fun h => h (hO.no n hn)) (fun h => by have := hO.lt n hn; omega), Hp.ok_less (by omega) hO.ok, hok'⟩
  show SWn Tryd.prog N k0 r ⟨(d, bl (go s')) :: env, hmrg false (G ++ Fh s) (Fh s) (Fh s'), kk + nky⟩ K
  refine SW.toN (Weak.own hO' (hy.nd s') (by omega) (EnvW.mono (by omega) (he _)) fun n ob hn => ?_) (h s' hstep hO' (.snoc p1 hstep))
  have hlk := lk_hmrg (ro := false) hO.sub (F' := Fh s') (fun h => by cases h)
  show lk (hmrg false (G ++ Fh s) (Fh s) (Fh s')) n = some ob
  rw [hlk]
  by_cases hm : n ∈ G.map (·.1)
  · rw [mrg_out (hO.no n hm) (hO'.no n hm)]
    rw [lk_app] at hn ⊢
    cases hg : lk G n with
    | some o => rw [hg] at hn; exact hn
    | none =>
      rw [hg, Option.none_or, hO'.no n hm] at hn; cases hn
  · rw [lk_app, lk_of_not hm, Option.none_or] at hn
    rw [mrg_in (.inr (by rw [hn]; simp)), hn]
end
def fstAt (l : List OpD) (i : Nat) : Bool := match l[i]? with
  | some x => decide (ixO l x.dot = some (i : Int))
  | none => false
def plcT (l : List OpD) (i : Nat) : List Nat := (List.range i).filter (fstAt l)
def plc (l : List OpD) : List Nat := plcT l l.length
theorem plcT_succ (l : List OpD) (i : Nat) : plcT l (i + 1) = if fstAt l i then plcT l i ++ [i] else plcT l i := by
  unfold plcT
  rw [List.range_succ, List.filter_append]
  cases h : fstAt l i <;> simp [List.filter, h]
theorem plcT_pre (l : List OpD) : ∀ {i j : Nat}, i ≤ j → plcT l i <+: plcT l j := fun {i j} h => by
  induction h with
  | refl => exact List.prefix_rfl
  | step _ ih =>
    refine ih.trans ?_
    rw [plcT_succ]
    split
    · exact List.prefix_append _ _
    · exact List.prefix_rfl
theorem ixO_some {l : List OpD} {i : Nat} {x : OpD} (h : l[i]? = some x) : ∃ j : Int, ixO l x.dot = some j := by
  unfold ixO
  cases hh : l.findIdx? fun o => decide (o.dot = x.dot) with
  | some j => exact ⟨j, by simp⟩
  | none =>
    have := List.findIdx?_eq_none_iff.1 hh x (List.mem_of_getElem? h)
    simp at this
structure OI {σ : Type} (Fh : σ → Hp) (Step : σ → Nat → σ → Prop) (go : σ → Bool) (s0 : σ) (k b q nky : Nat) (l : List OpD) (M : MM Dt Int) (c : Nat) (i : Nat) (s : σ) (kk : Nat) : Prop where
  c1 : i ≤ l.length
  c2 : OnBy Step s0 (plcT l i) s
  c3 : go s = true
  c4 : Own [(b, Ob.box 54 [ops l, .mp q]), (q, .map (mapE Dt.cells iv M) c)] Fh s kk
  c5 : kk ≤ k + i * (1 + nky)
  c6 : k ≤ kk
set_option maxHeartbeats 4000000 in
theorem once1_sb {σ : Type} {Fh : σ → Hp} {Step : σ → Nat → σ → Prop} {go : σ → Bool} {nky y b q k : Nat} {l : List OpD} {M : MM Dt Int} {c : Nat} (hl : l.length ≤ 1048576) (hM : AtO M l) (s0 : σ) (hy : YieldOk Tryd.prog y (fun x : Nat => i64 (x : Int)) nky Fh Step go s0 (plc l).length) (hgo : go s0 = true)
    (hO : Own [(b, Ob.box 54 [ops l, .mp q]), (q, .map (mapE Dt.cells iv M) c)] Fh s0 k) :
    SB Tryd.prog order_index_once_1.f [.yl y, .ptr b 0] ((b, .box 54 [ops l, .mp q]) :: (q, .map (mapE Dt.cells iv M) c) :: Fh s0) k (l.length * (1 + nky))
      fun r F => r = .tup [] ∧ ∃ (xs : List Nat) (s' : σ), OnBy Step s0 xs s' ∧ xs <+: plc l ∧ (go s' = true → xs = plc l) ∧ (lk (Fh s') b = none ∧ lk (Fh s') q = none) ∧ F = (b, .box 54 [ops l, .mp q]) :: (q, .map (mapE Dt.cells iv M) c) :: Fh s' := by
  have hyk : y < k := by
    obtain ⟨ob, ho⟩ := Option.ne_none_iff_exists'.1 (hy.isin s0)
    simpa using (Hp.ok_lk hO.okF ho).1
  have hb : b < k := hO.lt b (by simp)
  have hq : q < k := hO.lt q (by simp)
  have hbq : b ≠ q := by have := hO.nd; simp at this; exact this
  refine order_index_once_1.enter (by simp [SV.ok, SV.oks]; omega) hO.okk (by simp) ?_
  dsimp only [order_index_once_1.s, Co.M, Co.G, Co.J, Co.H, Co.N, Co.F, Co.C, Co.Z, Co.B, Co.b8, Co.b32, Co.b64, Co.i6, Co.z8, Co.z29]
  have f1 := ne4 hbq
  have fin : ∀ (s' : σ) (xs : List Nat), OnBy Step s0 xs s' → xs <+: plc l → (go s' = true → xs = plc l) → Own [(b, Ob.box 54 [ops l, .mp q]), (q, .map (mapE Dt.cells iv M) c)] Fh s' (k + l.length * (1 + nky)) →
      Go.Sl.Fin k (l.length * (1 + nky)) [] (fun r F => r = .tup [] ∧ ∃ (xs : List Nat) (s' : σ), OnBy Step s0 xs s' ∧ xs <+: plc l ∧ (go s' = true → xs = plc l) ∧ (lk (Fh s') b = none ∧ lk (Fh s') q = none) ∧ F = (b, .box 54 [ops l, .mp q]) :: (q, .map (mapE Dt.cells iv M) c) :: Fh s') ⟨[], [(b, Ob.box 54 [ops l, .mp q]), (q, .map (mapE Dt.cells iv M) c)] ++ Fh s', k + l.length * (1 + nky)⟩ := by
    intro s' xs a1 a2 a3 hc
    exact End.mk ([(b, Ob.box 54 [ops l, .mp q]), (q, .map (mapE Dt.cells iv M) c)] ++ Fh s') (h3 := fun _ _ h => h) (h4 := ⟨rfl, xs, s', a1, a2, a3, ⟨hc.no b (by simp), hc.no q (by simp)⟩, rfl⟩) (h6 := hc.okk) (h7 := Nat.le_refl _)
  have wk : ∀ (s' : σ) (env : List (Nat × SV)) (G1 : Hp) (kz : Nat), Own G1 Fh s' kz → (∀ z, z ∈ [(b, Ob.box 54 [ops l, .mp q]), (q, .map (mapE Dt.cells iv M) c)] → z ∈ G1) → kz ≤ k + l.length * (1 + nky) → k ≤ kz →
      Own [(b, Ob.box 54 [ops l, .mp q]), (q, .map (mapE Dt.cells iv M) c)] Fh s' (k + l.length * (1 + nky)) ∧ Weak k ⟨env, G1 ++ Fh s', kz⟩ ⟨[], [(b, Ob.box 54 [ops l, .mp q]), (q, .map (mapE Dt.cells iv M) c)] ++ Fh s', k + l.length * (1 + nky)⟩ id := by
    intro s' env G1 kz a4 a5 a6 a7
    have hc := (a4.cut (G := [(b, Ob.box 54 [ops l, .mp q]), (q, .map (mapE Dt.cells iv M) c)]) (by simp [hbq]) a5).mono a6
    exact ⟨hc, Weak.own hc (hy.nd s') (Nat.le_add_right _ _) trivial (a4.keep a5)⟩
  refine SW.seq ?_
  refine SW.g0 [0, 1, 3, 4, 6, 7, 8, 9, 25] mixed (f1) ?_
  refine SW.block ?_
  refine SW.loop (α := {i : Nat × σ × Nat // OI Fh Step go s0 k b q nky l M c i.1 i.2.1 i.2.2})
    (fun i => ⟨[(8, i64 i.1.1), (6, ops l), (7, i64 l.length), (0, .yl y), (1, .ptr b 0)], [(b, Ob.box 54 [ops l, .mp q]), (q, .map (mapE Dt.cells iv M) c)] ++ Fh i.1.2.1, i.1.2.2⟩)
    (fun i => l.length - i.1.1) ⟨(0, s0, k), ⟨Nat.zero_le _, .nil, hgo, hO, by show k ≤ _; omega, by show k ≤ k; omega⟩⟩ id ?_ ?_
  · exact Weak.own hO (hy.nd s0) (Nat.le_refl _) (by simp [EnvW, List.lookup, SV.ren, SV.ok, SV.oks]; omega) (fun n ob hn => hn)
  rintro ⟨⟨i, s', kz⟩, hi'⟩
  have hi' : OI Fh Step go s0 k b q nky l M c i s' kz := hi'
  obtain ⟨c1, c2, c3, c4, c5, c6⟩ := hi'
  dsimp only at *
  have hmul : ∀ n : Nat, n ≤ l.length → n * (1 + nky) ≤ l.length * (1 + nky) := fun n h => Nat.mul_le_mul_right _ h
  simp only [List.cons_append, List.nil_append]
  by_cases hj : i < l.length
  · have k1 : decide ((i : Int) < l.length) = true := by simp only [decide_eq_true_eq]; omega
    obtain ⟨x, hx⟩ := get_of_lt hj
    have k2 : IntKind.i64.wrap ((i : Int) + 1) = ((i + 1 : Nat) : Int) := wrap_i64 _ (by omega)
    have z2 := ne4 (show kz ≠ b by omega)
    have z3 := ne4 (show kz ≠ q by omega)
    have g2 : List.lookup kz (Fh s') = none := c4.out (Nat.le_refl _)
    have w2 := hmul (i + 1) (by omega)
    rw [Nat.add_mul, Nat.one_mul] at w2
    have u1 := find_dt x.dot iv M
    have u3 := look_int (kc := Dt.cells) M x.dot
    obtain ⟨j, hjx⟩ := ixO_some hx
    have hget : (MM.get M x.dot).getD 0 = j := by rw [hM x.dot, hjx]; rfl
    have hpl := plcT_succ l i
    have hfs : fstAt l i = (j == (i : Int)) := by
      unfold fstAt
      rw [hx]
      simp only [hjx, Option.some.injEq]
      rw [Bool.eq_iff_iff]; simp
    have hbox : Own [(kz, .box 36 x.cells), (b, Ob.box 54 [ops l, .mp q]), (q, .map (mapE Dt.cells iv M) c)] Fh s' (kz + 1) := Own.new c4 (Nat.le_refl _) (Nat.lt_succ_self _) (OpD.cells_ok _ _)
    have hin : ∀ z, z ∈ [(b, Ob.box 54 [ops l, .mp q]), (q, .map (mapE Dt.cells iv M) c)] → z ∈ [(kz, .box 36 x.cells), (b, Ob.box 54 [ops l, .mp q]), (q, .map (mapE Dt.cells iv M) c)] := fun z hz => List.mem_cons_of_mem _ hz
    refine SW.seq ?_
    refine SW.g0 [0, 1, 3, 4, 6, 7, 8, 9, 25] mixed (k1) ?_
    refine SW.seq (SW.condT rfl (SW.skip ?_))
    refine SW.seq (SW.block (SW.seq ?_))
    refine SW.g0 [0, 1, 3, 4, 6, 7, 8, 9, 25] mixed (And.intro (f1) (And.intro (z2) (And.intro (z3) (And.intro (g2) (And.intro (op_at hx) (op_room0 hx)))))) ?_
    refine SW.seq ?_
    rcases hji : (j == (i : Int)) with _ | _
    · rw [hfs, hji] at hpl
      simp only [Bool.false_eq_true, if_false] at hpl
      refine SW.g0 [0, 1, 3, 4, 6, 7, 8, 9, 25] mixed (And.intro (f1) (And.intro (z2) (And.intro (z3) (And.intro (u1) (And.intro (u3) (And.intro (hget) (hji))))))) ?_
      refine SW.condF rfl (SW.skip ?_)
      refine SW.g0 [0, 1, 3, 4, 6, 7, 8, 9, 25] mixed (k2) ?_
      dsimp only
      have hc2 : Own [(b, Ob.box 54 [ops l, .mp q]), (q, .map (mapE Dt.cells iv M) c)] Fh s' (kz + 1) := hbox.less (List.sublist_cons_self _ _)
      refine ⟨⟨(i + 1, s', kz + 1), ⟨by show i + 1 ≤ _; omega, by show OnBy _ _ (plcT l (i + 1)) _; rw [hpl]; exact c2, c3, hc2, by show kz + 1 ≤ _; rw [Nat.add_mul i 1 (1 + nky), Nat.one_mul]; omega, by show k ≤ kz + 1; omega⟩⟩, id, by show l.length - (i + 1) < _; omega, ?_⟩
      exact Weak.own hc2 (hy.nd s') (by omega) (by simp [EnvW, List.lookup, SV.ren, SV.ok, SV.oks]; omega) (hbox.keep hin)
    · rw [hfs, hji] at hpl
      simp only [if_true] at hpl
      have hlen : (plcT l i).length < (plc l).length := by
        have := (plcT_pre l (i := i + 1) (j := l.length) (by omega)).length_le
        rw [hpl] at this
        simp at this
        exact this
      refine SW.ofN ?_
      (repeat (first | refine SWn.op (And.intro (f1) (And.intro (z2) (And.intro (z3) (And.intro (u1) (And.intro (u3) (And.intro (hget) (hji))))))) (h := ?_) | refine SWn.opN (And.intro (f1) (And.intro (z2) (And.intro (z3) (And.intro (u1) (And.intro (u3) (And.intro (hget) (hji))))))) (h := ?_) | refine SWn.skip (h := ?_)))
      refine SWn.yieldOG (G := [(kz, .box 36 x.cells), (b, Ob.box 54 [ops l, .mp q]), (q, .map (mapE Dt.cells iv M) c)]) hy i [(20, .d (.bool true)), (8, i64 i), (6, ops l), (7, i64 l.length), (0, .yl y), (1, .ptr b 0)] hbox c2 hlen c3 (by omega) rfl rfl rfl (fun bb => by simp [EnvW, List.lookup, SV.ren, SV.ok, SV.oks]; omega) ?_
      intro s2 hstep hO2 hon
      rw [← hpl] at hon
      rcases hg : go s2 with _ | _
      · (repeat (first | refine SWn.op bq_tt (h := ?_) | refine SWn.opN bq_tt (h := ?_) | refine SWn.skip (h := ?_)))
        refine SWn.nil ?_
        obtain ⟨w1, w3⟩ := wk s2 _ _ (kz + 1 + nky) hO2 hin (by omega) (by omega)
        refine SW.condT rfl (SW.weak id w3 (SW.ret ?_))
        exact fin s2 (plcT l (i + 1)) hon (plcT_pre l (by omega)) (fun h => by rw [hg] at h; cases h) w1
      · (repeat (first | refine SWn.op bq_tt (h := ?_) | refine SWn.opN bq_tt (h := ?_) | refine SWn.skip (h := ?_)))
        refine SWn.nil ?_
        refine SW.condF rfl (SW.skip ?_)
        refine SW.g0 [0, 1, 3, 4, 6, 7, 8, 9, 25] mixed (k2) ?_
        dsimp only
        have hc2 : Own [(b, Ob.box 54 [ops l, .mp q]), (q, .map (mapE Dt.cells iv M) c)] Fh s2 (kz + 1 + nky) := hO2.less (List.sublist_cons_self _ _)
        refine ⟨⟨(i + 1, s2, kz + 1 + nky), ⟨by show i + 1 ≤ _; omega, hon, hg, hc2, by show kz + 1 + nky ≤ _; rw [Nat.add_mul i 1 (1 + nky), Nat.one_mul]; omega, by show k ≤ kz + 1 + nky; omega⟩⟩, id, by show l.length - (i + 1) < _; omega, ?_⟩
        exact Weak.own hc2 (hy.nd s2) (by omega) (by simp [EnvW, List.lookup, SV.ren, SV.ok, SV.oks]; omega) (hO2.keep hin)
  · have k1 : decide ((i : Int) < l.length) = false := by simp only [decide_eq_false_iff_not]; omega
    refine SW.seq ?_
    refine SW.g0 [0, 1, 3, 4, 6, 7, 8, 9, 25] mixed (k1) ?_
    have hjl : i = l.length := by omega
    rw [hjl] at c2
    obtain ⟨w1, w3⟩ := wk s' _ [(b, Ob.box 54 [ops l, .mp q]), (q, .map (mapE Dt.cells iv M) c)] kz c4 (fun z hz => hz) (by have := hmul i c1; omega) c6
    refine SW.seq (SW.condF rfl (SW.weak id w3 (SW.exit ?_)))
    exact fin s' (plc l) c2 List.prefix_rfl (fun _ => rfl) w1
end Go.Proofs.YtemghnbbmahaaaaDoor
namespace Go.Proofs.YtemghnbbmahaaaaDoor
open Go.Sl Go.Proofs
attribute [local irreducible] SW RW SCd SC CallP Pruned
theorem Rp.mp_p {p : Nat → Prop} {μ : Nat → Nm} {M : Mem} {n : Nat} {v : Value} (h : Rp p μ M (.mp n) v) : p n := Classical.byContradiction fun hn => by
  have h1 := h (fun m => if m = n then ⟨0, 0, true⟩ else μ m) (fun m hm => if_neg (fun (e : m = n) => hn (by rw [← e]; exact hm)))
  have h2 := h (fun m => if m = n then ⟨1, 0, true⟩ else μ m) (fun m hm => if_neg (fun (e : m = n) => hn (by rw [← e]; exact hm)))
  simp [Rep] at h1 h2
  rw [h1] at h2
  simp at h2
theorem icompare_at (l : List OpD) {i j : Nat} {a b : OpD} (ha : l[i]? = some a) (hb : l[j]? = some b) (q k : Nat) : SCd Tryd.prog order_index_compare.f [idxS l q, i64 i, i64 j] [] k 0 (i64 (ocmp a b)) [] := by
  have h := SB.at (icompare_sb l ha hb 0 1 (by omega)) (fun _ => q) k (fun n m h1 h2 _ => by omega) (fun n hn p μ M w vals hr hS => by
    obtain ⟨u, us, e, r1, r2⟩ := Rps.cons_iff.1 hr
    obtain ⟨vs, _, r3⟩ := Rp.agg_iff.1 r1
    obtain ⟨u1, us1, e1, r4, r5⟩ := Rps.cons_iff.1 r3
    obtain ⟨u2, us2, e2, r6, r7⟩ := Rps.cons_iff.1 r5
    exact Rp.mp_p r6) (fun i hi => by omega)
  unfold SCd
  refine SC.mono h ?_
  rintro r F ⟨r0, F0, ⟨rfl, rfl⟩, rfl, rfl⟩
  exact ⟨rfl, rfl⟩
structure RowI (y bx : Nat) where
  l : List Nat
  rn : Nat
  h1 : rn ≠ y
  h2 : rn ≠ bx
def rowI (y bx N : Nat) (ts ps : List Nat) (ca cb : Code) (s : RowI y bx) : Hp :=
  [(y, .rcd N ts [.ptr bx 0] ps ca cb .ready none), (bx, .box 64 [.gs s.rn s.l.length]), prow s.rn s.l.length s.l]
theorem pc_snoc (l : List Nat) (x : Nat) : pc (l ++ [x]) = pc l ++ [i64 (x : Int)] := by simp [pc]
set_option maxHeartbeats 1000000 in
theorem appendBodyI {y bx B : Nat} (hyb : y ≠ bx) (s0 : RowI y bx) (hB : s0.l.length + B < 2097152) {ca cb : Code} (hca : cK Tryd.prog 13 ca = some (.reg [⟨some 5, .mv (.t 7), none⟩] (fullB 1) false))
    (hcb : cK Tryd.prog 13 cb = some (.block 1 (.reg [⟨some 8, .load none (.t 2), none⟩, ⟨some 9, .mv (.t 5), none⟩, ⟨some 10, .bsl 3 1 1 [i64 0] [(0, 1, .t 9)], none⟩, ⟨some 11, .app 3 1 8 (.t 8) (.t 10), none⟩, ⟨none, .store 1 (.t 2) (.t 11), none⟩] (fullB 5) false))) :
    YieldOk Tryd.prog y (fun x : Nat => i64 (x : Int)) 1 (rowI y bx 13 [2] [7] ca cb) (fun s x s' => s'.l = s.l ++ [x]) (fun _ => true) s0 B := by
  refine ⟨fun s => by simp [rowI, lk_cons], fun s x hx => ?_, fun s xs x k hon hlt hok _ => ?_⟩
  · have f1 := ne4 hyb
    have f2 := ne4 s.h1
    have f3 := ne4 s.h2
    simp only [rowI, List.mem_cons, List.not_mem_nil, or_false] at hx
    rcases hx with rfl | rfl | rfl <;> simp [rowI, lk_cons, f1, f2, f3]
  · have hlen : s.l.length = s0.l.length + xs.length := by
      clear hlt hok
      induction hon with
      | nil => rfl
      | snoc _ h ih => rw [h]; simp [ih]; omega
    obtain ⟨l, rn, h1, h2⟩ := s
    simp only at hlen
    simp only [rowI, Hp.ok, List.all_cons, List.all_nil, Ob.ok, SV.oks, SV.ok, pc_ok, Bool.and_true, Bool.and_eq_true, decide_eq_true_eq] at hok
    obtain ⟨⟨k1, _⟩, ⟨k2, _⟩, k3⟩ := hok
    have f1 := ne4 hyb
    have f2 := ne4 h1
    have f3 := ne4 h2
    have g1 := ne4 (show k ≠ y by omega)
    have g2 := ne4 (show k ≠ bx by omega)
    have g3 := ne4 (show k ≠ rn by omega)
    have e1 := pc_snoc l x
    refine SYB.here (fun n => n == y || n == bx || n == rn) (SYB.of_code (cs := [.ptr bx 0]) (H := [(bx, .box 64 [.gs rn l.length]), prow rn l.length l]) hca hcb rfl rfl rfl (by simp) k1 (by simp [lk_cons, lk_nil, f1, f2]) (by simp [SV.oks, SV.ok]) (by simp [Hp.ok, Ob.ok, SV.oks, SV.ok, pc_ok]; omega) (by simp [SV.oks, SV.ok]; omega) ?_) ?_ (by simp [SV.oks, SV.ok]) (by simp [rowI, Hp.ok, Ob.ok, SV.oks, SV.ok, pc_ok]) ?_
    · skip
      show Go.Sl.SW _ _ _ _ ⟨[(7, i64 (x : Int)), (2, .ptr bx 0)], _, _⟩ _
      refine SW.g0 [2, 5, 7] mixed (And.intro (f1) (And.intro (f2) (And.intro (f3) (And.intro (g1) (And.intro (g2) (g3)))))) ?_
      refine ⟨rfl, SW.block ?_⟩
      have xs1 : ∀ a b : SV, spl [a] 0 [b] = [b] := fun _ _ => rfl
      refine SW.g0 [2, 5, 7] mixed (And.intro (f1) (And.intro (f2) (And.intro (f3) (And.intro (g1) (And.intro (g2) (And.intro (g3) (xs1))))))) ?_
      refine ⟨none, true, [(bx, .box 64 [.gs k (l ++ [x]).length]), prow k (l ++ [x]).length (l ++ [x])], ⟨rfl, rfl⟩, ?_, ?_, by simp, ⟨⟨l ++ [x], k, by omega, by omega⟩, rfl, rfl, rfl, ?_, ?_⟩⟩
      · refine HSub.cons ?_ (HSub.cons ?_ (HSub.nil _))
        · simp [lk_cons, f1, f2, f3, g1, g2, g3]
        · simp [lk_cons, e1]
      · simp [Hp.ok, Ob.ok, SV.oks, SV.ok, pc_ok]; omega
      · simp [rowI, Hp.ok, Ob.ok, SV.oks, SV.ok, pc_ok]; omega
      · intro n hn
        by_cases hy' : n = y
        · exact .inl (by simp [rowI, lk_cons, hy'])
        · by_cases hbx : n = bx
          · exact .inl (by simp [rowI, lk_cons, hbx, f1])
          · refine .inr ?_
            have : n = k := Classical.byContradiction fun hne => hn (by simp [rowI, lk_cons, lk_nil, hy', hbx, hne])
            omega
    · intro n hn
      simp only [Bool.or_eq_true, beq_iff_eq] at hn
      rcases hn with (rfl | rfl) | rfl <;> simp [rowI, lk_cons, f1, f2, f3]
    · rintro r F' ⟨s', hs', rfl, rfl, hok', hnm⟩ _ _
      obtain ⟨l', rn', h1', h2'⟩ := s'
      refine ⟨rfl, ?_⟩
      simp [rowI, Hp.ok, Ob.ok, SV.oks, SV.ok, pc_ok]
      have hh := hnm rn' (by simp [rowI, lk_cons, h1', h2'])
      rcases hh with hh | ⟨hh1, hh2⟩
      · have : rn' = rn := by
          refine Classical.byContradiction fun hne => hh ?_
          simp [rowI, lk_cons, lk_nil, h1', h2', hne]
        simp [this]
      · simp [hh1]; omega
theorem onBy_rowI {y bx : Nat} {s0 s : RowI y bx} {xs : List Nat} (h : OnBy (fun (s : RowI y bx) x s' => s'.l = s.l ++ [x]) s0 xs s) : s.l = s0.l ++ xs := by
  induction h with
  | nil => simp
  | snoc _ h ih => rw [h, ih]; simp
abbrev oX (l : List OpD) (M : MM Dt Int) (c b q : Nat) : Hp := [(b, .box 54 [ops l, .mp q]), (q, .map (mapE Dt.cells iv M) c)]
theorem imap_ok (q : Nat → Bool) (M : MM Dt Int) : ((mapE Dt.cells iv M).all fun e => e.2.1.ok q && e.2.2.ok q) = true := mapE_ok q M (fun _ => rfl) (fun _ => rfl)
theorem plc_len (l : List OpD) : (plc l).length ≤ l.length := by
  have := List.length_filter_le (fstAt l) (List.range l.length)
  simpa [plc, plcT] using this
set_option maxHeartbeats 2000000 in
theorem appseqI_ok {l : List OpD} {M : MM Dt Int} {c : Nat} (hl : l.length ≤ 1048576) (hM : AtO M l) :
    SB Tryd.prog slices_AppendSeq_Lint_int.f [.d .nils, .fn (.func order_index_once_1.f) [] [.ptr 0 0]] (oX l M c 0 1) 2 1
      fun r F => r = .gs 2 (plc l).length ∧ F = prow 2 (plc l).length (plc l) :: oX l M c 0 1 := by
  refine slices_AppendSeq_Lint_int.enter (by simp [SV.ok, SV.oks]) (by simp [Hp.ok, Ob.ok, SV.oks, SV.ok, imap_ok]) (by simp) ?_
  dsimp only [slices_AppendSeq_Lint_int.s, Co.M, Co.G, Co.J, Co.H, Co.N, Co.F, Co.C, Co.Z, Co.B, Co.b8, Co.b32, Co.b64, Co.i6, Co.z8, Co.z29]
  refine SW.nilrow 0 3 1 rfl ?_
  refine SW.seq ?_
  refine SW.g0 [0, 1, 2, 4, 5, 6, 7] mixed bq_tt ?_
  refine SW.seq (SW.seq ?_)
  refine SW.g0 [0, 1, 2, 4, 5, 6, 7] mixed bq_tt ?_
  refine SW.block (SW.rfun (nk := l.length * (1 + 1)) [2] [.ptr 3 0] rfl ⟨rfl, trivial⟩ fun ca cb hca hcb => ?_)
  have hLl := plc_len l
  let s0 : RowI 4 3 := ⟨[], 2, by decide, by decide⟩
  have hy := appendBodyI (y := 4) (bx := 3) (B := (plc l).length) (by decide) s0 (by simp [s0]; omega) hca hcb
  have hO : Own (oX l M c 0 1) (rowI 4 3 13 [2] [7] ca cb) s0 5 := by
    refine ⟨by simp, fun n hn => ?_, fun n hn => ?_, by simp [Hp.ok, Ob.ok, SV.oks, SV.ok, imap_ok], by simp [rowI, s0, Hp.ok, Ob.ok, SV.oks, SV.ok, pc]⟩
    · simp only [List.map_cons, List.map_nil, List.mem_cons, List.not_mem_nil, or_false] at hn; omega
    · simp only [List.map_cons, List.map_nil, List.mem_cons, List.not_mem_nil, or_false] at hn
      rcases hn with rfl | rfl <;> simp [rowI, s0, lk_cons, lk_nil]
  have hsb := once1_sb (y := 4) (b := 0) (q := 1) (k := 5) hl hM s0 hy rfl hO
  have hsubF : HSub ((0, .box 54 [ops l, .mp 1]) :: (1, .map (mapE Dt.cells iv M) c) :: rowI 4 3 13 [2] [7] ca cb s0) ((4, .rcd 13 [2] [.ptr 3 0] [7] ca cb .ready none) :: [(3, .box 64 [.gs 2 0]), (2, .arr 3 1 0 []), (0, .box 54 [ops l, .mp 1]), (1, .map (mapE Dt.cells iv M) c)]) := by
    intro n ob hn
    match n with
    | 0 | 1 | 2 | 3 | 4 => simpa [rowI, s0, lk_cons, pc] using hn
    | n + 5 => simp [rowI, s0, lk_cons, lk_nil] at hn
  have hsc := (hsb.here (fun n => decide (n < 5)) (fun n hn => ?_) (by simp [SV.oks, SV.ok]) (by simp [rowI, s0, Hp.ok, Ob.ok, SV.oks, SV.ok, imap_ok, pc]) ?_).frame hsubF
  · refine hsc.mono ?_
    rintro r F' ⟨F1, ⟨rfl, xs, s', hon, hpre, hall, ⟨hn0, hn1⟩, rfl⟩, rfl⟩
    have hl' := onBy_rowI hon
    have hxs := hall rfl
    obtain ⟨L, rn, hr1, hr2⟩ := s'
    have hL : L = plc l := by rw [show plc l = xs from hxs.symm]; simpa [s0] using hl'
    have hn0 : rn ≠ 0 := fun e => by simp [rowI, e, lk_cons] at hn0
    have hn1 : rn ≠ 1 := fun e => by simp [rowI, e, lk_cons] at hn1
    rw [← hL]
    have hlk := lk_hmrg (ro := false) (h := (4, .rcd 13 [2] [.ptr 3 0] [7] ca cb .ready none) :: [(3, .box 64 [.gs 2 0]), (2, .arr 3 1 0 []), (0, .box 54 [ops l, .mp 1]), (1, .map (mapE Dt.cells iv M) c)]) (F := (0, .box 54 [ops l, .mp 1]) :: (1, .map (mapE Dt.cells iv M) c) :: rowI 4 3 13 [2] [7] ca cb s0) (F' := (0, .box 54 [ops l, .mp 1]) :: (1, .map (mapE Dt.cells iv M) c) :: rowI 4 3 13 [2] [7] ca cb ⟨L, rn, hr1, hr2⟩) hsubF (fun h => by cases h)
    generalize hmrg false _ _ _ = G at hlk
    have hG : ∀ n ob, lk ((0, Ob.box 54 [ops l, .mp 1]) :: (1, .map (mapE Dt.cells iv M) c) :: rowI 4 3 13 [2] [7] ca cb ⟨L, rn, hr1, hr2⟩) n = some ob → lk G n = some ob := fun n ob h => by
      rw [hlk, mrg_in (.inr (by rw [h]; simp)), h]
    refine ⟨none, hG 4 _ (by simp [rowI, lk_cons, recSt]), ?_⟩
    refine SW.weak (fun n => if n = 2 then rn else n) (st1 := ⟨[(2, .ptr 3 0)], [(3, .box 64 [.gs 2 L.length]), (2, .arr 3 1 L.length (pc L)), (0, .box 54 [ops l, .mp 1]), (1, .map (mapE Dt.cells iv M) c)], 6⟩) ?_ ?_
    · have q3 := hG 3 (.box 64 [.gs rn L.length]) (by simp [rowI, lk_cons])
      have q2 := hG rn (.arr 3 1 L.length (pc L)) (by simp [rowI, lk_cons, hn0, hn1, hr1, hr2])
      have q0 := hG 0 (.box 54 [ops l, .mp 1]) (by simp [lk_cons])
      have q1 := hG 1 (.map (mapE Dt.cells iv M) c) (by simp [lk_cons])
      refine ⟨by show 2 ≤ 6; omega, fun n hn => if_neg (by omega), ?_, ?_, ?_⟩
      · simp [EnvW, List.lookup, SV.ren, SV.ok]
      · simp [HpW, lk_hdel, Ob.ren, SV.rens, SV.ren, SV.rens_d, SV.oks_d, Ob.ok, SV.oks, SV.ok, q3, q2, q0, q1, hr1, pc_ren, pc_ok, dmap_ren, imap_ok]
      · intro a ha b hb e
        simp only [List.map_cons, List.map_nil, List.mem_cons, List.not_mem_nil, or_false] at ha hb
        rcases ha with rfl | rfl | rfl | rfl <;> rcases hb with rfl | rfl | rfl | rfl <;> simp at e <;> first | rfl | omega
    · refine SW.seq ?_
      refine SW.g0 [0, 1, 2, 4, 5, 6, 7] mixed bq_tt ?_
      refine SW.ret ?_
      exact End.mk (prow 2 L.length L :: oX l M c 0 1) (h4 := ⟨rfl, rfl⟩) (h6 := by simp [Hp.ok, Ob.ok, SV.oks, SV.ok, pc_ok, imap_ok])
  · match n, hn with
    | 0, _ | 1, _ | 2, _ | 3, _ | 4, _ => simp [rowI, s0, lk_cons]
    | n + 5, h => have : n + 5 < 5 := by simpa using h
                  omega
  · rintro r F' _ h1 h2
    refine ⟨SV.ok_more (fun n hn => ?_) _ h1, Hp.ok_mono (fun n hn => ?_) h2⟩ <;> (simp at hn ⊢; omega)
end Go.Proofs.YtemghnbbmahaaaaDoor
namespace Go.Proofs.YtemghnbbmahaaaaDoor
open Go.Sl Go.Proofs
attribute [local irreducible] SW RW SCd SC CallP Pruned
def opPl (l : List OpD) (i : Nat) : OpD := l.getD i OpD.zero
theorem opPl_of {l : List OpD} {i : Nat} {x : OpD} (h : l[i]? = some x) : opPl l i = x := by simp [opPl, List.getD_eq_getElem?_getD, h]
theorem opPl_get {l : List OpD} {i : Nat} (h : i < l.length) : l[i]? = some (opPl l i) := by simp [opPl, List.getD_eq_getElem?_getD, List.getElem?_eq_getElem h]
def plO (l : List OpD) (o : OpD) : Nat := ((ixO l o.dot).getD 0).toNat
def srtP (l : List OpD) : List Nat := (osort l).map (plO l)
theorem mem_plc {l : List OpD} {i : Nat} : i ∈ plc l ↔ i < l.length ∧ fstAt l i = true := by
  unfold plc plcT
  rw [List.mem_filter, List.mem_range]
theorem fstAt_ix {l : List OpD} {i : Nat} (h : fstAt l i = true) : ixO l (opPl l i).dot = some (i : Int) := by
  unfold fstAt at h
  cases hx : l[i]? with
  | none => rw [hx] at h; cases h
  | some x =>
    rw [hx] at h
    rw [opPl_of hx]
    simpa using h
theorem plO_at {l : List OpD} {i : Nat} (h : fstAt l i = true) : plO l (opPl l i) = i := by
  unfold plO
  rw [fstAt_ix h]; simp
theorem ixO_eq {l : List OpD} {d : Dt} {i : Nat} : ixO l d = some (i : Int) ↔ l.findIdx? (fun o => decide (o.dot = d)) = some i := by
  unfold ixO
  cases l.findIdx? (fun o => decide (o.dot = d)) with
  | none => simp
  | some j => simp; omega
theorem fstAt_iff {l : List OpD} {i : Nat} {x : OpD} (h : l[i]? = some x) : fstAt l i = !(findO (l.take i) x.dot).isSome := by
  unfold fstAt
  rw [h]
  simp only
  have hi := lt_of_get h
  rw [Bool.eq_iff_iff, decide_eq_true_eq]
  rw [ixO_eq]
  unfold findO
  cases hf : (l.take i).find? (fun o => decide (o.dot = x.dot)) with
  | some o =>
    simp only [Option.isSome_some, Bool.not_true, Bool.false_eq_true, iff_false]
    intro hj
    obtain ⟨h1, h2, h3⟩ := List.findIdx?_eq_some_iff_getElem.1 hj
    have hm := List.mem_of_find?_eq_some hf
    have hp := List.find?_some hf
    obtain ⟨u, hu, he⟩ := List.mem_iff_getElem.1 hm
    have hu2 : u < i := by simp at hu; omega
    refine h3 u hu2 ?_
    rw [List.getElem_take] at he
    rw [he]; exact hp
  | none =>
    simp only [Option.isSome_none, Bool.not_false, iff_true]
    rw [List.find?_eq_none] at hf
    rw [List.findIdx?_eq_some_iff_getElem]
    have hx : l[i] = x := by rw [List.getElem?_eq_getElem hi] at h; injection h
    refine ⟨hi, by simp [hx], fun j hj => ?_⟩
    refine hf _ (List.mem_iff_getElem.2 ⟨j, by simp; omega, ?_⟩)
    rw [List.getElem_take]
theorem plcT_fst (l : List OpD) : ∀ i, i ≤ l.length → (plcT l i).map (opPl l) = fstO (l.take i)
  | 0, _ => by simp [plcT, fstO]
  | i + 1, h => by
    obtain ⟨x, hx⟩ := get_of_lt (show i < l.length by omega)
    rw [plcT_succ, take_snoc hx, fstO_snoc, fstAt_iff hx, ← plcT_fst l i (by omega)]
    cases (findO (l.take i) x.dot).isSome with
    | true => simp
    | false => simp [opPl_of hx]
theorem plc_fst (l : List OpD) : (plc l).map (opPl l) = fstO l := by
  have := plcT_fst l l.length (Nat.le_refl _)
  rwa [List.take_length] at this
theorem opPl_plO {l : List OpD} {o : OpD} (h : o ∈ fstO l) : opPl l (plO l o) = o ∧ plO l o ∈ plc l := by
  rw [← plc_fst] at h
  obtain ⟨i, hi, rfl⟩ := List.mem_map.1 h
  rw [plO_at (mem_plc.1 hi).2]
  exact ⟨rfl, hi⟩
theorem srtP_ops (l : List OpD) : (srtP l).map (opPl l) = osort l := by
  unfold srtP
  rw [List.map_map]
  have : ∀ o, o ∈ osort l → (opPl l ∘ plO l) o = o := fun o ho => (opPl_plO ((osort_perm l).mem_iff.1 ho)).1
  rw [List.map_congr_left this]
  simp
theorem srtP_perm (l : List OpD) : (srtP l).Perm (plc l) := by
  unfold srtP
  refine ((osort_perm l).map (plO l)).trans ?_
  rw [← plc_fst, List.map_map]
  have : ∀ i, i ∈ plc l → (plO l ∘ opPl l) i = i := fun i hi => plO_at (mem_plc.1 hi).2
  rw [List.map_congr_left this]
  simp
theorem srtP_len (l : List OpD) : (srtP l).length = (plc l).length := (srtP_perm l).length_eq
def cpl (l : List OpD) (i j : Nat) : Int := ocmp (opPl l i) (opPl l j)
def DPl (l : List OpD) (i : Nat) : Prop := i < l.length ∧ fstAt l i = true
theorem plc_rw (l : List OpD) : Rw (DPl l) (plc l) := ⟨fun i hi => mem_plc.1 hi, List.Nodup.sublist List.filter_sublist List.nodup_range⟩
theorem cpl_tot (l : List OpD) : Tot (cpl l) (DPl l) where
  asym x y _ _ h1 h2 := by
    rw [cpl, ocmp_lt] at h1 h2
    have := OpD.lt_trans h1 h2
    rw [OpD.lt_irrefl] at this; cases this
  trans x y z _ _ _ h1 h2 := by
    rw [cpl, ocmp_lt] at *
    exact OpD.lt_trans h1 h2
  tot x y hx hy hne := by
    rw [cpl, cpl, ocmp_lt, ocmp_lt]
    refine OpD.lt_total fun e => hne ?_
    have h1 := fstAt_ix hx.2
    have h2 := fstAt_ix hy.2
    rw [e, h2] at h1
    injection h1 with h1
    omega
theorem srtP_srt (l : List OpD) : Srt (cpl l) (srtP l) 0 (srtP l).length := fun p q _ h2 h3 => by
  have hr := osort_rises l
  unfold Rises at hr
  rw [← srtP_ops, List.pairwise_map, List.pairwise_iff_getElem] at hr
  have := hr p q (by omega) h3 h2
  unfold Lt cpl
  rw [ge_of (List.getElem?_eq_getElem (show p < (srtP l).length by omega)), ge_of (List.getElem?_eq_getElem h3), ocmp_lt]
  exact this
theorem cpl_c (l : List OpD) (M : MM Dt Int) (c b q : Nat) (hbq : b ≠ q) : CmpC Tryd.prog order_index_compare.f [idxS l q] (oX l M c b q) (cpl l) (DPl l) where
  tot := cpl_tot l
  call x y k hx hy _ := icompare_at l (opPl_get hx.1) (opPl_get hy.1) q k
  fo := by simp [SV.oks, SV.ok, idxS, lk_cons, hbq.symm]
  nd := by simp [hbq]
  cl := by simp [Hp.ok, Ob.ok, SV.oks, SV.ok, lk_cons, hbq.symm, imap_ok]
theorem appseqI_at {l : List OpD} {M : MM Dt Int} {c : Nat} (hl : l.length ≤ 1048576) (hM : AtO M l) (b q : Nat) (hbq : b ≠ q) (k : Nat) :
    SCd Tryd.prog slices_AppendSeq_Lint_int.f [.d .nils, .fn (.func order_index_once_1.f) [] [.ptr b 0]] (oX l M c b q) k 1 (.gs k (plc l).length) (prow k (plc l).length (plc l) :: oX l M c b q) := by
  have h := SB.atL [b, q] (appseqI_ok (c := c) hl hM) (by simp [hbq]) (fun i hi => by
    match i, hi with
    | 0, _ | 1, _ => simp [lk_cons]) k
  simp only [Hp.ren, Ob.ren, SV.ren, SV.rens, List.map_cons, List.map_nil, pc_ren, dmap_ren] at h
  have e : atN [b, q] k 2 = k := by simp [atN]
  simpa [atN, e] using h
theorem collectI_ok {l : List OpD} {M : MM Dt Int} {c : Nat} (hl : l.length ≤ 1048576) (hM : AtO M l) :
    SB Tryd.prog slices_Collect_int.f [.fn (.func order_index_once_1.f) [] [.ptr 0 0]] (oX l M c 0 1) 2 1
      fun r F => r = .gs 2 (plc l).length ∧ F = prow 2 (plc l).length (plc l) :: oX l M c 0 1 := by
  refine slices_Collect_int.enter (by simp [SV.ok, SV.oks]) (by simp [Hp.ok, Ob.ok, SV.oks, SV.ok, imap_ok]) (by simp) ?_
  dsimp only [slices_Collect_int.s, Co.M, Co.G, Co.J, Co.H, Co.N, Co.F, Co.C, Co.Z, Co.B, Co.b8, Co.b32, Co.b64, Co.i6, Co.z8, Co.z29]
  refine SW.seq ?_
  refine SW.g1 [0, 2] mixed bq_tt (appseqI_at (c := c) hl hM 0 1 (by decide) 2) ?_
  refine SW.seq ?_
  refine SW.g1 [0, 2] mixed bq_tt (appseqI_at (c := c) hl hM 0 1 (by decide) 2) ?_
  refine SW.ret ?_
  exact End.mk (prow 2 (plc l).length (plc l) :: oX l M c 0 1) (h4 := ⟨rfl, rfl⟩) (h6 := by simp [Hp.ok, Ob.ok, SV.oks, SV.ok, pc_ok, imap_ok])
theorem collectI_at {l : List OpD} {M : MM Dt Int} {c : Nat} (hl : l.length ≤ 1048576) (hM : AtO M l) (b q : Nat) (hbq : b ≠ q) (k : Nat) :
    SCd Tryd.prog slices_Collect_int.f [.fn (.func order_index_once_1.f) [] [.ptr b 0]] (oX l M c b q) k 1 (.gs k (plc l).length) (prow k (plc l).length (plc l) :: oX l M c b q) := by
  have h := SB.atL [b, q] (collectI_ok (c := c) hl hM) (by simp [hbq]) (fun i hi => by
    match i, hi with
    | 0, _ | 1, _ => simp [lk_cons]) k
  simp only [Hp.ren, Ob.ren, SV.ren, SV.rens, List.map_cons, List.map_nil, pc_ren, dmap_ren] at h
  have e : atN [b, q] k 2 = k := by simp [atN]
  simpa [atN, e] using h
set_option maxHeartbeats 1000000 in
theorem sortedI_ok {l : List OpD} {M : MM Dt Int} {c : Nat} (h256 : l.length < 256) (hM : AtO M l) :
    SB Tryd.prog slices_SortedFunc_int.f [.fn (.func order_index_once_1.f) [] [.ptr 0 0], cfn order_index_compare.f [idxS l 1]] (oX l M c 0 1) 2 1
      fun r F => r = .gs 2 (plc l).length ∧ F = prow 2 (plc l).length (srtP l) :: oX l M c 0 1 := by
  refine slices_SortedFunc_int.enter (by simp [SV.ok, SV.oks, idxS]) (by simp [Hp.ok, Ob.ok, SV.oks, SV.ok, imap_ok]) (by simp) ?_
  have hl : l.length ≤ 1048576 := by omega
  dsimp only [slices_SortedFunc_int.s, Co.M, Co.G, Co.J, Co.H, Co.N, Co.F, Co.C, Co.Z, Co.B, Co.b8, Co.b32, Co.b64, Co.i6, Co.z8, Co.z29]
  have hc := cpl_c l M c 0 1 (by decide)
  have ha : At (oX l M c 0 1) 2 3 := ⟨by simp [lk_cons, lk_nil], by decide, by simp [Hp.ok, Ob.ok, SV.oks, SV.ok, imap_ok]⟩
  have hpl := plc_len l
  refine SW.seq ?_
  refine SW.g1 [0, 1, 4, 5] mixed bq_tt (collectI_at (c := c) hl hM 0 1 (by decide) 2) ?_
  refine SW.seq ?_
  refine SW.g1 [0, 1, 4, 5] mixed bq_tt (collectI_at (c := c) hl hM 0 1 (by decide) 2) ?_
  refine SW.seq (SW.ofN ?_)
  (repeat (first | refine SWn.op bq_tt (h := ?_) | refine SWn.opN bq_tt (h := ?_) | refine SWn.skip (h := ?_)))
  refine SWn.callC (isort_at hc ha (plc_rw l) rfl (by omega)) (fun _ _ h => h) (h := ?_)
  rintro _ _ ⟨rfl, R', hp, hsr, rfl⟩
  rw [pmrg hc ha]
  have hR : R' = srtP l := by
    refine Srt.uniq (cpl_tot l) ((plc_rw l).perm hp) (hp.trans (srtP_perm l).symm) ?_ (srtP_srt l)
    rw [hp.length_eq]; exact hsr
  subst hR
  refine SWn.nil ?_
  refine SW.seq ?_
  refine SW.g0 [0, 1, 4, 5] mixed bq_tt ?_
  refine SW.ret ?_
  exact End.mk (prow 2 (plc l).length (srtP l) :: oX l M c 0 1) (h4 := ⟨rfl, rfl⟩) (h6 := by simp [Hp.ok, Ob.ok, SV.oks, SV.ok, pc_ok, imap_ok])
theorem sortedI_at {l : List OpD} {M : MM Dt Int} {c : Nat} (hl : l.length < 256) (hM : AtO M l) (b q : Nat) (hbq : b ≠ q) (k : Nat) :
    SCd Tryd.prog slices_SortedFunc_int.f [.fn (.func order_index_once_1.f) [] [.ptr b 0], cfn order_index_compare.f [idxS l q]] (oX l M c b q) k 1 (.gs k (plc l).length) (prow k (plc l).length (srtP l) :: oX l M c b q) := by
  have h := SB.atL [b, q] (sortedI_ok (c := c) hl hM) (by simp [hbq]) (fun i hi => by
    match i, hi with
    | 0, _ | 1, _ => simp [lk_cons]) k
  simp only [idxS, Hp.ren, Ob.ren, SV.ren, SV.rens, List.map_cons, List.map_nil, pc_ren, dmap_ren] at h
  have e : atN [b, q] k 2 = k := by simp [atN]
  simpa [atN, e, idxS] using h
end Go.Proofs.YtemghnbbmahaaaaDoor
namespace Go.Proofs.YtemghnbbmahaaaaDoor
open Go.Sl Go.Proofs
attribute [local irreducible] SW RW SCd SC CallP Pruned
set_option maxRecDepth 100000 in
theorem lit1 {P : Program} {env : List (Nat × SV)} {hp : Hp} {k d p : Nat} {r : List SI} {K : St → List (Bool × List Nat) → Prop} {a : OpD} {z : List SV} (hz : z = zOp)
    (ha : env.lookup p = some (.agg a.cells))
    (h : RW P r ⟨(d, ops [a]) :: env, hp, k⟩ fun st' ts => K st' ((false, []) :: ts)) : RW P (⟨some d, .bsl 36 29 1 z [(0, 29, .t p)], none⟩ :: r) ⟨env, hp, k⟩ K := by
  subst hz
  refine RW.cons (e := ⟨ops [a], [], [], 0, ((29 = 29 ∧ 0 + 29 ≤ 29 ∧ True))⟩) (fun crs => ⟨.frz :: crs, runOp_some (.inl rfl) ?_⟩) (by show 29 = 29 ∧ 0 + 29 ≤ 29 ∧ True; decide) ?_
  · have h1 : evp (fun t => env.lookup t) [(0, 29, X.t p)] = some [(0, 29, .agg a.cells)] := by
      simp only [evp, ev, ha]
    have h2 : bldS zOp [(0, 29, .agg a.cells)] = some (a.cells, ((29 = 29 ∧ 0 + 29 ≤ 29 ∧ True))) := rfl
    have h3 : datas a.cells = some ([a].flatMap OpD.ds) := rfl
    have h4 : a.cells.all SV.isOne = true := rfl
    simp only [goOp, sop, h1, h2, h3, h4, if_true, Bool.false_or]
    rfl
  · exact h
theorem once_sb (l : List OpD) : SB Tryd.prog order_index_once.f [idxS l 0] [] 1 1 fun r F => r = .fn (.func order_index_once_1.f) [] [.ptr 1 0] ∧ F = [(1, .box 54 [ops l, .mp 0])] := by
  refine order_index_once.enter (by simp [idxS, SV.ok, SV.oks]) (by simp [Hp.ok]) (by simp) ?_
  unfold idxS
  dsimp only [order_index_once.s, Co.M, Co.G, Co.J, Co.H, Co.N, Co.F, Co.C, Co.Z, Co.B, Co.b8, Co.b32, Co.b64, Co.i6, Co.z8, Co.z29]
  refine SW.seq ?_
  refine SW.g0 [0, 1, 2] mixed bq_tt ?_
  refine SW.seq ?_
  refine SW.g0 [0, 1, 2] mixed bq_tt ?_
  refine SW.ret ?_
  exact End.mk [(1, .box 54 [ops l, .mp 0])] (h4 := ⟨rfl, rfl⟩) (h5 := by simp [retV, SV.ok, SV.oks]) (h6 := by simp [Hp.ok, Ob.ok, SV.oks, SV.ok])
theorem once_at (l : List OpD) (q k : Nat) : SCd Tryd.prog order_index_once.f [.agg [ops l, .mp q]] [] k 1 (.fn (.func order_index_once_1.f) [] [.ptr k 0]) [(k, .box 54 [ops l, .mp q])] := by
  have h := SB.at (once_sb l) (fun n => if n = 0 then q else k) k (fun n m h1 h2 _ => by omega) (fun n hn p μ M w vals hr hS => by
    obtain ⟨u, us, e, r1, r2⟩ := Rps.cons_iff.1 hr
    obtain ⟨vs, _, r3⟩ := Rp.agg_iff.1 r1
    obtain ⟨u1, us1, e1, r4, r5⟩ := Rps.cons_iff.1 r3
    obtain ⟨u2, us2, e2, r6, r7⟩ := Rps.cons_iff.1 r5
    have := Rp.mp_p r6
    have hn0 : n = 0 := by omega
    subst hn0
    simpa using this) (fun i hi => by simp; omega)
  unfold SCd
  refine SC.mono h ?_
  rintro r F ⟨r0, F0, ⟨rfl, rfl⟩, rfl, rfl⟩
  exact ⟨by simp [SV.ren, SV.rens], by simp [Hp.ren, Ob.ren, SV.rens, SV.ren]⟩
theorem indexOf_at (l : List OpD) (hl : l.length < 4611686018427387904) : SC Tryd.prog order_indexOf.f [ops l] [] 0 3 fun r F => r = idxS l 1 ∧ ∃ M c, (AtO M l ∧ (MM.keys M).Nodup) ∧ F = [(1, .map (mapE Dt.cells iv M) c)] :=
  (indexOf_sb l hl).here (fun _ => false) (fun n hn => by cases hn) (by simp [SV.oks, SV.ok, SV.oks_d]) (by simp [Hp.ok]) (by
    rintro r F ⟨rfl, M, c, _, rfl⟩ _ _
    exact ⟨by simp [idxS, SV.ok, SV.oks], by simp [Hp.ok, Ob.ok, imap_ok]⟩)
set_option maxHeartbeats 4000000 in
theorem osort_ok (l : List OpD) (hl : l.length < 256) : Go.Sl.Pure Tryd.prog order_Sort.f [ops l] (ops (osort l)) := by
  refine order_Sort.enter (by first | rfl | simp [SV.ok, SV.oks]) (by first | rfl | simp [Hp.ok, Ob.ok, SV.ok, SV.oks, Vec.cells_ok]) (by simp) ?_
  dsimp only [order_Sort.s, Co.M, Co.G, Co.J, Co.H, Co.N, Co.F, Co.C, Co.Z, Co.B, Co.b8, Co.b32, Co.b64, Co.i6, Co.z8, Co.z29]
  refine SW.seq ?_
  (refine SW.regL [0, 2, 3, 4, 6, 13, 14, 15, 16] mixed ?_; (repeat (first | refine RW.ro bq_tt (h := ?_) | refine RW.skip (h := ?_) | refine RW.op bq_tt (h := ?_) | refine RW.opN bq_tt (h := ?_) | refine RW.skip0 (h := ?_) | refine lit1 rfl rfl (h := ?_))); refine RW.nil ⟨conf_of (by kernel_rfl), Pruned.mk (h := ?_)⟩)
  refine SW.seq (SW.ofN ?_)
  (repeat (first | refine SWn.op bq_tt (h := ?_) | refine SWn.opN bq_tt (h := ?_) | refine SWn.skip (h := ?_)))
  refine SWn.callC (indexOf_at l (by omega)) (HSub.nil _) (h := ?_)
  rintro _ _ ⟨rfl, M, c, ⟨hM, hK⟩, rfl⟩
  simp only [idxS]
  simp only [hmrg, hsets, hdels, hset, hrep, hdel, lk, List.lookup, Nat.reduceBEq, BEq.rfl, beq_self_eq_true, if_true, if_false, reduceIte, Nat.reduceEqDiff, Bool.false_eq_true, Option.isSome_some, Option.isSome_none, Nat.reduceAdd]
  have s1 : spl [SV.d .nils, SV.d .nilm] 0 [ops l, .mp 1] = [ops l, .mp 1] := rfl
  have s2 : spl (spl [SV.d .nils, SV.d .nilm] 0 [ops l]) 1 [SV.mp 1] = [ops l, .mp 1] := rfl
  (repeat (first | refine SWn.op (And.intro (s1) (s2)) (h := ?_) | refine SWn.opN (And.intro (s1) (s2)) (h := ?_) | refine SWn.skip (h := ?_)))
  refine SWn.nil ?_
  have hops := srtP_ops l
  have hmem : ∀ i, i ∈ srtP l → i < l.length := fun i hi => (mem_plc.1 ((srtP_perm l).mem_iff.1 hi)).1
  have hS := sortedI_at (c := c) hl hM 5 1 (by decide) 6
  have hLl := srtP_len l
  have hLb := plc_len l
  rw [← hLl] at hS hLb
  generalize srtP l = L at hS hops hmem hLb
  clear hLl
  refine SW.seq ?_
  (refine SW.regL [0, 2, 3, 4, 6, 13, 14, 15, 16] mixed ?_; (repeat (first | refine RW.ro bq_tt (h := ?_) | refine RW.skip (h := ?_) | refine RW.op bq_tt (h := ?_) | refine RW.opN bq_tt (h := ?_) | refine RW.skip0 (h := ?_) | refine lit1 rfl rfl (h := ?_))); refine RW.nil ⟨conf_of (by kernel_rfl), Pruned.mk (h := ?_)⟩)
  refine SW.nilrow 4 36 29 rfl ?_
  refine SW.seq (SW.seq ?_)
  (refine SW.regL [0, 2, 3, 4, 6, 13, 14, 15, 16] mixed ?_; (repeat (first | refine RW.ro bq_tt (h := ?_) | refine RW.skip (h := ?_) | refine RW.op bq_tt (h := ?_) | refine RW.opN bq_tt (h := ?_) | refine RW.skip0 (h := ?_) | refine lit1 rfl rfl (h := ?_) | (refine RW.callC (h := ?_); (first | refine CallP.mk bq_tt (hc := once_at l 1 5) (h := ?_) | refine CallP.mk bq_tt (hc := hS) (h := ?_))))); refine RW.nil ⟨conf_of (by kernel_rfl), Pruned.mk (h := ?_)⟩)
  refine SW.block ?_
  refine SW.loopA (α := {j : Nat // j ≤ L.length}) (fun j => ⟨[(15, i64 (j.1 : Nat)), (13, .gs 6 L.length), (14, i64 (L.length : Nat)), (4, .gs 4 (L.take j.1).length), (0, ops l)], [(4, .arr 36 29 (L.take j.1).length (opc ((L.take j.1).map (opPl l)))), (6, .arr 3 1 L.length (pc L))], 7⟩) (fun j => L.length - j.1) ⟨0, Nat.zero_le _⟩ id (And.intro (pc_ok (fun n => decide (n < 7)) L) (pc_ren id L)) (round := ?_)
  rintro ⟨j, hj⟩
  dsimp only
  by_cases h : j < L.length
  · have h1 : decide ((j : Int) < L.length) = true := by simp only [decide_eq_true_eq]; omega
    obtain ⟨i, hi⟩ : ∃ i, L[j]? = some i := ⟨L[j], List.getElem?_eq_getElem h⟩
    have hx := opPl_get (hmem i (List.mem_of_getElem? hi))
    have hil := hmem i (List.mem_of_getElem? hi)
    have e2 : IntKind.i64.wrap ((j : Int) + 1) = ((j + 1 : Nat) : Int) := wrap_i64 _ (by omega)
    have e1 : L.take (j + 1) = L.take j ++ [i] := by
      rw [List.take_add_one, hi]; rfl
    have hlen : (L.take j).length = j := by simp; omega
    generalize L.take j = T at e1 hlen ⊢
    generalize hxx : opPl l i = x at hx
    refine SW.seq ?_
    (refine SW.regL [0, 2, 3, 4, 6, 13, 14, 15, 16] mixed ?_; (repeat (first | refine RW.ro (h1) (h := ?_) | refine RW.skip (h := ?_) | refine RW.op (h1) (h := ?_) | refine RW.opN (h1) (h := ?_) | refine RW.skip0 (h := ?_) | refine lit1 rfl rfl (h := ?_))); refine RW.nil ⟨conf_of (by kernel_rfl), Pruned.mk (h := ?_)⟩)
    refine SW.seq (SW.condT rfl (SW.skip ?_))
    refine SW.seq (SW.block (SW.seq ?_))
    (refine SW.regL [0, 2, 3, 4, 6, 13, 14, 15, 16] mixed ?_; (repeat (first | refine RW.ro (pc_get hi) (h := ?_) | refine RW.skip (h := ?_) | refine RW.op (pc_get hi) (h := ?_) | refine RW.opN (pc_get hi) (h := ?_) | refine RW.skip0 (h := ?_) | refine lit1 rfl rfl (h := ?_))); refine RW.nil ⟨conf_of (by kernel_rfl), Pruned.mk (h := ?_)⟩)
    (have fx := (And.intro (op_at hx) (op_room0 hx)); refine SW.regL [0, 2, 3, 4, 6, 13, 14, 15, 16] mixed ?_; (repeat (first | refine RW.ro fx (h := ?_) | refine RW.skip (h := ?_) | refine RW.op fx (h := ?_) | refine RW.opN fx (h := ?_) | refine RW.skip0 (h := ?_) | refine lit1 rfl rfl (h := ?_))); refine RW.nil ⟨conf_of (by kernel_rfl), Pruned.mk (h := ?_)⟩)
    (refine SW.regL [0, 2, 3, 4, 6, 13, 14, 15, 16] mixed ?_; (repeat (first | refine RW.ro (e2) (h := ?_) | refine RW.skip (h := ?_) | refine RW.op (e2) (h := ?_) | refine RW.opN (e2) (h := ?_) | refine RW.skip0 (h := ?_) | refine lit1 rfl rfl (h := ?_))); refine RW.nil ⟨conf_of (by kernel_rfl), Pruned.mk (h := ?_)⟩)
    have e5 : (T ++ [i]).length = T.length + [x].length := by simp
    have e6 : opc ((T ++ [i]).map (opPl l)) = opc (T.map (opPl l)) ++ List.map SV.d ([x].flatMap OpD.ds) := by simp [hxx, opc]
    refine ⟨⟨j + 1, by omega⟩, fun n => if n = 4 then 7 else n, by show L.length - (j + 1) < _; omega, ?_⟩
    dsimp only
    rw [e1, e5, e6]
    exact Weak.mk (And.intro (pc_ok (fun n => decide (n < 7)) L) (pc_ren (fun n => if n = 4 then 7 else n) L))
  · have h1 : decide ((j : Int) < L.length) = false := by simp only [decide_eq_false_iff_not]; omega
    have hjl : j = L.length := by omega
    subst hjl
    rw [List.take_length, hops]
    refine SW.seq ?_
    (refine SW.regL [0, 2, 3, 4, 6, 13, 14, 15, 16] mixed ?_; (repeat (first | refine RW.ro (h1) (h := ?_) | refine RW.skip (h := ?_) | refine RW.op (h1) (h := ?_) | refine RW.opN (h1) (h := ?_) | refine RW.skip0 (h := ?_) | refine lit1 rfl rfl (h := ?_))); refine RW.nil ⟨conf_of (by kernel_rfl), Pruned.mk (h := ?_)⟩)
    refine SW.seq (SW.condF rfl (SW.exit ?_))
    refine SW.seq ?_
    (refine SW.regL [0, 2, 3, 4, 6, 13, 14, 15, 16] mixed ?_; (repeat (first | refine RW.ro bq_tt (h := ?_) | refine RW.skip (h := ?_) | refine RW.op bq_tt (h := ?_) | refine RW.opN bq_tt (h := ?_) | refine RW.skip0 (h := ?_) | refine lit1 rfl rfl (h := ?_))); refine RW.nil ⟨conf_of (by kernel_rfl), Pruned.mk (h := ?_)⟩)
    refine SW.freeze 4 ((osort l).flatMap OpD.ds) rfl rfl ?_
    simp only [frzE, SV.frz, List.map_cons, List.map_nil, if_true, if_false, reduceIte, hdel, Nat.reduceEqDiff]
    have : L.length = (osort l).length := by rw [← hops]; simp
    rw [this]
    refine SW.ret ?_
    exact End.mk [] (h4 := ⟨rfl, rfl⟩)
theorem osort_at (l : List OpD) (hl : l.length < 256) (k : Nat) : SCd Tryd.prog order_Sort.f [ops l] [] k 0 (ops (osort l)) [] := (osort_ok l hl).sc rfl k
end Go.Proofs.YtemghnbbmahaaaaDoor
