/-
  Dots: their order and keys.
-/
import Derived.Test.YtkklgckpaajoeaaV03
import Derived.Test.YtkklgckpaajoeaaSlA
import Derived.Test.YtkklgckpaajoeaaSl21
import Derived.Laws.Bits64b
import Derived.Test.YtkklgckpaajoeaaLawV
import Derived.Test.YtkklgckpaajoeaaSlR
import Derived.Test.YtkklgckpaajoeaaSlH
import Derived.Test.YtkklgckpaajoeaaSlS
set_option linter.unusedSectionVars false
set_option linter.unusedVariables false
set_option linter.unusedSimpArgs false
namespace Go.Proofs.Ytkklgckpaajoeaa
open Go.Sl Go.Proofs
attribute [local irreducible] SW RW SCd SC CallP Pruned

theorem nan8_ok (n : Int) : Go.Sl.Pure Try.prog cmp_isNaN_uint8.f [.d (.int .u8 n)] (bl false) := by
  refine cmp_isNaN_uint8.enter (by first | rfl | simp [SV.ok, SV.oks]) (by first | rfl | simp [Hp.ok, Ob.ok, SV.ok, SV.oks, Vec.cells_ok]) (by simp) ?_
  unfold cmp_isNaN_uint8.s
  have e1 : (n != n) = false := bne_self_eq_false n
  (repeat (first | refine SW.seq ?_ | refine SW.block ?_ | (refine SW.regL [0, 2] mixed ?_; (repeat (first | refine RW.ro (e1) (h := ?_) | refine RW.skip (h := ?_) | refine RW.op (e1) (h := ?_) | refine RW.opN (e1) (h := ?_) | refine RW.skip0 (h := ?_))); refine RW.nil ⟨by kernel_rfl, Pruned.mk (h := ?_)⟩) | refine SW.skip ?_ | refine SW.exit ?_ | refine SW.ret ?_ | refine SW.condT rfl ?_ | refine SW.condF rfl ?_))
  exact End.mk [] (h4 := ⟨rfl, rfl⟩)
theorem nan8_at (n : Int) (k : Nat) : SCd Try.prog cmp_isNaN_uint8.f [.d (.int .u8 n)] [] k 0 (.d (.bool false)) [] := (nan8_ok n).sc rfl k
theorem nan32_ok (n : Int) : Go.Sl.Pure Try.prog cmp_isNaN_uint32.f [.d (.int .u32 n)] (bl false) := by
  refine cmp_isNaN_uint32.enter (by first | rfl | simp [SV.ok, SV.oks]) (by first | rfl | simp [Hp.ok, Ob.ok, SV.ok, SV.oks, Vec.cells_ok]) (by simp) ?_
  unfold cmp_isNaN_uint32.s
  have e1 : (n != n) = false := bne_self_eq_false n
  (repeat (first | refine SW.seq ?_ | refine SW.block ?_ | (refine SW.regL [0, 2] mixed ?_; (repeat (first | refine RW.ro (e1) (h := ?_) | refine RW.skip (h := ?_) | refine RW.op (e1) (h := ?_) | refine RW.opN (e1) (h := ?_) | refine RW.skip0 (h := ?_))); refine RW.nil ⟨by kernel_rfl, Pruned.mk (h := ?_)⟩) | refine SW.skip ?_ | refine SW.exit ?_ | refine SW.ret ?_ | refine SW.condT rfl ?_ | refine SW.condF rfl ?_))
  exact End.mk [] (h4 := ⟨rfl, rfl⟩)
theorem nan32_at (n : Int) (k : Nat) : SCd Try.prog cmp_isNaN_uint32.f [.d (.int .u32 n)] [] k 0 (.d (.bool false)) [] := (nan32_ok n).sc rfl k

/-- How two numbers stand. -/
def cmpZ (a b : Int) : Int := if a < b then -1 else if a > b then 1 else 0

theorem cmp8_ok (a b : Int) : Go.Sl.Pure Try.prog cmp_Compare_uint8.f [.d (.int .u8 a), .d (.int .u8 b)] (i64 (cmpZ a b)) := by
  refine cmp_Compare_uint8.enter (by first | rfl | simp [SV.ok, SV.oks]) (by first | rfl | simp [Hp.ok, Ob.ok, SV.ok, SV.oks, Vec.cells_ok]) (by simp) ?_
  unfold cmp_Compare_uint8.s
  rcases Int.lt_trichotomy a b with h | h | h
  · have e1 : decide (a < b) = true := by simp [h]
    have e2 : cmpZ a b = -1 := by simp [cmpZ, h]
    (repeat (first | refine SW.seq ?_ | refine SW.block ?_ | (refine SW.regL [0, 1, 4, 5, 6, 11, 12, 13, 16, 19] mixed ?_; (repeat (first | refine RW.ro (e1) (h := ?_) | refine RW.skip (h := ?_) | refine RW.op (e1) (h := ?_) | refine RW.opN (e1) (h := ?_) | refine RW.skip0 (h := ?_) | (refine RW.callC (h := ?_); (first | refine CallP.mk (e1) (hc := nan8_at _ _) (h := ?_) | refine CallP.mk (e1) (hc := nan32_at _ _) (h := ?_))))); refine RW.nil ⟨by kernel_rfl, Pruned.mk (h := ?_)⟩) | refine SW.skip ?_ | refine SW.exit ?_ | refine SW.ret ?_ | refine SW.condT rfl ?_ | refine SW.condF rfl ?_))
    exact End.mk [] (h4 := ⟨by rw [e2]; rfl, rfl⟩)
  · have e1 : decide (a < b) = false := by simp [h]
    have e3 : decide (a > b) = false := by simp [h]
    have e2 : cmpZ a b = 0 := by simp [cmpZ, h]
    (repeat (first | refine SW.seq ?_ | refine SW.block ?_ | (refine SW.regL [0, 1, 4, 5, 6, 11, 12, 13, 16, 19] mixed ?_; (repeat (first | refine RW.ro (And.intro (e1) (e3)) (h := ?_) | refine RW.skip (h := ?_) | refine RW.op (And.intro (e1) (e3)) (h := ?_) | refine RW.opN (And.intro (e1) (e3)) (h := ?_) | refine RW.skip0 (h := ?_) | (refine RW.callC (h := ?_); (first | refine CallP.mk (And.intro (e1) (e3)) (hc := nan8_at _ _) (h := ?_) | refine CallP.mk (And.intro (e1) (e3)) (hc := nan32_at _ _) (h := ?_))))); refine RW.nil ⟨by kernel_rfl, Pruned.mk (h := ?_)⟩) | refine SW.skip ?_ | refine SW.exit ?_ | refine SW.ret ?_ | refine SW.condT rfl ?_ | refine SW.condF rfl ?_))
    exact End.mk [] (h4 := ⟨by rw [e2]; rfl, rfl⟩)
  · have e1 : decide (a < b) = false := by simp; omega
    have e3 : decide (a > b) = true := by simp [h]
    have e2 : cmpZ a b = 1 := by unfold cmpZ; rw [if_neg (by omega), if_pos h]
    (repeat (first | refine SW.seq ?_ | refine SW.block ?_ | (refine SW.regL [0, 1, 4, 5, 6, 11, 12, 13, 16, 19] mixed ?_; (repeat (first | refine RW.ro (And.intro (e1) (e3)) (h := ?_) | refine RW.skip (h := ?_) | refine RW.op (And.intro (e1) (e3)) (h := ?_) | refine RW.opN (And.intro (e1) (e3)) (h := ?_) | refine RW.skip0 (h := ?_) | (refine RW.callC (h := ?_); (first | refine CallP.mk (And.intro (e1) (e3)) (hc := nan8_at _ _) (h := ?_) | refine CallP.mk (And.intro (e1) (e3)) (hc := nan32_at _ _) (h := ?_))))); refine RW.nil ⟨by kernel_rfl, Pruned.mk (h := ?_)⟩) | refine SW.skip ?_ | refine SW.exit ?_ | refine SW.ret ?_ | refine SW.condT rfl ?_ | refine SW.condF rfl ?_))
    exact End.mk [] (h4 := ⟨by rw [e2]; rfl, rfl⟩)
theorem cmp32_ok (a b : Int) : Go.Sl.Pure Try.prog cmp_Compare_uint32.f [.d (.int .u32 a), .d (.int .u32 b)] (i64 (cmpZ a b)) := by
  refine cmp_Compare_uint32.enter (by first | rfl | simp [SV.ok, SV.oks]) (by first | rfl | simp [Hp.ok, Ob.ok, SV.ok, SV.oks, Vec.cells_ok]) (by simp) ?_
  unfold cmp_Compare_uint32.s
  rcases Int.lt_trichotomy a b with h | h | h
  · have e1 : decide (a < b) = true := by simp [h]
    have e2 : cmpZ a b = -1 := by simp [cmpZ, h]
    (repeat (first | refine SW.seq ?_ | refine SW.block ?_ | (refine SW.regL [0, 1, 4, 5, 6, 11, 12, 13, 16, 19] mixed ?_; (repeat (first | refine RW.ro (e1) (h := ?_) | refine RW.skip (h := ?_) | refine RW.op (e1) (h := ?_) | refine RW.opN (e1) (h := ?_) | refine RW.skip0 (h := ?_) | (refine RW.callC (h := ?_); (first | refine CallP.mk (e1) (hc := nan8_at _ _) (h := ?_) | refine CallP.mk (e1) (hc := nan32_at _ _) (h := ?_))))); refine RW.nil ⟨by kernel_rfl, Pruned.mk (h := ?_)⟩) | refine SW.skip ?_ | refine SW.exit ?_ | refine SW.ret ?_ | refine SW.condT rfl ?_ | refine SW.condF rfl ?_))
    exact End.mk [] (h4 := ⟨by rw [e2]; rfl, rfl⟩)
  · have e1 : decide (a < b) = false := by simp [h]
    have e3 : decide (a > b) = false := by simp [h]
    have e2 : cmpZ a b = 0 := by simp [cmpZ, h]
    (repeat (first | refine SW.seq ?_ | refine SW.block ?_ | (refine SW.regL [0, 1, 4, 5, 6, 11, 12, 13, 16, 19] mixed ?_; (repeat (first | refine RW.ro (And.intro (e1) (e3)) (h := ?_) | refine RW.skip (h := ?_) | refine RW.op (And.intro (e1) (e3)) (h := ?_) | refine RW.opN (And.intro (e1) (e3)) (h := ?_) | refine RW.skip0 (h := ?_) | (refine RW.callC (h := ?_); (first | refine CallP.mk (And.intro (e1) (e3)) (hc := nan8_at _ _) (h := ?_) | refine CallP.mk (And.intro (e1) (e3)) (hc := nan32_at _ _) (h := ?_))))); refine RW.nil ⟨by kernel_rfl, Pruned.mk (h := ?_)⟩) | refine SW.skip ?_ | refine SW.exit ?_ | refine SW.ret ?_ | refine SW.condT rfl ?_ | refine SW.condF rfl ?_))
    exact End.mk [] (h4 := ⟨by rw [e2]; rfl, rfl⟩)
  · have e1 : decide (a < b) = false := by simp; omega
    have e3 : decide (a > b) = true := by simp [h]
    have e2 : cmpZ a b = 1 := by unfold cmpZ; rw [if_neg (by omega), if_pos h]
    (repeat (first | refine SW.seq ?_ | refine SW.block ?_ | (refine SW.regL [0, 1, 4, 5, 6, 11, 12, 13, 16, 19] mixed ?_; (repeat (first | refine RW.ro (And.intro (e1) (e3)) (h := ?_) | refine RW.skip (h := ?_) | refine RW.op (And.intro (e1) (e3)) (h := ?_) | refine RW.opN (And.intro (e1) (e3)) (h := ?_) | refine RW.skip0 (h := ?_) | (refine RW.callC (h := ?_); (first | refine CallP.mk (And.intro (e1) (e3)) (hc := nan8_at _ _) (h := ?_) | refine CallP.mk (And.intro (e1) (e3)) (hc := nan32_at _ _) (h := ?_))))); refine RW.nil ⟨by kernel_rfl, Pruned.mk (h := ?_)⟩) | refine SW.skip ?_ | refine SW.exit ?_ | refine SW.ret ?_ | refine SW.condT rfl ?_ | refine SW.condF rfl ?_))
    exact End.mk [] (h4 := ⟨by rw [e2]; rfl, rfl⟩)
theorem cmp8_at (a b : Int) (k : Nat) : SCd Try.prog cmp_Compare_uint8.f [.d (.int .u8 a), .d (.int .u8 b)] [] k 0 (.d (.int .i64 (cmpZ a b))) [] := (cmp8_ok a b).sc rfl k
theorem cmp32_at (a b : Int) (k : Nat) : SCd Try.prog cmp_Compare_uint32.f [.d (.int .u32 a), .d (.int .u32 b)] [] k 0 (.d (.int .i64 (cmpZ a b))) [] := (cmp32_ok a b).sc rfl k

theorem may_ok (r n : Int) : Go.Sl.Pure Try.prog dot_May.f [.agg [.d (.int .u8 r), .d (.int .u32 n)]] (bl (decide (r < 8) && decide (n > 0))) := by
  refine dot_May.enter (by first | rfl | simp [SV.ok, SV.oks]) (by first | rfl | simp [Hp.ok, Ob.ok, SV.ok, SV.oks, Vec.cells_ok]) (by simp) ?_
  unfold dot_May.s
  rcases h1 : decide (r < 8) with _ | _
  · (repeat (first | refine SW.seq ?_ | refine SW.block ?_ | (refine SW.regL [0, 1, 2] mixed ?_; (repeat (first | refine RW.ro (h1) (h := ?_) | refine RW.skip (h := ?_) | refine RW.op (h1) (h := ?_) | refine RW.opN (h1) (h := ?_) | refine RW.skip0 (h := ?_))); refine RW.nil ⟨by kernel_rfl, Pruned.mk (h := ?_)⟩) | refine SW.skip ?_ | refine SW.exit ?_ | refine SW.ret ?_ | refine SW.condT rfl ?_ | refine SW.condF rfl ?_))
    exact End.mk [] (h4 := ⟨rfl, rfl⟩)
  · (repeat (first | refine SW.seq ?_ | refine SW.block ?_ | (refine SW.regL [0, 1, 2] mixed ?_; (repeat (first | refine RW.ro (h1) (h := ?_) | refine RW.skip (h := ?_) | refine RW.op (h1) (h := ?_) | refine RW.opN (h1) (h := ?_) | refine RW.skip0 (h := ?_))); refine RW.nil ⟨by kernel_rfl, Pruned.mk (h := ?_)⟩) | refine SW.skip ?_ | refine SW.exit ?_ | refine SW.ret ?_ | refine SW.condT rfl ?_ | refine SW.condF rfl ?_))
    exact End.mk [] (h4 := ⟨rfl, rfl⟩)
theorem rmay_ok (r n : Int) : Go.Sl.Pure Try.prog ref03_May.f [.agg [.d (.int .u8 r), .d (.int .u32 n)]] (bl (decide (r ≤ 7) && decide (n ≥ 1))) := by
  refine ref03_May.enter (by first | rfl | simp [SV.ok, SV.oks]) (by first | rfl | simp [Hp.ok, Ob.ok, SV.ok, SV.oks, Vec.cells_ok]) (by simp) ?_
  unfold ref03_May.s
  rcases h1 : decide (r ≤ 7) with _ | _
  · (repeat (first | refine SW.seq ?_ | refine SW.block ?_ | (refine SW.regL [0, 1, 2] mixed ?_; (repeat (first | refine RW.ro (h1) (h := ?_) | refine RW.skip (h := ?_) | refine RW.op (h1) (h := ?_) | refine RW.opN (h1) (h := ?_) | refine RW.skip0 (h := ?_))); refine RW.nil ⟨by kernel_rfl, Pruned.mk (h := ?_)⟩) | refine SW.skip ?_ | refine SW.exit ?_ | refine SW.ret ?_ | refine SW.condT rfl ?_ | refine SW.condF rfl ?_))
    exact End.mk [] (h4 := ⟨rfl, rfl⟩)
  · (repeat (first | refine SW.seq ?_ | refine SW.block ?_ | (refine SW.regL [0, 1, 2] mixed ?_; (repeat (first | refine RW.ro (h1) (h := ?_) | refine RW.skip (h := ?_) | refine RW.op (h1) (h := ?_) | refine RW.opN (h1) (h := ?_) | refine RW.skip0 (h := ?_))); refine RW.nil ⟨by kernel_rfl, Pruned.mk (h := ?_)⟩) | refine SW.skip ?_ | refine SW.exit ?_ | refine SW.ret ?_ | refine SW.condT rfl ?_ | refine SW.condF rfl ?_))
    exact End.mk [] (h4 := ⟨rfl, rfl⟩)
theorem may_at (d : Dt) (k : Nat) : SCd Try.prog dot_May.f [.agg d.cells] [] k 0 (.d (.bool (decide ((d.r : Int) < 8) && decide ((d.n : Int) > 0)))) [] := (may_ok d.r d.n).sc rfl k
theorem rmay_at (d : Dt) (k : Nat) : SCd Try.prog ref03_May.f [.agg d.cells] [] k 0 (.d (.bool (decide ((d.r : Int) ≤ 7) && decide ((d.n : Int) ≥ 1)))) [] := (rmay_ok d.r d.n).sc rfl k
theorem d_ok (r n : Nat) : Go.Sl.Pure Try.prog law03_d.f [.d (.int .u8 (r : Int)), .d (.int .u32 (n : Int))] (.agg (Dt.mk r n).cells) := by
  refine law03_d.enter (by first | rfl | simp [SV.ok, SV.oks]) (by first | rfl | simp [Hp.ok, Ob.ok, SV.ok, SV.oks, Vec.cells_ok]) (by simp) ?_
  unfold law03_d.s
  have e1 := Dt.bldI Dt.zero r n ⟨by omega, by omega⟩
  (repeat (first | refine SW.seq ?_ | refine SW.block ?_ | (refine SW.regL [0, 1, 4] mixed ?_; (repeat (first | refine RW.ro (e1) (h := ?_) | refine RW.skip (h := ?_) | refine RW.op (e1) (h := ?_) | refine RW.opN (e1) (h := ?_) | refine RW.skip0 (h := ?_))); refine RW.nil ⟨by kernel_rfl, Pruned.mk (h := ?_)⟩) | refine SW.skip ?_ | refine SW.exit ?_ | refine SW.ret ?_ | refine SW.condT rfl ?_ | refine SW.condF rfl ?_))
  exact End.mk [] (h4 := ⟨rfl, rfl⟩)
theorem d_at (r n : Nat) (k : Nat) : SCd Try.prog law03_d.f [.d (.int .u8 (r : Int)), .d (.int .u32 (n : Int))] [] k 0 (.agg (Dt.mk r n).cells) [] := (d_ok r n).sc rfl k
end Go.Proofs.Ytkklgckpaajoeaa

/-
  Dots: the order.
-/
set_option linter.unusedSectionVars false
set_option linter.unusedVariables false
set_option linter.unusedSimpArgs false
namespace Go.Proofs.Ytkklgckpaajoeaa
open Go.Sl Go.Proofs
attribute [local irreducible] SW RW SCd SC CallP Pruned

theorem or2_ok (a b : Int) : Go.Sl.Pure Try.prog cmp_Or_int.f [.d (.sl 2 [.int .i64 a, .int .i64 b])] (i64 (if a = 0 then b else a)) := by
  refine cmp_Or_int.enter (by first | rfl | simp [SV.ok, SV.oks]) (by first | rfl | simp [Hp.ok, Ob.ok, SV.ok, SV.oks, Vec.cells_ok]) (by simp) ?_
  unfold cmp_Or_int.s
  (repeat (first | refine SW.seq ?_ | refine SW.block ?_ | (refine SW.regL [0, 2, 3, 5, 6, 7, 8, 9, 14] mixed ?_; (repeat (first | refine RW.ro bq_tt (h := ?_) | refine RW.skip (h := ?_) | refine RW.op bq_tt (h := ?_) | refine RW.opN bq_tt (h := ?_) | refine RW.skip0 (h := ?_))); refine RW.nil ⟨by kernel_rfl, Pruned.mk (h := ?_)⟩) | refine SW.skip ?_ | refine SW.exit ?_ | refine SW.ret ?_ | refine SW.condT rfl ?_ | refine SW.condF rfl ?_))
  refine SW.loopA (α := {i : Nat // i ≤ 2 ∧ (1 ≤ i → a = 0) ∧ (2 ≤ i → b = 0)}) (fun i => ⟨[(8, i64 i.1), (6, .d (.sl 2 [.int .i64 a, .int .i64 b])), (7, i64 2), (3, i64 0)], [], 0⟩) (fun i => 2 - i.1) ⟨0, by omega⟩ id bq_tt (round := ?_)
  rintro ⟨i, hi, ha, hb⟩
  match i, hi, ha, hb with
  | 0, _, _, _ =>
    rcases h1 : (a != 0) with _ | _
    · (repeat (first | refine SW.seq ?_ | refine SW.block ?_ | (refine SW.regL [0, 2, 3, 5, 6, 7, 8, 9, 14] mixed ?_; (repeat (first | refine RW.ro (h1) (h := ?_) | refine RW.skip (h := ?_) | refine RW.op (h1) (h := ?_) | refine RW.opN (h1) (h := ?_) | refine RW.skip0 (h := ?_))); refine RW.nil ⟨by kernel_rfl, Pruned.mk (h := ?_)⟩) | refine SW.skip ?_ | refine SW.exit ?_ | refine SW.ret ?_ | refine SW.condT rfl ?_ | refine SW.condF rfl ?_))
      exact Next.mk ⟨1, by omega, fun _ => by simpa using h1, by omega⟩ id bq_tt
    · (repeat (first | refine SW.seq ?_ | refine SW.block ?_ | (refine SW.regL [0, 2, 3, 5, 6, 7, 8, 9, 14] mixed ?_; (repeat (first | refine RW.ro (h1) (h := ?_) | refine RW.skip (h := ?_) | refine RW.op (h1) (h := ?_) | refine RW.opN (h1) (h := ?_) | refine RW.skip0 (h := ?_))); refine RW.nil ⟨by kernel_rfl, Pruned.mk (h := ?_)⟩) | refine SW.skip ?_ | refine SW.exit ?_ | refine SW.ret ?_ | refine SW.condT rfl ?_ | refine SW.condF rfl ?_))
      exact End.mk [] (h4 := ⟨by simp at h1; rw [if_neg h1]; rfl, rfl⟩)
  | 1, _, ha, _ =>
    rcases h1 : (b != 0) with _ | _
    · (repeat (first | refine SW.seq ?_ | refine SW.block ?_ | (refine SW.regL [0, 2, 3, 5, 6, 7, 8, 9, 14] mixed ?_; (repeat (first | refine RW.ro (h1) (h := ?_) | refine RW.skip (h := ?_) | refine RW.op (h1) (h := ?_) | refine RW.opN (h1) (h := ?_) | refine RW.skip0 (h := ?_))); refine RW.nil ⟨by kernel_rfl, Pruned.mk (h := ?_)⟩) | refine SW.skip ?_ | refine SW.exit ?_ | refine SW.ret ?_ | refine SW.condT rfl ?_ | refine SW.condF rfl ?_))
      exact Next.mk ⟨2, by omega, fun _ => ha (by omega), fun _ => by simpa using h1⟩ id bq_tt
    · (repeat (first | refine SW.seq ?_ | refine SW.block ?_ | (refine SW.regL [0, 2, 3, 5, 6, 7, 8, 9, 14] mixed ?_; (repeat (first | refine RW.ro (h1) (h := ?_) | refine RW.skip (h := ?_) | refine RW.op (h1) (h := ?_) | refine RW.opN (h1) (h := ?_) | refine RW.skip0 (h := ?_))); refine RW.nil ⟨by kernel_rfl, Pruned.mk (h := ?_)⟩) | refine SW.skip ?_ | refine SW.exit ?_ | refine SW.ret ?_ | refine SW.condT rfl ?_ | refine SW.condF rfl ?_))
      exact End.mk [] (h4 := ⟨by rw [if_pos (ha (by omega))]; rfl, rfl⟩)
  | 2, _, ha, hb =>
    (repeat (first | refine SW.seq ?_ | refine SW.block ?_ | (refine SW.regL [0, 2, 3, 5, 6, 7, 8, 9, 14] mixed ?_; (repeat (first | refine RW.ro bq_tt (h := ?_) | refine RW.skip (h := ?_) | refine RW.op bq_tt (h := ?_) | refine RW.opN bq_tt (h := ?_) | refine RW.skip0 (h := ?_))); refine RW.nil ⟨by kernel_rfl, Pruned.mk (h := ?_)⟩) | refine SW.skip ?_ | refine SW.exit ?_ | refine SW.ret ?_ | refine SW.condT rfl ?_ | refine SW.condF rfl ?_))
    exact End.mk [] (h4 := ⟨by rw [if_pos (ha (by omega)), hb (by omega)]; rfl, rfl⟩)
theorem or2_at (a b : Int) (k : Nat) : SCd Try.prog cmp_Or_int.f [.d (.sl 2 [.int .i64 a, .int .i64 b])] [] k 0 (.d (.int .i64 (if a = 0 then b else a))) [] := (or2_ok a b).sc rfl k

theorem spl2 : ∀ (x y a b : SV), spl (spl [x, y] 0 [a]) 1 [b] = [a, b] := fun _ _ _ _ => rfl
/-- How two dots stand. -/
def Dt.cmp (a b : Dt) : Int := if cmpZ a.r b.r = 0 then cmpZ a.n b.n else cmpZ a.r b.r

theorem compare_ok (a b : Dt) : Go.Sl.Pure Try.prog dot_Compare.f [.agg a.cells, .agg b.cells] (i64 (Dt.cmp a b)) := by
  refine dot_Compare.enter (by first | rfl | simp [SV.ok, SV.oks]) (by first | rfl | simp [Hp.ok, Ob.ok, SV.ok, SV.oks, Vec.cells_ok]) (by simp) ?_
  unfold dot_Compare.s
  (repeat (first | refine SW.seq ?_ | refine SW.block ?_ | (refine SW.regL [0, 1, 2, 3, 4] mixed ?_; (repeat (first | refine RW.ro (spl2) (h := ?_) | refine RW.skip (h := ?_) | refine RW.op (spl2) (h := ?_) | refine RW.opN (spl2) (h := ?_) | refine RW.skip0 (h := ?_) | (refine RW.callC (h := ?_); (first | refine CallP.mk (spl2) (hc := cmp8_at _ _ _) (h := ?_) | refine CallP.mk (spl2) (hc := cmp32_at _ _ _) (h := ?_) | refine CallP.mk (spl2) (hc := or2_at _ _ _) (h := ?_))))); refine RW.nil ⟨by kernel_rfl, Pruned.mk (h := ?_)⟩) | refine SW.skip ?_ | refine SW.exit ?_ | refine SW.ret ?_ | refine SW.condT rfl ?_ | refine SW.condF rfl ?_))
  exact End.mk [] (h4 := ⟨rfl, rfl⟩)
theorem compare_at (a b : Dt) (k : Nat) : SCd Try.prog dot_Compare.f [.agg a.cells, .agg b.cells] [] k 0 (.d (.int .i64 (Dt.cmp a b))) [] := (compare_ok a b).sc rfl k
end Go.Proofs.Ytkklgckpaajoeaa

/-
  Dots: the document's order, keys.
-/
set_option linter.unusedSectionVars false
set_option linter.unusedVariables false
set_option linter.unusedSimpArgs false
namespace Go.Proofs.Ytkklgckpaajoeaa
open Go.Sl Go.Proofs
attribute [local irreducible] SW RW SCd SC CallP Pruned

theorem rcompare_ok (a b : Dt) (ha : a.wf) (hb : b.wf) : Go.Sl.Pure Try.prog ref03_Compare.f [.agg a.cells, .agg b.cells] (i64 (cmpZ ((a.r : Int) * 8589934592 + a.n) ((b.r : Int) * 8589934592 + b.n))) := by
  obtain ⟨a1, a2⟩ := ha
  obtain ⟨b1, b2⟩ := hb
  refine ref03_Compare.enter (by first | rfl | simp [SV.ok, SV.oks]) (by first | rfl | simp [Hp.ok, Ob.ok, SV.ok, SV.oks, Vec.cells_ok]) (by simp) ?_
  unfold ref03_Compare.s
  generalize hx : (a.r : Int) * 8589934592 + a.n = x
  generalize hy : (b.r : Int) * 8589934592 + b.n = y
  rcases Int.lt_trichotomy x y with h | h | h
  · have e1 : decide (x < y) = true := by simp [h]
    have e2 : cmpZ x y = -1 := by simp [cmpZ, h]
    (repeat (first | refine SW.seq ?_ | refine SW.block ?_ | (refine SW.regL [0, 1, 2, 3, 4, 5, 6, 25, 28] mixed ?_; (repeat (first | refine RW.ro (And.intro (hx) (And.intro (hy) (e1))) (h := ?_) | refine RW.skip (h := ?_) | refine RW.op (And.intro (hx) (And.intro (hy) (e1))) (h := ?_) | refine RW.opN (And.intro (hx) (And.intro (hy) (e1))) (h := ?_) | refine RW.skip0 (h := ?_))); refine RW.nil ⟨by kernel_rfl, Pruned.mk (h := ?_)⟩) | refine SW.skip ?_ | refine SW.exit ?_ | refine SW.ret ?_ | refine SW.condT rfl ?_ | refine SW.condF rfl ?_))
    exact End.mk [] (h4 := ⟨by rw [e2]; rfl, rfl⟩)
  · have e1 : decide (x < y) = false := by simp [h]
    have e3 : decide (x > y) = false := by simp [h]
    have e2 : cmpZ x y = 0 := by simp [cmpZ, h]
    (repeat (first | refine SW.seq ?_ | refine SW.block ?_ | (refine SW.regL [0, 1, 2, 3, 4, 5, 6, 25, 28] mixed ?_; (repeat (first | refine RW.ro (And.intro (hx) (And.intro (hy) (And.intro (e1) (e3)))) (h := ?_) | refine RW.skip (h := ?_) | refine RW.op (And.intro (hx) (And.intro (hy) (And.intro (e1) (e3)))) (h := ?_) | refine RW.opN (And.intro (hx) (And.intro (hy) (And.intro (e1) (e3)))) (h := ?_) | refine RW.skip0 (h := ?_))); refine RW.nil ⟨by kernel_rfl, Pruned.mk (h := ?_)⟩) | refine SW.skip ?_ | refine SW.exit ?_ | refine SW.ret ?_ | refine SW.condT rfl ?_ | refine SW.condF rfl ?_))
    exact End.mk [] (h4 := ⟨by rw [e2]; rfl, rfl⟩)
  · have e1 : decide (x < y) = false := by simp; omega
    have e3 : decide (x > y) = true := by simp [h]
    have e2 : cmpZ x y = 1 := by unfold cmpZ; rw [if_neg (by omega), if_pos h]
    (repeat (first | refine SW.seq ?_ | refine SW.block ?_ | (refine SW.regL [0, 1, 2, 3, 4, 5, 6, 25, 28] mixed ?_; (repeat (first | refine RW.ro (And.intro (hx) (And.intro (hy) (And.intro (e1) (e3)))) (h := ?_) | refine RW.skip (h := ?_) | refine RW.op (And.intro (hx) (And.intro (hy) (And.intro (e1) (e3)))) (h := ?_) | refine RW.opN (And.intro (hx) (And.intro (hy) (And.intro (e1) (e3)))) (h := ?_) | refine RW.skip0 (h := ?_))); refine RW.nil ⟨by kernel_rfl, Pruned.mk (h := ?_)⟩) | refine SW.skip ?_ | refine SW.exit ?_ | refine SW.ret ?_ | refine SW.condT rfl ?_ | refine SW.condF rfl ?_))
    exact End.mk [] (h4 := ⟨by rw [e2]; rfl, rfl⟩)
/-- The document's order is the program's. -/
theorem Dt.cmp_eq (a b : Dt) (ha : a.wf) (hb : b.wf) : cmpZ ((a.r : Int) * 8589934592 + a.n) ((b.r : Int) * 8589934592 + b.n) = Dt.cmp a b := by
  obtain ⟨a1, a2⟩ := ha
  obtain ⟨b1, b2⟩ := hb
  unfold Dt.cmp cmpZ
  repeat' split
  all_goals omega
theorem rcompare_at (a b : Dt) (ha : a.wf) (hb : b.wf) (k : Nat) : SCd Try.prog ref03_Compare.f [.agg a.cells, .agg b.cells] [] k 0 (.d (.int .i64 (Dt.cmp a b))) [] := by
  have := (rcompare_ok a b ha hb).sc rfl k
  rwa [Dt.cmp_eq a b ha hb] at this
end Go.Proofs.Ytkklgckpaajoeaa

/-
  Dots: keys.
-/
set_option linter.unusedSectionVars false
set_option linter.unusedVariables false
set_option linter.unusedSimpArgs false
namespace Go.Proofs.Ytkklgckpaajoeaa
open Go.Sl Go.Proofs
attribute [local irreducible] SW RW SCd SC CallP Pruned

/-- May a dot be? -/
def mayB (d : Dt) : Bool := decide ((d.r : Int) ≤ 7) && decide ((d.n : Int) ≥ 1)
theorem rkey_ok (d : Dt) (hd : d.wf) : Go.Sl.Pure Try.prog ref03_Key.f [.agg d.cells] (if mayB d then .tup [.d (.int .u64 (8 * (d.n : Int) + d.r)), i64 0] else .tup [.d (.int .u64 0), i64 2]) := by
  obtain ⟨a1, a2⟩ := hd
  refine ref03_Key.enter (by first | rfl | simp [SV.ok, SV.oks]) (by first | rfl | simp [Hp.ok, Ob.ok, SV.ok, SV.oks, Vec.cells_ok]) (by simp) ?_
  unfold ref03_Key.s
  rcases hm : mayB d with _ | _
  · have hm' := hm
    unfold mayB at hm'
    (repeat (first | refine SW.seq ?_ | refine SW.block ?_ | (refine SW.regL [0, 1, 2, 3, 6] mixed ?_; (repeat (first | refine RW.ro (hm') (h := ?_) | refine RW.skip (h := ?_) | refine RW.op (hm') (h := ?_) | refine RW.opN (hm') (h := ?_) | refine RW.skip0 (h := ?_) | (refine RW.callC (h := ?_); (first | refine CallP.mk (hm') (hc := rmay_at _ _) (h := ?_))))); refine RW.nil ⟨by kernel_rfl, Pruned.mk (h := ?_)⟩) | refine SW.skip ?_ | refine SW.exit ?_ | refine SW.ret ?_ | refine SW.condT rfl ?_ | refine SW.condF rfl ?_))
    exact End.mk [] (h4 := ⟨rfl, rfl⟩)
  · have hm' := hm
    unfold mayB at hm'
    (repeat (first | refine SW.seq ?_ | refine SW.block ?_ | (refine SW.regL [0, 1, 2, 3, 6] mixed ?_; (repeat (first | refine RW.ro (hm') (h := ?_) | refine RW.skip (h := ?_) | refine RW.op (hm') (h := ?_) | refine RW.opN (hm') (h := ?_) | refine RW.skip0 (h := ?_) | (refine RW.callC (h := ?_); (first | refine CallP.mk (hm') (hc := rmay_at _ _) (h := ?_))))); refine RW.nil ⟨by kernel_rfl, Pruned.mk (h := ?_)⟩) | refine SW.skip ?_ | refine SW.exit ?_ | refine SW.ret ?_ | refine SW.condT rfl ?_ | refine SW.condF rfl ?_))
    exact End.mk [] (h4 := ⟨rfl, rfl⟩)
end Go.Proofs.Ytkklgckpaajoeaa

/-
  Dots: keys.
-/
set_option linter.unusedSectionVars false
set_option linter.unusedVariables false
set_option linter.unusedSimpArgs false
namespace Go.Proofs.Ytkklgckpaajoeaa
open Go.Sl Go.Proofs
attribute [local irreducible] SW RW SCd SC CallP Pruned

theorem key_ok (d : Dt) (hd : d.wf) : Go.Sl.Pure Try.prog dot_Key.f [.agg d.cells] (if mayB d then .tup [.d (.int .u64 (bits .or .u64 ((d.n : Int) * 2 ^ 3) d.r)), i64 0] else .tup [.d (.int .u64 0), i64 2]) := by
  obtain ⟨a1, a2⟩ := hd
  have hk : mayB d = (decide ((d.r : Int) < 8) && decide ((d.n : Int) > 0)) := by
    unfold mayB
    congr 1 <;> (rw [decide_eq_decide]; omega)
  refine dot_Key.enter (by first | rfl | simp [SV.ok, SV.oks]) (by first | rfl | simp [Hp.ok, Ob.ok, SV.ok, SV.oks, Vec.cells_ok]) (by simp) ?_
  unfold dot_Key.s
  rcases hm : mayB d with _ | _
  · have hm' := hm
    rw [hk] at hm'
    (repeat (first | refine SW.seq ?_ | refine SW.block ?_ | (refine SW.regL [0, 1, 2, 3, 6] mixed ?_; (repeat (first | refine RW.ro (hm') (h := ?_) | refine RW.skip (h := ?_) | refine RW.op (hm') (h := ?_) | refine RW.opN (hm') (h := ?_) | refine RW.skip0 (h := ?_) | (refine RW.callC (h := ?_); (first | refine CallP.mk (hm') (hc := may_at _ _) (h := ?_))))); refine RW.nil ⟨by kernel_rfl, Pruned.mk (h := ?_)⟩) | refine SW.skip ?_ | refine SW.exit ?_ | refine SW.ret ?_ | refine SW.condT rfl ?_ | refine SW.condF rfl ?_))
    exact End.mk [] (h4 := ⟨rfl, rfl⟩)
  · have hm' := hm
    rw [hk] at hm'
    (repeat (first | refine SW.seq ?_ | refine SW.block ?_ | (refine SW.regL [0, 1, 2, 3, 6] mixed ?_; (repeat (first | refine RW.ro (hm') (h := ?_) | refine RW.skip (h := ?_) | refine RW.op (hm') (h := ?_) | refine RW.opN (hm') (h := ?_) | refine RW.skip0 (h := ?_) | (refine RW.callC (h := ?_); (first | refine CallP.mk (hm') (hc := may_at _ _) (h := ?_))))); refine RW.nil ⟨by kernel_rfl, Pruned.mk (h := ?_)⟩) | refine SW.skip ?_ | refine SW.exit ?_ | refine SW.ret ?_ | refine SW.condT rfl ?_ | refine SW.condF rfl ?_))

    exact End.mk [] (h4 := ⟨rfl, rfl⟩)
theorem key_bits (n r : Nat) (hr : r < 8) (hn : n < 4294967296) : bits .or .u64 ((n : Int) * 2 ^ 3) r = 8 * (n : Int) + r := by
  have h1 := bits_or_u64_nat (8 * n) r (by omega) (by omega)
  have h2 := Nat.two_pow_add_eq_or_of_lt (i := 3) hr n
  have e : ((n : Int) * 2 ^ 3) = ((8 * n : Nat) : Int) := by omega
  rw [e, h1, ← h2]
  omega
theorem key_at (d : Dt) (hd : d.wf) (k : Nat) : SCd Try.prog dot_Key.f [.agg d.cells] [] k 0 (if mayB d then .tup [.d (.int .u64 (8 * (d.n : Int) + d.r)), i64 0] else .tup [.d (.int .u64 0), i64 2]) [] := by
  have := (key_ok d hd).sc (by split <;> rfl) k
  rcases hm : mayB d with _ | _
  · simpa [hm] using this
  · have hm' := hm
    unfold mayB at hm'
    simp only [Bool.and_eq_true, decide_eq_true_eq] at hm'
    rw [hm, key_bits d.n d.r (by omega) hd.2] at this
    exact this
end Go.Proofs.Ytkklgckpaajoeaa

/-
  Dots: are two rows the same?
-/
set_option linter.unusedSectionVars false
set_option linter.unusedVariables false
set_option linter.unusedSimpArgs false
namespace Go.Proofs.Ytkklgckpaajoeaa
open Go.Sl Go.Proofs

theorem ref03_same (l m : List Dt) (hl : l.length < 1000000000) (hm : m.length < 1000000000) : Go.Sl.Pure Try.prog ref03_Same.f [dots l, dots m] (bl (decide (l = m))) := by
  refine ref03_Same.enter rfl rfl (by simp) ?_
  unfold ref03_Same.s
  refine SW.seq ?_
  refine SW.reg [] mixed (by simp only [runs, runOp, goOp, sop, ev, evs, evp, upd, argE, List.lookup, Nat.reduceBEq, Nat.reduceAdd, Nat.reduceMul, Nat.zero_add, SV.cells, if_true, if_false, reduceIte, Bool.false_eq_true, roOf, hmrg, hsets, hdels, hset, hdel, touchL, lk, List.filter, Nat.reduceBNe, bne_self_eq_false, ldv, ldo, cellsAt, binV, binK, mvp, Vec.cells_one, BEq.rfl, beq_self_eq_true, Bool.true_or, Nat.reduceEqDiff, List.map_cons, List.map_nil, List.nil_append, List.cons_append, List.append_nil, Int.toNat_natCast, Nat.mul_one, Nat.add_zero, findS, keyOk, isAggS, msetS, mdelS, lookS, lookOk, Option.isSome_some, Option.isSome_none, Option.isNone_some, Option.isNone_none, Nat.zero_ne_one, Nat.one_ne_zero, Bool.and_false, Bool.and_true, List.drop_zero, Vec.zero_cells, Vec.take_all, Vec.spl_all, Dt.cells_one, Dt.take_all, Dt.get0, Dt.get1, Dt.spl_all, Dt.zero_cells, Dt.bld, bldS, datas, appB, appX, List.all_cons, List.all_nil, SV.isOne, Int.cast_ofNat_Int, Int.reduceBNe, Int.reduceBEq, Int.reduceLT, Int.reduceLE, Int.reduceGT, Int.reduceGE, one_map, bq_ft, bq_tf, Bool.not_true, Bool.not_false, Bool.or_false, Bool.or_true, Bool.false_or, Bool.or_self, Vec.row0, Vec.row8, Vec.row16, Vec.row24, Vec.datas_app, Vec.datas_one, Dt.row0, Dt.row2, Dt.datas_app, Dt.datas_one, List.all_append, Vec.eqb8, Dt.eqb, Bool.cond_true, Bool.cond_false]; rfl) (by simp [-List.length_flatMap, -Int.natCast_add] <;> omega) (by rfl) ?_
  refine SW.seq ?_
  refine SW.seq ?_
  refine SW.reg [] mixed (by simp only [runs, runOp, goOp, sop, ev, evs, evp, upd, argE, List.lookup, Nat.reduceBEq, Nat.reduceAdd, Nat.reduceMul, Nat.zero_add, SV.cells, if_true, if_false, reduceIte, Bool.false_eq_true, roOf, hmrg, hsets, hdels, hset, hdel, touchL, lk, List.filter, Nat.reduceBNe, bne_self_eq_false, ldv, ldo, cellsAt, binV, binK, mvp, Vec.cells_one, BEq.rfl, beq_self_eq_true, Bool.true_or, Nat.reduceEqDiff, List.map_cons, List.map_nil, List.nil_append, List.cons_append, List.append_nil, Int.toNat_natCast, Nat.mul_one, Nat.add_zero, findS, keyOk, isAggS, msetS, mdelS, lookS, lookOk, Option.isSome_some, Option.isSome_none, Option.isNone_some, Option.isNone_none, Nat.zero_ne_one, Nat.one_ne_zero, Bool.and_false, Bool.and_true, List.drop_zero, Vec.zero_cells, Vec.take_all, Vec.spl_all, Dt.cells_one, Dt.take_all, Dt.get0, Dt.get1, Dt.spl_all, Dt.zero_cells, Dt.bld, bldS, datas, appB, appX, List.all_cons, List.all_nil, SV.isOne, Int.cast_ofNat_Int, Int.reduceBNe, Int.reduceBEq, Int.reduceLT, Int.reduceLE, Int.reduceGT, Int.reduceGE, one_map, bq_ft, bq_tf, Bool.not_true, Bool.not_false, Bool.or_false, Bool.or_true, Bool.false_or, Bool.or_self, Vec.row0, Vec.row8, Vec.row16, Vec.row24, Vec.datas_app, Vec.datas_one, Dt.row0, Dt.row2, Dt.datas_app, Dt.datas_one, List.all_append, Vec.eqb8, Dt.eqb, Bool.cond_true, Bool.cond_false]; rfl) (by simp [-List.length_flatMap, -Int.natCast_add] <;> omega) (by rfl) ?_
  refine SW.cond rfl (fun h => ?_) (fun h => SW.skip ?_)
  · have h : l ≠ m := fun e => by subst e; simp at h
    refine SW.seq ?_
    refine SW.reg [] mixed (by simp only [runs, runOp, goOp, sop, ev, evs, evp, upd, argE, List.lookup, Nat.reduceBEq, Nat.reduceAdd, Nat.reduceMul, Nat.zero_add, SV.cells, if_true, if_false, reduceIte, Bool.false_eq_true, roOf, hmrg, hsets, hdels, hset, hdel, touchL, lk, List.filter, Nat.reduceBNe, bne_self_eq_false, ldv, ldo, cellsAt, binV, binK, mvp, Vec.cells_one, BEq.rfl, beq_self_eq_true, Bool.true_or, Nat.reduceEqDiff, List.map_cons, List.map_nil, List.nil_append, List.cons_append, List.append_nil, Int.toNat_natCast, Nat.mul_one, Nat.add_zero, findS, keyOk, isAggS, msetS, mdelS, lookS, lookOk, Option.isSome_some, Option.isSome_none, Option.isNone_some, Option.isNone_none, Nat.zero_ne_one, Nat.one_ne_zero, Bool.and_false, Bool.and_true, List.drop_zero, Vec.zero_cells, Vec.take_all, Vec.spl_all, Dt.cells_one, Dt.take_all, Dt.get0, Dt.get1, Dt.spl_all, Dt.zero_cells, Dt.bld, bldS, datas, appB, appX, List.all_cons, List.all_nil, SV.isOne, Int.cast_ofNat_Int, Int.reduceBNe, Int.reduceBEq, Int.reduceLT, Int.reduceLE, Int.reduceGT, Int.reduceGE, one_map, bq_ft, bq_tf, Bool.not_true, Bool.not_false, Bool.or_false, Bool.or_true, Bool.false_or, Bool.or_self, Vec.row0, Vec.row8, Vec.row16, Vec.row24, Vec.datas_app, Vec.datas_one, Dt.row0, Dt.row2, Dt.datas_app, Dt.datas_one, List.all_append, Vec.eqb8, Dt.eqb, Bool.cond_true, Bool.cond_false]; rfl) (by simp [-List.length_flatMap, -Int.natCast_add] <;> omega) (by rfl) ?_
    refine SW.ret ?_
    refine fin_pure (by rfl) (by simp [ldo]) ?_ rfl
    simp [retV, h]
  have hlen : l.length = m.length := by simp at h; omega
  refine SW.seq ?_
  refine SW.seq ?_
  refine SW.reg [] mixed (by simp only [runs, runOp, goOp, sop, ev, evs, evp, upd, argE, List.lookup, Nat.reduceBEq, Nat.reduceAdd, Nat.reduceMul, Nat.zero_add, SV.cells, if_true, if_false, reduceIte, Bool.false_eq_true, roOf, hmrg, hsets, hdels, hset, hdel, touchL, lk, List.filter, Nat.reduceBNe, bne_self_eq_false, ldv, ldo, cellsAt, binV, binK, mvp, Vec.cells_one, BEq.rfl, beq_self_eq_true, Bool.true_or, Nat.reduceEqDiff, List.map_cons, List.map_nil, List.nil_append, List.cons_append, List.append_nil, Int.toNat_natCast, Nat.mul_one, Nat.add_zero, findS, keyOk, isAggS, msetS, mdelS, lookS, lookOk, Option.isSome_some, Option.isSome_none, Option.isNone_some, Option.isNone_none, Nat.zero_ne_one, Nat.one_ne_zero, Bool.and_false, Bool.and_true, List.drop_zero, Vec.zero_cells, Vec.take_all, Vec.spl_all, Dt.cells_one, Dt.take_all, Dt.get0, Dt.get1, Dt.spl_all, Dt.zero_cells, Dt.bld, bldS, datas, appB, appX, List.all_cons, List.all_nil, SV.isOne, Int.cast_ofNat_Int, Int.reduceBNe, Int.reduceBEq, Int.reduceLT, Int.reduceLE, Int.reduceGT, Int.reduceGE, one_map, bq_ft, bq_tf, Bool.not_true, Bool.not_false, Bool.or_false, Bool.or_true, Bool.false_or, Bool.or_self, Vec.row0, Vec.row8, Vec.row16, Vec.row24, Vec.datas_app, Vec.datas_one, Dt.row0, Dt.row2, Dt.datas_app, Dt.datas_one, List.all_append, Vec.eqb8, Dt.eqb, Bool.cond_true, Bool.cond_false]; rfl) (by simp [-List.length_flatMap, -Int.natCast_add] <;> omega) (by rfl) ?_
  refine SW.block ?_
  refine SW.loopS (α := {i : Nat // i ≤ l.length ∧ ∀ j, j < i → l[j]? = m[j]?}) (fun i => ⟨[(5, i64 i.1), (0, dots l), (1, dots m)], [], 0⟩) (fun i => l.length - i.1) ⟨0, by omega, by omega⟩ (by simp [Go.Sl.Sub, EnvS, HpS, SV.ok, Ob.ok, SV.oks, lk, List.lookup, Vec.cells_ok]) ?_
  rintro ⟨i, hi, hs⟩
  refine SW.seq ?_
  refine SW.seq ?_
  refine SW.reg [] mixed (by simp only [runs, runOp, goOp, sop, ev, evs, evp, upd, argE, List.lookup, Nat.reduceBEq, Nat.reduceAdd, Nat.reduceMul, Nat.zero_add, SV.cells, if_true, if_false, reduceIte, Bool.false_eq_true, roOf, hmrg, hsets, hdels, hset, hdel, touchL, lk, List.filter, Nat.reduceBNe, bne_self_eq_false, ldv, ldo, cellsAt, binV, binK, mvp, Vec.cells_one, BEq.rfl, beq_self_eq_true, Bool.true_or, Nat.reduceEqDiff, List.map_cons, List.map_nil, List.nil_append, List.cons_append, List.append_nil, Int.toNat_natCast, Nat.mul_one, Nat.add_zero, findS, keyOk, isAggS, msetS, mdelS, lookS, lookOk, Option.isSome_some, Option.isSome_none, Option.isNone_some, Option.isNone_none, Nat.zero_ne_one, Nat.one_ne_zero, Bool.and_false, Bool.and_true, List.drop_zero, Vec.zero_cells, Vec.take_all, Vec.spl_all, Dt.cells_one, Dt.take_all, Dt.get0, Dt.get1, Dt.spl_all, Dt.zero_cells, Dt.bld, bldS, datas, appB, appX, List.all_cons, List.all_nil, SV.isOne, Int.cast_ofNat_Int, Int.reduceBNe, Int.reduceBEq, Int.reduceLT, Int.reduceLE, Int.reduceGT, Int.reduceGE, one_map, bq_ft, bq_tf, Bool.not_true, Bool.not_false, Bool.or_false, Bool.or_true, Bool.false_or, Bool.or_self, Vec.row0, Vec.row8, Vec.row16, Vec.row24, Vec.datas_app, Vec.datas_one, Dt.row0, Dt.row2, Dt.datas_app, Dt.datas_one, List.all_append, Vec.eqb8, Dt.eqb, Bool.cond_true, Bool.cond_false]; rfl) (by simp [-List.length_flatMap, -Int.natCast_add] <;> omega) (by rfl) ?_
  refine SW.cond rfl (fun h => SW.skip ?_) (fun h => SW.exit ?_)
  · have hi2 : i < l.length := by simp at h; omega
    obtain ⟨x, hx⟩ := get_of_lt hi2
    obtain ⟨y, hy⟩ := get_of_lt (show i < m.length by omega)
    refine SW.seq ?_
    refine SW.block ?_
    refine SW.seq ?_
    refine SW.reg [] mixed (by simp only [runs, runOp, goOp, sop, ev, evs, evp, upd, argE, List.lookup, Nat.reduceBEq, Nat.reduceAdd, Nat.reduceMul, Nat.zero_add, SV.cells, if_true, if_false, reduceIte, Bool.false_eq_true, roOf, hmrg, hsets, hdels, hset, hdel, touchL, lk, List.filter, Nat.reduceBNe, bne_self_eq_false, ldv, ldo, cellsAt, binV, binK, mvp, Vec.cells_one, BEq.rfl, beq_self_eq_true, Bool.true_or, Nat.reduceEqDiff, List.map_cons, List.map_nil, List.nil_append, List.cons_append, List.append_nil, Int.toNat_natCast, Nat.mul_one, Nat.add_zero, findS, keyOk, isAggS, msetS, mdelS, lookS, lookOk, Option.isSome_some, Option.isSome_none, Option.isNone_some, Option.isNone_none, Nat.zero_ne_one, Nat.one_ne_zero, Bool.and_false, Bool.and_true, List.drop_zero, Vec.zero_cells, Vec.take_all, Vec.spl_all, Dt.cells_one, Dt.take_all, Dt.get0, Dt.get1, Dt.spl_all, Dt.zero_cells, Dt.bld, bldS, datas, appB, appX, List.all_cons, List.all_nil, SV.isOne, Int.cast_ofNat_Int, Int.reduceBNe, Int.reduceBEq, Int.reduceLT, Int.reduceLE, Int.reduceGT, Int.reduceGE, one_map, bq_ft, bq_tf, Bool.not_true, Bool.not_false, Bool.or_false, Bool.or_true, Bool.false_or, Bool.or_self, Vec.row0, Vec.row8, Vec.row16, Vec.row24, Vec.datas_app, Vec.datas_one, Dt.row0, Dt.row2, Dt.datas_app, Dt.datas_one, List.all_append, Vec.eqb8, Dt.eqb, Bool.cond_true, Bool.cond_false, dot_at hx, dot_at hy]; rfl) (by simp [-List.length_flatMap, -Int.natCast_add] <;> omega) (by rfl) ?_
    refine SW.cond rfl (fun hc => ?_) (fun hc => SW.skip ?_)
    · have hc : x ≠ y := by simpa using hc
      refine SW.seq ?_
      refine SW.reg [] mixed (by simp only [runs, runOp, goOp, sop, ev, evs, evp, upd, argE, List.lookup, Nat.reduceBEq, Nat.reduceAdd, Nat.reduceMul, Nat.zero_add, SV.cells, if_true, if_false, reduceIte, Bool.false_eq_true, roOf, hmrg, hsets, hdels, hset, hdel, touchL, lk, List.filter, Nat.reduceBNe, bne_self_eq_false, ldv, ldo, cellsAt, binV, binK, mvp, Vec.cells_one, BEq.rfl, beq_self_eq_true, Bool.true_or, Nat.reduceEqDiff, List.map_cons, List.map_nil, List.nil_append, List.cons_append, List.append_nil, Int.toNat_natCast, Nat.mul_one, Nat.add_zero, findS, keyOk, isAggS, msetS, mdelS, lookS, lookOk, Option.isSome_some, Option.isSome_none, Option.isNone_some, Option.isNone_none, Nat.zero_ne_one, Nat.one_ne_zero, Bool.and_false, Bool.and_true, List.drop_zero, Vec.zero_cells, Vec.take_all, Vec.spl_all, Dt.cells_one, Dt.take_all, Dt.get0, Dt.get1, Dt.spl_all, Dt.zero_cells, Dt.bld, bldS, datas, appB, appX, List.all_cons, List.all_nil, SV.isOne, Int.cast_ofNat_Int, Int.reduceBNe, Int.reduceBEq, Int.reduceLT, Int.reduceLE, Int.reduceGT, Int.reduceGE, one_map, bq_ft, bq_tf, Bool.not_true, Bool.not_false, Bool.or_false, Bool.or_true, Bool.false_or, Bool.or_self, Vec.row0, Vec.row8, Vec.row16, Vec.row24, Vec.datas_app, Vec.datas_one, Dt.row0, Dt.row2, Dt.datas_app, Dt.datas_one, List.all_append, Vec.eqb8, Dt.eqb, Bool.cond_true, Bool.cond_false]; rfl) (by simp [-List.length_flatMap, -Int.natCast_add] <;> omega) (by rfl) ?_
      refine SW.ret ?_
      refine fin_pure (by rfl) (by simp [ldo]) ?_ rfl
      have : l ≠ m := fun e => by subst e; rw [hx] at hy; simp at hy; exact hc hy
      simp [retV, this]
    · have hc : x = y := by simpa using hc
      subst hc
      refine SW.reg [] mixed (by simp only [runs, runOp, goOp, sop, ev, evs, evp, upd, argE, List.lookup, Nat.reduceBEq, Nat.reduceAdd, Nat.reduceMul, Nat.zero_add, SV.cells, if_true, if_false, reduceIte, Bool.false_eq_true, roOf, hmrg, hsets, hdels, hset, hdel, touchL, lk, List.filter, Nat.reduceBNe, bne_self_eq_false, ldv, ldo, cellsAt, binV, binK, mvp, Vec.cells_one, BEq.rfl, beq_self_eq_true, Bool.true_or, Nat.reduceEqDiff, List.map_cons, List.map_nil, List.nil_append, List.cons_append, List.append_nil, Int.toNat_natCast, Nat.mul_one, Nat.add_zero, findS, keyOk, isAggS, msetS, mdelS, lookS, lookOk, Option.isSome_some, Option.isSome_none, Option.isNone_some, Option.isNone_none, Nat.zero_ne_one, Nat.one_ne_zero, Bool.and_false, Bool.and_true, List.drop_zero, Vec.zero_cells, Vec.take_all, Vec.spl_all, Dt.cells_one, Dt.take_all, Dt.get0, Dt.get1, Dt.spl_all, Dt.zero_cells, Dt.bld, bldS, datas, appB, appX, List.all_cons, List.all_nil, SV.isOne, Int.cast_ofNat_Int, Int.reduceBNe, Int.reduceBEq, Int.reduceLT, Int.reduceLE, Int.reduceGT, Int.reduceGE, one_map, bq_ft, bq_tf, Bool.not_true, Bool.not_false, Bool.or_false, Bool.or_true, Bool.false_or, Bool.or_self, Vec.row0, Vec.row8, Vec.row16, Vec.row24, Vec.datas_app, Vec.datas_one, Dt.row0, Dt.row2, Dt.datas_app, Dt.datas_one, List.all_append, Vec.eqb8, Dt.eqb, Bool.cond_true, Bool.cond_false, wrap_succ i (by omega)]; rfl) (by simp [-List.length_flatMap, -Int.natCast_add] <;> omega) (by rfl) ?_
      refine ⟨⟨i + 1, by omega, fun j hj => ?_⟩, by simp; omega, by simp [Go.Sl.Sub, EnvS, HpS, SV.ok, Ob.ok, SV.oks, lk, List.lookup, Vec.cells_ok]⟩
      by_cases e : j = i
      · subst e; rw [hx, hy]
      · exact hs j (by omega)
  · have hi2 : i = l.length := by simp at h; omega
    subst hi2
    refine SW.seq ?_
    refine SW.reg [] mixed (by simp only [runs, runOp, goOp, sop, ev, evs, evp, upd, argE, List.lookup, Nat.reduceBEq, Nat.reduceAdd, Nat.reduceMul, Nat.zero_add, SV.cells, if_true, if_false, reduceIte, Bool.false_eq_true, roOf, hmrg, hsets, hdels, hset, hdel, touchL, lk, List.filter, Nat.reduceBNe, bne_self_eq_false, ldv, ldo, cellsAt, binV, binK, mvp, Vec.cells_one, BEq.rfl, beq_self_eq_true, Bool.true_or, Nat.reduceEqDiff, List.map_cons, List.map_nil, List.nil_append, List.cons_append, List.append_nil, Int.toNat_natCast, Nat.mul_one, Nat.add_zero, findS, keyOk, isAggS, msetS, mdelS, lookS, lookOk, Option.isSome_some, Option.isSome_none, Option.isNone_some, Option.isNone_none, Nat.zero_ne_one, Nat.one_ne_zero, Bool.and_false, Bool.and_true, List.drop_zero, Vec.zero_cells, Vec.take_all, Vec.spl_all, Dt.cells_one, Dt.take_all, Dt.get0, Dt.get1, Dt.spl_all, Dt.zero_cells, Dt.bld, bldS, datas, appB, appX, List.all_cons, List.all_nil, SV.isOne, Int.cast_ofNat_Int, Int.reduceBNe, Int.reduceBEq, Int.reduceLT, Int.reduceLE, Int.reduceGT, Int.reduceGE, one_map, bq_ft, bq_tf, Bool.not_true, Bool.not_false, Bool.or_false, Bool.or_true, Bool.false_or, Bool.or_self, Vec.row0, Vec.row8, Vec.row16, Vec.row24, Vec.datas_app, Vec.datas_one, Dt.row0, Dt.row2, Dt.datas_app, Dt.datas_one, List.all_append, Vec.eqb8, Dt.eqb, Bool.cond_true, Bool.cond_false]; rfl) (by simp [-List.length_flatMap, -Int.natCast_add] <;> omega) (by rfl) ?_
    refine SW.ret ?_
    refine fin_pure (by rfl) (by simp [ldo]) ?_ rfl
    have : l = m := ext_rows hlen hs
    simp [retV, this]

end Go.Proofs.Ytkklgckpaajoeaa

/-
  Dots: a row as a set.
-/
set_option linter.unusedSectionVars false
set_option linter.unusedVariables false
set_option linter.unusedSimpArgs false
namespace Go.Proofs.Ytkklgckpaajoeaa
open Go.Sl Go.Proofs
attribute [local irreducible] SW RW SCd SC CallP Pruned

/-- A row's dots as a map, and its clock. -/
def setM (l : List Dt) : DMap × Nat := l.foldl (fun s d => (MM.put s.1 s.2 d 1, MM.clk s.1 s.2 d)) ([], 0)
theorem setM_snoc (l : List Dt) (d : Dt) : setM (l ++ [d]) = (MM.put (setM l).1 (setM l).2 d 1, MM.clk (setM l).1 (setM l).2 d) := by simp [setM, List.foldl_append]
def setH (n : Nat) (l : List Dt) : Hp := [(n, .map (mapE Dt.cells iv (setM l).1) (setM l).2)]

theorem setOf_ok (l : List Dt) (hl : l.length < 4611686018427387904) : SB Try.prog dot_setOf.f [dots l] [] 0 1 fun r F => r = .mp 0 ∧ F = setH 0 l := by
  refine dot_setOf.enter (by first | rfl | simp [SV.ok, SV.oks]) (by first | rfl | simp [Hp.ok, Ob.ok, SV.ok, SV.oks, Vec.cells_ok]) (by simp) ?_
  unfold dot_setOf.s
  (repeat (first | refine SW.seq ?_ | refine SW.block ?_ | (refine SW.regL [0, 2, 3, 5, 7, 8, 9, 10] mixed ?_; (repeat (first | refine RW.ro bq_tt (h := ?_) | refine RW.skip (h := ?_) | refine RW.op bq_tt (h := ?_) | refine RW.opN bq_tt (h := ?_) | refine RW.skip0 (h := ?_))); refine RW.nil ⟨by kernel_rfl, Pruned.mk (h := ?_)⟩) | refine SW.skip ?_ | refine SW.exit ?_ | refine SW.ret ?_ | refine SW.condT rfl ?_ | refine SW.condF rfl ?_))
  refine SW.loopA (α := {i : Nat // i ≤ l.length}) (fun i => ⟨[(9, i64 i.1), (7, dots l), (8, i64 l.length), (3, .mp 0)], setH 0 (l.take i.1), 1⟩) (fun i => l.length - i.1) ⟨0, by omega⟩ id (And.intro (show setH 0 [] = [(0, .map [] 0)] from rfl) bq_tt) (round := ?_)
  rintro ⟨i, hi⟩
  by_cases h : i < l.length
  · obtain ⟨x, hx⟩ := get_of_lt h
    have h1 : decide ((i : Int) < l.length) = true := by simp; exact h
    simp only [setH]
    (repeat (first | refine SW.seq ?_ | refine SW.block ?_ | (refine SW.regL [0, 2, 3, 5, 7, 8, 9, 10] mixed ?_; (repeat (first | refine RW.ro (And.intro (h1) (dot_at hx)) (h := ?_) | refine RW.skip (h := ?_) | refine RW.op (And.intro (h1) (dot_at hx)) (h := ?_) | refine RW.opN (And.intro (h1) (dot_at hx)) (h := ?_) | refine RW.skip0 (h := ?_))); refine RW.nil ⟨by kernel_rfl, Pruned.mk (h := ?_)⟩) | refine SW.skip ?_ | refine SW.exit ?_ | refine SW.ret ?_ | refine SW.condT rfl ?_ | refine SW.condF rfl ?_))
    exact ⟨⟨i + 1, by omega⟩, id, by simp; omega, Weak.mk (And.intro (take_snoc hx) (And.intro (setM_snoc (l.take i) x) bq_tt))⟩
  · have h1 : decide ((i : Int) < l.length) = false := by simp; omega
    have h2 : i = l.length := by omega
    subst h2
    simp only [setH, List.take_length]
    (repeat (first | refine SW.seq ?_ | refine SW.block ?_ | (refine SW.regL [0, 2, 3, 5, 7, 8, 9, 10] mixed ?_; (repeat (first | refine RW.ro (h1) (h := ?_) | refine RW.skip (h := ?_) | refine RW.op (h1) (h := ?_) | refine RW.opN (h1) (h := ?_) | refine RW.skip0 (h := ?_))); refine RW.nil ⟨by kernel_rfl, Pruned.mk (h := ?_)⟩) | refine SW.skip ?_ | refine SW.exit ?_ | refine SW.ret ?_ | refine SW.condT rfl ?_ | refine SW.condF rfl ?_))
    exact End.mk _ (h4 := ⟨rfl, rfl⟩) (h6 := by simp [Hp.ok, Ob.ok, dmap_ok, setH])
end Go.Proofs.Ytkklgckpaajoeaa
