/-
  Operations: a row is the same as itself.
-/
import Derived.Test.YtnakpdoioammhaaDoorUB
import Derived.Test.YtnakpdoioammhaaDoorUC
set_option linter.unusedSectionVars false
set_option linter.unusedVariables false
set_option linter.unusedSimpArgs false
namespace Go.Proofs.YtnakpdoioammhaaDoor
open Go.Sl Go.Proofs
attribute [local irreducible] SW RW SCd SC CallP Pruned
set_option maxHeartbeats 4000000 in
theorem same_nil (o : OpD) (hn : o.lines = .nils) : Go.Sl.Pure Tryd.prog ref05_Same.f [.agg o.cells, .agg o.cells] (bl true) := by
  refine ref05_Same.enter (by first | rfl | simp [SV.ok, SV.oks]) (by first | rfl | simp [Hp.ok, Ob.ok, SV.ok, SV.oks, Vec.cells_ok]) (by simp) ?_
  dsimp only [ref05_Same.s, Co.M, Co.G, Co.J, Co.H, Co.N, Co.F, Co.C, Co.Z, Co.B, Co.b8, Co.b32, Co.b64, Co.i6, Co.z8, Co.z29]
  have b0 : ((0 : Int) != 0) = false := by decide
  have b1 : decide ((0 : Int) < 0) = false := by decide
  have d1 : ∀ d : Dt, decide (d = d) = true := fun d => by simp
  have d2 : ∀ d : Vec, decide (d = d) = true := fun d => by simp
  have d3 : ∀ d : Int, (d == d) = true := fun d => by simp
  (repeat (first | refine SW.seq ?_ | refine SW.block ?_ | (refine SW.regL [0, 1, 2, 3, 4, 5, 12, 17, 30] mixed ?_; (repeat (first | refine RW.ro (And.intro (hn) (b0)) (h := ?_) | refine RW.skip (h := ?_) | refine RW.op (And.intro (hn) (b0)) (h := ?_) | refine RW.opN (And.intro (hn) (b0)) (h := ?_) | refine RW.skip0 (h := ?_))); refine RW.nil ⟨by kernel_rfl, Pruned.mk (h := ?_)⟩) | refine SW.skip ?_ | refine SW.exit ?_ | refine SW.ret ?_ | refine SW.condT rfl ?_ | refine SW.condF rfl ?_))
  refine SW.loopA (α := Unit) (fun i => ⟨[(5, i64 0), (2, .ptr 0 0), (3, .ptr 1 0)], [(1, .box 37 o.cells), (0, .box 37 o.cells)], 2⟩) (fun i => 0) () id bq_tt (round := ?_)
  rintro ⟨⟩
  (repeat (first | refine SW.seq ?_ | refine SW.block ?_ | (refine SW.regL [0, 1, 2, 3, 4, 5, 12, 17, 30] mixed ?_; (repeat (first | refine RW.ro (And.intro (hn) (b1)) (h := ?_) | refine RW.skip (h := ?_) | refine RW.op (And.intro (hn) (b1)) (h := ?_) | refine RW.opN (And.intro (hn) (b1)) (h := ?_) | refine RW.skip0 (h := ?_))); refine RW.nil ⟨by kernel_rfl, Pruned.mk (h := ?_)⟩) | refine SW.skip ?_ | refine SW.exit ?_ | refine SW.ret ?_ | refine SW.condT rfl ?_ | refine SW.condF rfl ?_))
  (repeat (first | refine SW.seq ?_ | refine SW.block ?_ | (have fx := (And.intro (d1) (And.intro (d2) (d3))); refine SW.regL [0, 1, 2, 3, 4, 5, 12, 17, 30] mixed ?_; (repeat (first | refine RW.ro fx (h := ?_) | refine RW.skip (h := ?_) | refine RW.op fx (h := ?_) | refine RW.opN fx (h := ?_) | refine RW.skip0 (h := ?_))); refine RW.nil ⟨by kernel_rfl, Pruned.mk (h := ?_)⟩) | refine SW.skip ?_ | refine SW.exit ?_ | refine SW.ret ?_ | refine SW.condT rfl ?_ | refine SW.condF rfl ?_))
  exact End.mk [] (h4 := ⟨rfl, rfl⟩)
set_option maxHeartbeats 4000000 in
theorem same_lin (o : OpD) (hl : o.lin) : Go.Sl.Pure Tryd.prog ref05_Same.f [.agg o.cells, .agg o.cells] (bl true) := by
  have hn := hl.eq
  have hlen := hl.le
  generalize o.cl = cl at hn hlen
  refine ref05_Same.enter (by first | rfl | simp [SV.ok, SV.oks]) (by first | rfl | simp [Hp.ok, Ob.ok, SV.ok, SV.oks, Vec.cells_ok]) (by simp) ?_
  dsimp only [ref05_Same.s, Co.M, Co.G, Co.J, Co.H, Co.N, Co.F, Co.C, Co.Z, Co.B, Co.b8, Co.b32, Co.b64, Co.i6, Co.z8, Co.z29]
  have b0 : (((cl.length : Nat) : Int) != ((cl.length : Nat) : Int)) = false := by simp
  have d1 : ∀ d : Dt, decide (d = d) = true := fun d => by simp
  have d2 : ∀ d : Vec, decide (d = d) = true := fun d => by simp
  have d3 : ∀ d : Int, (d == d) = true := fun d => by simp
  (repeat (first | refine SW.seq ?_ | refine SW.block ?_ | (refine SW.regL [0, 1, 2, 3, 4, 5, 12, 17, 30] mixed ?_; (repeat (first | refine RW.ro (And.intro (hn) (b0)) (h := ?_) | refine RW.skip (h := ?_) | refine RW.op (And.intro (hn) (b0)) (h := ?_) | refine RW.opN (And.intro (hn) (b0)) (h := ?_) | refine RW.skip0 (h := ?_))); refine RW.nil ⟨by kernel_rfl, Pruned.mk (h := ?_)⟩) | refine SW.skip ?_ | refine SW.exit ?_ | refine SW.ret ?_ | refine SW.condT rfl ?_ | refine SW.condF rfl ?_))
  refine SW.loopA (α := {i : Nat // i ≤ cl.length}) (fun i => ⟨[(5, i64 i.1), (2, .ptr 0 0), (3, .ptr 1 0)], [(1, .box 37 o.cells), (0, .box 37 o.cells)], 2⟩) (fun i => cl.length - i.1) ⟨0, by omega⟩ id bq_tt (round := ?_)
  rintro ⟨i, hi⟩
  by_cases h : i < cl.length
  · have h1 : decide ((i : Int) < cl.length) = true := by simp only [decide_eq_true_eq]; omega
    obtain ⟨x, hx⟩ := get_of_lt h
    have e2 : IntKind.i64.wrap ((i : Int) + 1) = ((i + 1 : Nat) : Int) := wrap_i64 _ (by omega)
    (repeat (first | refine SW.seq ?_ | refine SW.block ?_ | (have fx := (And.intro (hn) (And.intro (h1) (And.intro (cm_at hx) (And.intro (cm_room0 hx) (And.intro (cm_self) (e2)))))); refine SW.regL [0, 1, 2, 3, 4, 5, 12, 17, 30] mixed ?_; (repeat (first | refine RW.ro fx (h := ?_) | refine RW.skip (h := ?_) | refine RW.op fx (h := ?_) | refine RW.opN fx (h := ?_) | refine RW.skip0 (h := ?_))); refine RW.nil ⟨by kernel_rfl, Pruned.mk (h := ?_)⟩) | refine SW.skip ?_ | refine SW.exit ?_ | refine SW.ret ?_ | refine SW.condT rfl ?_ | refine SW.condF rfl ?_))
    exact Next.mk ⟨i + 1, by omega⟩ id bq_tt
  · have h1 : decide ((i : Int) < cl.length) = false := by simp only [decide_eq_false_iff_not]; omega
    (repeat (first | refine SW.seq ?_ | refine SW.block ?_ | (refine SW.regL [0, 1, 2, 3, 4, 5, 12, 17, 30] mixed ?_; (repeat (first | refine RW.ro (And.intro (hn) (h1)) (h := ?_) | refine RW.skip (h := ?_) | refine RW.op (And.intro (hn) (h1)) (h := ?_) | refine RW.opN (And.intro (hn) (h1)) (h := ?_) | refine RW.skip0 (h := ?_))); refine RW.nil ⟨by kernel_rfl, Pruned.mk (h := ?_)⟩) | refine SW.skip ?_ | refine SW.exit ?_ | refine SW.ret ?_ | refine SW.condT rfl ?_ | refine SW.condF rfl ?_))
    (repeat (first | refine SW.seq ?_ | refine SW.block ?_ | (have fx := (And.intro (d1) (And.intro (d2) (d3))); refine SW.regL [0, 1, 2, 3, 4, 5, 12, 17, 30] mixed ?_; (repeat (first | refine RW.ro fx (h := ?_) | refine RW.skip (h := ?_) | refine RW.op fx (h := ?_) | refine RW.opN fx (h := ?_) | refine RW.skip0 (h := ?_))); refine RW.nil ⟨by kernel_rfl, Pruned.mk (h := ?_)⟩) | refine SW.skip ?_ | refine SW.exit ?_ | refine SW.ret ?_ | refine SW.condT rfl ?_ | refine SW.condF rfl ?_))
    exact End.mk [] (h4 := ⟨rfl, rfl⟩)
def lnOk (o : OpD) : Prop := o.lines = .nils ∨ o.lin
theorem same_at (o : OpD) (h : lnOk o) (k : Nat) : SCd Tryd.prog ref05_Same.f [.agg o.cells, .agg o.cells] [] k 0 (bl true) [] := by
  rcases h with h | h
  · exact (same_nil o h).sc rfl k
  · exact (same_lin o h).sc rfl k
theorem sameA_ok (l : List OpD) (hl : l.length < 4611686018427387904) (hw : ∀ x, x ∈ l → lnOk x) : Go.Sl.Pure Tryd.prog ref05_SameAll.f [ops l, ops l] (bl true) := by
  refine ref05_SameAll.enter (by first | rfl | simp [SV.ok, SV.oks]) (by first | rfl | simp [Hp.ok, Ob.ok, SV.ok, SV.oks, Vec.cells_ok]) (by simp) ?_
  dsimp only [ref05_SameAll.s, Co.M, Co.G, Co.J, Co.H, Co.N, Co.F, Co.C, Co.Z, Co.B, Co.b8, Co.b32, Co.b64, Co.i6, Co.z8, Co.z29]
  have b0 : (((l.length : Nat) : Int) != ((l.length : Nat) : Int)) = false := by simp
  (repeat (first | refine SW.seq ?_ | refine SW.block ?_ | (refine SW.regL [0, 1, 4, 5, 10, 14, 26] mixed ?_; (repeat (first | refine RW.ro (b0) (h := ?_) | refine RW.skip (h := ?_) | refine RW.op (b0) (h := ?_) | refine RW.opN (b0) (h := ?_) | refine RW.skip0 (h := ?_) | (refine RW.callC (h := ?_); (first | refine CallP.mk (b0) (hc := same_at _ (by assumption) _) (h := ?_))))); refine RW.nil ⟨by kernel_rfl, Pruned.mk (h := ?_)⟩) | refine SW.skip ?_ | refine SW.exit ?_ | refine SW.ret ?_ | refine SW.condT rfl ?_ | refine SW.condF rfl ?_))
  refine SW.loopA (α := {i : Nat // i ≤ l.length}) (fun i => ⟨[(5, i64 i.1), (0, ops l), (1, ops l)], [], 0⟩) (fun i => l.length - i.1) ⟨0, by omega⟩ id bq_tt (round := ?_)
  rintro ⟨i, hi⟩
  by_cases h : i < l.length
  · have h1 : decide ((i : Int) < l.length) = true := by simp only [decide_eq_true_eq]; omega
    obtain ⟨x, hx⟩ := get_of_lt h
    have hxl := hw x (List.mem_of_getElem? hx)
    have e2 : IntKind.i64.wrap ((i : Int) + 1) = ((i + 1 : Nat) : Int) := wrap_i64 _ (by omega)
    (repeat (first | refine SW.seq ?_ | refine SW.block ?_ | (have fx := (And.intro (h1) (And.intro (op_at hx) (And.intro (op_room0 hx) (e2)))); refine SW.regL [0, 1, 4, 5, 10, 14, 26] mixed ?_; (repeat (first | refine RW.ro fx (h := ?_) | refine RW.skip (h := ?_) | refine RW.op fx (h := ?_) | refine RW.opN fx (h := ?_) | refine RW.skip0 (h := ?_) | (refine RW.callC (h := ?_); (first | refine CallP.mk fx (hc := same_at _ (by assumption) _) (h := ?_))))); refine RW.nil ⟨by kernel_rfl, Pruned.mk (h := ?_)⟩) | refine SW.skip ?_ | refine SW.exit ?_ | refine SW.ret ?_ | refine SW.condT rfl ?_ | refine SW.condF rfl ?_))
    exact Next.mk ⟨i + 1, by omega⟩ id bq_tt
  · have h1 : decide ((i : Int) < l.length) = false := by simp only [decide_eq_false_iff_not]; omega
    (repeat (first | refine SW.seq ?_ | refine SW.block ?_ | (refine SW.regL [0, 1, 4, 5, 10, 14, 26] mixed ?_; (repeat (first | refine RW.ro (h1) (h := ?_) | refine RW.skip (h := ?_) | refine RW.op (h1) (h := ?_) | refine RW.opN (h1) (h := ?_) | refine RW.skip0 (h := ?_) | (refine RW.callC (h := ?_); (first | refine CallP.mk (h1) (hc := same_at _ (by assumption) _) (h := ?_))))); refine RW.nil ⟨by kernel_rfl, Pruned.mk (h := ?_)⟩) | refine SW.skip ?_ | refine SW.exit ?_ | refine SW.ret ?_ | refine SW.condT rfl ?_ | refine SW.condF rfl ?_))
    exact End.mk [] (h4 := ⟨rfl, rfl⟩)
theorem sameA_at (l : List OpD) (hl : l.length < 4611686018427387904) (hw : ∀ x, x ∈ l → lnOk x) (k : Nat) : SCd Tryd.prog ref05_SameAll.f [ops l, ops l] [] k 0 (bl true) [] := (sameA_ok l hl hw).sc rfl k
end Go.Proofs.YtnakpdoioammhaaDoor
namespace Go.Proofs.YtnakpdoioammhaaDoor
open Go.Sl Go.Proofs
attribute [local irreducible] SW RW SCd SC CallP Pruned
def nextD (v : Vec) (r : Nat) : Dt × Int := if r < 8 then if v.get r + 1 = 4294967296 then (⟨0, 0⟩, 6) else (⟨r, v.get r + 1⟩, 0) else (⟨0, 0⟩, 2)
set_option maxHeartbeats 2000000 in
theorem next_ok (v : Vec) (hv : v.wf) (r : Nat) (hr : r < 256) : Go.Sl.Pure Tryd.prog vector_Next.f [.agg v.cells, u8 r] (.tup [.agg (nextD v r).1.cells, i64 (nextD v r).2]) := by
  refine vector_Next.enter (by first | rfl | simp [SV.ok, SV.oks]) (by first | rfl | simp [Hp.ok, Ob.ok, SV.ok, SV.oks, Vec.cells_ok]) (by simp) ?_
  dsimp only [vector_Next.s, Co.M, Co.G, Co.J, Co.H, Co.N, Co.F, Co.C, Co.Z, Co.B, Co.b8, Co.b32, Co.b64, Co.i6, Co.z8, Co.z29]
  have e1 : IntKind.i64.wrap (r : Int) = (r : Int) := wrap_i64 _ (by omega)
  unfold nextD
  refine SW.seq ?_
  (refine SW.regL [0, 1, 2, 4, 5, 6, 11] mixed ?_; (repeat (first | refine RW.ro bq_tt (h := ?_) | refine RW.skip (h := ?_) | refine RW.op bq_tt (h := ?_) | refine RW.opN bq_tt (h := ?_) | refine RW.skip0 (h := ?_))); refine RW.nil ⟨by kernel_rfl, Pruned.mk (h := ?_)⟩)
  refine SW.seq (SW.block (SW.seq ?_))
  by_cases h : r < 8
  · have h1 : decide ((r : Int) ≥ 8) = false := by simp only [decide_eq_false_iff_not]; omega
    have hg := hv r h
    rw [if_pos h]
    (refine SW.regL [0, 1, 2, 4, 5, 6, 11] mixed ?_; (repeat (first | refine RW.ro (And.intro (e1) (h1)) (h := ?_) | refine RW.skip (h := ?_) | refine RW.op (And.intro (e1) (h1)) (h := ?_) | refine RW.opN (And.intro (e1) (h1)) (h := ?_) | refine RW.skip0 (h := ?_))); refine RW.nil ⟨by kernel_rfl, Pruned.mk (h := ?_)⟩)
    refine SW.condF rfl (SW.seq ?_)
    by_cases h2 : v.get r + 1 = 4294967296
    · have e2 : (IntKind.u32.wrap (((v.get r + 1 : Nat)) : Int) == 0) = true := by rw [h2]; decide
      have e3 : IntKind.u32.wrap (((v.get r + 1 : Nat)) : Int) = 0 := by rw [h2]; decide
      rw [if_pos h2]
      (have fx := (And.intro (h) (And.intro (Vec.cells_get v h) (e3))); refine SW.regL [0, 1, 2, 4, 5, 6, 11] mixed ?_; (repeat (first | refine RW.ro fx (h := ?_) | refine RW.skip (h := ?_) | refine RW.op fx (h := ?_) | refine RW.opN fx (h := ?_) | refine RW.skip0 (h := ?_))); refine RW.nil ⟨by kernel_rfl, Pruned.mk (h := ?_)⟩)
      refine SW.condT rfl (SW.seq ?_)
      (refine SW.regL [0, 1, 2, 4, 5, 6, 11] mixed ?_; (repeat (first | refine RW.ro bq_tt (h := ?_) | refine RW.skip (h := ?_) | refine RW.op bq_tt (h := ?_) | refine RW.opN bq_tt (h := ?_) | refine RW.skip0 (h := ?_))); refine RW.nil ⟨by kernel_rfl, Pruned.mk (h := ?_)⟩)
      refine SW.ret ?_
      exact End.mk [] (h4 := ⟨rfl, rfl⟩)
    · have e3 : IntKind.u32.wrap (((v.get r + 1 : Nat)) : Int) = ((v.get r + 1 : Nat) : Int) := wrap_u32' _ (by omega)
      have e4 : (((v.get r + 1 : Nat) : Int) == 0) = false := by rw [beq_eq_false_iff_ne]; omega
      have e5 : spl (spl [SV.d (.int .u8 0), .d (.int .u32 0)] 0 [u8 r]) 1 [.d (.int .u32 ((v.get r + 1 : Nat) : Int))] = (⟨r, v.get r + 1⟩ : Dt).cells := rfl
      rw [if_neg h2]
      (have fx := (And.intro (h) (And.intro (Vec.cells_get v h) (And.intro (e3) (e4)))); refine SW.regL [0, 1, 2, 4, 5, 6, 11] mixed ?_; (repeat (first | refine RW.ro fx (h := ?_) | refine RW.skip (h := ?_) | refine RW.op fx (h := ?_) | refine RW.opN fx (h := ?_) | refine RW.skip0 (h := ?_))); refine RW.nil ⟨by kernel_rfl, Pruned.mk (h := ?_)⟩)
      refine SW.condF rfl (SW.skip (SW.seq ?_))
      (have fx := (And.intro (h) (And.intro (Vec.cells_get v h) (And.intro (e3) (e5)))); refine SW.regL [0, 1, 2, 4, 5, 6, 11] mixed ?_; (repeat (first | refine RW.ro fx (h := ?_) | refine RW.skip (h := ?_) | refine RW.op fx (h := ?_) | refine RW.opN fx (h := ?_) | refine RW.skip0 (h := ?_))); refine RW.nil ⟨by kernel_rfl, Pruned.mk (h := ?_)⟩)
      refine SW.ret ?_
      exact End.mk [] (h4 := ⟨rfl, rfl⟩)
  · have h1 : decide ((r : Int) ≥ 8) = true := by simp only [decide_eq_true_eq]; omega
    rw [if_neg h]
    (refine SW.regL [0, 1, 2, 4, 5, 6, 11] mixed ?_; (repeat (first | refine RW.ro (And.intro (e1) (h1)) (h := ?_) | refine RW.skip (h := ?_) | refine RW.op (And.intro (e1) (h1)) (h := ?_) | refine RW.opN (And.intro (e1) (h1)) (h := ?_) | refine RW.skip0 (h := ?_))); refine RW.nil ⟨by kernel_rfl, Pruned.mk (h := ?_)⟩)
    refine SW.condT rfl (SW.seq ?_)
    (refine SW.regL [0, 1, 2, 4, 5, 6, 11] mixed ?_; (repeat (first | refine RW.ro bq_tt (h := ?_) | refine RW.skip (h := ?_) | refine RW.op bq_tt (h := ?_) | refine RW.opN bq_tt (h := ?_) | refine RW.skip0 (h := ?_))); refine RW.nil ⟨by kernel_rfl, Pruned.mk (h := ?_)⟩)
    refine SW.ret ?_
    exact End.mk [] (h4 := ⟨rfl, rfl⟩)
theorem next_at (v : Vec) (hv : v.wf) (r : Nat) (hr : r < 256) (k : Nat) : SCd Tryd.prog vector_Next.f [.agg v.cells, .d (.int .u8 (r : Int))] [] k 0 (.tup [.agg (nextD v r).1.cells, .d (.int .i64 (nextD v r).2)]) [] := (next_ok v hv r hr).sc rfl k
def LnS (o : OpD) : Prop := o.lin ∧ o.cl.length ≤ 1048576
theorem own_ok (o : OpD) (h : LnS o) : Go.Sl.Pure Tryd.prog buffer_own.f [.agg o.cells] (.agg o.cells) := by
  refine buffer_own.enter (by first | rfl | simp [SV.ok, SV.oks]) (by first | rfl | simp [Hp.ok, Ob.ok, SV.ok, SV.oks, Vec.cells_ok]) (by simp) ?_
  dsimp only [buffer_own.s, Co.M, Co.G, Co.J, Co.H, Co.N, Co.F, Co.C, Co.Z, Co.B, Co.b8, Co.b32, Co.b64, Co.i6, Co.z8, Co.z29]
  have c1 := fun k => cloneL_at o h.1 h.2 k
  have s1 : spl o.cells 28 [.d o.lines] = o.cells := rfl
  refine SW.seq ?_
  (refine SW.regL [0, 1, 2] mixed ?_; (repeat (first | refine RW.ro bq_tt (h := ?_) | refine RW.skip (h := ?_) | refine RW.op bq_tt (h := ?_) | refine RW.opN bq_tt (h := ?_) | refine RW.skip0 (h := ?_))); refine RW.nil ⟨by kernel_rfl, Pruned.mk (h := ?_)⟩)
  refine SW.seq ?_
  (refine SW.regL [0, 1, 2] mixed ?_; (repeat (first | refine RW.ro (s1) (h := ?_) | refine RW.skip (h := ?_) | refine RW.op (s1) (h := ?_) | refine RW.opN (s1) (h := ?_) | refine RW.skip0 (h := ?_) | (refine RW.callC (h := ?_); (first | refine CallP.mk (s1) (hc := c1 _) (h := ?_))))); refine RW.nil ⟨by kernel_rfl, Pruned.mk (h := ?_)⟩)
  refine SW.seq ?_
  (refine SW.regL [0, 1, 2] mixed ?_; (repeat (first | refine RW.ro bq_tt (h := ?_) | refine RW.skip (h := ?_) | refine RW.op bq_tt (h := ?_) | refine RW.opN bq_tt (h := ?_) | refine RW.skip0 (h := ?_))); refine RW.nil ⟨by kernel_rfl, Pruned.mk (h := ?_)⟩)
  refine SW.ret ?_
  exact End.mk [] (h4 := ⟨rfl, rfl⟩)
theorem own_at (o : OpD) (h : LnS o) (k : Nat) : SCd Tryd.prog buffer_own.f [.agg o.cells] [] k 0 (.agg o.cells) [] := (own_ok o h).sc rfl k
def bfc (n : Nat) (has : Vec) (m : Nat) : List SV := .d (.int .i64 (n : Int)) :: (has.cells ++ [.mp m])
theorem bfc.len (n : Nat) (has : Vec) (m : Nat) : (bfc n has m).length = 10 := rfl
theorem bfc.g0 (n : Nat) (has : Vec) (m : Nat) : (bfc n has m)[0]? = some (i64 n) := rfl
theorem bfc.g9 (n : Nat) (has : Vec) (m : Nat) : (bfc n has m)[9]? = some (.mp m) := rfl
theorem bfc.has (n : Nat) (has : Vec) (m : Nat) : List.take 8 (List.drop 1 (bfc n has m)) = has.cells := rfl
theorem bfc.one (n : Nat) (has : Vec) (m : Nat) : (bfc n has m).all SV.isOne = true := rfl
theorem bfc.ok (q : Nat → Bool) (n : Nat) (has : Vec) (m : Nat) (h : q m = true) : SV.oks q (bfc n has m) = true := by
  simp [bfc, SV.oks, SV.ok, SV.oks_append, Vec.cells_ok, h]
theorem bfc.ren (ρ : Nat → Nat) (n : Nat) (has : Vec) (m : Nat) : SV.rens ρ (bfc n has m) = bfc n has (ρ m) := by
  simp [bfc, SV.rens, SV.ren, SV.rens_append, Vec.cells_ren]
theorem bfc.set (n : Nat) (has : Vec) (m : Nat) {r : Nat} (h : r < 8) (x : Nat) : spl (bfc n has m) (1 + r) [.d (.int .u32 (x : Int))] = bfc n (has.set r x) m := by
  match r, h with
  | 0, _ | 1, _ | 2, _ | 3, _ | 4, _ | 5, _ | 6, _ | 7, _ => rfl
def bH (b m n : Nat) (has : Vec) (M : MM Dt OpD) (c : Nat) : Hp := [(b, .box 58 (bfc n has m)), (m, .map (mapE Dt.cells ov M) c)]
theorem bH.out (n : Nat) (has : Vec) (M : MM Dt OpD) (c i : Nat) (h : i < 2) : lk (bH 0 1 n has M c) i ≠ none := by
  match i, h with
  | 0, _ | 1, _ => simp [bH, lk_cons]
theorem bH.ok (q : Nat → Bool) (b m n : Nat) (has : Vec) (M : MM Dt OpD) (c : Nat) (hb : q b = true) (hm : q m = true) : (bH b m n has M c).ok q = true := by
  simp [bH, Hp.ok, Ob.ok, bfc.ok q n has m hm, omap_ok, hb, hm]
theorem bH.ren (ρ : Nat → Nat) (b m n : Nat) (has : Vec) (M : MM Dt OpD) (c : Nat) : (bH b m n has M c).ren ρ = bH (ρ b) (ρ m) n has M c := by
  simp [bH, Hp.ren, Ob.ren, bfc.ren, omap_ren]
set_option maxHeartbeats 2000000 in
theorem none_ok (n : Nat) (has : Vec) (M : MM Dt OpD) (c : Nat) : SB Tryd.prog buffer_Buffer_none.f [.ptr 0 0] (bH 0 1 n has M c) 2 0 fun r F => r = bl false ∧ F = bH 0 1 n has M c := by
  refine buffer_Buffer_none.enter (by simp [SV.ok, SV.oks]) (bH.ok _ _ _ _ _ _ _ rfl rfl) (by simp) ?_
  have g1 := bfc.g9 n has 1
  have g2 := bfc.len n has 1
  simp only [bH]
  dsimp only [buffer_Buffer_none.s, Co.M, Co.G, Co.J, Co.H, Co.N, Co.F, Co.C, Co.Z, Co.B, Co.b8, Co.b32, Co.b64, Co.i6, Co.z8, Co.z29]
  refine SW.seq ?_
  (refine SW.regL [0, 2] mixed ?_; (repeat (first | refine RW.ro bq_tt (h := ?_) | refine RW.skip (h := ?_) | refine RW.op bq_tt (h := ?_) | refine RW.opN bq_tt (h := ?_) | refine RW.skip0 (h := ?_))); refine RW.nil ⟨by kernel_rfl, Pruned.mk (h := ?_)⟩)
  refine SW.seq ?_
  (refine SW.regL [0, 2] mixed ?_; (repeat (first | refine RW.ro (And.intro (g1) (g2)) (h := ?_) | refine RW.skip (h := ?_) | refine RW.op (And.intro (g1) (g2)) (h := ?_) | refine RW.opN (And.intro (g1) (g2)) (h := ?_) | refine RW.skip0 (h := ?_))); refine RW.nil ⟨by kernel_rfl, Pruned.mk (h := ?_)⟩)
  refine SW.ret ?_
  exact End.mk (bH 0 1 n has M c) (h4 := ⟨rfl, rfl⟩) (h6 := bH.ok _ _ _ _ _ _ _ rfl rfl)
theorem none_at (n : Nat) (has : Vec) (M : MM Dt OpD) (c : Nat) (b m : Nat) (hbm : b ≠ m) (k : Nat) : SCd Tryd.prog buffer_Buffer_none.f [.ptr b 0] (bH b m n has M c) k 0 (bl false) (bH b m n has M c) := by
  have h := SB.atL [b, m] (none_ok n has M c) (by simp [hbm]) (fun i hi => bH.out n has M c i (by simpa using hi)) k
  simpa [SV.rens, SV.ren, atN, bH.ren] using h
set_option maxHeartbeats 2000000 in
theorem has_ok (n : Nat) (has : Vec) (M : MM Dt OpD) (c : Nat) : SB Tryd.prog buffer_Buffer_Has.f [.ptr 0 0] (bH 0 1 n has M c) 2 0 fun r F => r = .agg has.cells ∧ F = bH 0 1 n has M c := by
  refine buffer_Buffer_Has.enter (by simp [SV.ok, SV.oks]) (bH.ok _ _ _ _ _ _ _ rfl rfl) (by simp) ?_
  have c1 := fun k => none_at n has M c 0 1 (by decide) k
  have g1 := bfc.has n has 1
  have g2 := bfc.len n has 1
  simp only [bH] at c1 ⊢
  dsimp only [buffer_Buffer_Has.s, Co.M, Co.G, Co.J, Co.H, Co.N, Co.F, Co.C, Co.Z, Co.B, Co.b8, Co.b32, Co.b64, Co.i6, Co.z8, Co.z29]
  refine SW.seq ?_
  (refine SW.regL [0, 2, 4] mixed ?_; (repeat (first | refine RW.ro bq_tt (h := ?_) | refine RW.skip (h := ?_) | refine RW.op bq_tt (h := ?_) | refine RW.opN bq_tt (h := ?_) | refine RW.skip0 (h := ?_))); refine RW.nil ⟨by kernel_rfl, Pruned.mk (h := ?_)⟩)
  refine SW.seq (SW.seq ?_)
  (refine SW.regL [0, 2, 4] mixed ?_; (repeat (first | refine RW.ro bq_tt (h := ?_) | refine RW.skip (h := ?_) | refine RW.op bq_tt (h := ?_) | refine RW.opN bq_tt (h := ?_) | refine RW.skip0 (h := ?_) | (refine RW.callC (h := ?_); (first | refine CallP.mk bq_tt (hc := c1 _) (h := ?_))))); refine RW.nil ⟨by kernel_rfl, Pruned.mk (h := ?_)⟩)
  refine SW.condF rfl (SW.skip (SW.seq ?_))
  (refine SW.regL [0, 2, 4] mixed ?_; (repeat (first | refine RW.ro (And.intro (g1) (g2)) (h := ?_) | refine RW.skip (h := ?_) | refine RW.op (And.intro (g1) (g2)) (h := ?_) | refine RW.opN (And.intro (g1) (g2)) (h := ?_) | refine RW.skip0 (h := ?_))); refine RW.nil ⟨by kernel_rfl, Pruned.mk (h := ?_)⟩)
  refine SW.ret ?_
  exact End.mk (bH 0 1 n has M c) (h4 := ⟨rfl, rfl⟩) (h6 := bH.ok _ _ _ _ _ _ _ rfl rfl)
theorem bhas_at (n : Nat) (has : Vec) (M : MM Dt OpD) (c : Nat) (b m : Nat) (hbm : b ≠ m) (k : Nat) : SCd Tryd.prog buffer_Buffer_Has.f [.ptr b 0] (bH b m n has M c) k 0 (.agg has.cells) (bH b m n has M c) := by
  have h := SB.atL [b, m] (has_ok n has M c) (by simp [hbm]) (fun i hi => bH.out n has M c i (by simpa using hi)) k
  simpa [SV.rens, SV.ren, atN, bH.ren, Vec.cells_ren] using h
set_option maxHeartbeats 2000000 in
theorem ball_ok (n : Nat) (has : Vec) (M : MM Dt OpD) (c : Nat) (hw : WB M c) (hl : M.length < 1000000) : SB Tryd.prog buffer_Buffer_all.f [.ptr 0 0] (bH 0 1 n has M c) 2 0 fun r F => r = ops (osorted (vals M)) ∧ F = bH 0 1 n has M c := by
  refine buffer_Buffer_all.enter (by simp [SV.ok, SV.oks]) (bH.ok _ _ _ _ _ _ _ rfl rfl) (by simp) ?_
  have c1 := fun k => ovals_at M c 1 k
  have c2 := fun k => vsortedFunc_at hw hl k 2 1 (by decide)
  have g1 := bfc.g9 n has 1
  have g2 := bfc.len n has 1
  simp only [bH, vmapH] at c1 c2 ⊢
  dsimp only [buffer_Buffer_all.s, Co.M, Co.G, Co.J, Co.H, Co.N, Co.F, Co.C, Co.Z, Co.B, Co.b8, Co.b32, Co.b64, Co.i6, Co.z8, Co.z29]
  refine SW.seq ?_
  (refine SW.regL [0, 2] mixed ?_; (repeat (first | refine RW.ro bq_tt (h := ?_) | refine RW.skip (h := ?_) | refine RW.op bq_tt (h := ?_) | refine RW.opN bq_tt (h := ?_) | refine RW.skip0 (h := ?_))); refine RW.nil ⟨by kernel_rfl, Pruned.mk (h := ?_)⟩)
  refine SW.seq ?_
  (refine SW.regL [0, 2] mixed ?_; (repeat (first | refine RW.ro (And.intro (g1) (g2)) (h := ?_) | refine RW.skip (h := ?_) | refine RW.op (And.intro (g1) (g2)) (h := ?_) | refine RW.opN (And.intro (g1) (g2)) (h := ?_) | refine RW.skip0 (h := ?_) | (refine RW.callC (h := ?_); (first | refine CallP.mk (And.intro (g1) (g2)) (hc := c1 _) (h := ?_) | refine CallP.mk (And.intro (g1) (g2)) (hc := c2 _) (h := ?_))))); refine RW.nil ⟨by kernel_rfl, Pruned.mk (h := ?_)⟩)
  refine SW.ret ?_
  exact End.mk (bH 0 1 n has M c) (h4 := ⟨rfl, rfl⟩) (h6 := bH.ok _ _ _ _ _ _ _ rfl rfl)
theorem ball_at (n : Nat) (has : Vec) (M : MM Dt OpD) (c : Nat) (hw : WB M c) (hl : M.length < 1000000) (b m : Nat) (hbm : b ≠ m) (k : Nat) : SCd Tryd.prog buffer_Buffer_all.f [.ptr b 0] (bH b m n has M c) k 0 (ops (osorted (vals M))) (bH b m n has M c) := by
  have h := SB.atL [b, m] (ball_ok n has M c hw hl) (by simp [hbm]) (fun i hi => bH.out n has M c i (by simpa using hi)) k
  simpa [SV.rens, SV.ren, atN, bH.ren] using h
end Go.Proofs.YtnakpdoioammhaaDoor
namespace Go.Proofs.YtnakpdoioammhaaDoor
open Go.Sl Go.Proofs
attribute [local irreducible] SW RW SCd SC CallP Pruned
theorem may_next {has : Vec} {o : OpD} (ho : o.dot.wf) : mayB has o = (((nextD has o.dot.r).2 == 0) && (decide ((nextD has o.dot.r).1 = o.dot) && has.above o.dep)) := by
  have hn := ho.2
  unfold mayB nextD
  by_cases h : o.dot.r < 8
  · rw [if_pos h]
    by_cases h2 : has.get o.dot.r + 1 = 4294967296
    · rw [if_pos h2]
      have : ¬ (has.get o.dot.r + 1 = o.dot.n) := by omega
      simp [this]
    · rw [if_neg h2]
      have e : ((⟨o.dot.r, has.get o.dot.r + 1⟩ : Dt) = o.dot) ↔ has.get o.dot.r + 1 = o.dot.n := by
        constructor
        · intro e; rw [← e]
        · intro e; cases hd : o.dot; rw [hd] at e; simp only at e; rw [e]
      simp [h, e]
  · rw [if_neg h]; simp [h]
set_option maxHeartbeats 4000000 in
theorem may_sb (n : Nat) (has : Vec) (hv : has.wf) (M : MM Dt OpD) (c : Nat) (o : OpD) (ho : o.dot.wf) : SB Tryd.prog buffer_Buffer_may.f [.ptr 0 0, .agg o.cells] (bH 0 1 n has M c) 2 0 fun r F => r = bl (mayB has o) ∧ F = bH 0 1 n has M c := by
  have ok2 : ∀ q : Nat → Bool, SV.oks q o.cells = true := fun q => OpD.cells_ok o q
  refine buffer_Buffer_may.enter (by simp [SV.ok, SV.oks, ok2]) (bH.ok _ _ _ _ _ _ _ rfl rfl) (by simp) ?_
  have c1 := fun k => next_at has hv o.dot.r ho.1 k
  have c2 := fun k => above_at4 has o.dep k
  rw [may_next ho]
  generalize nextD has o.dot.r = nd at c1 ⊢
  obtain ⟨d, e⟩ := nd
  dsimp only at c1 ⊢
  have g1 := bfc.has n has 1
  have g2 := bfc.len n has 1
  have q1 := Dt.eqb d o.dot
  simp only [bH]
  dsimp only [buffer_Buffer_may.s, Co.M, Co.G, Co.J, Co.H, Co.N, Co.F, Co.C, Co.Z, Co.B, Co.b8, Co.b32, Co.b64, Co.i6, Co.z8, Co.z29]
  refine SW.seq ?_
  (refine SW.regL [0, 1, 3, 4, 5, 6] mixed ?_; (repeat (first | refine RW.ro bq_tt (h := ?_) | refine RW.skip (h := ?_) | refine RW.op bq_tt (h := ?_) | refine RW.opN bq_tt (h := ?_) | refine RW.skip0 (h := ?_))); refine RW.nil ⟨by kernel_rfl, Pruned.mk (h := ?_)⟩)
  refine SW.seq ?_
  (have fx := (And.intro (g1) (And.intro (g2) (o.gDotR))); refine SW.regL [0, 1, 3, 4, 5, 6] mixed ?_; (repeat (first | refine RW.ro fx (h := ?_) | refine RW.skip (h := ?_) | refine RW.op fx (h := ?_) | refine RW.opN fx (h := ?_) | refine RW.skip0 (h := ?_) | (refine RW.callC (h := ?_); (first | refine CallP.mk fx (hc := c1 _) (h := ?_))))); refine RW.nil ⟨by kernel_rfl, Pruned.mk (h := ?_)⟩)
  refine SW.seq ?_
  rcases h1 : (e == 0) with _ | _
  · (refine SW.regL [0, 1, 3, 4, 5, 6] mixed ?_; (repeat (first | refine RW.ro (h1) (h := ?_) | refine RW.skip (h := ?_) | refine RW.op (h1) (h := ?_) | refine RW.opN (h1) (h := ?_) | refine RW.skip0 (h := ?_))); refine RW.nil ⟨by kernel_rfl, Pruned.mk (h := ?_)⟩)
    refine SW.ret ?_
    exact End.mk (bH 0 1 n has M c) (h4 := ⟨rfl, rfl⟩) (h6 := bH.ok _ _ _ _ _ _ _ rfl rfl)
  rcases h2 : decide (d = o.dot) with _ | _ <;> rw [h2] at q1
  · (have fx := (And.intro (h1) (And.intro (q1) (o.gDot))); refine SW.regL [0, 1, 3, 4, 5, 6] mixed ?_; (repeat (first | refine RW.ro fx (h := ?_) | refine RW.skip (h := ?_) | refine RW.op fx (h := ?_) | refine RW.opN fx (h := ?_) | refine RW.skip0 (h := ?_))); refine RW.nil ⟨by kernel_rfl, Pruned.mk (h := ?_)⟩)
    refine SW.ret ?_
    exact End.mk (bH 0 1 n has M c) (h4 := ⟨rfl, rfl⟩) (h6 := bH.ok _ _ _ _ _ _ _ rfl rfl)
  (have fx := (And.intro (h1) (And.intro (q1) (And.intro (o.gDot) (And.intro (o.gDep) (And.intro (g1) (g2)))))); refine SW.regL [0, 1, 3, 4, 5, 6] mixed ?_; (repeat (first | refine RW.ro fx (h := ?_) | refine RW.skip (h := ?_) | refine RW.op fx (h := ?_) | refine RW.opN fx (h := ?_) | refine RW.skip0 (h := ?_) | (refine RW.callC (h := ?_); (first | refine CallP.mk fx (hc := c2 _) (h := ?_))))); refine RW.nil ⟨by kernel_rfl, Pruned.mk (h := ?_)⟩)
  refine SW.ret ?_
  exact End.mk (bH 0 1 n has M c) (h4 := ⟨by simp [retV], rfl⟩) (h6 := bH.ok _ _ _ _ _ _ _ rfl rfl)
theorem may_at9 (n : Nat) (has : Vec) (hv : has.wf) (M : MM Dt OpD) (c : Nat) (o : OpD) (ho : o.dot.wf) (b m : Nat) (hbm : b ≠ m) (k : Nat) : SCd Tryd.prog buffer_Buffer_may.f [.ptr b 0, .agg o.cells] (bH b m n has M c) k 0 (bl (mayB has o)) (bH b m n has M c) := by
  have h := SB.atL [b, m] (may_sb n has hv M c o ho) (by simp [hbm]) (fun i hi => bH.out n has M c i (by simpa using hi)) k
  have e : SV.rens (atN [b, m] k) o.cells = o.cells := SV.rens_d _
  simpa [SV.rens, SV.ren, atN, bH.ren, e] using h
def cH (q b m n : Nat) (has : Vec) (M : MM Dt OpD) (c : Nat) : Hp := (q, .box 23 [.ptr b 0]) :: bH b m n has M c
theorem cH.out (n : Nat) (has : Vec) (M : MM Dt OpD) (c i : Nat) (h : i < 3) : lk (cH 0 1 2 n has M c) i ≠ none := by
  match i, h with
  | 0, _ | 1, _ | 2, _ => simp [cH, bH, lk_cons]
theorem cH.ok (q : Nat → Bool) (x b m n : Nat) (has : Vec) (M : MM Dt OpD) (c : Nat) (hx : q x = true) (hb : q b = true) (hm : q m = true) : (cH x b m n has M c).ok q = true := by
  have := bH.ok q b m n has M c hb hm
  simp only [cH, Hp.ok, List.all_cons, Ob.ok, SV.oks, SV.ok, hx, hb, Bool.and_true, Bool.true_and] at this ⊢
  exact this
theorem cH.ren (ρ : Nat → Nat) (x b m n : Nat) (has : Vec) (M : MM Dt OpD) (c : Nat) : (cH x b m n has M c).ren ρ = cH (ρ x) (ρ b) (ρ m) n has M c := by
  have := bH.ren ρ b m n has M c
  simp only [cH, Hp.ren, List.map_cons, Ob.ren, SV.rens, SV.ren] at this ⊢
  rw [this]
noncomputable def badF (n : Nat) (o : OpD) : Bool := checkV (n : Int) o != 0
set_option maxHeartbeats 2000000 in
theorem put1_sb (n : Nat) (hn : n ≤ 8) (has : Vec) (M : MM Dt OpD) (c : Nat) (o : OpD) (ho : OpR o) (hl : o.cl.length < 4611686018427387904) : SB Tryd.prog buffer_Buffer_Put_1.f [.agg o.cells, .ptr 0 0] (cH 0 1 2 n has M c) 3 0 fun r F => r = bl (badF n o) ∧ F = cH 0 1 2 n has M c := by
  have ok2 : ∀ q : Nat → Bool, SV.oks q o.cells = true := fun q => OpD.cells_ok o q
  refine buffer_Buffer_Put_1.enter (by simp [SV.ok, SV.oks, ok2]) (cH.ok _ _ _ _ _ _ _ _ rfl rfl rfl) (by simp) ?_
  have c1 := fun k => check_at (n : Int) (by omega) (by omega) o ho hl k
  have g1 := bfc.g0 n has 2
  have g2 := bfc.len n has 2
  unfold badF
  simp only [cH, bH]
  dsimp only [buffer_Buffer_Put_1.s, Co.M, Co.G, Co.J, Co.H, Co.N, Co.F, Co.C, Co.Z, Co.B, Co.b8, Co.b32, Co.b64, Co.i6, Co.z8, Co.z29]
  refine SW.seq ?_
  (refine SW.regL [0, 1, 2, 3] mixed ?_; (repeat (first | refine RW.ro bq_tt (h := ?_) | refine RW.skip (h := ?_) | refine RW.op bq_tt (h := ?_) | refine RW.opN bq_tt (h := ?_) | refine RW.skip0 (h := ?_))); refine RW.nil ⟨by kernel_rfl, Pruned.mk (h := ?_)⟩)
  refine SW.seq ?_
  (refine SW.regL [0, 1, 2, 3] mixed ?_; (repeat (first | refine RW.ro (And.intro (g1) (g2)) (h := ?_) | refine RW.skip (h := ?_) | refine RW.op (And.intro (g1) (g2)) (h := ?_) | refine RW.opN (And.intro (g1) (g2)) (h := ?_) | refine RW.skip0 (h := ?_) | (refine RW.callC (h := ?_); (first | refine CallP.mk (And.intro (g1) (g2)) (hc := c1 _) (h := ?_))))); refine RW.nil ⟨by kernel_rfl, Pruned.mk (h := ?_)⟩)
  refine SW.ret ?_
  exact End.mk (cH 0 1 2 n has M c) (h4 := ⟨rfl, rfl⟩) (h6 := cH.ok _ _ _ _ _ _ _ _ rfl rfl rfl)
theorem put1_at (n : Nat) (hn : n ≤ 8) (has : Vec) (M : MM Dt OpD) (c : Nat) (o : OpD) (ho : OpR o) (hl : o.cl.length < 4611686018427387904) (q b m : Nat) (h3 : [q, b, m].Nodup) (k : Nat) : SCd Tryd.prog buffer_Buffer_Put_1.f [.agg o.cells, .ptr q 0] (cH q b m n has M c) k 0 (bl (badF n o)) (cH q b m n has M c) := by
  have h := SB.atL [q, b, m] (put1_sb n hn has M c o ho hl) h3 (fun i hi => cH.out n has M c i (by simpa using hi)) k
  have e : SV.rens (atN [q, b, m] k) o.cells = o.cells := SV.rens_d _
  simpa [SV.rens, SV.ren, atN, cH.ren, e] using h
def idxQ (p : OpD → Bool) (l : List OpD) : Int := match l.findIdx? p with
  | some i => (i : Int)
  | none => -1
theorem idxQ_any (p : OpD → Bool) (l : List OpD) : decide (idxQ p l ≥ 0) = l.any p := by
  unfold idxQ
  cases h : l.findIdx? p with
  | none =>
    rw [List.findIdx?_eq_none_iff] at h
    have : l.any p = false := by rw [List.any_eq_false]; exact fun x hx => by rw [h x hx]; decide
    rw [this]; rfl
  | some i =>
    rw [List.findIdx?_eq_some_iff_getElem] at h
    obtain ⟨h1, h2, _⟩ := h
    have : l.any p = true := by rw [List.any_eq_true]; exact ⟨_, List.getElem_mem h1, h2⟩
    rw [this]
    simp
theorem find_idxQ (p : OpD → Bool) (l : List OpD) : match l.findIdx? p with
    | some i => ∃ x, l[i]? = some x ∧ l.find? p = some x
    | none => l.find? p = none := by
  cases h : l.findIdx? p with
  | none =>
    rw [List.findIdx?_eq_none_iff] at h
    rw [List.find?_eq_none]
    intro o ho; rw [h o ho]; decide
  | some i =>
    rw [List.findIdx?_eq_some_iff_getElem] at h
    obtain ⟨h1, h2, h3⟩ := h
    refine ⟨l[i], List.getElem?_eq_getElem h1, ?_⟩
    rw [List.find?_eq_some_iff_getElem]
    exact ⟨h2, i, h1, rfl, fun j hj => by have := h3 j hj; simpa using this⟩
set_option maxHeartbeats 4000000 in
theorem indexA_sb {n : Nat} {has : Vec} {M : MM Dt OpD} {c : Nat} {p : OpD → Bool} {l : List OpD} (hp : ∀ x, x ∈ l → ∀ k, SCd Tryd.prog buffer_Buffer_Put_1.f [.agg x.cells, .ptr 0 0] (cH 0 1 2 n has M c) k 0 (bl (p x)) (cH 0 1 2 n has M c)) (hl : l.length < 4611686018427387904) :
    SB Tryd.prog slices_IndexFunc_Lapi_Op_api_Op.f [ops l, .fn (.func buffer_Buffer_Put_1.f) [] [.ptr 0 0]] (cH 0 1 2 n has M c) 3 0 fun r F => r = i64 (idxQ p l) ∧ F = cH 0 1 2 n has M c := by
  refine slices_IndexFunc_Lapi_Op_api_Op.enter (by simp [SV.ok, SV.oks]) (cH.ok _ _ _ _ _ _ _ _ rfl rfl rfl) (by simp) ?_
  have b1 : SV.rens id (bfc n has 2) = bfc n has 2 := bfc.ren _ _ _ _
  have b2 : SV.oks (fun n => decide (n < 3)) (bfc n has 2) = true := bfc.ok _ _ _ _ rfl
  have b3 := omap_ren id M
  have b4 := omap_ok (fun n => decide (n < 3)) M
  simp only [cH, bH] at hp ⊢
  dsimp only [slices_IndexFunc_Lapi_Op_api_Op.s, Co.M, Co.G, Co.J, Co.H, Co.N, Co.F, Co.C, Co.Z, Co.B, Co.b8, Co.b32, Co.b64, Co.i6, Co.z8, Co.z29]
  refine SW.seq ?_
  (refine SW.regL [0, 1, 4, 5, 7, 8, 9, 16] mixed ?_; (repeat (first | refine RW.ro bq_tt (h := ?_) | refine RW.skip (h := ?_) | refine RW.op bq_tt (h := ?_) | refine RW.opN bq_tt (h := ?_) | refine RW.skip0 (h := ?_))); refine RW.nil ⟨by kernel_rfl, Pruned.mk (h := ?_)⟩)
  refine SW.seq (SW.seq ?_)
  (refine SW.regL [0, 1, 4, 5, 7, 8, 9, 16] mixed ?_; (repeat (first | refine RW.ro bq_tt (h := ?_) | refine RW.skip (h := ?_) | refine RW.op bq_tt (h := ?_) | refine RW.opN bq_tt (h := ?_) | refine RW.skip0 (h := ?_))); refine RW.nil ⟨by kernel_rfl, Pruned.mk (h := ?_)⟩)
  refine SW.block ?_
  refine SW.loopA (α := {i : Nat // i ≤ l.length ∧ ∀ j x, j < i → l[j]? = some x → p x = false}) (fun i => ⟨[(8, i64 i.1), (7, i64 l.length), (0, ops l), (1, .fn (.func buffer_Buffer_Put_1.f) [] [.ptr 0 0])], [(0, .box 23 [.ptr 1 0]), (1, .box 58 (bfc n has 2)), (2, .map (mapE Dt.cells ov M) c)], 3⟩) (fun i => l.length - i.1) ⟨0, by omega, by omega⟩ id (And.intro b1 (And.intro b2 (And.intro b3 b4))) (round := ?_)
  rintro ⟨i, hi, hs⟩
  dsimp only
  by_cases h : i < l.length
  · have h1 : decide ((i : Int) < l.length) = true := by simp only [decide_eq_true_eq]; omega
    obtain ⟨x, hx⟩ := get_of_lt h
    have e2 : IntKind.i64.wrap ((i : Int) + 1) = ((i + 1 : Nat) : Int) := wrap_i64 _ (by omega)
    have hc := hp x (List.mem_of_getElem? hx)
    refine SW.seq ?_
    (refine SW.regL [0, 1, 4, 5, 7, 8, 9, 16] mixed ?_; (repeat (first | refine RW.ro (h1) (h := ?_) | refine RW.skip (h := ?_) | refine RW.op (h1) (h := ?_) | refine RW.opN (h1) (h := ?_) | refine RW.skip0 (h := ?_))); refine RW.nil ⟨by kernel_rfl, Pruned.mk (h := ?_)⟩)
    refine SW.seq (SW.condT rfl (SW.skip ?_))
    refine SW.seq (SW.block (SW.seq ?_))
    (refine SW.regL [0, 1, 4, 5, 7, 8, 9, 16] mixed ?_; (repeat (first | refine RW.ro bq_tt (h := ?_) | refine RW.skip (h := ?_) | refine RW.op bq_tt (h := ?_) | refine RW.opN bq_tt (h := ?_) | refine RW.skip0 (h := ?_))); refine RW.nil ⟨by kernel_rfl, Pruned.mk (h := ?_)⟩)
    refine SW.seq ?_
    rcases hg : p x with _ | _ <;> rw [hg] at hc
    · (have fx := (And.intro (op_at hx) (op_room0 hx)); refine SW.regL [0, 1, 4, 5, 7, 8, 9, 16] mixed ?_; (repeat (first | refine RW.ro fx (h := ?_) | refine RW.skip (h := ?_) | refine RW.op fx (h := ?_) | refine RW.opN fx (h := ?_) | refine RW.skip0 (h := ?_) | (refine RW.callC (h := ?_); (first | refine CallP.mk fx (hc := hc _) (h := ?_))))); refine RW.nil ⟨by kernel_rfl, Pruned.mk (h := ?_)⟩)
      refine SW.condF rfl (SW.skip ?_)
      (refine SW.regL [0, 1, 4, 5, 7, 8, 9, 16] mixed ?_; (repeat (first | refine RW.ro (e2) (h := ?_) | refine RW.skip (h := ?_) | refine RW.op (e2) (h := ?_) | refine RW.opN (e2) (h := ?_) | refine RW.skip0 (h := ?_))); refine RW.nil ⟨by kernel_rfl, Pruned.mk (h := ?_)⟩)
      refine ⟨⟨i + 1, by omega, fun j y hj hy => ?_⟩, id, by show l.length - (i + 1) < l.length - i; omega, ?_⟩
      · rcases Nat.lt_or_ge j i with h2 | h2
        · exact hs j y h2 hy
        · have : j = i := by omega
          subst this
          rw [hx] at hy; injection hy with hy; rw [← hy]; exact hg
      · exact Weak.mk (And.intro b1 (And.intro b2 (And.intro b3 b4)))
    · have e : idxQ p l = (i : Int) := by
        unfold idxQ
        have : l.findIdx? p = some i := by
          rw [List.findIdx?_eq_some_iff_getElem]
          refine ⟨h, ?_, fun j hj => ?_⟩
          · rw [List.getElem?_eq_getElem h] at hx; injection hx with hx; rw [hx, hg]
          · have := hs j l[j] hj (List.getElem?_eq_getElem _); simp [this]
        rw [this]
      rw [e]
      (have fx := (And.intro (op_at hx) (op_room0 hx)); refine SW.regL [0, 1, 4, 5, 7, 8, 9, 16] mixed ?_; (repeat (first | refine RW.ro fx (h := ?_) | refine RW.skip (h := ?_) | refine RW.op fx (h := ?_) | refine RW.opN fx (h := ?_) | refine RW.skip0 (h := ?_) | (refine RW.callC (h := ?_); (first | refine CallP.mk fx (hc := hc _) (h := ?_))))); refine RW.nil ⟨by kernel_rfl, Pruned.mk (h := ?_)⟩)
      refine SW.condT rfl (SW.seq ?_)
      (refine SW.regL [0, 1, 4, 5, 7, 8, 9, 16] mixed ?_; (repeat (first | refine RW.ro bq_tt (h := ?_) | refine RW.skip (h := ?_) | refine RW.op bq_tt (h := ?_) | refine RW.opN bq_tt (h := ?_) | refine RW.skip0 (h := ?_))); refine RW.nil ⟨by kernel_rfl, Pruned.mk (h := ?_)⟩)
      refine SW.ret ?_
      exact End.mk (cH 0 1 2 n has M c) (h4 := ⟨rfl, rfl⟩) (h6 := cH.ok _ _ _ _ _ _ _ _ rfl rfl rfl)
  · have h1 : decide ((i : Int) < l.length) = false := by simp only [decide_eq_false_iff_not]; omega
    have e : idxQ p l = -1 := by
      unfold idxQ
      have : l.findIdx? p = none := by
        rw [List.findIdx?_eq_none_iff]
        intro x hx
        obtain ⟨j, hj⟩ := List.mem_iff_getElem?.1 hx
        exact hs j x (by have := lt_of_get hj; omega) hj
      rw [this]
    rw [e]
    refine SW.seq ?_
    (refine SW.regL [0, 1, 4, 5, 7, 8, 9, 16] mixed ?_; (repeat (first | refine RW.ro (h1) (h := ?_) | refine RW.skip (h := ?_) | refine RW.op (h1) (h := ?_) | refine RW.opN (h1) (h := ?_) | refine RW.skip0 (h := ?_))); refine RW.nil ⟨by kernel_rfl, Pruned.mk (h := ?_)⟩)
    refine SW.seq (SW.condF rfl (SW.exit ?_))
    refine SW.seq ?_
    (refine SW.regL [0, 1, 4, 5, 7, 8, 9, 16] mixed ?_; (repeat (first | refine RW.ro bq_tt (h := ?_) | refine RW.skip (h := ?_) | refine RW.op bq_tt (h := ?_) | refine RW.opN bq_tt (h := ?_) | refine RW.skip0 (h := ?_))); refine RW.nil ⟨by kernel_rfl, Pruned.mk (h := ?_)⟩)
    refine SW.ret ?_
    exact End.mk (cH 0 1 2 n has M c) (h4 := ⟨rfl, rfl⟩) (h6 := cH.ok _ _ _ _ _ _ _ _ rfl rfl rfl)
set_option maxHeartbeats 4000000 in
theorem indexB_sb {n : Nat} {has : Vec} {M : MM Dt OpD} {c : Nat} {p : OpD → Bool} {l : List OpD} (hp : ∀ x, x ∈ l → ∀ k, SCd Tryd.prog buffer_Buffer_may.f [.ptr 1 0, .agg x.cells] (cH 0 1 2 n has M c) k 0 (bl (p x)) (cH 0 1 2 n has M c)) (hl : l.length < 4611686018427387904) :
    SB Tryd.prog slices_IndexFunc_Lapi_Op_api_Op.f [ops l, .fn (.func buffer_Buffer_may.f) [.ptr 1 0] []] (cH 0 1 2 n has M c) 3 0 fun r F => r = i64 (idxQ p l) ∧ F = cH 0 1 2 n has M c := by
  refine slices_IndexFunc_Lapi_Op_api_Op.enter (by simp [SV.ok, SV.oks]) (cH.ok _ _ _ _ _ _ _ _ rfl rfl rfl) (by simp) ?_
  have b1 : SV.rens id (bfc n has 2) = bfc n has 2 := bfc.ren _ _ _ _
  have b2 : SV.oks (fun n => decide (n < 3)) (bfc n has 2) = true := bfc.ok _ _ _ _ rfl
  have b3 := omap_ren id M
  have b4 := omap_ok (fun n => decide (n < 3)) M
  simp only [cH, bH] at hp ⊢
  dsimp only [slices_IndexFunc_Lapi_Op_api_Op.s, Co.M, Co.G, Co.J, Co.H, Co.N, Co.F, Co.C, Co.Z, Co.B, Co.b8, Co.b32, Co.b64, Co.i6, Co.z8, Co.z29]
  refine SW.seq ?_
  (refine SW.regL [0, 1, 4, 5, 7, 8, 9, 16] mixed ?_; (repeat (first | refine RW.ro bq_tt (h := ?_) | refine RW.skip (h := ?_) | refine RW.op bq_tt (h := ?_) | refine RW.opN bq_tt (h := ?_) | refine RW.skip0 (h := ?_))); refine RW.nil ⟨by kernel_rfl, Pruned.mk (h := ?_)⟩)
  refine SW.seq (SW.seq ?_)
  (refine SW.regL [0, 1, 4, 5, 7, 8, 9, 16] mixed ?_; (repeat (first | refine RW.ro bq_tt (h := ?_) | refine RW.skip (h := ?_) | refine RW.op bq_tt (h := ?_) | refine RW.opN bq_tt (h := ?_) | refine RW.skip0 (h := ?_))); refine RW.nil ⟨by kernel_rfl, Pruned.mk (h := ?_)⟩)
  refine SW.block ?_
  refine SW.loopA (α := {i : Nat // i ≤ l.length ∧ ∀ j x, j < i → l[j]? = some x → p x = false}) (fun i => ⟨[(8, i64 i.1), (7, i64 l.length), (0, ops l), (1, .fn (.func buffer_Buffer_may.f) [.ptr 1 0] [])], [(0, .box 23 [.ptr 1 0]), (1, .box 58 (bfc n has 2)), (2, .map (mapE Dt.cells ov M) c)], 3⟩) (fun i => l.length - i.1) ⟨0, by omega, by omega⟩ id (And.intro b1 (And.intro b2 (And.intro b3 b4))) (round := ?_)
  rintro ⟨i, hi, hs⟩
  dsimp only
  by_cases h : i < l.length
  · have h1 : decide ((i : Int) < l.length) = true := by simp only [decide_eq_true_eq]; omega
    obtain ⟨x, hx⟩ := get_of_lt h
    have e2 : IntKind.i64.wrap ((i : Int) + 1) = ((i + 1 : Nat) : Int) := wrap_i64 _ (by omega)
    have hc := hp x (List.mem_of_getElem? hx)
    refine SW.seq ?_
    (refine SW.regL [0, 1, 4, 5, 7, 8, 9, 16] mixed ?_; (repeat (first | refine RW.ro (h1) (h := ?_) | refine RW.skip (h := ?_) | refine RW.op (h1) (h := ?_) | refine RW.opN (h1) (h := ?_) | refine RW.skip0 (h := ?_))); refine RW.nil ⟨by kernel_rfl, Pruned.mk (h := ?_)⟩)
    refine SW.seq (SW.condT rfl (SW.skip ?_))
    refine SW.seq (SW.block (SW.seq ?_))
    (refine SW.regL [0, 1, 4, 5, 7, 8, 9, 16] mixed ?_; (repeat (first | refine RW.ro bq_tt (h := ?_) | refine RW.skip (h := ?_) | refine RW.op bq_tt (h := ?_) | refine RW.opN bq_tt (h := ?_) | refine RW.skip0 (h := ?_))); refine RW.nil ⟨by kernel_rfl, Pruned.mk (h := ?_)⟩)
    refine SW.seq ?_
    rcases hg : p x with _ | _ <;> rw [hg] at hc
    · (have fx := (And.intro (op_at hx) (op_room0 hx)); refine SW.regL [0, 1, 4, 5, 7, 8, 9, 16] mixed ?_; (repeat (first | refine RW.ro fx (h := ?_) | refine RW.skip (h := ?_) | refine RW.op fx (h := ?_) | refine RW.opN fx (h := ?_) | refine RW.skip0 (h := ?_) | (refine RW.callC (h := ?_); (first | refine CallP.mk fx (hc := hc _) (h := ?_))))); refine RW.nil ⟨by kernel_rfl, Pruned.mk (h := ?_)⟩)
      refine SW.condF rfl (SW.skip ?_)
      (refine SW.regL [0, 1, 4, 5, 7, 8, 9, 16] mixed ?_; (repeat (first | refine RW.ro (e2) (h := ?_) | refine RW.skip (h := ?_) | refine RW.op (e2) (h := ?_) | refine RW.opN (e2) (h := ?_) | refine RW.skip0 (h := ?_))); refine RW.nil ⟨by kernel_rfl, Pruned.mk (h := ?_)⟩)
      refine ⟨⟨i + 1, by omega, fun j y hj hy => ?_⟩, id, by show l.length - (i + 1) < l.length - i; omega, ?_⟩
      · rcases Nat.lt_or_ge j i with h2 | h2
        · exact hs j y h2 hy
        · have : j = i := by omega
          subst this
          rw [hx] at hy; injection hy with hy; rw [← hy]; exact hg
      · exact Weak.mk (And.intro b1 (And.intro b2 (And.intro b3 b4)))
    · have e : idxQ p l = (i : Int) := by
        unfold idxQ
        have : l.findIdx? p = some i := by
          rw [List.findIdx?_eq_some_iff_getElem]
          refine ⟨h, ?_, fun j hj => ?_⟩
          · rw [List.getElem?_eq_getElem h] at hx; injection hx with hx; rw [hx, hg]
          · have := hs j l[j] hj (List.getElem?_eq_getElem _); simp [this]
        rw [this]
      rw [e]
      (have fx := (And.intro (op_at hx) (op_room0 hx)); refine SW.regL [0, 1, 4, 5, 7, 8, 9, 16] mixed ?_; (repeat (first | refine RW.ro fx (h := ?_) | refine RW.skip (h := ?_) | refine RW.op fx (h := ?_) | refine RW.opN fx (h := ?_) | refine RW.skip0 (h := ?_) | (refine RW.callC (h := ?_); (first | refine CallP.mk fx (hc := hc _) (h := ?_))))); refine RW.nil ⟨by kernel_rfl, Pruned.mk (h := ?_)⟩)
      refine SW.condT rfl (SW.seq ?_)
      (refine SW.regL [0, 1, 4, 5, 7, 8, 9, 16] mixed ?_; (repeat (first | refine RW.ro bq_tt (h := ?_) | refine RW.skip (h := ?_) | refine RW.op bq_tt (h := ?_) | refine RW.opN bq_tt (h := ?_) | refine RW.skip0 (h := ?_))); refine RW.nil ⟨by kernel_rfl, Pruned.mk (h := ?_)⟩)
      refine SW.ret ?_
      exact End.mk (cH 0 1 2 n has M c) (h4 := ⟨rfl, rfl⟩) (h6 := cH.ok _ _ _ _ _ _ _ _ rfl rfl rfl)
  · have h1 : decide ((i : Int) < l.length) = false := by simp only [decide_eq_false_iff_not]; omega
    have e : idxQ p l = -1 := by
      unfold idxQ
      have : l.findIdx? p = none := by
        rw [List.findIdx?_eq_none_iff]
        intro x hx
        obtain ⟨j, hj⟩ := List.mem_iff_getElem?.1 hx
        exact hs j x (by have := lt_of_get hj; omega) hj
      rw [this]
    rw [e]
    refine SW.seq ?_
    (refine SW.regL [0, 1, 4, 5, 7, 8, 9, 16] mixed ?_; (repeat (first | refine RW.ro (h1) (h := ?_) | refine RW.skip (h := ?_) | refine RW.op (h1) (h := ?_) | refine RW.opN (h1) (h := ?_) | refine RW.skip0 (h := ?_))); refine RW.nil ⟨by kernel_rfl, Pruned.mk (h := ?_)⟩)
    refine SW.seq (SW.condF rfl (SW.exit ?_))
    refine SW.seq ?_
    (refine SW.regL [0, 1, 4, 5, 7, 8, 9, 16] mixed ?_; (repeat (first | refine RW.ro bq_tt (h := ?_) | refine RW.skip (h := ?_) | refine RW.op bq_tt (h := ?_) | refine RW.opN bq_tt (h := ?_) | refine RW.skip0 (h := ?_))); refine RW.nil ⟨by kernel_rfl, Pruned.mk (h := ?_)⟩)
    refine SW.ret ?_
    exact End.mk (cH 0 1 2 n has M c) (h4 := ⟨rfl, rfl⟩) (h6 := cH.ok _ _ _ _ _ _ _ _ rfl rfl rfl)
theorem indexF_sb {n : Nat} {has : Vec} {M : MM Dt OpD} {c : Nat} (hn : n ≤ 8) {l : List OpD} (hw : ∀ x, x ∈ l → OpR x ∧ x.cl.length < 4611686018427387904) (hl : l.length < 4611686018427387904) :
    SB Tryd.prog slices_IndexFunc_Lapi_Op_api_Op.f [ops l, .fn (.func buffer_Buffer_Put_1.f) [] [.ptr 0 0]] (cH 0 1 2 n has M c) 3 0 fun r F => r = i64 (idxQ (badF n) l) ∧ F = cH 0 1 2 n has M c :=
  indexA_sb (fun x hx k => put1_at n hn has M c x (hw x hx).1 (hw x hx).2 0 1 2 (by decide) k) hl
theorem indexF_at {n : Nat} {has : Vec} {M : MM Dt OpD} {c : Nat} (hn : n ≤ 8) {l : List OpD} (hw : ∀ x, x ∈ l → OpR x ∧ x.cl.length < 4611686018427387904) (hl : l.length < 4611686018427387904) (q b m : Nat) (h3 : [q, b, m].Nodup) (k : Nat) :
    SCd Tryd.prog slices_IndexFunc_Lapi_Op_api_Op.f [ops l, .fn (.func buffer_Buffer_Put_1.f) [] [.ptr q 0]] (cH q b m n has M c) k 0 (i64 (idxQ (badF n) l)) (cH q b m n has M c) := by
  have h := SB.atL [q, b, m] (indexF_sb (has := has) (M := M) (c := c) hn hw hl) h3 (fun i hi => cH.out n has M c i (by simpa using hi)) k
  simpa [SV.rens, SV.ren, atN, cH.ren] using h
theorem containsF_sb {n : Nat} {has : Vec} {M : MM Dt OpD} {c : Nat} (hn : n ≤ 8) {l : List OpD} (hw : ∀ x, x ∈ l → OpR x ∧ x.cl.length < 4611686018427387904) (hl : l.length < 4611686018427387904) :
    SB Tryd.prog slices_ContainsFunc_Lapi_Op_api_Op.f [ops l, .fn (.func buffer_Buffer_Put_1.f) [] [.ptr 0 0]] (cH 0 1 2 n has M c) 3 0 fun r F => r = bl (l.any (badF n)) ∧ F = cH 0 1 2 n has M c := by
  refine slices_ContainsFunc_Lapi_Op_api_Op.enter (by simp [SV.ok, SV.oks]) (cH.ok _ _ _ _ _ _ _ _ rfl rfl rfl) (by simp) ?_
  have hi := fun k => indexF_at (has := has) (M := M) (c := c) hn hw hl 0 1 2 (by decide) k
  rw [← idxQ_any]
  simp only [cH, bH] at hi ⊢
  dsimp only [slices_ContainsFunc_Lapi_Op_api_Op.s, Co.M, Co.G, Co.J, Co.H, Co.N, Co.F, Co.C, Co.Z, Co.B, Co.b8, Co.b32, Co.b64, Co.i6, Co.z8, Co.z29]
  refine SW.seq ?_
  (refine SW.regL [0, 1, 4] mixed ?_; (repeat (first | refine RW.ro bq_tt (h := ?_) | refine RW.skip (h := ?_) | refine RW.op bq_tt (h := ?_) | refine RW.opN bq_tt (h := ?_) | refine RW.skip0 (h := ?_))); refine RW.nil ⟨by kernel_rfl, Pruned.mk (h := ?_)⟩)
  refine SW.seq ?_
  (refine SW.regL [0, 1, 4] mixed ?_; (repeat (first | refine RW.ro bq_tt (h := ?_) | refine RW.skip (h := ?_) | refine RW.op bq_tt (h := ?_) | refine RW.opN bq_tt (h := ?_) | refine RW.skip0 (h := ?_) | (refine RW.callC (h := ?_); (first | refine CallP.mk bq_tt (hc := hi _) (h := ?_))))); refine RW.nil ⟨by kernel_rfl, Pruned.mk (h := ?_)⟩)
  refine SW.ret ?_
  exact End.mk (cH 0 1 2 n has M c) (h4 := ⟨rfl, rfl⟩) (h6 := cH.ok _ _ _ _ _ _ _ _ rfl rfl rfl)
theorem containsF_at {n : Nat} {has : Vec} {M : MM Dt OpD} {c : Nat} (hn : n ≤ 8) {l : List OpD} (hw : ∀ x, x ∈ l → OpR x ∧ x.cl.length < 4611686018427387904) (hl : l.length < 4611686018427387904) (q b m : Nat) (h3 : [q, b, m].Nodup) (k : Nat) :
    SCd Tryd.prog slices_ContainsFunc_Lapi_Op_api_Op.f [ops l, .fn (.func buffer_Buffer_Put_1.f) [] [.ptr q 0]] (cH q b m n has M c) k 0 (bl (l.any (badF n))) (cH q b m n has M c) := by
  have h := SB.atL [q, b, m] (containsF_sb (has := has) (M := M) (c := c) hn hw hl) h3 (fun i hi => cH.out n has M c i (by simpa using hi)) k
  simpa [SV.rens, SV.ren, atN, cH.ren] using h
theorem cH_sub (q b m n : Nat) (has : Vec) (M : MM Dt OpD) (c : Nat) (h3 : [q, b, m].Nodup) : HSub (bH b m n has M c) (cH q b m n has M c) := by
  intro i ob h
  simp only [List.nodup_cons, List.mem_cons, List.not_mem_nil, or_false, not_or, not_false_eq_true, List.nodup_nil, and_true] at h3
  have hq : i ≠ q := fun e => by
    subst e
    simp [bH, lk_cons, lk_nil, h3.1.1, h3.1.2] at h
  show lk ((q, Ob.box 23 [.ptr b 0]) :: bH b m n has M c) i = some ob
  rw [lk_cons, if_neg hq]; exact h
theorem may_cH (n : Nat) (has : Vec) (hv : has.wf) (M : MM Dt OpD) (c : Nat) (o : OpD) (ho : o.dot.wf) (k : Nat) : SCd Tryd.prog buffer_Buffer_may.f [.ptr 1 0, .agg o.cells] (cH 0 1 2 n has M c) k 0 (bl (mayB has o)) (cH 0 1 2 n has M c) := by
  have h := may_at9 n has hv M c o ho 1 2 (by decide) k
  unfold SCd at h ⊢
  refine (h.frame (cH_sub 0 1 2 n has M c (by decide))).mono ?_
  rintro r F ⟨F1, ⟨rfl, rfl⟩, rfl⟩
  refine ⟨rfl, ?_⟩
  simp [cH, bH, hmrg, hsets, hdels, hset, hrep, hdel, lk, List.lookup]
theorem next_sb {n : Nat} {has : Vec} (hv : has.wf) {M : MM Dt OpD} {c : Nat} (hw : WB M c) (hl : M.length < 1000000) (hd : ∀ o, o ∈ vals M → o.dot.wf) :
    SB Tryd.prog buffer_Buffer_Put_2.f [.ptr 0 0] (cH 0 1 2 n has M c) 3 0 fun r F => r = .tup [.agg ((nextB has (vals M)).getD OpD.zero).cells, bl (nextB has (vals M)).isSome] ∧ F = cH 0 1 2 n has M c := by
  refine buffer_Buffer_Put_2.enter (by simp [SV.ok, SV.oks]) (cH.ok _ _ _ _ _ _ _ _ rfl rfl rfl) (by simp) ?_
  have c1 := fun k => ball_at n has M c hw hl 1 2 (by decide) k
  have hmem : ∀ x, x ∈ osorted (vals M) → x.dot.wf := fun x hx => hd x ((osorted_perm _).mem_iff.1 hx)
  have hlen : (osorted (vals M)).length < 1000000 := by rw [(osorted_perm _).length_eq, vals_len]; exact hl
  have hf := find_idxQ (mayB has) (osorted (vals M))
  have c2 : ∀ k, SCd Tryd.prog slices_IndexFunc_Lapi_Op_api_Op.f [ops (osorted (vals M)), .fn (.func buffer_Buffer_may.f) [.ptr 1 0] []] (cH 0 1 2 n has M c) k 0 (i64 (idxQ (mayB has) (osorted (vals M)))) (cH 0 1 2 n has M c) := fun k => by
    have h := SB.atL [0, 1, 2] (indexB_sb (n := n) (has := has) (M := M) (c := c) (p := mayB has) (l := osorted (vals M)) (fun x hx k => may_cH n has hv M c x (hmem x hx) k) (by omega)) (by decide) (fun i hi => cH.out n has M c i (by simpa using hi)) k
    simpa [SV.rens, SV.ren, atN, cH.ren] using h
  unfold nextB
  generalize osorted (vals M) = L at c1 c2 hf hmem hlen ⊢
  simp only [cH, bH] at c1 c2 ⊢
  dsimp only [buffer_Buffer_Put_2.s, Co.M, Co.G, Co.J, Co.H, Co.N, Co.F, Co.C, Co.Z, Co.B, Co.b8, Co.b32, Co.b64, Co.i6, Co.z8, Co.z29]
  refine SW.seq ?_
  (refine SW.regL [0, 1, 2, 3, 4, 12] mixed ?_; (repeat (first | refine RW.ro bq_tt (h := ?_) | refine RW.skip (h := ?_) | refine RW.op bq_tt (h := ?_) | refine RW.opN bq_tt (h := ?_) | refine RW.skip0 (h := ?_))); refine RW.nil ⟨by kernel_rfl, Pruned.mk (h := ?_)⟩)
  refine SW.seq ?_
  (refine SW.regL [0, 1, 2, 3, 4, 12] mixed ?_; (repeat (first | refine RW.ro bq_tt (h := ?_) | refine RW.skip (h := ?_) | refine RW.op bq_tt (h := ?_) | refine RW.opN bq_tt (h := ?_) | refine RW.skip0 (h := ?_) | (refine RW.callC (h := ?_); (first | refine CallP.mk bq_tt (hc := c1 _) (h := ?_))))); refine RW.nil ⟨by kernel_rfl, Pruned.mk (h := ?_)⟩)
  refine SW.seq ?_
  cases hx : L.findIdx? (mayB has) with
  | none =>
    rw [hx] at hf
    have e1 : idxQ (mayB has) L = -1 := by unfold idxQ; rw [hx]
    rw [e1] at c2
    rw [show L.find? (mayB has) = none from hf]
    (refine SW.regL [0, 1, 2, 3, 4, 12] mixed ?_; (repeat (first | refine RW.ro bq_tt (h := ?_) | refine RW.skip (h := ?_) | refine RW.op bq_tt (h := ?_) | refine RW.opN bq_tt (h := ?_) | refine RW.skip0 (h := ?_) | (refine RW.callC (h := ?_); (first | refine CallP.mk bq_tt (hc := c2 _) (h := ?_))))); refine RW.nil ⟨by kernel_rfl, Pruned.mk (h := ?_)⟩)
    refine SW.seq (SW.seq ?_)
    (refine SW.regL [0, 1, 2, 3, 4, 12] mixed ?_; (repeat (first | refine RW.ro bq_tt (h := ?_) | refine RW.skip (h := ?_) | refine RW.op bq_tt (h := ?_) | refine RW.opN bq_tt (h := ?_) | refine RW.skip0 (h := ?_))); refine RW.nil ⟨by kernel_rfl, Pruned.mk (h := ?_)⟩)
    refine SW.condT rfl (SW.seq ?_)
    (refine SW.regL [0, 1, 2, 3, 4, 12] mixed ?_; (repeat (first | refine RW.ro bq_tt (h := ?_) | refine RW.skip (h := ?_) | refine RW.op bq_tt (h := ?_) | refine RW.opN bq_tt (h := ?_) | refine RW.skip0 (h := ?_))); refine RW.nil ⟨by kernel_rfl, Pruned.mk (h := ?_)⟩)
    refine SW.ret ?_
    exact End.mk (cH 0 1 2 n has M c) (h4 := ⟨rfl, rfl⟩) (h6 := cH.ok _ _ _ _ _ _ _ _ rfl rfl rfl)
  | some i =>
    rw [hx] at hf
    obtain ⟨x, hx1, hx2⟩ := hf
    have e1 : idxQ (mayB has) L = (i : Int) := by unfold idxQ; rw [hx]
    rw [e1] at c2
    rw [hx2]
    have e2 : decide ((i : Int) < 0) = false := by simp
    have hlt := lt_of_get hx1
    (refine SW.regL [0, 1, 2, 3, 4, 12] mixed ?_; (repeat (first | refine RW.ro bq_tt (h := ?_) | refine RW.skip (h := ?_) | refine RW.op bq_tt (h := ?_) | refine RW.opN bq_tt (h := ?_) | refine RW.skip0 (h := ?_) | (refine RW.callC (h := ?_); (first | refine CallP.mk bq_tt (hc := c2 _) (h := ?_))))); refine RW.nil ⟨by kernel_rfl, Pruned.mk (h := ?_)⟩)
    refine SW.seq (SW.seq ?_)
    (refine SW.regL [0, 1, 2, 3, 4, 12] mixed ?_; (repeat (first | refine RW.ro (e2) (h := ?_) | refine RW.skip (h := ?_) | refine RW.op (e2) (h := ?_) | refine RW.opN (e2) (h := ?_) | refine RW.skip0 (h := ?_))); refine RW.nil ⟨by kernel_rfl, Pruned.mk (h := ?_)⟩)
    refine SW.condF rfl (SW.skip (SW.seq ?_))
    (have fx := (And.intro (op_at hx1) (op_room0 hx1)); refine SW.regL [0, 1, 2, 3, 4, 12] mixed ?_; (repeat (first | refine RW.ro fx (h := ?_) | refine RW.skip (h := ?_) | refine RW.op fx (h := ?_) | refine RW.opN fx (h := ?_) | refine RW.skip0 (h := ?_))); refine RW.nil ⟨by kernel_rfl, Pruned.mk (h := ?_)⟩)
    refine SW.ret ?_
    exact End.mk (cH 0 1 2 n has M c) (h4 := ⟨rfl, rfl⟩) (h6 := cH.ok _ _ _ _ _ _ _ _ rfl rfl rfl)
theorem next_at9 {n : Nat} {has : Vec} (hv : has.wf) {M : MM Dt OpD} {c : Nat} (hw : WB M c) (hl : M.length < 1000000) (hd : ∀ o, o ∈ vals M → o.dot.wf) (q b m : Nat) (h3 : [q, b, m].Nodup) (k : Nat) :
    SCd Tryd.prog buffer_Buffer_Put_2.f [.ptr q 0] (cH q b m n has M c) k 0 (.tup [.agg ((nextB has (vals M)).getD OpD.zero).cells, bl (nextB has (vals M)).isSome]) (cH q b m n has M c) := by
  have h := SB.atL [q, b, m] (next_sb (n := n) hv hw hl hd) h3 (fun i hi => cH.out n has M c i (by simpa using hi)) k
  have e : ∀ o : OpD, SV.rens (atN [q, b, m] k) o.cells = o.cells := fun o => SV.rens_d _
  simpa [SV.rens, SV.ren, atN, cH.ren, e] using h
end Go.Proofs.YtnakpdoioammhaaDoor
