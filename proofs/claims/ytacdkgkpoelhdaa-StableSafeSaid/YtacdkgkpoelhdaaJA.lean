/-
  Trees of credentials: what stands below them: orders of dots, what vectors cover, what is found in rows.
-/
import Derived.Test.YtacdkgkpoelhdaaJV
import Derived.Test.YtacdkgkpoelhdaaJ5
import Derived.Test.YtacdkgkpoelhdaaJ4
import Derived.Test.YtacdkgkpoelhdaaJ6
set_option linter.unusedSectionVars false
set_option linter.unusedVariables false
set_option linter.unusedSimpArgs false
namespace Go.Proofs.Ytacdkgkpoelhdaa
open Go.Sl Go.Proofs
attribute [local irreducible] SW RW SCd SC CallP Pruned
theorem may_ok (r n : Int) : Go.Sl.Pure Try.prog dot_May.f [.agg [.d (.int .u8 r), .d (.int .u32 n)]] (bl (decide (r < 8) && decide (n > 0))) := by
  refine dot_May.enter (by first | rfl | simp [SV.ok, SV.oks]) (by first | rfl | simp [Hp.ok, Ob.ok, SV.ok, SV.oks, Vec.cells_ok]) (by simp) ?_
  unfold dot_May.s
  rcases h1 : decide (r < 8) with _ | _
  · (repeat (first | refine SW.seq ?_ | refine SW.block ?_ | (refine SW.regL [0, 1, 2] mixed ?_; (repeat (first | refine RW.ro (h1) (h := ?_) | refine RW.skip (h := ?_) | refine RW.op (h1) (h := ?_) | refine RW.opN (h1) (h := ?_) | refine RW.skip0 (h := ?_))); refine RW.nil ⟨by kernel_rfl, Pruned.mk (h := ?_)⟩) | refine SW.skip ?_ | refine SW.exit ?_ | refine SW.ret ?_ | refine SW.condT rfl ?_ | refine SW.condF rfl ?_))
    exact End.mk [] (h4 := ⟨rfl, rfl⟩)
  · (repeat (first | refine SW.seq ?_ | refine SW.block ?_ | (refine SW.regL [0, 1, 2] mixed ?_; (repeat (first | refine RW.ro (h1) (h := ?_) | refine RW.skip (h := ?_) | refine RW.op (h1) (h := ?_) | refine RW.opN (h1) (h := ?_) | refine RW.skip0 (h := ?_))); refine RW.nil ⟨by kernel_rfl, Pruned.mk (h := ?_)⟩) | refine SW.skip ?_ | refine SW.exit ?_ | refine SW.ret ?_ | refine SW.condT rfl ?_ | refine SW.condF rfl ?_))
    exact End.mk [] (h4 := ⟨rfl, rfl⟩)
theorem rmay_ok (r n : Int) : Go.Sl.Pure Try.prog ref03_May.f [.agg [.d (.int .u8 r), .d (.int .u32 n)]] (bl (decide (r ≤ 7) && decide (n ≥ 1))) := by
  refine ref03_May.enter (by first | rfl | simp [SV.ok, SV.oks]) (by first | rfl | simp [Hp.ok, Ob.ok, SV.ok, SV.oks, Vec.cells_ok]) (by simp) ?_
  unfold ref03_May.s
  rcases h1 : decide (r ≤ 7) with _ | _
  · (repeat (first | refine SW.seq ?_ | refine SW.block ?_ | (refine SW.regL [0, 1, 2] mixed ?_; (repeat (first | refine RW.ro (h1) (h := ?_) | refine RW.skip (h := ?_) | refine RW.op (h1) (h := ?_) | refine RW.opN (h1) (h := ?_) | refine RW.skip0 (h := ?_))); refine RW.nil ⟨by kernel_rfl, Pruned.mk (h := ?_)⟩) | refine SW.skip ?_ | refine SW.exit ?_ | refine SW.ret ?_ | refine SW.condT rfl ?_ | refine SW.condF rfl ?_))
    exact End.mk [] (h4 := ⟨rfl, rfl⟩)
  · (repeat (first | refine SW.seq ?_ | refine SW.block ?_ | (refine SW.regL [0, 1, 2] mixed ?_; (repeat (first | refine RW.ro (h1) (h := ?_) | refine RW.skip (h := ?_) | refine RW.op (h1) (h := ?_) | refine RW.opN (h1) (h := ?_) | refine RW.skip0 (h := ?_))); refine RW.nil ⟨by kernel_rfl, Pruned.mk (h := ?_)⟩) | refine SW.skip ?_ | refine SW.exit ?_ | refine SW.ret ?_ | refine SW.condT rfl ?_ | refine SW.condF rfl ?_))
    exact End.mk [] (h4 := ⟨rfl, rfl⟩)
theorem may_at (d : Dt) (k : Nat) : SCd Try.prog dot_May.f [.agg d.cells] [] k 0 (bl d.may) [] := by
  have := (may_ok d.r d.n).sc rfl k
  have e : d.may = (decide ((d.r : Int) < 8) && decide ((d.n : Int) > 0)) := by
    unfold Dt.may
    rw [Bool.eq_iff_iff]; simp only [Bool.and_eq_true, decide_eq_true_eq]; omega
  rw [e]; exact this
theorem rmay_at (d : Dt) (k : Nat) : SCd Try.prog ref03_May.f [.agg d.cells] [] k 0 (bl d.may) [] := by
  have := (rmay_ok d.r d.n).sc rfl k
  have e : d.may = (decide ((d.r : Int) ≤ 7) && decide ((d.n : Int) ≥ 1)) := by
    unfold Dt.may
    rw [Bool.eq_iff_iff]; simp only [Bool.and_eq_true, decide_eq_true_eq]; omega
  rw [e]; exact this
theorem covers_ok (v : Vec) (d : Dt) : Go.Sl.Pure Try.prog vector_Covers.f [.agg v.cells, .agg d.cells] (bl (v.covers d)) := by
  refine vector_Covers.enter (by first | rfl | simp [SV.ok, SV.oks]) (by first | rfl | simp [Hp.ok, Ob.ok, SV.ok, SV.oks, Vec.cells_ok]) (by simp) ?_
  unfold vector_Covers.s
  rcases h : d.may with _ | _
  · (repeat (first | refine SW.seq ?_ | refine SW.block ?_ | (refine SW.regL [0, 1, 2, 3, 4] mixed ?_; (repeat (first | refine RW.ro (h) (h := ?_) | refine RW.skip (h := ?_) | refine RW.op (h) (h := ?_) | refine RW.opN (h) (h := ?_) | refine RW.skip0 (h := ?_) | (refine RW.callC (h := ?_); (first | refine CallP.mk (h) (hc := may_at _ _) (h := ?_) | refine CallP.mk (h) (hc := rmay_at _ _) (h := ?_))))); refine RW.nil ⟨by kernel_rfl, Pruned.mk (h := ?_)⟩) | refine SW.skip ?_ | refine SW.exit ?_ | refine SW.ret ?_ | refine SW.condT rfl ?_ | refine SW.condF rfl ?_))
    have e : v.covers d = false := by unfold Vec.covers; rw [h]; rfl
    exact End.mk [] (h4 := ⟨by rw [e]; rfl, rfl⟩)
  · have hr : d.r < 8 := by
      have := h
      simp only [Dt.may, Bool.and_eq_true, decide_eq_true_eq] at this
      exact this.1
    have e : v.covers d = decide ((v.get d.r : Int) ≥ d.n) := by
      unfold Vec.covers
      rw [h, Bool.true_and, Bool.eq_iff_iff]; simp only [decide_eq_true_eq]; omega
    (repeat (first | refine SW.seq ?_ | refine SW.block ?_ | (have fx := (And.intro (h) (Vec.cells_get v hr)); refine SW.regL [0, 1, 2, 3, 4] mixed ?_; (repeat (first | refine RW.ro fx (h := ?_) | refine RW.skip (h := ?_) | refine RW.op fx (h := ?_) | refine RW.opN fx (h := ?_) | refine RW.skip0 (h := ?_) | (refine RW.callC (h := ?_); (first | refine CallP.mk fx (hc := may_at _ _) (h := ?_) | refine CallP.mk fx (hc := rmay_at _ _) (h := ?_))))); refine RW.nil ⟨by kernel_rfl, Pruned.mk (h := ?_)⟩) | refine SW.skip ?_ | refine SW.exit ?_ | refine SW.ret ?_ | refine SW.condT rfl ?_ | refine SW.condF rfl ?_))
    exact End.mk [] (h4 := ⟨by rw [e]; rfl, rfl⟩)
theorem rcovers_ok (v : Vec) (d : Dt) : Go.Sl.Pure Try.prog ref04_Covers.f [.agg v.cells, .agg d.cells] (bl (v.covers d)) := by
  refine ref04_Covers.enter (by first | rfl | simp [SV.ok, SV.oks]) (by first | rfl | simp [Hp.ok, Ob.ok, SV.ok, SV.oks, Vec.cells_ok]) (by simp) ?_
  unfold ref04_Covers.s
  rcases h : d.may with _ | _
  · (repeat (first | refine SW.seq ?_ | refine SW.block ?_ | (refine SW.regL [0, 1, 2, 3, 4] mixed ?_; (repeat (first | refine RW.ro (h) (h := ?_) | refine RW.skip (h := ?_) | refine RW.op (h) (h := ?_) | refine RW.opN (h) (h := ?_) | refine RW.skip0 (h := ?_) | (refine RW.callC (h := ?_); (first | refine CallP.mk (h) (hc := may_at _ _) (h := ?_) | refine CallP.mk (h) (hc := rmay_at _ _) (h := ?_))))); refine RW.nil ⟨by kernel_rfl, Pruned.mk (h := ?_)⟩) | refine SW.skip ?_ | refine SW.exit ?_ | refine SW.ret ?_ | refine SW.condT rfl ?_ | refine SW.condF rfl ?_))
    have e : v.covers d = false := by unfold Vec.covers; rw [h]; rfl
    exact End.mk [] (h4 := ⟨by rw [e]; rfl, rfl⟩)
  · have hr : d.r < 8 := by
      have := h
      simp only [Dt.may, Bool.and_eq_true, decide_eq_true_eq] at this
      exact this.1
    have e : v.covers d = decide ((d.n : Int) ≤ v.get d.r) := by
      unfold Vec.covers
      rw [h, Bool.true_and, Bool.eq_iff_iff]; simp only [decide_eq_true_eq]; omega
    (repeat (first | refine SW.seq ?_ | refine SW.block ?_ | (have fx := (And.intro (h) (Vec.cells_get v hr)); refine SW.regL [0, 1, 2, 3, 4] mixed ?_; (repeat (first | refine RW.ro fx (h := ?_) | refine RW.skip (h := ?_) | refine RW.op fx (h := ?_) | refine RW.opN fx (h := ?_) | refine RW.skip0 (h := ?_) | (refine RW.callC (h := ?_); (first | refine CallP.mk fx (hc := may_at _ _) (h := ?_) | refine CallP.mk fx (hc := rmay_at _ _) (h := ?_))))); refine RW.nil ⟨by kernel_rfl, Pruned.mk (h := ?_)⟩) | refine SW.skip ?_ | refine SW.exit ?_ | refine SW.ret ?_ | refine SW.condT rfl ?_ | refine SW.condF rfl ?_))
    exact End.mk [] (h4 := ⟨by rw [e]; rfl, rfl⟩)
theorem covers_at (v : Vec) (d : Dt) (k : Nat) : SCd Try.prog vector_Covers.f [.agg v.cells, .agg d.cells] [] k 0 (bl (v.covers d)) [] := (covers_ok v d).sc rfl k
theorem rcovers_at (v : Vec) (d : Dt) (k : Nat) : SCd Try.prog ref04_Covers.f [.agg v.cells, .agg d.cells] [] k 0 (bl (v.covers d)) [] := (rcovers_ok v d).sc rfl k
theorem rbefore_ok (a b : OpD) : Go.Sl.Pure Try.prog ref10_Before.f [.agg a.cells, .agg b.cells] (bl (a.before b)) := by
  refine ref10_Before.enter (by first | rfl | simp [SV.ok, SV.oks]) (by first | rfl | simp [Hp.ok, Ob.ok, SV.ok, SV.oks, Vec.cells_ok]) (by simp) ?_
  unfold ref10_Before.s
  (repeat (first | refine SW.seq ?_ | refine SW.block ?_ | (refine SW.regL [0, 1, 2, 3, 4] mixed ?_; (repeat (first | refine RW.ro bq_tt (h := ?_) | refine RW.skip (h := ?_) | refine RW.op bq_tt (h := ?_) | refine RW.opN bq_tt (h := ?_) | refine RW.skip0 (h := ?_) | (refine RW.callC (h := ?_); (first | refine CallP.mk bq_tt (hc := covers_at _ _ _) (h := ?_) | refine CallP.mk bq_tt (hc := rcovers_at _ _ _) (h := ?_))))); refine RW.nil ⟨by kernel_rfl, Pruned.mk (h := ?_)⟩) | refine SW.skip ?_ | refine SW.exit ?_ | refine SW.ret ?_ | refine SW.condT rfl ?_ | refine SW.condF rfl ?_))
  exact End.mk [] (h4 := ⟨rfl, rfl⟩)
theorem rbefore_at (a b : OpD) (k : Nat) : SCd Try.prog ref10_Before.f [.agg a.cells, .agg b.cells] [] k 0 (bl (a.before b)) [] := (rbefore_ok a b).sc rfl k
end Go.Proofs.Ytacdkgkpoelhdaa
namespace Go.Proofs.Ytacdkgkpoelhdaa
open Go.Sl Go.Proofs
section
attribute [local irreducible] SW RW SCd SC CallP Pruned
theorem op_load {l : List OpD} {i : Nat} {x : OpD} (h : l[i]? = some x) : List.take 2 (List.drop (i * 29) (List.map SV.d (l.flatMap OpD.ds))) = x.dot.cells := by
  have := op_part h (j := 0) (n := 2) (by omega)
  rw [Nat.add_zero, List.drop_zero] at this
  rw [this]; rfl
theorem op_roomd {l : List OpD} {i : Nat} {x : OpD} (h : l[i]? = some x) : (i * 29 + 2 ≤ (List.map SV.d (l.flatMap OpD.ds)).length) = True := eq_true (by
  have := lt_of_get h
  rw [List.length_map, ops_len]
  omega)
end
end Go.Proofs.Ytacdkgkpoelhdaa
namespace Go.Proofs.Ytacdkgkpoelhdaa
open Go.Sl Go.Proofs
section
attribute [local irreducible] SW RW SCd SC CallP Pruned
def nlines (o : OpD) : Nat := match o.lines with
  | .sl n _ => n
  | _ => 0
def lrow (o : OpD) : Prop := ∃ n cs, o.lines = .sl n cs ∧ n ≤ 9223372036854775807
def linesTo (l : List OpD) : Nat → Int
  | 0 => 0
  | i + 1 => IntKind.i64.wrap (linesTo l i + ((l[i]?).map nlines).getD 0)
def greatV (l : List OpD) : Bool := decide (l.length > 80) || decide (linesTo l (min l.length 100) > 300)
theorem op_lines {l : List OpD} {i : Nat} {x : OpD} (h : l[i]? = some x) : (List.map SV.d (l.flatMap OpD.ds))[i * 29 + 28]? = some (.d x.lines) := by rw [op_get h (by omega)]; rfl
theorem great_ok (l : List OpD) (hl : ∀ x, x ∈ l → lrow x) (hlen : l.length ≤ 9223372036854775807) : Go.Sl.Pure Try.prog ref10_Great.f [ops l] (bl (greatV l)) := by
  refine ref10_Great.enter (by first | rfl | simp [SV.ok, SV.oks]) (by first | rfl | simp [Hp.ok, Ob.ok, SV.ok, SV.oks, Vec.cells_ok]) (by simp) ?_
  unfold ref10_Great.s
  (repeat (first | refine SW.seq ?_ | refine SW.block ?_ | (refine SW.regL [0, 2, 3, 4, 12] mixed ?_; (repeat (first | refine RW.ro bq_tt (h := ?_) | refine RW.skip (h := ?_) | refine RW.op bq_tt (h := ?_) | refine RW.opN bq_tt (h := ?_) | refine RW.skip0 (h := ?_))); refine RW.nil ⟨by kernel_rfl, Pruned.mk (h := ?_)⟩) | refine SW.skip ?_ | refine SW.exit ?_ | refine SW.ret ?_ | refine SW.condT rfl ?_ | refine SW.condF rfl ?_))
  refine SW.loopA (α := {i : Nat // i ≤ l.length ∧ i ≤ 100}) (fun i => ⟨[(4, i64 i.1), (0, ops l), (3, i64 (linesTo l i.1))], [], 0⟩) (fun i => 100 - i.1) ⟨0, by omega, by omega⟩ id (show linesTo l 0 = 0 from rfl) (round := ?_)
  rintro ⟨i, hi, hi2⟩
  by_cases h : i < l.length
  · have h1 : decide ((i : Int) < l.length) = true := by simp only [decide_eq_true_eq]; omega
    by_cases h2 : i < 100
    · have h3 : decide ((i : Int) < 100) = true := by simp only [decide_eq_true_eq]; omega
      obtain ⟨x, hx⟩ := get_of_lt h
      obtain ⟨n, cs, hx1, hx2⟩ := hl x (List.mem_of_getElem? hx)
      have e2 : IntKind.i64.wrap ((i : Int) + 1) = ((i + 1 : Nat) : Int) := wrap_i64 _ (by omega)
      have e3 : IntKind.i64.wrap (linesTo l i + (n : Int)) = linesTo l (i + 1) := by simp [linesTo, hx, nlines, hx1]
      (repeat (first | refine SW.seq ?_ | refine SW.block ?_ | (have fx := (And.intro (h1) (And.intro (h3) (And.intro (op_lines hx) (And.intro (hx1) (And.intro (e2) (e3)))))); refine SW.regL [0, 2, 3, 4, 12] mixed ?_; (repeat (first | refine RW.ro fx (h := ?_) | refine RW.skip (h := ?_) | refine RW.op fx (h := ?_) | refine RW.opN fx (h := ?_) | refine RW.skip0 (h := ?_))); refine RW.nil ⟨by kernel_rfl, Pruned.mk (h := ?_)⟩) | refine SW.skip ?_ | refine SW.exit ?_ | refine SW.ret ?_ | refine SW.condT rfl ?_ | refine SW.condF rfl ?_))
      exact Next.mk ⟨i + 1, by omega, by omega⟩ id bq_tt
    · have h3 : decide ((i : Int) < 100) = false := by simp only [decide_eq_false_iff_not]; omega
      have h4 : decide ((l.length : Int) > 80) = true := by simp only [decide_eq_true_eq]; omega
      (repeat (first | refine SW.seq ?_ | refine SW.block ?_ | (have fx := (And.intro (h1) (And.intro (h3) (h4))); refine SW.regL [0, 2, 3, 4, 12] mixed ?_; (repeat (first | refine RW.ro fx (h := ?_) | refine RW.skip (h := ?_) | refine RW.op fx (h := ?_) | refine RW.opN fx (h := ?_) | refine RW.skip0 (h := ?_))); refine RW.nil ⟨by kernel_rfl, Pruned.mk (h := ?_)⟩) | refine SW.skip ?_ | refine SW.exit ?_ | refine SW.ret ?_ | refine SW.condT rfl ?_ | refine SW.condF rfl ?_))
      have : greatV l = true := by unfold greatV; rw [show decide (l.length > 80) = true by simp; omega]; rfl
      exact End.mk [] (h4 := ⟨by rw [this]; rfl, rfl⟩)
  · have h1 : decide ((i : Int) < l.length) = false := by simp only [decide_eq_false_iff_not]; omega
    have e : min l.length 100 = i := by omega
    rcases h4 : decide ((l.length : Int) > 80) with _ | _
    · (repeat (first | refine SW.seq ?_ | refine SW.block ?_ | (refine SW.regL [0, 2, 3, 4, 12] mixed ?_; (repeat (first | refine RW.ro (And.intro (h1) (h4)) (h := ?_) | refine RW.skip (h := ?_) | refine RW.op (And.intro (h1) (h4)) (h := ?_) | refine RW.opN (And.intro (h1) (h4)) (h := ?_) | refine RW.skip0 (h := ?_))); refine RW.nil ⟨by kernel_rfl, Pruned.mk (h := ?_)⟩) | refine SW.skip ?_ | refine SW.exit ?_ | refine SW.ret ?_ | refine SW.condT rfl ?_ | refine SW.condF rfl ?_))
      have : greatV l = decide (linesTo l i > 300) := by
        unfold greatV; rw [e, show decide (l.length > 80) = false by simp at h4 ⊢; omega]; rfl
      exact End.mk [] (h4 := ⟨by rw [this]; rfl, rfl⟩)
    · (repeat (first | refine SW.seq ?_ | refine SW.block ?_ | (refine SW.regL [0, 2, 3, 4, 12] mixed ?_; (repeat (first | refine RW.ro (And.intro (h1) (h4)) (h := ?_) | refine RW.skip (h := ?_) | refine RW.op (And.intro (h1) (h4)) (h := ?_) | refine RW.opN (And.intro (h1) (h4)) (h := ?_) | refine RW.skip0 (h := ?_))); refine RW.nil ⟨by kernel_rfl, Pruned.mk (h := ?_)⟩) | refine SW.skip ?_ | refine SW.exit ?_ | refine SW.ret ?_ | refine SW.condT rfl ?_ | refine SW.condF rfl ?_))
      have : greatV l = true := by unfold greatV; rw [show decide (l.length > 80) = true by simp at h4 ⊢; omega]; rfl
      exact End.mk [] (h4 := ⟨by rw [this]; rfl, rfl⟩)
theorem great_at (l : List OpD) (hl : ∀ x, x ∈ l → lrow x) (hlen : l.length ≤ 9223372036854775807) (k : Nat) : SCd Try.prog ref10_Great.f [ops l] [] k 0 (bl (greatV l)) [] := (great_ok l hl hlen).sc rfl k
theorem great_len {l : List OpD} (h : greatV l = false) : l.length ≤ 80 := by
  unfold greatV at h
  simp only [Bool.or_eq_false_iff, decide_eq_false_iff_not] at h
  omega
end
end Go.Proofs.Ytacdkgkpoelhdaa
namespace Go.Proofs.Ytacdkgkpoelhdaa
open Go.Sl Go.Proofs
attribute [local irreducible] SW RW SCd SC CallP Pruned
theorem op_r {l : List OpD} {i : Nat} {x : OpD} (h : l[i]? = some x) : (List.map SV.d (l.flatMap OpD.ds))[i * 29]? = some (u8 x.dot.r) := by
  have := op_get h (j := 0) (by omega)
  rw [Nat.add_zero] at this
  rw [this]; rfl
theorem op_n {l : List OpD} {i : Nat} {x : OpD} (h : l[i]? = some x) : (List.map SV.d (l.flatMap OpD.ds))[i * 29 + 1]? = some (u32 x.dot.n) := by rw [op_get h (by omega)]; rfl
set_option maxHeartbeats 2000000 in
theorem known10_ok (l : List OpD) (hl : l.length ≤ 9223372036854775807) : Go.Sl.Pure Try.prog ref10_Known.f [ops l] (.agg (knownV l).cells) := by
  refine ref10_Known.enter (by first | rfl | simp [SV.ok, SV.oks]) (by first | rfl | simp [Hp.ok, Ob.ok, SV.ok, SV.oks, Vec.cells_ok]) (by simp) ?_
  unfold ref10_Known.s
  refine SW.seq ?_
  (refine SW.regL [0, 2, 3, 4, 8, 34] mixed ?_; (repeat (first | refine RW.ro bq_tt (h := ?_) | refine RW.skip (h := ?_) | refine RW.op bq_tt (h := ?_) | refine RW.opN bq_tt (h := ?_) | refine RW.skip0 (h := ?_))); refine RW.nil ⟨by kernel_rfl, Pruned.mk (h := ?_)⟩)
  refine SW.seq ?_
  (refine SW.regL [0, 2, 3, 4, 8, 34] mixed ?_; (repeat (first | refine RW.ro bq_tt (h := ?_) | refine RW.skip (h := ?_) | refine RW.op bq_tt (h := ?_) | refine RW.opN bq_tt (h := ?_) | refine RW.skip0 (h := ?_))); refine RW.nil ⟨by kernel_rfl, Pruned.mk (h := ?_)⟩)
  refine SW.seq (SW.seq ?_)
  (refine SW.regL [0, 2, 3, 4, 8, 34] mixed ?_; (repeat (first | refine RW.ro bq_tt (h := ?_) | refine RW.skip (h := ?_) | refine RW.op bq_tt (h := ?_) | refine RW.opN bq_tt (h := ?_) | refine RW.skip0 (h := ?_))); refine RW.nil ⟨by kernel_rfl, Pruned.mk (h := ?_)⟩)
  refine SW.block ?_
  refine SW.loopA (α := {i : Nat // i ≤ l.length}) (fun i => ⟨[(4, i64 i.1), (0, ops l), (2, .ptr 0 0), (3, .ptr 1 0)], [(1, .box 25 (knownV (l.take i.1)).cells), (0, .box 25 Vec.zero.cells)], 2⟩) (fun i => l.length - i.1) ⟨0, by omega⟩ id (And.intro (show knownV [] = Vec.zero from rfl) bq_tt) (round := ?_)
  rintro ⟨i, hi⟩
  dsimp only
  by_cases h : i < l.length
  · have h1 : decide ((i : Int) < l.length) = true := by simp only [decide_eq_true_eq]; omega
    obtain ⟨x, hx⟩ := get_of_lt h
    have e2 : IntKind.i64.wrap ((i : Int) + 1) = ((i + 1 : Nat) : Int) := wrap_i64 _ (by omega)
    have e1 : l.take (i + 1) = l.take i ++ [x] := take_snoc hx
    have hsn := knownV_snoc (l.take i) x
    rw [← e1] at hsn
    unfold knStep at hsn
    generalize knownV (l.take i) = v at hsn ⊢
    by_cases hr : x.dot.r < 8
    · have e4 : decide ((x.dot.r : Int) < 8) = true := by simp; omega
      rw [if_pos hr] at hsn
      by_cases hv : v.get x.dot.r < x.dot.n
      · have e5 : decide ((x.dot.n : Int) > ((v.get x.dot.r : Nat) : Int)) = true := by simp; omega
        rw [Nat.max_eq_right (by omega)] at hsn
        have e6 : spl v.cells x.dot.r [.d (.int .u32 (x.dot.n : Int))] = (v.set x.dot.r x.dot.n).cells := by rw [spl_one]; exact Vec.cells_set v hr _
        (repeat (first | refine SW.seq ?_ | refine SW.block ?_ | (have fx := (And.intro (h1) (And.intro (op_r hx) (And.intro (op_n hx) (And.intro (e2) (And.intro (e4) (And.intro (Vec.cells_get v hr) (And.intro (e5) (e6)))))))); refine SW.regL [0, 2, 3, 4, 8, 34] mixed ?_; (repeat (first | refine RW.ro fx (h := ?_) | refine RW.skip (h := ?_) | refine RW.op fx (h := ?_) | refine RW.opN fx (h := ?_) | refine RW.skip0 (h := ?_))); refine RW.nil ⟨by kernel_rfl, Pruned.mk (h := ?_)⟩) | refine SW.skip ?_ | refine SW.exit ?_ | refine SW.ret ?_ | refine SW.condT rfl ?_ | refine SW.condF rfl ?_))
        dsimp only
        exact ⟨⟨i + 1, by omega⟩, id, by show l.length - (i + 1) < _; omega, Weak.mk (And.intro hsn bq_tt)⟩
      · have e5 : decide ((x.dot.n : Int) > ((v.get x.dot.r : Nat) : Int)) = false := by simp; omega
        rw [Nat.max_eq_left (by omega)] at hsn
        have e7 : v.set x.dot.r (v.get x.dot.r) = v := Vec.ext' fun q hq => by rw [Vec.set_get _ _ _ hq]; split <;> simp_all
        rw [e7] at hsn
        (repeat (first | refine SW.seq ?_ | refine SW.block ?_ | (have fx := (And.intro (h1) (And.intro (op_r hx) (And.intro (op_n hx) (And.intro (e2) (And.intro (e4) (And.intro (Vec.cells_get v hr) (e5))))))); refine SW.regL [0, 2, 3, 4, 8, 34] mixed ?_; (repeat (first | refine RW.ro fx (h := ?_) | refine RW.skip (h := ?_) | refine RW.op fx (h := ?_) | refine RW.opN fx (h := ?_) | refine RW.skip0 (h := ?_))); refine RW.nil ⟨by kernel_rfl, Pruned.mk (h := ?_)⟩) | refine SW.skip ?_ | refine SW.exit ?_ | refine SW.ret ?_ | refine SW.condT rfl ?_ | refine SW.condF rfl ?_))
        dsimp only
        exact ⟨⟨i + 1, by omega⟩, id, by show l.length - (i + 1) < _; omega, Weak.mk (And.intro hsn bq_tt)⟩
    · have e4 : decide ((x.dot.r : Int) < 8) = false := by simp; omega
      rw [if_neg hr] at hsn
      (repeat (first | refine SW.seq ?_ | refine SW.block ?_ | (have fx := (And.intro (h1) (And.intro (op_r hx) (And.intro (op_n hx) (And.intro (e2) (e4))))); refine SW.regL [0, 2, 3, 4, 8, 34] mixed ?_; (repeat (first | refine RW.ro fx (h := ?_) | refine RW.skip (h := ?_) | refine RW.op fx (h := ?_) | refine RW.opN fx (h := ?_) | refine RW.skip0 (h := ?_))); refine RW.nil ⟨by kernel_rfl, Pruned.mk (h := ?_)⟩) | refine SW.skip ?_ | refine SW.exit ?_ | refine SW.ret ?_ | refine SW.condT rfl ?_ | refine SW.condF rfl ?_))
      dsimp only
      exact ⟨⟨i + 1, by omega⟩, id, by show l.length - (i + 1) < _; omega, Weak.mk (And.intro hsn bq_tt)⟩
  · have h1 : decide ((i : Int) < l.length) = false := by simp only [decide_eq_false_iff_not]; omega
    have h2 : i = l.length := by omega
    subst h2
    rw [List.take_length]
    (repeat (first | refine SW.seq ?_ | refine SW.block ?_ | (refine SW.regL [0, 2, 3, 4, 8, 34] mixed ?_; (repeat (first | refine RW.ro (h1) (h := ?_) | refine RW.skip (h := ?_) | refine RW.op (h1) (h := ?_) | refine RW.opN (h1) (h := ?_) | refine RW.skip0 (h := ?_))); refine RW.nil ⟨by kernel_rfl, Pruned.mk (h := ?_)⟩) | refine SW.skip ?_ | refine SW.exit ?_ | refine SW.ret ?_ | refine SW.condT rfl ?_ | refine SW.condF rfl ?_))
    exact End.mk [] (h4 := ⟨rfl, rfl⟩)
theorem known10_at (l : List OpD) (hl : l.length ≤ 9223372036854775807) (k : Nat) : SCd Try.prog ref10_Known.f [ops l] [] k 0 (.agg (knownV l).cells) [] := (known10_ok l hl).sc rfl k
end Go.Proofs.Ytacdkgkpoelhdaa
