/-
  Order: rows too great; the same operations; operations found, kept.
-/
import Derived.Test.YtemghnbbmahaaaaDoorUK
import Derived.Test.YtemghnbbmahaaaaDoorUE
import Derived.Test.YtemghnbbmahaaaaDoorU8
import Derived.Test.YtemghnbbmahaaaaDoorUC
set_option linter.unusedSectionVars false
set_option linter.unusedVariables false
set_option linter.unusedSimpArgs false
namespace Go.Proofs.YtemghnbbmahaaaaDoor
open Go.Sl Go.Proofs Go.RowKit
attribute [local irreducible] SW RW SCd SC CallP Pruned
def nlines (o : OpD) : Nat := match o.lines with
  | .sl n _ => n
  | _ => 0
def lrow (o : OpD) : Prop := ∃ n cs, o.lines = .sl n cs ∧ n ≤ 9223372036854775807
def linesTo (l : List OpD) : Nat → Int
  | 0 => 0
  | i + 1 => IntKind.i64.wrap (linesTo l i + ((l[i]?).map nlines).getD 0)
def greatV (l : List OpD) : Bool := decide (l.length > 80) || decide (linesTo l (min l.length 100) > 300)
theorem op_lines {l : List OpD} {i : Nat} {x : OpD} (h : l[i]? = some x) : (List.map SV.d (l.flatMap OpD.ds))[i * 29 + 28]? = some (.d x.lines) := by rw [op_get h (by omega)]; rfl
theorem great_ok (l : List OpD) (hl : ∀ x, x ∈ l → lrow x) (hlen : l.length ≤ 9223372036854775807) : Go.Sl.Pure Tryd.prog ref10_Great.f [ops l] (bl (greatV l)) := by
  refine ref10_Great.enter (by first | rfl | simp [SV.ok, SV.oks]) (by first | rfl | simp [Hp.ok, Ob.ok, SV.ok, SV.oks, Vec.cells_ok]) (by simp) ?_
  dsimp only [ref10_Great.s, Co.M, Co.G, Co.J, Co.H, Co.N, Co.F, Co.C, Co.Z, Co.B, Co.b8, Co.b32, Co.b64, Co.i6, Co.z8, Co.z29]
  (repeat (first | refine SW.seq ?_ | refine SW.block ?_ | refine SW.g0 [0, 2, 3, 4, 12] mixed bq_tt ?_ | refine SW.skip ?_ | refine SW.exit ?_ | refine SW.ret ?_ | refine SW.condT rfl ?_ | refine SW.condF rfl ?_))
  refine SW.loopA (α := {i : Nat // i ≤ l.length ∧ i ≤ 100}) (fun i => ⟨[(4, i64 i.1), (0, ops l), (3, i64 (linesTo l i.1))], [], 0⟩) (fun i => 100 - i.1) ⟨0, by omega, by omega⟩ id (show linesTo l 0 = 0 from rfl) (round := ?_)
  rintro ⟨i, hi, hi2⟩
  by_cases h : i < l.length
  · have h1 : decide ((i : Int) < l.length) = true := by simp only [decide_eq_true_eq]; omega
    by_cases h2 : i < 100
    · have h3 : decide ((i : Int) < 100) = true := by simp only [decide_eq_true_eq]; omega
      obtain ⟨x, hx⟩ := get_of_lt h
      obtain ⟨n, cs, hx1, hx2⟩ := hl x (List.mem_of_getElem? hx)
      have e2 : IntKind.i64.wrap ((i : Int) + 1) = ((i + 1 : Nat) : Int) := wrap_i64 _ (by omega)
      have e3 : IntKind.i64.wrap (linesTo l i + (n : Int)) = linesTo l (i + 1) := by simp [linesTo, hx, nlines, hx1]
      (repeat (first | refine SW.seq ?_ | refine SW.block ?_ | refine SW.g0 [0, 2, 3, 4, 12] mixed (And.intro (h1) (And.intro (h3) (And.intro (op_lines hx) (And.intro (hx1) (And.intro (e2) (e3)))))) ?_ | refine SW.skip ?_ | refine SW.exit ?_ | refine SW.ret ?_ | refine SW.condT rfl ?_ | refine SW.condF rfl ?_))
      exact Next.mk ⟨i + 1, by omega, by omega⟩ id bq_tt
    · have h3 : decide ((i : Int) < 100) = false := by simp only [decide_eq_false_iff_not]; omega
      have h4 : decide ((l.length : Int) > 80) = true := by simp only [decide_eq_true_eq]; omega
      (repeat (first | refine SW.seq ?_ | refine SW.block ?_ | refine SW.g0 [0, 2, 3, 4, 12] mixed (And.intro (h1) (And.intro (h3) (h4))) ?_ | refine SW.skip ?_ | refine SW.exit ?_ | refine SW.ret ?_ | refine SW.condT rfl ?_ | refine SW.condF rfl ?_))
      have : greatV l = true := by unfold greatV; rw [show decide (l.length > 80) = true by simp; omega]; rfl
      exact End.mk [] (h4 := ⟨by rw [this]; rfl, rfl⟩)
  · have h1 : decide ((i : Int) < l.length) = false := by simp only [decide_eq_false_iff_not]; omega
    have e : min l.length 100 = i := by omega
    rcases h4 : decide ((l.length : Int) > 80) with _ | _
    · (repeat (first | refine SW.seq ?_ | refine SW.block ?_ | refine SW.g0 [0, 2, 3, 4, 12] mixed (And.intro (h1) (h4)) ?_ | refine SW.skip ?_ | refine SW.exit ?_ | refine SW.ret ?_ | refine SW.condT rfl ?_ | refine SW.condF rfl ?_))
      have : greatV l = decide (linesTo l i > 300) := by
        unfold greatV; rw [e, show decide (l.length > 80) = false by simp at h4 ⊢; omega]; rfl
      exact End.mk [] (h4 := ⟨by rw [this]; rfl, rfl⟩)
    · (repeat (first | refine SW.seq ?_ | refine SW.block ?_ | refine SW.g0 [0, 2, 3, 4, 12] mixed (And.intro (h1) (h4)) ?_ | refine SW.skip ?_ | refine SW.exit ?_ | refine SW.ret ?_ | refine SW.condT rfl ?_ | refine SW.condF rfl ?_))
      have : greatV l = true := by unfold greatV; rw [show decide (l.length > 80) = true by simp at h4 ⊢; omega]; rfl
      exact End.mk [] (h4 := ⟨by rw [this]; rfl, rfl⟩)
theorem great_at (l : List OpD) (hl : ∀ x, x ∈ l → lrow x) (hlen : l.length ≤ 9223372036854775807) (k : Nat) : SCd Tryd.prog ref10_Great.f [ops l] [] k 0 (bl (greatV l)) [] := (great_ok l hl hlen).sc rfl k
theorem great_len {l : List OpD} (h : greatV l = false) : l.length ≤ 80 := by
  unfold greatV at h
  simp only [Bool.or_eq_false_iff, decide_eq_false_iff_not] at h
  omega
set_option maxHeartbeats 4000000 in
theorem same_nil (o : OpD) (hn : o.lines = .nils) : Go.Sl.Pure Tryd.prog ref05_Same.f [.agg o.cells, .agg o.cells] (bl true) := by
  refine ref05_Same.enter (by first | rfl | simp [SV.ok, SV.oks]) (by first | rfl | simp [Hp.ok, Ob.ok, SV.ok, SV.oks, Vec.cells_ok]) (by simp) ?_
  dsimp only [ref05_Same.s, Co.M, Co.G, Co.J, Co.H, Co.N, Co.F, Co.C, Co.Z, Co.B, Co.b8, Co.b32, Co.b64, Co.i6, Co.z8, Co.z29]
  have b0 : ((0 : Int) != 0) = false := by decide
  have b1 : decide ((0 : Int) < 0) = false := by decide
  have d1 : ∀ d : Dt, decide (d = d) = true := fun d => by simp
  have d2 : ∀ d : Vec, decide (d = d) = true := fun d => by simp
  have d3 : ∀ d : Int, (d == d) = true := fun d => by simp
  (repeat (first | refine SW.seq ?_ | refine SW.block ?_ | refine SW.g0 [0, 1, 2, 3, 4, 5, 12, 17, 30] mixed (And.intro (hn) (b0)) ?_ | refine SW.skip ?_ | refine SW.exit ?_ | refine SW.ret ?_ | refine SW.condT rfl ?_ | refine SW.condF rfl ?_))
  refine SW.loopA (α := Unit) (fun i => ⟨[(5, i64 0), (2, .ptr 0 0), (3, .ptr 1 0)], [(1, .box 36 o.cells), (0, .box 36 o.cells)], 2⟩) (fun i => 0) () id bq_tt (round := ?_)
  rintro ⟨⟩
  (repeat (first | refine SW.seq ?_ | refine SW.block ?_ | refine SW.g0 [0, 1, 2, 3, 4, 5, 12, 17, 30] mixed (And.intro (hn) (b1)) ?_ | refine SW.skip ?_ | refine SW.exit ?_ | refine SW.ret ?_ | refine SW.condT rfl ?_ | refine SW.condF rfl ?_))
  (repeat (first | refine SW.seq ?_ | refine SW.block ?_ | refine SW.g0 [0, 1, 2, 3, 4, 5, 12, 17, 30] mixed (And.intro (d1) (And.intro (d2) (d3))) ?_ | refine SW.skip ?_ | refine SW.exit ?_ | refine SW.ret ?_ | refine SW.condT rfl ?_ | refine SW.condF rfl ?_))
  exact End.mk [] (h4 := ⟨rfl, rfl⟩)
set_option maxHeartbeats 4000000 in
theorem same_lin (o : OpD) (hl : o.lin) : Go.Sl.Pure Tryd.prog ref05_Same.f [.agg o.cells, .agg o.cells] (bl true) := by
  have hn := hl.eq
  have hlen := hl.le
  generalize o.cl = cl at hn hlen
  refine ref05_Same.enter (by first | rfl | simp [SV.ok, SV.oks]) (by first | rfl | simp [Hp.ok, Ob.ok, SV.ok, SV.oks, Vec.cells_ok]) (by simp) ?_
  dsimp only [ref05_Same.s, Co.M, Co.G, Co.J, Co.H, Co.N, Co.F, Co.C, Co.Z, Co.B, Co.b8, Co.b32, Co.b64, Co.i6, Co.z8, Co.z29]
  have b0 : (((cl.length : Nat) : Int) != ((cl.length : Nat) : Int)) = false := by simp
  have d1 : ∀ d : Dt, decide (d = d) = true := fun d => by simp
  have d2 : ∀ d : Vec, decide (d = d) = true := fun d => by simp
  have d3 : ∀ d : Int, (d == d) = true := fun d => by simp
  (repeat (first | refine SW.seq ?_ | refine SW.block ?_ | refine SW.g0 [0, 1, 2, 3, 4, 5, 12, 17, 30] mixed (And.intro (hn) (b0)) ?_ | refine SW.skip ?_ | refine SW.exit ?_ | refine SW.ret ?_ | refine SW.condT rfl ?_ | refine SW.condF rfl ?_))
  refine SW.loopA (α := {i : Nat // i ≤ cl.length}) (fun i => ⟨[(5, i64 i.1), (2, .ptr 0 0), (3, .ptr 1 0)], [(1, .box 36 o.cells), (0, .box 36 o.cells)], 2⟩) (fun i => cl.length - i.1) ⟨0, by omega⟩ id bq_tt (round := ?_)
  rintro ⟨i, hi⟩
  by_cases h : i < cl.length
  · have h1 : decide ((i : Int) < cl.length) = true := by simp only [decide_eq_true_eq]; omega
    obtain ⟨x, hx⟩ := get_of_lt h
    have e2 : IntKind.i64.wrap ((i : Int) + 1) = ((i + 1 : Nat) : Int) := wrap_i64 _ (by omega)
    (repeat (first | refine SW.seq ?_ | refine SW.block ?_ | refine SW.g0 [0, 1, 2, 3, 4, 5, 12, 17, 30] mixed (And.intro (hn) (And.intro (h1) (And.intro (cm_at hx) (And.intro (cm_room0 hx) (And.intro (cm_self) (e2)))))) ?_ | refine SW.skip ?_ | refine SW.exit ?_ | refine SW.ret ?_ | refine SW.condT rfl ?_ | refine SW.condF rfl ?_))
    exact Next.mk ⟨i + 1, by omega⟩ id bq_tt
  · have h1 : decide ((i : Int) < cl.length) = false := by simp only [decide_eq_false_iff_not]; omega
    (repeat (first | refine SW.seq ?_ | refine SW.block ?_ | refine SW.g0 [0, 1, 2, 3, 4, 5, 12, 17, 30] mixed (And.intro (hn) (h1)) ?_ | refine SW.skip ?_ | refine SW.exit ?_ | refine SW.ret ?_ | refine SW.condT rfl ?_ | refine SW.condF rfl ?_))
    (repeat (first | refine SW.seq ?_ | refine SW.block ?_ | refine SW.g0 [0, 1, 2, 3, 4, 5, 12, 17, 30] mixed (And.intro (d1) (And.intro (d2) (d3))) ?_ | refine SW.skip ?_ | refine SW.exit ?_ | refine SW.ret ?_ | refine SW.condT rfl ?_ | refine SW.condF rfl ?_))
    exact End.mk [] (h4 := ⟨rfl, rfl⟩)
def lnOk (o : OpD) : Prop := o.lines = .nils ∨ o.lin
theorem same_at (o : OpD) (h : lnOk o) (k : Nat) : SCd Tryd.prog ref05_Same.f [.agg o.cells, .agg o.cells] [] k 0 (bl true) [] := by
  rcases h with h | h
  · exact (same_nil o h).sc rfl k
  · exact (same_lin o h).sc rfl k
theorem samel_ok (l : List OpD) (hl : l.length < 4611686018427387904) (hw : ∀ x, x ∈ l → lnOk x) : Go.Sl.Pure Tryd.prog law10_same.f [ops l, ops l] (bl true) := by
  refine law10_same.enter (by first | rfl | simp [SV.ok, SV.oks]) (by first | rfl | simp [Hp.ok, Ob.ok, SV.ok, SV.oks, Vec.cells_ok]) (by simp) ?_
  dsimp only [law10_same.s, Co.M, Co.G, Co.J, Co.H, Co.N, Co.F, Co.C, Co.Z, Co.B, Co.b8, Co.b32, Co.b64, Co.i6, Co.z8, Co.z29]
  have b0 : (((l.length : Nat) : Int) != ((l.length : Nat) : Int)) = false := by simp
  (repeat (first | refine SW.seq ?_ | refine SW.block ?_ | (refine SW.regL [0, 1, 4, 5, 10, 14, 26] mixed ?_; (repeat (first | refine RW.ro (b0) (h := ?_) | refine RW.skip (h := ?_) | refine RW.op (b0) (h := ?_) | refine RW.opN (b0) (h := ?_) | refine RW.skip0 (h := ?_) | (refine RW.callC (h := ?_); (first | refine CallP.mk (b0) (hc := same_at _ (by assumption) _) (h := ?_))))); refine RW.nil ⟨by kernel_rfl, Pruned.mk (h := ?_)⟩) | refine SW.skip ?_ | refine SW.exit ?_ | refine SW.ret ?_ | refine SW.condT rfl ?_ | refine SW.condF rfl ?_))
  refine SW.loopA (α := {i : Nat // i ≤ l.length}) (fun i => ⟨[(5, i64 i.1), (0, ops l), (1, ops l)], [], 0⟩) (fun i => l.length - i.1) ⟨0, by omega⟩ id bq_tt (round := ?_)
  rintro ⟨i, hi⟩
  by_cases h : i < l.length
  · have h1 : decide ((i : Int) < l.length) = true := by simp only [decide_eq_true_eq]; omega
    obtain ⟨x, hx⟩ := get_of_lt h
    have hxl := hw x (List.mem_of_getElem? hx)
    have e2 : IntKind.i64.wrap ((i : Int) + 1) = ((i + 1 : Nat) : Int) := wrap_i64 _ (by omega)
    (repeat (first | refine SW.seq ?_ | refine SW.block ?_ | (have fx := (And.intro (h1) (And.intro (op_at hx) (And.intro (op_room0 hx) (e2)))); refine SW.regL [0, 1, 4, 5, 10, 14, 26] mixed ?_; (repeat (first | refine RW.ro fx (h := ?_) | refine RW.skip (h := ?_) | refine RW.op fx (h := ?_) | refine RW.opN fx (h := ?_) | refine RW.skip0 (h := ?_) | (refine RW.callC (h := ?_); (first | refine CallP.mk fx (hc := same_at _ (by assumption) _) (h := ?_))))); refine RW.nil ⟨by kernel_rfl, Pruned.mk (h := ?_)⟩) | refine SW.skip ?_ | refine SW.exit ?_ | refine SW.ret ?_ | refine SW.condT rfl ?_ | refine SW.condF rfl ?_))
    exact Next.mk ⟨i + 1, by omega⟩ id bq_tt
  · have h1 : decide ((i : Int) < l.length) = false := by simp only [decide_eq_false_iff_not]; omega
    (repeat (first | refine SW.seq ?_ | refine SW.block ?_ | (refine SW.regL [0, 1, 4, 5, 10, 14, 26] mixed ?_; (repeat (first | refine RW.ro (h1) (h := ?_) | refine RW.skip (h := ?_) | refine RW.op (h1) (h := ?_) | refine RW.opN (h1) (h := ?_) | refine RW.skip0 (h := ?_) | (refine RW.callC (h := ?_); (first | refine CallP.mk (h1) (hc := same_at _ (by assumption) _) (h := ?_))))); refine RW.nil ⟨by kernel_rfl, Pruned.mk (h := ?_)⟩) | refine SW.skip ?_ | refine SW.exit ?_ | refine SW.ret ?_ | refine SW.condT rfl ?_ | refine SW.condF rfl ?_))
    exact End.mk [] (h4 := ⟨rfl, rfl⟩)
theorem samel_at (l : List OpD) (hl : l.length < 4611686018427387904) (hw : ∀ x, x ∈ l → lnOk x) (k : Nat) : SCd Tryd.prog law10_same.f [ops l, ops l] [] k 0 (bl true) [] := (samel_ok l hl hw).sc rfl k
def dotP (d : Dt) (x : OpD) : Bool := decide (x.dot = d)
theorem find1_sb (d : Dt) (x : OpD) : SB Tryd.prog order_Find_1.f [.agg x.cells, .ptr 0 0] [(0, .box 30 (d.ds.map .d))] 1 0 fun r F => r = bl (dotP d x) ∧ F = [(0, .box 30 (d.ds.map .d))] := by
  rw [Dt.map_ds]
  have ok1 : ∀ q : Nat → Bool, SV.oks q d.cells = true := fun q => SV.oks_d d.ds
  have ok2 : ∀ q : Nat → Bool, SV.oks q x.cells = true := fun q => OpD.cells_ok x q
  refine order_Find_1.enter (by simp [SV.ok, SV.oks, ok2]) (by simp [Hp.ok, Ob.ok, ok1]) (by simp) ?_
  dsimp only [order_Find_1.s, Co.M, Co.G, Co.J, Co.H, Co.N, Co.F, Co.C, Co.Z, Co.B, Co.b8, Co.b32, Co.b64, Co.i6, Co.z8, Co.z29]
  have q1 := Dt.eqb x.dot d
  unfold dotP
  refine SW.seq ?_
  refine SW.g0 [0, 1, 2, 3] mixed bq_tt ?_
  refine SW.seq ?_
  refine SW.g0 [0, 1, 2, 3] mixed (And.intro (q1) (x.gDot)) ?_
  refine SW.ret ?_
  exact End.mk [(0, .box 30 d.cells)] (h4 := ⟨rfl, rfl⟩) (h6 := by simp [Hp.ok, Ob.ok, ok1])
theorem find1_at (d : Dt) (l : List OpD) : TellsP order_Find_1.f 30 d.ds (dotP d) l := fun a _ q k => by
  have := SB.atL [q] (find1_sb d a) (by simp) (by simp [lk]) k
  have e : SV.rens (atN [q] k) a.cells = a.cells := SV.rens_d _
  simpa [SV.ren, SV.rens, Hp.ren, Ob.ren, atN, SV.rens_d, e] using this
theorem findO_idx (l : List OpD) (d : Dt) : match l.findIdx? (dotP d) with
    | some i => ∃ x, l[i]? = some x ∧ findO l d = some x
    | none => findO l d = none := by
  cases h : l.findIdx? (dotP d) with
  | none =>
    rw [List.findIdx?_eq_none_iff] at h
    rw [findO_none]
    intro o ho e
    have := h o ho
    unfold dotP at this
    exact of_decide_eq_false this e
  | some i =>
    rw [List.findIdx?_eq_some_iff_getElem] at h
    obtain ⟨h1, h2, h3⟩ := h
    refine ⟨l[i], List.getElem?_eq_getElem h1, ?_⟩
    unfold findO
    rw [List.find?_eq_some_iff_getElem]
    exact ⟨h2, i, h1, rfl, fun j hj => by have := h3 j hj; simpa [dotP] using this⟩
set_option maxHeartbeats 2000000 in
theorem ofind_ok (l : List OpD) (hl : l.length < 4611686018427387904) (d : Dt) : Go.Sl.Pure Tryd.prog order_Find.f [ops l, .agg d.cells] (.tup [.agg ((findO l d).getD OpD.zero).cells, bl (findO l d).isSome]) := by
  refine order_Find.enter (by first | rfl | simp [SV.ok, SV.oks]) (by first | rfl | simp [Hp.ok, Ob.ok, SV.ok, SV.oks, Vec.cells_ok]) (by simp) ?_
  dsimp only [order_Find.s, Co.M, Co.G, Co.J, Co.H, Co.N, Co.F, Co.C, Co.Z, Co.B, Co.b8, Co.b32, Co.b64, Co.i6, Co.z8, Co.z29]
  have hi := indexP_at (find1_at d l) hl 0
  rw [Dt.map_ds] at hi
  have hf := findO_idx l d
  refine SW.seq ?_
  refine SW.g0 [0, 1, 3, 4, 5, 6, 11] mixed bq_tt ?_
  refine SW.seq ?_
  cases hx : l.findIdx? (dotP d) with
  | none =>
    rw [hx] at hf
    have e1 : idxP (dotP d) l = -1 := by unfold idxP; rw [hx]
    rw [e1] at hi
    rw [show findO l d = none from hf]
    refine SW.g1 [0, 1, 3, 4, 5, 6, 11] mixed bq_tt hi ?_
    refine SW.seq (SW.seq ?_)
    refine SW.g0 [0, 1, 3, 4, 5, 6, 11] mixed bq_tt ?_
    refine SW.condT rfl (SW.seq ?_)
    refine SW.g0 [0, 1, 3, 4, 5, 6, 11] mixed bq_tt ?_
    refine SW.ret ?_
    exact End.mk [] (h4 := ⟨rfl, rfl⟩)
  | some i =>
    rw [hx] at hf
    obtain ⟨x, hx1, hx2⟩ := hf
    have e1 : idxP (dotP d) l = (i : Int) := by unfold idxP; rw [hx]
    rw [e1] at hi
    rw [hx2]
    have e2 : decide ((i : Int) < 0) = false := by simp
    have hlt := lt_of_get hx1
    refine SW.g1 [0, 1, 3, 4, 5, 6, 11] mixed bq_tt hi ?_
    refine SW.seq (SW.seq ?_)
    refine SW.g0 [0, 1, 3, 4, 5, 6, 11] mixed (e2) ?_
    refine SW.condF rfl (SW.skip (SW.seq ?_))
    refine SW.g0 [0, 1, 3, 4, 5, 6, 11] mixed (And.intro (op_at hx1) (op_room0 hx1)) ?_
    refine SW.ret ?_
    exact End.mk [] (h4 := ⟨rfl, rfl⟩)
theorem ofind_at (l : List OpD) (hl : l.length < 4611686018427387904) (d : Dt) (k : Nat) : SCd Tryd.prog order_Find.f [ops l, .agg d.cells] [] k 0 (.tup [.agg ((findO l d).getD OpD.zero).cells, bl (findO l d).isSome]) [] := (ofind_ok l hl d).sc rfl k
end Go.Proofs.YtemghnbbmahaaaaDoor
namespace Go.Proofs.YtemghnbbmahaaaaDoor
open Go.Sl Go.Proofs
attribute [local irreducible] SW RW SCd SC CallP Pruned
def vc (a b : Nat) : Vec := ⟨a, b, 0, 0, 0, 0, 0, 0⟩
def opT (r n : Nat) (dep : Vec) (t : Nat) (ln : DV) : OpD := ⟨⟨r, n⟩, dep, t, 1, ⟨r, n⟩, 0, ⟨0, 0⟩, 0, 0, 0, 0, ⟨0, 0⟩, ⟨0, 0⟩, 0, 0, 0, ln⟩
abbrev z0l : DV := .sl 0 []
theorem SC.resd {P : Program} {f : FuncId} {args : List SV} {F F' : Hp} {k nk : Nat} {r r' : SV} (h : SCd P f args F k nk r F') (hr : ∀ (p : Nat → Prop) μ M u, Rp p μ M r u → Rp p μ M r' u) : SCd P f args F k nk r' F' := by
  unfold SCd SC at h ⊢
  refine ⟨h.1, fun p μ M w vals h1 h2 h3 => (h.2 p μ M w vals h1 h2 h3).mono ?_⟩
  rintro e w' ⟨r0, F0, μ', M', u, a, ⟨rfl, rfl⟩, b, c⟩
  exact ⟨r', F0, μ', M', u, a, ⟨rfl, rfl⟩, hr _ _ _ _ b, c⟩
set_option maxRecDepth 100000 in
set_option maxHeartbeats 4000000 in
theorem genesis_ok (r n : Nat) (dep : Vec) (t : Nat) : Go.Sl.Pure Tryd.prog law10_genesis.f [u8 r, u32 n, .agg dep.cells, u64 t] (.agg (opT r n dep t .nils).cells) := by
  refine law10_genesis.enter (by first | rfl | simp [SV.ok, SV.oks]) (by first | rfl | simp [Hp.ok, Ob.ok, SV.ok, SV.oks, Vec.cells_ok]) (by simp) ?_
  dsimp only [law10_genesis.s, Co.M, Co.G, Co.J, Co.H, Co.N, Co.F, Co.C, Co.Z, Co.B, Co.b8, Co.b32, Co.b64, Co.i6, Co.z8, Co.z29]
  have f1 : spl (spl [SV.d (.int .u8 0), .d (.int .u32 0)] 0 [u8 r]) 1 [u32 n] = (⟨r, n⟩ : Dt).cells := rfl
  have f2 : spl [SV.d (.int .u8 0), .d (.int .u32 0)] 0 (⟨r, n⟩ : Dt).cells = (⟨r, n⟩ : Dt).cells := rfl
  have f3 : spl (spl (spl (spl (spl OpD.zero.cells 0 (Dt.mk r n).cells) 2 dep.cells) 10 [u64 t]) 11 [SV.d (.int .u32 1)]) 12 (Dt.mk r n).cells = (opT r n dep t .nils).cells := rfl
  have k1 : (spl OpD.zero.cells 0 (Dt.mk r n).cells).length = 29 := rfl
  have k2 : (spl (spl OpD.zero.cells 0 (Dt.mk r n).cells) 2 dep.cells).length = 29 := rfl
  have k3 : (spl (spl (spl OpD.zero.cells 0 (Dt.mk r n).cells) 2 dep.cells) 10 [u64 t]).length = 29 := rfl
  have k4 : (spl (spl (spl (spl OpD.zero.cells 0 (Dt.mk r n).cells) 2 dep.cells) 10 [u64 t]) 11 [SV.d (.int .u32 1)]).length = 29 := rfl
  have sa : ∀ x : OpD, spl OpD.zero.cells 0 x.cells = x.cells := fun _ => rfl
  have ta : ∀ x : OpD, List.take 29 x.cells = x.cells := fun _ => rfl
  have la : ∀ x : OpD, x.cells.length = 29 := fun _ => rfl
  have oa : ∀ x : OpD, x.cells.all SV.isOne = true := fun x => x.cells_one
  refine SW.seq ?_
  refine SW.g0 [0, 1, 2, 3, 6, 8, 9] mixed bq_tt ?_
  refine SW.seq ?_
  refine SW.g0 [0, 1, 2, 3, 6, 8, 9] mixed (And.intro (f1) (f2)) ?_
  refine SW.seq ?_
  refine SW.g0 [0, 1, 2, 3, 6, 8, 9] mixed (And.intro (f3) (And.intro (k1) (And.intro (k2) (And.intro (k3) (And.intro (k4) (And.intro (sa) (And.intro (ta) (And.intro (la) (oa))))))))) ?_
  refine SW.ret ?_
  exact End.mk [] (h4 := ⟨rfl, rfl⟩)
theorem genesis_at (r n : Nat) (dep : Vec) (t : Nat) (k : Nat) : SCd Tryd.prog law10_genesis.f [.d (.int .u8 (r : Int)), .d (.int .u32 (n : Int)), .agg dep.cells, .d (.int .u64 (t : Int))] [] k 0 (.agg (opT r n dep t z0l).cells) [] := by
  have h0 : SCd Tryd.prog law10_genesis.f [.d (.int .u8 (r : Int)), .d (.int .u32 (n : Int)), .agg dep.cells, .d (.int .u64 (t : Int))] [] k 0 (.agg (opT r n dep t .nils).cells) [] := (genesis_ok r n dep t).sc rfl k
  refine SC.resd h0 fun p μ M u hu => ?_
  have h1 := rps_nza (ds := (opT r n dep t .nils).ds) (r := []) (r' := []) (fun vs h => h) [u] (Rps.cons_iff.2 ⟨u, [], rfl, hu, Rps.nil_iff.2 rfl⟩)
  obtain ⟨u', us, e, h2, _⟩ := Rps.cons_iff.1 h1
  injection e with e1 e2
  rw [e1]; exact h2
abbrev gA : OpD := opT 0 1 Vec.zero 1 z0l
abbrev gB : OpD := opT 1 1 Vec.zero 1 z0l
abbrev gC : OpD := opT 0 2 (vc 1 1) 2 z0l
theorem opT_lin (r n dep t) : (opT r n dep t z0l).lin ∧ (opT r n dep t z0l).cl = [] := OpD.lin.of (l := []) rfl (by simp)
theorem opT_r (r n : Nat) (dep : Vec) (t : Nat) (hr : r < 256) (hn : n < 4294967296) : OpR (opT r n dep t z0l) ∧ (opT r n dep t z0l).cl.length < 4611686018427387904 := by
  obtain ⟨h1, h2⟩ := opT_lin r n dep t
  refine ⟨⟨⟨h1, fun x hx => (by rw [h2] at hx; cases hx), hr, (by show 0 < 256; decide), (by show 0 < 256; decide), (by show 0 < 256; decide)⟩, hr, hn⟩, by rw [h2]; decide⟩
theorem three_r (x : OpD) (hx : x ∈ [gA, gB, gC]) : OpR x ∧ x.cl.length < 4611686018427387904 := by
  simp only [List.mem_cons, List.not_mem_nil, or_false] at hx
  rcases hx with rfl | rfl | rfl <;> exact opT_r _ _ _ _ (by decide) (by decide)
theorem checkV_form {m : Nat} (h1 : 1 ≤ m) (h8 : m ≤ 8) (o : OpD) : checkV (m : Int) o = if formV m o then 0 else 5 := by
  unfold checkV
  rw [if_neg (by omega)]
  by_cases hf : Go.Sl.Form m o
  · rw [if_pos (by rw [Int.toNat_natCast]; exact hf), (form_iff m o).2 hf]; rfl
  · rw [if_neg (by rw [Int.toNat_natCast]; exact hf), Bool.eq_false_iff.2 (fun h => hf ((form_iff m o).1 h))]; rfl
theorem histV_lit {m : Nat} (h1 : 1 ≤ m) (h8 : m ≤ 8) (l : List OpD) : histV (m : Int) l = if l.all (formV m) then (if restH l then 0 else 9) else 5 := by
  by_cases h : l.all (formV m) = true
  · rw [if_pos h]
    refine histV_form (by omega) fun o ho => ?_
    rw [checkV_form h1 h8, List.all_eq_true.1 h o ho]; rfl
  · rw [if_neg h]
    rw [List.all_eq_true] at h
    obtain ⟨o, ho⟩ := Classical.not_forall.1 h
    obtain ⟨ho, hf⟩ := Classical.not_imp.1 ho
    refine histV_bad (by omega) ho ?_
    rw [checkV_form h1 h8, if_neg hf]; decide
theorem osort_r {l : List OpD} (h : Uniq l) : osort l = sortedR l := by unfold osort; rw [h.fst, sortedR_eq h]
set_option maxRecDepth 100000 in
theorem v1 : histV 2 [gA, gB, gC] = 0 := by
  rw [show (2 : Int) = ((2 : Nat) : Int) from rfl, histV_lit (by decide) (by decide)]
  decide +kernel
set_option maxRecDepth 100000 in
theorem v2 : histV 2 [gC, gB] = 9 := by
  rw [show (2 : Int) = ((2 : Nat) : Int) from rfl, histV_lit (by decide) (by decide)]
  decide +kernel
set_option maxRecDepth 100000 in
theorem v3 : histV 2 [gA, gC] = 9 := by
  rw [show (2 : Int) = ((2 : Nat) : Int) from rfl, histV_lit (by decide) (by decide)]
  decide +kernel
set_option maxRecDepth 100000 in
theorem v4 : histV 1 [gA, gB, gC] = 5 := by
  rw [show (1 : Int) = ((1 : Nat) : Int) from rfl, histV_lit (by decide) (by decide)]
  decide +kernel
theorem v5 : osort [gC, gB, gA] = [gA, gB, gC] := by
  rw [osort_r (by unfold Uniq; decide)]
  kernel_rfl
theorem v6 : knownV [gA, gC] = vc 2 0 := by decide +kernel
theorem hh1 (k : Nat) : SCd Tryd.prog order_History.f [ops [gA, gB, gC], .d (.int .i64 2)] [] k 0 (.d (.int .i64 0)) [] := by
  have := history_at 2 (by decide) (by decide) [gA, gB, gC] (by decide) three_r k
  rw [v1] at this; exact this
theorem hh2 (k : Nat) : SCd Tryd.prog order_History.f [ops [gC, gB], .d (.int .i64 2)] [] k 0 (.d (.int .i64 9)) [] := by
  have := history_at 2 (by decide) (by decide) [gC, gB] (by decide) (fun x hx => three_r x (by simp only [List.mem_cons, List.not_mem_nil, or_false] at hx ⊢; rcases hx with h | h <;> simp [h])) k
  rw [v2] at this; exact this
theorem hh3 (k : Nat) : SCd Tryd.prog order_History.f [ops [gA, gC], .d (.int .i64 2)] [] k 0 (.d (.int .i64 9)) [] := by
  have := history_at 2 (by decide) (by decide) [gA, gC] (by decide) (fun x hx => three_r x (by simp only [List.mem_cons, List.not_mem_nil, or_false] at hx ⊢; rcases hx with h | h <;> simp [h])) k
  rw [v3] at this; exact this
theorem hh4 (k : Nat) : SCd Tryd.prog order_History.f [ops [gA, gB, gC], .d (.int .i64 1)] [] k 0 (.d (.int .i64 5)) [] := by
  have := history_at 1 (by decide) (by decide) [gA, gB, gC] (by decide) three_r k
  rw [v4] at this; exact this
theorem hs1 (k : Nat) : SCd Tryd.prog order_Sort.f [ops [gC, gB, gA]] [] k 0 (ops [gA, gB, gC]) [] := by
  have := osort_at [gC, gB, gA] (by decide) k
  rw [v5] at this; exact this
theorem hk1 (k : Nat) : SCd Tryd.prog order_Known.f [ops [gA, gC]] [] k 0 (.agg (vc 2 0).cells) [] := by
  have := known_at [gA, gC] (by decide) (fun x hx => by
    have := three_r x (by simp only [List.mem_cons, List.not_mem_nil, or_false] at hx ⊢; rcases hx with h | h <;> simp [h])
    exact ⟨this.1.dr, this.1.dn⟩) k
  rw [v6] at this; exact this
theorem hc1 (k : Nat) : SCd Tryd.prog order_Compare.f [.agg gA.cells, .agg gB.cells] [] k 0 (.d (.int .i64 (-1))) [] := ocompare_at gA gB k
theorem hb1 (k : Nat) : SCd Tryd.prog order_Before.f [.agg gA.cells, .agg gC.cells] [] k 0 (.d (.bool true)) [] := before_at gA gC k
theorem hb2 (k : Nat) : SCd Tryd.prog order_Beside.f [.agg gA.cells, .agg gB.cells] [] k 0 (.d (.bool true)) [] := beside_at gA gB k
theorem hb3 (k : Nat) : SCd Tryd.prog order_Beside.f [.agg gA.cells, .agg gA.cells] [] k 0 (.d (.bool false)) [] := beside_at gA gA k
theorem he1 (k : Nat) : SCd Tryd.prog law10_same.f [ops [gA, gB, gC], ops [gA, gB, gC]] [] k 0 (.d (.bool true)) [] := samel_at _ (by decide) (fun x hx => .inr (three_r x hx).1.w.lin) k
abbrev bq3 : Prop := 29 = 29 ∧ 0 + 29 ≤ 87 ∧ 29 = 29 ∧ 29 + 29 ≤ 87 ∧ 29 = 29 ∧ 58 + 29 ≤ 87 ∧ True
abbrev bq2 : Prop := 29 = 29 ∧ 0 + 29 ≤ 58 ∧ 29 = 29 ∧ 29 + 29 ≤ 58 ∧ True
set_option maxRecDepth 100000 in
theorem lit3g {P : Program} {env : List (Nat × SV)} {hp : Hp} {k d p p2 p3 t : Nat} {r : List SI} {K : St → List (Bool × List Nat) → Prop} {a b c : OpD} {z : List SV} (hz : z = zOp ++ zOp ++ zOp) (hg : env.lookup t = some (.d (.bool true)))
    (ha : env.lookup p = some (.agg a.cells)) (hb : env.lookup p2 = some (.agg b.cells)) (hc : env.lookup p3 = some (.agg c.cells))
    (h : RW P r ⟨(d, ops [a, b, c]) :: env, hp, k⟩ fun st' ts => K st' ((false, []) :: ts)) : RW P (⟨some d, .bsl 36 29 3 z [(0, 29, .t p), (29, 29, .t p2), (58, 29, .t p3)], some (t, true)⟩ :: r) ⟨env, hp, k⟩ K := by
  subst hz
  refine RW.cons (e := ⟨ops [a, b, c], [], [], 0, bq3⟩) (fun crs => ⟨.frz :: crs, runOp_some (.inr ⟨t, true, rfl, hg⟩) ?_⟩) (by show bq3; decide) ?_
  · have h1 : evp (fun t => env.lookup t) [(0, 29, X.t p), (29, 29, X.t p2), (58, 29, X.t p3)] = some [(0, 29, .agg a.cells), (29, 29, .agg b.cells), (58, 29, .agg c.cells)] := by
      simp only [evp, ev, ha, hb, hc]
    have h2 : bldS (zOp ++ zOp ++ zOp) [(0, 29, .agg a.cells), (29, 29, .agg b.cells), (58, 29, .agg c.cells)] = some (a.cells ++ b.cells ++ c.cells, bq3) := rfl
    have h3 : datas (a.cells ++ b.cells ++ c.cells) = some ([a, b, c].flatMap OpD.ds) := rfl
    have h4 : (a.cells ++ b.cells ++ c.cells).all SV.isOne = true := rfl
    simp only [goOp, sop, h1, h2, h3, h4, if_true, Bool.false_or]
    rfl
  · exact h
set_option maxRecDepth 100000 in
theorem lit2g {P : Program} {env : List (Nat × SV)} {hp : Hp} {k d p p2 t : Nat} {r : List SI} {K : St → List (Bool × List Nat) → Prop} {a b : OpD} {z : List SV} (hz : z = zOp ++ zOp) (hg : env.lookup t = some (.d (.bool true)))
    (ha : env.lookup p = some (.agg a.cells)) (hb : env.lookup p2 = some (.agg b.cells))
    (h : RW P r ⟨(d, ops [a, b]) :: env, hp, k⟩ fun st' ts => K st' ((false, []) :: ts)) : RW P (⟨some d, .bsl 36 29 2 z [(0, 29, .t p), (29, 29, .t p2)], some (t, true)⟩ :: r) ⟨env, hp, k⟩ K := by
  subst hz
  refine RW.cons (e := ⟨ops [a, b], [], [], 0, bq2⟩) (fun crs => ⟨.frz :: crs, runOp_some (.inr ⟨t, true, rfl, hg⟩) ?_⟩) (by show bq2; decide) ?_
  · have h1 : evp (fun t => env.lookup t) [(0, 29, X.t p), (29, 29, X.t p2)] = some [(0, 29, .agg a.cells), (29, 29, .agg b.cells)] := by
      simp only [evp, ev, ha, hb]
    have h2 : bldS (zOp ++ zOp) [(0, 29, .agg a.cells), (29, 29, .agg b.cells)] = some (a.cells ++ b.cells, bq2) := rfl
    have h3 : datas (a.cells ++ b.cells) = some ([a, b].flatMap OpD.ds) := rfl
    have h4 : (a.cells ++ b.cells).all SV.isOne = true := rfl
    simp only [goOp, sop, h1, h2, h3, h4, if_true, Bool.false_or]
    rfl
  · exact h
set_option maxRecDepth 100000 in
set_option maxHeartbeats 16000000 in
theorem head10_ok : Go.Sl.Pure Tryd.prog law10_head.f [] (bl true) := by
  refine law10_head.enter (by first | rfl | simp [SV.ok, SV.oks]) (by first | rfl | simp [Hp.ok, Ob.ok, SV.ok, SV.oks, Vec.cells_ok]) (by simp) ?_
  dsimp only [law10_head.s, Co.M, Co.G, Co.J, Co.H, Co.N, Co.F, Co.C, Co.Z, Co.B, Co.b8, Co.b32, Co.b64, Co.i6, Co.z8, Co.z29]
  have w1 : spl (spl Vec.zero.cells 0 [SV.d (.int .u32 1)]) 1 [SV.d (.int .u32 1)] = (vc 1 1).cells := rfl
  have w2 : spl Vec.zero.cells 0 [SV.d (.int .u32 2)] = (vc 2 0).cells := rfl
  have sa : ∀ x : OpD, spl OpD.zero.cells 0 x.cells = x.cells := fun _ => rfl
  have q1 : csqS [true, true, true, true, true, true, true, true] (vc 2 0).cells (vc 2 0).cells = some true := rfl
  refine SW.seq ?_
  (refine SW.regL [0, 1, 2, 3] mixed ?_; (repeat (first | refine RW.ro bq_tt (h := ?_) | refine RW.skip (h := ?_) | refine RW.op bq_tt (h := ?_) | refine RW.opN bq_tt (h := ?_) | refine RW.skip0 (h := ?_) | first | refine lit3g rfl rfl rfl rfl rfl (h := ?_) | refine lit2g rfl rfl rfl rfl (h := ?_) | (refine RW.callC (h := ?_); (first | refine CallP.mk bq_tt (hc := genesis_at _ _ _ _ _) (h := ?_))))); refine RW.nil ⟨by kernel_rfl, Pruned.mk (h := ?_)⟩)
  refine SW.seq ?_
  (have fx := (And.intro (w1) (And.intro (w2) (sa))); refine SW.regL [0, 1, 2, 3] mixed ?_; (repeat (first | refine RW.ro fx (h := ?_) | refine RW.skip (h := ?_) | refine RW.op fx (h := ?_) | refine RW.opN fx (h := ?_) | refine RW.skip0 (h := ?_) | first | refine lit3g rfl rfl rfl rfl rfl (h := ?_) | refine lit2g rfl rfl rfl rfl (h := ?_) | (refine RW.callC (h := ?_); (first | refine CallP.mk fx (hc := genesis_at _ _ _ _ _) (h := ?_))))); refine RW.nil ⟨by kernel_rfl, Pruned.mk (h := ?_)⟩)
  refine SW.seq ?_
  have cz := And.intro hc1 (And.intro hb1 (And.intro hb2 (And.intro hb3 (And.intro hs1 (And.intro he1 (And.intro hk1 (And.intro hh1 (And.intro hh2 (And.intro hh3 (And.intro hh4 True.intro))))))))))
  (refine SW.regL [0, 1, 2, 3] mixed ?_; (repeat (first | refine RW.ro (And.intro (w2) (q1)) (h := ?_) | refine RW.skip (h := ?_) | refine RW.op (And.intro (w2) (q1)) (h := ?_) | refine RW.opN (And.intro (w2) (q1)) (h := ?_) | refine RW.skip0 (h := ?_) | first | refine lit3g rfl rfl rfl rfl rfl (h := ?_) | refine lit2g rfl rfl rfl rfl (h := ?_) | (refine RW.callC (h := ?_); (first | refine CallP.mk (And.intro (w2) (q1)) (hc := hc1 _) (h := ?_) | refine CallP.mk (And.intro (w2) (q1)) (hc := hb1 _) (h := ?_) | refine CallP.mk (And.intro (w2) (q1)) (hc := hb2 _) (h := ?_) | refine CallP.mk (And.intro (w2) (q1)) (hc := hb3 _) (h := ?_) | refine CallP.mk (And.intro (w2) (q1)) (hc := hs1 _) (h := ?_) | refine CallP.mk (And.intro (w2) (q1)) (hc := he1 _) (h := ?_) | refine CallP.mk (And.intro (w2) (q1)) (hc := hk1 _) (h := ?_) | refine CallP.mk (And.intro (w2) (q1)) (hc := hh1 _) (h := ?_) | refine CallP.mk (And.intro (w2) (q1)) (hc := hh2 _) (h := ?_) | refine CallP.mk (And.intro (w2) (q1)) (hc := hh3 _) (h := ?_) | refine CallP.mk (And.intro (w2) (q1)) (hc := hh4 _) (h := ?_))))); refine RW.nil ⟨by kernel_rfl, Pruned.mk (h := ?_)⟩)
  refine SW.ret ?_
  exact End.mk [] (h4 := ⟨rfl, rfl⟩)
theorem head10_at (k : Nat) : SCd Tryd.prog law10_head.f [] [] k 0 (bl true) [] := head10_ok.sc rfl k
end Go.Proofs.YtemghnbbmahaaaaDoor
namespace Go.Proofs.YtemghnbbmahaaaaDoor
open Go.Sl Go.Proofs
attribute [local irreducible] SW RW SCd SC CallP Pruned
def cutV (l : List OpD) (v : Vec) : List OpD := l.filter fun o => v.covers o.dot
theorem cutV_snoc (l : List OpD) (v : Vec) (x : OpD) : cutV (l ++ [x]) v = if v.covers x.dot then cutV l v ++ [x] else cutV l v := by
  unfold cutV
  rw [List.filter_append]
  by_cases h : v.covers x.dot = true
  · rw [if_pos h]; simp [h]
  · rw [if_neg h]; simp [h]
theorem cutV_len (l : List OpD) (v : Vec) : (cutV l v).length ≤ l.length := List.length_filter_le _ _
set_option maxHeartbeats 4000000 in
theorem cut_ok (l : List OpD) (hl : l.length < 1000000) (v : Vec) : Go.Sl.Pure Tryd.prog order_Cut.f [ops l, .agg v.cells] (ops (cutV l v)) := by
  refine order_Cut.enter (by first | rfl | simp [SV.ok, SV.oks]) (by first | rfl | simp [Hp.ok, Ob.ok, SV.ok, SV.oks, Vec.cells_ok]) (by simp) ?_
  dsimp only [order_Cut.s, Co.M, Co.G, Co.J, Co.H, Co.N, Co.F, Co.C, Co.Z, Co.B, Co.b8, Co.b32, Co.b64, Co.i6, Co.z8, Co.z29]
  refine SW.seq ?_
  (refine SW.regL [0, 1, 3, 4, 5, 7, 8, 9, 10, 11, 17] mixed ?_; (repeat (first | refine RW.ro bq_tt (h := ?_) | refine RW.skip (h := ?_) | refine RW.op bq_tt (h := ?_) | refine RW.opN bq_tt (h := ?_) | refine RW.skip0 (h := ?_) | refine lit1 rfl rfl (h := ?_))); refine RW.nil ⟨conf_of (by kernel_rfl), Pruned.mk (h := ?_)⟩)
  refine SW.seq ?_
  (refine SW.regL [0, 1, 3, 4, 5, 7, 8, 9, 10, 11, 17] mixed ?_; (repeat (first | refine RW.ro bq_tt (h := ?_) | refine RW.skip (h := ?_) | refine RW.op bq_tt (h := ?_) | refine RW.opN bq_tt (h := ?_) | refine RW.skip0 (h := ?_) | refine lit1 rfl rfl (h := ?_))); refine RW.nil ⟨conf_of (by kernel_rfl), Pruned.mk (h := ?_)⟩)
  refine SW.nilrow 5 36 29 rfl ?_
  refine SW.seq (SW.seq ?_)
  (refine SW.regL [0, 1, 3, 4, 5, 7, 8, 9, 10, 11, 17] mixed ?_; (repeat (first | refine RW.ro bq_tt (h := ?_) | refine RW.skip (h := ?_) | refine RW.op bq_tt (h := ?_) | refine RW.opN bq_tt (h := ?_) | refine RW.skip0 (h := ?_) | refine lit1 rfl rfl (h := ?_))); refine RW.nil ⟨conf_of (by kernel_rfl), Pruned.mk (h := ?_)⟩)
  refine SW.block ?_
  refine SW.loopA (α := {i : Nat // i ≤ l.length}) (fun i => ⟨[(10, i64 i.1), (9, i64 l.length), (8, ops l), (5, .gs 1 (cutV (l.take i.1) v).length), (3, .ptr 0 0)], [(1, .arr 36 29 (cutV (l.take i.1) v).length (opc (cutV (l.take i.1) v))), (0, .box 32 v.cells)], 2⟩) (fun i => l.length - i.1) ⟨0, by omega⟩ id (And.intro (show cutV [] v = [] from rfl) bq_tt) (round := ?_)
  rintro ⟨i, hi⟩
  dsimp only
  by_cases h : i < l.length
  · have h1 : decide ((i : Int) < l.length) = true := by simp only [decide_eq_true_eq]; omega
    obtain ⟨x, hx⟩ := get_of_lt h
    have e2 : IntKind.i64.wrap ((i : Int) + 1) = ((i + 1 : Nat) : Int) := wrap_i64 _ (by omega)
    have e1 : l.take (i + 1) = l.take i ++ [x] := take_snoc hx
    have hsn := cutV_snoc (l.take i) v x
    rw [← e1] at hsn
    have hlen := cutV_len (l.take i) v
    rw [List.length_take] at hlen
    generalize cutV (l.take i) v = T at hsn hlen ⊢
    have hc := fun k => covers_at v x.dot k
    refine SW.seq ?_
    (refine SW.regL [0, 1, 3, 4, 5, 7, 8, 9, 10, 11, 17] mixed ?_; (repeat (first | refine RW.ro (h1) (h := ?_) | refine RW.skip (h := ?_) | refine RW.op (h1) (h := ?_) | refine RW.opN (h1) (h := ?_) | refine RW.skip0 (h := ?_) | refine lit1 rfl rfl (h := ?_))); refine RW.nil ⟨conf_of (by kernel_rfl), Pruned.mk (h := ?_)⟩)
    refine SW.seq (SW.condT rfl (SW.skip ?_))
    refine SW.seq (SW.block (SW.seq ?_))
    (have fx := (And.intro (op_at hx) (op_room0 hx)); refine SW.regL [0, 1, 3, 4, 5, 7, 8, 9, 10, 11, 17] mixed ?_; (repeat (first | refine RW.ro fx (h := ?_) | refine RW.skip (h := ?_) | refine RW.op fx (h := ?_) | refine RW.opN fx (h := ?_) | refine RW.skip0 (h := ?_) | refine lit1 rfl rfl (h := ?_))); refine RW.nil ⟨conf_of (by kernel_rfl), Pruned.mk (h := ?_)⟩)
    refine SW.seq ?_
    rcases hz : v.covers x.dot with _ | _ <;> rw [hz] at hc hsn
    · rw [if_neg (by decide)] at hsn
      (refine SW.regL [0, 1, 3, 4, 5, 7, 8, 9, 10, 11, 17] mixed ?_; (repeat (first | refine RW.ro (x.gDot) (h := ?_) | refine RW.skip (h := ?_) | refine RW.op (x.gDot) (h := ?_) | refine RW.opN (x.gDot) (h := ?_) | refine RW.skip0 (h := ?_) | refine lit1 rfl rfl (h := ?_) | (refine RW.callC (h := ?_); (first | refine CallP.mk (x.gDot) (hc := hc _) (h := ?_))))); refine RW.nil ⟨conf_of (by kernel_rfl), Pruned.mk (h := ?_)⟩)
      refine SW.condF rfl (SW.skip ?_)
      (refine SW.regL [0, 1, 3, 4, 5, 7, 8, 9, 10, 11, 17] mixed ?_; (repeat (first | refine RW.ro (e2) (h := ?_) | refine RW.skip (h := ?_) | refine RW.op (e2) (h := ?_) | refine RW.opN (e2) (h := ?_) | refine RW.skip0 (h := ?_) | refine lit1 rfl rfl (h := ?_))); refine RW.nil ⟨conf_of (by kernel_rfl), Pruned.mk (h := ?_)⟩)
      refine ⟨⟨i + 1, by omega⟩, id, by show l.length - (i + 1) < l.length - i; omega, ?_⟩
      dsimp only
      rw [hsn]
      exact Weak.mk bq_tt
    · rw [if_pos rfl] at hsn
      (refine SW.regL [0, 1, 3, 4, 5, 7, 8, 9, 10, 11, 17] mixed ?_; (repeat (first | refine RW.ro (x.gDot) (h := ?_) | refine RW.skip (h := ?_) | refine RW.op (x.gDot) (h := ?_) | refine RW.opN (x.gDot) (h := ?_) | refine RW.skip0 (h := ?_) | refine lit1 rfl rfl (h := ?_) | (refine RW.callC (h := ?_); (first | refine CallP.mk (x.gDot) (hc := hc _) (h := ?_))))); refine RW.nil ⟨conf_of (by kernel_rfl), Pruned.mk (h := ?_)⟩)
      refine SW.condT rfl ?_
      (refine SW.regL [0, 1, 3, 4, 5, 7, 8, 9, 10, 11, 17] mixed ?_; (repeat (first | refine RW.ro bq_tt (h := ?_) | refine RW.skip (h := ?_) | refine RW.op bq_tt (h := ?_) | refine RW.opN bq_tt (h := ?_) | refine RW.skip0 (h := ?_) | refine lit1 rfl rfl (h := ?_))); refine RW.nil ⟨conf_of (by kernel_rfl), Pruned.mk (h := ?_)⟩)
      (refine SW.regL [0, 1, 3, 4, 5, 7, 8, 9, 10, 11, 17] mixed ?_; (repeat (first | refine RW.ro (e2) (h := ?_) | refine RW.skip (h := ?_) | refine RW.op (e2) (h := ?_) | refine RW.opN (e2) (h := ?_) | refine RW.skip0 (h := ?_) | refine lit1 rfl rfl (h := ?_))); refine RW.nil ⟨conf_of (by kernel_rfl), Pruned.mk (h := ?_)⟩)
      have e5 : (T ++ [x]).length = T.length + [x].length := by simp
      have e6 : opc (T ++ [x]) = opc T ++ List.map SV.d ([x].flatMap OpD.ds) := by simp [opc]
      refine ⟨⟨i + 1, by omega⟩, fun n => if n = 1 then 3 else n, by show l.length - (i + 1) < l.length - i; omega, ?_⟩
      dsimp only
      rw [hsn, e5, e6]
      exact Weak.mk bq_tt
  · have h1 : decide ((i : Int) < l.length) = false := by simp only [decide_eq_false_iff_not]; omega
    have h2 : i = l.length := by omega
    subst h2
    rw [List.take_length]
    refine SW.seq ?_
    (refine SW.regL [0, 1, 3, 4, 5, 7, 8, 9, 10, 11, 17] mixed ?_; (repeat (first | refine RW.ro (h1) (h := ?_) | refine RW.skip (h := ?_) | refine RW.op (h1) (h := ?_) | refine RW.opN (h1) (h := ?_) | refine RW.skip0 (h := ?_) | refine lit1 rfl rfl (h := ?_))); refine RW.nil ⟨conf_of (by kernel_rfl), Pruned.mk (h := ?_)⟩)
    refine SW.seq (SW.condF rfl (SW.exit ?_))
    refine SW.seq ?_
    (refine SW.regL [0, 1, 3, 4, 5, 7, 8, 9, 10, 11, 17] mixed ?_; (repeat (first | refine RW.ro bq_tt (h := ?_) | refine RW.skip (h := ?_) | refine RW.op bq_tt (h := ?_) | refine RW.opN bq_tt (h := ?_) | refine RW.skip0 (h := ?_) | refine lit1 rfl rfl (h := ?_))); refine RW.nil ⟨conf_of (by kernel_rfl), Pruned.mk (h := ?_)⟩)
    refine SW.freeze 1 ((cutV l v).flatMap OpD.ds) rfl rfl ?_
    simp only [frzE, SV.frz, List.map_cons, List.map_nil, if_true, if_false, reduceIte, hdel, Nat.reduceEqDiff]
    refine SW.ret ?_
    exact End.mk [] (h4 := ⟨rfl, rfl⟩)
theorem cut_at (l : List OpD) (hl : l.length < 1000000) (v : Vec) (k : Nat) : SCd Tryd.prog order_Cut.f [ops l, .agg v.cells] [] k 0 (ops (cutV l v)) [] := (cut_ok l hl v).sc rfl k
end Go.Proofs.YtemghnbbmahaaaaDoor
namespace Go.Proofs.YtemghnbbmahaaaaDoor
open Go.Sl Go.Proofs
attribute [local irreducible] SW RW SCd SC CallP Pruned
structure RowR (l : List OpD) : Prop where
  len : l.length ≤ 140737488351232
  op : ∀ o, o ∈ l → OpR o ∧ o.cl.length ≤ 140737488351232
theorem RowR.one {l : List OpD} (h : RowR l) : ∀ o, o ∈ l → OpR o ∧ o.cl.length < 4611686018427387904 := fun o ho => ⟨(h.op o ho).1, by have := (h.op o ho).2; omega⟩
theorem RowR.great {l : List OpD} (h : RowR l) (k : Nat) : SCd Tryd.prog ref10_Great.f [ops l] [] k 0 (bl (greatV l)) [] :=
  great_at l (fun x hx => ⟨_, _, (h.op x hx).1.w.lin.eq, (h.op x hx).1.w.lin.le⟩) (by have := h.len; omega) k
end Go.Proofs.YtemghnbbmahaaaaDoor
namespace Go.Proofs.YtemghnbbmahaaaaDoor
open Go.Sl Go.Proofs
theorem cutV_sub (l : List OpD) (v : Vec) : ∀ o, o ∈ cutV l v → o ∈ l := fun o h => (List.mem_filter.1 h).1
end Go.Proofs.YtemghnbbmahaaaaDoor
