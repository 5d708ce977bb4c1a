/-
  Trees of credentials: what stands below them: orders of dots, what vectors cover, what is found in rows.
-/
import Derived.Test.YtlgfknfdfnaedaaGreatU6
import Derived.Test.YtlgfknfdfnaedaaGreatUV
import Derived.Test.YtlgfknfdfnaedaaGreatU5
import Derived.Test.YtlgfknfdfnaedaaGreatU4
set_option linter.unusedSectionVars false
set_option linter.unusedVariables false
set_option linter.unusedSimpArgs false
namespace Go.Proofs.YtlgfknfdfnaedaaGreat
open Go.Sl Go.Proofs
attribute [local irreducible] SW RW SCd SC CallP Pruned
def cmpZ (a b : Int) : Int := if a < b then -1 else if a > b then 1 else 0
theorem may_ok (r n : Int) : Go.Sl.Pure Tryz.prog dot_May.f [.agg [.d (.int .u8 r), .d (.int .u32 n)]] (bl (decide (r < 8) && decide (n > 0))) := by
  refine dot_May.enter (by first | rfl | simp [SV.ok, SV.oks]) (by first | rfl | simp [Hp.ok, Ob.ok, SV.ok, SV.oks, Vec.cells_ok]) (by simp) ?_
  dsimp only [dot_May.s, Co.M, Co.G, Co.J, Co.H, Co.N, Co.F, Co.C, Co.Z, Co.B, Co.b8, Co.b32, Co.b64, Co.i6, Co.z8, Co.z29]
  rcases h1 : decide (r < 8) with _ | _
  · (repeat (first | refine SW.seq ?_ | refine SW.block ?_ | refine SW.g0 [0, 1, 2] mixed (h1) ?_ | refine SW.skip ?_ | refine SW.exit ?_ | refine SW.ret ?_ | refine SW.condT rfl ?_ | refine SW.condF rfl ?_))
    exact End.mk [] (h4 := ⟨rfl, rfl⟩)
  · (repeat (first | refine SW.seq ?_ | refine SW.block ?_ | refine SW.g0 [0, 1, 2] mixed (h1) ?_ | refine SW.skip ?_ | refine SW.exit ?_ | refine SW.ret ?_ | refine SW.condT rfl ?_ | refine SW.condF rfl ?_))
    exact End.mk [] (h4 := ⟨rfl, rfl⟩)
theorem rmay_ok (r n : Int) : Go.Sl.Pure Tryz.prog ref03_May.f [.agg [.d (.int .u8 r), .d (.int .u32 n)]] (bl (decide (r ≤ 7) && decide (n ≥ 1))) := by
  refine ref03_May.enter (by first | rfl | simp [SV.ok, SV.oks]) (by first | rfl | simp [Hp.ok, Ob.ok, SV.ok, SV.oks, Vec.cells_ok]) (by simp) ?_
  dsimp only [ref03_May.s, Co.M, Co.G, Co.J, Co.H, Co.N, Co.F, Co.C, Co.Z, Co.B, Co.b8, Co.b32, Co.b64, Co.i6, Co.z8, Co.z29]
  rcases h1 : decide (r ≤ 7) with _ | _
  · (repeat (first | refine SW.seq ?_ | refine SW.block ?_ | refine SW.g0 [0, 1, 2] mixed (h1) ?_ | refine SW.skip ?_ | refine SW.exit ?_ | refine SW.ret ?_ | refine SW.condT rfl ?_ | refine SW.condF rfl ?_))
    exact End.mk [] (h4 := ⟨rfl, rfl⟩)
  · (repeat (first | refine SW.seq ?_ | refine SW.block ?_ | refine SW.g0 [0, 1, 2] mixed (h1) ?_ | refine SW.skip ?_ | refine SW.exit ?_ | refine SW.ret ?_ | refine SW.condT rfl ?_ | refine SW.condF rfl ?_))
    exact End.mk [] (h4 := ⟨rfl, rfl⟩)
theorem may_at (d : Dt) (k : Nat) : SCd Tryz.prog dot_May.f [.agg d.cells] [] k 0 (bl d.may) [] := by
  have := (may_ok d.r d.n).sc rfl k
  have e : d.may = (decide ((d.r : Int) < 8) && decide ((d.n : Int) > 0)) := by
    unfold Dt.may
    rw [Bool.eq_iff_iff]; simp only [Bool.and_eq_true, decide_eq_true_eq]; omega
  rw [e]; exact this
theorem rmay_at (d : Dt) (k : Nat) : SCd Tryz.prog ref03_May.f [.agg d.cells] [] k 0 (bl d.may) [] := by
  have := (rmay_ok d.r d.n).sc rfl k
  have e : d.may = (decide ((d.r : Int) ≤ 7) && decide ((d.n : Int) ≥ 1)) := by
    unfold Dt.may
    rw [Bool.eq_iff_iff]; simp only [Bool.and_eq_true, decide_eq_true_eq]; omega
  rw [e]; exact this
theorem covers_ok (v : Vec) (d : Dt) : Go.Sl.Pure Tryz.prog vector_Covers.f [.agg v.cells, .agg d.cells] (bl (v.covers d)) := by
  refine vector_Covers.enter (by first | rfl | simp [SV.ok, SV.oks]) (by first | rfl | simp [Hp.ok, Ob.ok, SV.ok, SV.oks, Vec.cells_ok]) (by simp) ?_
  dsimp only [vector_Covers.s, Co.M, Co.G, Co.J, Co.H, Co.N, Co.F, Co.C, Co.Z, Co.B, Co.b8, Co.b32, Co.b64, Co.i6, Co.z8, Co.z29]
  rcases h : d.may with _ | _
  · (repeat (first | refine SW.seq ?_ | refine SW.block ?_ | (refine SW.regL [0, 1, 2, 3, 4] mixed ?_; (repeat (first | refine RW.ro (h) (h := ?_) | refine RW.skip (h := ?_) | refine RW.op (h) (h := ?_) | refine RW.opN (h) (h := ?_) | refine RW.skip0 (h := ?_) | (refine RW.callC (h := ?_); (first | refine CallP.mk (h) (hc := may_at _ _) (h := ?_) | refine CallP.mk (h) (hc := rmay_at _ _) (h := ?_))))); refine RW.nil ⟨by kernel_rfl, Pruned.mk (h := ?_)⟩) | refine SW.skip ?_ | refine SW.exit ?_ | refine SW.ret ?_ | refine SW.condT rfl ?_ | refine SW.condF rfl ?_))
    have e : v.covers d = false := by unfold Vec.covers; rw [h]; rfl
    exact End.mk [] (h4 := ⟨by rw [e]; rfl, rfl⟩)
  · have hr : d.r < 8 := by
      have := h
      simp only [Dt.may, Bool.and_eq_true, decide_eq_true_eq] at this
      exact this.1
    have e : v.covers d = decide ((v.get d.r : Int) ≥ d.n) := by
      unfold Vec.covers
      rw [h, Bool.true_and, Bool.eq_iff_iff]; simp only [decide_eq_true_eq]; omega
    (repeat (first | refine SW.seq ?_ | refine SW.block ?_ | (have fx := (And.intro (h) (Vec.cells_get v hr)); refine SW.regL [0, 1, 2, 3, 4] mixed ?_; (repeat (first | refine RW.ro fx (h := ?_) | refine RW.skip (h := ?_) | refine RW.op fx (h := ?_) | refine RW.opN fx (h := ?_) | refine RW.skip0 (h := ?_) | (refine RW.callC (h := ?_); (first | refine CallP.mk fx (hc := may_at _ _) (h := ?_) | refine CallP.mk fx (hc := rmay_at _ _) (h := ?_))))); refine RW.nil ⟨by kernel_rfl, Pruned.mk (h := ?_)⟩) | refine SW.skip ?_ | refine SW.exit ?_ | refine SW.ret ?_ | refine SW.condT rfl ?_ | refine SW.condF rfl ?_))
    exact End.mk [] (h4 := ⟨by rw [e]; rfl, rfl⟩)
theorem rcovers_ok (v : Vec) (d : Dt) : Go.Sl.Pure Tryz.prog ref04_Covers.f [.agg v.cells, .agg d.cells] (bl (v.covers d)) := by
  refine ref04_Covers.enter (by first | rfl | simp [SV.ok, SV.oks]) (by first | rfl | simp [Hp.ok, Ob.ok, SV.ok, SV.oks, Vec.cells_ok]) (by simp) ?_
  dsimp only [ref04_Covers.s, Co.M, Co.G, Co.J, Co.H, Co.N, Co.F, Co.C, Co.Z, Co.B, Co.b8, Co.b32, Co.b64, Co.i6, Co.z8, Co.z29]
  rcases h : d.may with _ | _
  · (repeat (first | refine SW.seq ?_ | refine SW.block ?_ | (refine SW.regL [0, 1, 2, 3, 4] mixed ?_; (repeat (first | refine RW.ro (h) (h := ?_) | refine RW.skip (h := ?_) | refine RW.op (h) (h := ?_) | refine RW.opN (h) (h := ?_) | refine RW.skip0 (h := ?_) | (refine RW.callC (h := ?_); (first | refine CallP.mk (h) (hc := may_at _ _) (h := ?_) | refine CallP.mk (h) (hc := rmay_at _ _) (h := ?_))))); refine RW.nil ⟨by kernel_rfl, Pruned.mk (h := ?_)⟩) | refine SW.skip ?_ | refine SW.exit ?_ | refine SW.ret ?_ | refine SW.condT rfl ?_ | refine SW.condF rfl ?_))
    have e : v.covers d = false := by unfold Vec.covers; rw [h]; rfl
    exact End.mk [] (h4 := ⟨by rw [e]; rfl, rfl⟩)
  · have hr : d.r < 8 := by
      have := h
      simp only [Dt.may, Bool.and_eq_true, decide_eq_true_eq] at this
      exact this.1
    have e : v.covers d = decide ((d.n : Int) ≤ v.get d.r) := by
      unfold Vec.covers
      rw [h, Bool.true_and, Bool.eq_iff_iff]; simp only [decide_eq_true_eq]; omega
    (repeat (first | refine SW.seq ?_ | refine SW.block ?_ | (have fx := (And.intro (h) (Vec.cells_get v hr)); refine SW.regL [0, 1, 2, 3, 4] mixed ?_; (repeat (first | refine RW.ro fx (h := ?_) | refine RW.skip (h := ?_) | refine RW.op fx (h := ?_) | refine RW.opN fx (h := ?_) | refine RW.skip0 (h := ?_) | (refine RW.callC (h := ?_); (first | refine CallP.mk fx (hc := may_at _ _) (h := ?_) | refine CallP.mk fx (hc := rmay_at _ _) (h := ?_))))); refine RW.nil ⟨by kernel_rfl, Pruned.mk (h := ?_)⟩) | refine SW.skip ?_ | refine SW.exit ?_ | refine SW.ret ?_ | refine SW.condT rfl ?_ | refine SW.condF rfl ?_))
    exact End.mk [] (h4 := ⟨by rw [e]; rfl, rfl⟩)
theorem covers_at (v : Vec) (d : Dt) (k : Nat) : SCd Tryz.prog vector_Covers.f [.agg v.cells, .agg d.cells] [] k 0 (bl (v.covers d)) [] := (covers_ok v d).sc rfl k
theorem rcovers_at (v : Vec) (d : Dt) (k : Nat) : SCd Tryz.prog ref04_Covers.f [.agg v.cells, .agg d.cells] [] k 0 (bl (v.covers d)) [] := (rcovers_ok v d).sc rfl k
theorem before_ok (a b : OpD) : Go.Sl.Pure Tryz.prog order_Before.f [.agg a.cells, .agg b.cells] (bl (a.before b)) := by
  refine order_Before.enter (by first | rfl | simp [SV.ok, SV.oks]) (by first | rfl | simp [Hp.ok, Ob.ok, SV.ok, SV.oks, Vec.cells_ok]) (by simp) ?_
  dsimp only [order_Before.s, Co.M, Co.G, Co.J, Co.H, Co.N, Co.F, Co.C, Co.Z, Co.B, Co.b8, Co.b32, Co.b64, Co.i6, Co.z8, Co.z29]
  (repeat (first | refine SW.seq ?_ | refine SW.block ?_ | (refine SW.regL [0, 1, 2, 3, 4] mixed ?_; (repeat (first | refine RW.ro bq_tt (h := ?_) | refine RW.skip (h := ?_) | refine RW.op bq_tt (h := ?_) | refine RW.opN bq_tt (h := ?_) | refine RW.skip0 (h := ?_) | (refine RW.callC (h := ?_); (first | refine CallP.mk bq_tt (hc := covers_at _ _ _) (h := ?_) | refine CallP.mk bq_tt (hc := rcovers_at _ _ _) (h := ?_))))); refine RW.nil ⟨by kernel_rfl, Pruned.mk (h := ?_)⟩) | refine SW.skip ?_ | refine SW.exit ?_ | refine SW.ret ?_ | refine SW.condT rfl ?_ | refine SW.condF rfl ?_))
  exact End.mk [] (h4 := ⟨rfl, rfl⟩)
theorem rbefore_ok (a b : OpD) : Go.Sl.Pure Tryz.prog ref10_Before.f [.agg a.cells, .agg b.cells] (bl (a.before b)) := by
  refine ref10_Before.enter (by first | rfl | simp [SV.ok, SV.oks]) (by first | rfl | simp [Hp.ok, Ob.ok, SV.ok, SV.oks, Vec.cells_ok]) (by simp) ?_
  dsimp only [ref10_Before.s, Co.M, Co.G, Co.J, Co.H, Co.N, Co.F, Co.C, Co.Z, Co.B, Co.b8, Co.b32, Co.b64, Co.i6, Co.z8, Co.z29]
  (repeat (first | refine SW.seq ?_ | refine SW.block ?_ | (refine SW.regL [0, 1, 2, 3, 4] mixed ?_; (repeat (first | refine RW.ro bq_tt (h := ?_) | refine RW.skip (h := ?_) | refine RW.op bq_tt (h := ?_) | refine RW.opN bq_tt (h := ?_) | refine RW.skip0 (h := ?_) | (refine RW.callC (h := ?_); (first | refine CallP.mk bq_tt (hc := covers_at _ _ _) (h := ?_) | refine CallP.mk bq_tt (hc := rcovers_at _ _ _) (h := ?_))))); refine RW.nil ⟨by kernel_rfl, Pruned.mk (h := ?_)⟩) | refine SW.skip ?_ | refine SW.exit ?_ | refine SW.ret ?_ | refine SW.condT rfl ?_ | refine SW.condF rfl ?_))
  exact End.mk [] (h4 := ⟨rfl, rfl⟩)
theorem before_at (a b : OpD) (k : Nat) : SCd Tryz.prog order_Before.f [.agg a.cells, .agg b.cells] [] k 0 (bl (a.before b)) [] := (before_ok a b).sc rfl k
theorem rbefore_at (a b : OpD) (k : Nat) : SCd Tryz.prog ref10_Before.f [.agg a.cells, .agg b.cells] [] k 0 (bl (a.before b)) [] := (rbefore_ok a b).sc rfl k
end Go.Proofs.YtlgfknfdfnaedaaGreat
namespace Go.Proofs.YtlgfknfdfnaedaaGreat
open Go.Sl Go.Proofs
section
attribute [local irreducible] SW RW SCd SC CallP Pruned
theorem spl2 : ∀ (x y a b : SV), spl (spl [x, y] 0 [a]) 1 [b] = [a, b] := fun _ _ _ _ => rfl
theorem same_ok (l m : List Dt) (hl : l.length < 4611686018427387904) (hm : m.length < 4611686018427387904) : Go.Sl.Pure Tryz.prog ref03_Same.f [dots l, dots m] (bl (decide (l = m))) := by
  refine ref03_Same.enter (by first | rfl | simp [SV.ok, SV.oks]) (by first | rfl | simp [Hp.ok, Ob.ok, SV.ok, SV.oks, Vec.cells_ok]) (by simp) ?_
  dsimp only [ref03_Same.s, Co.M, Co.G, Co.J, Co.H, Co.N, Co.F, Co.C, Co.Z, Co.B, Co.b8, Co.b32, Co.b64, Co.i6, Co.z8, Co.z29]
  by_cases hn : l.length = m.length
  · have h0 : (((l.length : Nat) : Int) != ((m.length : Nat) : Int)) = false := by simp; omega
    (repeat (first | refine SW.seq ?_ | refine SW.block ?_ | refine SW.g0 [0, 1, 4, 5, 10, 14, 25] mixed (h0) ?_ | refine SW.skip ?_ | refine SW.exit ?_ | refine SW.ret ?_ | refine SW.condT rfl ?_ | refine SW.condF rfl ?_))
    refine SW.loopA (α := {i : Nat // i ≤ l.length ∧ ∀ j, j < i → l[j]? = m[j]?}) (fun i => ⟨[(5, i64 i.1), (0, dots l), (1, dots m)], [], 0⟩) (fun i => l.length - i.1) ⟨0, by omega, by omega⟩ id bq_tt (round := ?_)
    rintro ⟨i, hi, hs⟩
    by_cases h : i < l.length
    · have h1 : decide ((i : Int) < l.length) = true := by simp only [decide_eq_true_eq]; omega
      obtain ⟨x, hx⟩ := get_of_lt h
      obtain ⟨y, hy⟩ := get_of_lt (show i < m.length by omega)
      have e2 : IntKind.i64.wrap ((i : Int) + 1) = ((i + 1 : Nat) : Int) := wrap_i64 _ (by omega)
      by_cases he : x = y
      · have e3 : decide (x = y) = true := by simp [he]
        (repeat (first | refine SW.seq ?_ | refine SW.block ?_ | refine SW.g0 [0, 1, 4, 5, 10, 14, 25] mixed (And.intro (h1) (And.intro (dot_at hx) (And.intro (dot_at hy) (And.intro (e2) (e3))))) ?_ | refine SW.skip ?_ | refine SW.exit ?_ | refine SW.ret ?_ | refine SW.condT rfl ?_ | refine SW.condF rfl ?_))
        refine Next.mk ⟨i + 1, by omega, fun j hj => ?_⟩ id bq_tt
        by_cases e : j = i
        · rw [e, hx, hy, he]
        · exact hs j (by omega)
      · have e3 : decide (x = y) = false := by simp [he]
        (repeat (first | refine SW.seq ?_ | refine SW.block ?_ | refine SW.g0 [0, 1, 4, 5, 10, 14, 25] mixed (And.intro (h1) (And.intro (dot_at hx) (And.intro (dot_at hy) (And.intro (e2) (e3))))) ?_ | refine SW.skip ?_ | refine SW.exit ?_ | refine SW.ret ?_ | refine SW.condT rfl ?_ | refine SW.condF rfl ?_))
        have : l ≠ m := fun e => by rw [e, hy] at hx; injection hx with hx; exact he hx.symm
        exact End.mk [] (h4 := ⟨by simp [retV, this], rfl⟩)
    · have h1 : decide ((i : Int) < l.length) = false := by simp only [decide_eq_false_iff_not]; omega
      (repeat (first | refine SW.seq ?_ | refine SW.block ?_ | refine SW.g0 [0, 1, 4, 5, 10, 14, 25] mixed (h1) ?_ | refine SW.skip ?_ | refine SW.exit ?_ | refine SW.ret ?_ | refine SW.condT rfl ?_ | refine SW.condF rfl ?_))
      have : l = m := ext_rows hn fun j hj => hs j (by omega)
      exact End.mk [] (h4 := ⟨by simp [retV, this], rfl⟩)
  · have h0 : (((l.length : Nat) : Int) != ((m.length : Nat) : Int)) = true := by simp; omega
    (repeat (first | refine SW.seq ?_ | refine SW.block ?_ | refine SW.g0 [0, 1, 4, 5, 10, 14, 25] mixed (h0) ?_ | refine SW.skip ?_ | refine SW.exit ?_ | refine SW.ret ?_ | refine SW.condT rfl ?_ | refine SW.condF rfl ?_))
    have : l ≠ m := fun e => hn (by rw [e])
    exact End.mk [] (h4 := ⟨by simp [retV, this], rfl⟩)
theorem same_at (l m : List Dt) (hl : l.length < 4611686018427387904) (hm : m.length < 4611686018427387904) (k : Nat) : SCd Tryz.prog ref03_Same.f [dots l, dots m] [] k 0 (bl (decide (l = m))) [] := (same_ok l m hl hm).sc rfl k
theorem op_load {l : List OpD} {i : Nat} {x : OpD} (h : l[i]? = some x) : List.take 2 (List.drop (i * 29) (List.map SV.d (l.flatMap OpD.ds))) = x.dot.cells := by
  have := op_part h (j := 0) (n := 2) (by omega)
  rw [Nat.add_zero, List.drop_zero] at this
  rw [this]; rfl
theorem op_roomd {l : List OpD} {i : Nat} {x : OpD} (h : l[i]? = some x) : (i * 29 + 2 ≤ (List.map SV.d (l.flatMap OpD.ds)).length) = True := eq_true (by
  have := lt_of_get h
  rw [List.length_map, ops_len]
  omega)
end
end Go.Proofs.YtlgfknfdfnaedaaGreat
namespace Go.Proofs.YtlgfknfdfnaedaaGreat
open Go.Sl Go.Proofs
section
attribute [local irreducible] SW RW SCd SC CallP Pruned
def nlines (o : OpD) : Nat := match o.lines with
  | .sl n _ => n
  | _ => 0
def lrow (o : OpD) : Prop := ∃ n cs, o.lines = .sl n cs ∧ n ≤ 9223372036854775807
def linesTo (l : List OpD) : Nat → Int
  | 0 => 0
  | i + 1 => IntKind.i64.wrap (linesTo l i + ((l[i]?).map nlines).getD 0)
def greatV (l : List OpD) : Bool := decide (l.length > 80) || decide (linesTo l (min l.length 100) > 300)
theorem op_lines {l : List OpD} {i : Nat} {x : OpD} (h : l[i]? = some x) : (List.map SV.d (l.flatMap OpD.ds))[i * 29 + 28]? = some (.d x.lines) := by rw [op_get h (by omega)]; rfl
theorem great_ok (l : List OpD) (hl : ∀ x, x ∈ l → lrow x) (hlen : l.length ≤ 9223372036854775807) : Go.Sl.Pure Tryz.prog ref10_Great.f [ops l] (bl (greatV l)) := by
  refine ref10_Great.enter (by first | rfl | simp [SV.ok, SV.oks]) (by first | rfl | simp [Hp.ok, Ob.ok, SV.ok, SV.oks, Vec.cells_ok]) (by simp) ?_
  dsimp only [ref10_Great.s, Co.M, Co.G, Co.J, Co.H, Co.N, Co.F, Co.C, Co.Z, Co.B, Co.b8, Co.b32, Co.b64, Co.i6, Co.z8, Co.z29]
  (repeat (first | refine SW.seq ?_ | refine SW.block ?_ | refine SW.g0 [0, 2, 3, 4, 12] mixed bq_tt ?_ | refine SW.skip ?_ | refine SW.exit ?_ | refine SW.ret ?_ | refine SW.condT rfl ?_ | refine SW.condF rfl ?_))
  refine SW.loopA (α := {i : Nat // i ≤ l.length ∧ i ≤ 100}) (fun i => ⟨[(4, i64 i.1), (0, ops l), (3, i64 (linesTo l i.1))], [], 0⟩) (fun i => 100 - i.1) ⟨0, by omega, by omega⟩ id (show linesTo l 0 = 0 from rfl) (round := ?_)
  rintro ⟨i, hi, hi2⟩
  by_cases h : i < l.length
  · have h1 : decide ((i : Int) < l.length) = true := by simp only [decide_eq_true_eq]; omega
    by_cases h2 : i < 100
    · have h3 : decide ((i : Int) < 100) = true := by simp only [decide_eq_true_eq]; omega
      obtain ⟨x, hx⟩ := get_of_lt h
      obtain ⟨n, cs, hx1, hx2⟩ := hl x (List.mem_of_getElem? hx)
      have e2 : IntKind.i64.wrap ((i : Int) + 1) = ((i + 1 : Nat) : Int) := wrap_i64 _ (by omega)
      have e3 : IntKind.i64.wrap (linesTo l i + (n : Int)) = linesTo l (i + 1) := by simp [linesTo, hx, nlines, hx1]
      (repeat (first | refine SW.seq ?_ | refine SW.block ?_ | refine SW.g0 [0, 2, 3, 4, 12] mixed (And.intro (h1) (And.intro (h3) (And.intro (op_lines hx) (And.intro (hx1) (And.intro (e2) (e3)))))) ?_ | refine SW.skip ?_ | refine SW.exit ?_ | refine SW.ret ?_ | refine SW.condT rfl ?_ | refine SW.condF rfl ?_))
      exact Next.mk ⟨i + 1, by omega, by omega⟩ id bq_tt
    · have h3 : decide ((i : Int) < 100) = false := by simp only [decide_eq_false_iff_not]; omega
      have h4 : decide ((l.length : Int) > 80) = true := by simp only [decide_eq_true_eq]; omega
      (repeat (first | refine SW.seq ?_ | refine SW.block ?_ | refine SW.g0 [0, 2, 3, 4, 12] mixed (And.intro (h1) (And.intro (h3) (h4))) ?_ | refine SW.skip ?_ | refine SW.exit ?_ | refine SW.ret ?_ | refine SW.condT rfl ?_ | refine SW.condF rfl ?_))
      have : greatV l = true := by unfold greatV; rw [show decide (l.length > 80) = true by simp; omega]; rfl
      exact End.mk [] (h4 := ⟨by rw [this]; rfl, rfl⟩)
  · have h1 : decide ((i : Int) < l.length) = false := by simp only [decide_eq_false_iff_not]; omega
    have e : min l.length 100 = i := by omega
    rcases h4 : decide ((l.length : Int) > 80) with _ | _
    · (repeat (first | refine SW.seq ?_ | refine SW.block ?_ | refine SW.g0 [0, 2, 3, 4, 12] mixed (And.intro (h1) (h4)) ?_ | refine SW.skip ?_ | refine SW.exit ?_ | refine SW.ret ?_ | refine SW.condT rfl ?_ | refine SW.condF rfl ?_))
      have : greatV l = decide (linesTo l i > 300) := by
        unfold greatV; rw [e, show decide (l.length > 80) = false by simp at h4 ⊢; omega]; rfl
      exact End.mk [] (h4 := ⟨by rw [this]; rfl, rfl⟩)
    · (repeat (first | refine SW.seq ?_ | refine SW.block ?_ | refine SW.g0 [0, 2, 3, 4, 12] mixed (And.intro (h1) (h4)) ?_ | refine SW.skip ?_ | refine SW.exit ?_ | refine SW.ret ?_ | refine SW.condT rfl ?_ | refine SW.condF rfl ?_))
      have : greatV l = true := by unfold greatV; rw [show decide (l.length > 80) = true by simp at h4 ⊢; omega]; rfl
      exact End.mk [] (h4 := ⟨by rw [this]; rfl, rfl⟩)
theorem great_at (l : List OpD) (hl : ∀ x, x ∈ l → lrow x) (hlen : l.length ≤ 9223372036854775807) (k : Nat) : SCd Tryz.prog ref10_Great.f [ops l] [] k 0 (bl (greatV l)) [] := (great_ok l hl hlen).sc rfl k
theorem great_len {l : List OpD} (h : greatV l = false) : l.length ≤ 80 := by
  unfold greatV at h
  simp only [Bool.or_eq_false_iff, decide_eq_false_iff_not] at h
  omega
def hasB (r b : Nat) : Bool := decide (r / b % 2 = 1)
def withinTo (r o : Nat) : Nat → Bool
  | 0 => true
  | i + 1 => withinTo r o i && (!hasB r (2 ^ i) || hasB o (2 ^ i))
def withinV (r o : Nat) : Bool := decide (r ≠ 0) && withinTo r o 8
theorem clone_sb (l : List OpD) (hl : l.length < 1000000000) (k : Nat) : SB Tryz.prog slices_Clone_Lapi_Op_api_Op.f [ops l] [] k 2 (fun r F' => r = .gs (k + 1) l.length ∧ F' = [(k + 1, .arr 31 29 l.length (opc l))]) := by
  refine slices_Clone_Lapi_Op_api_Op.enter (by first | rfl | simp [SV.ok, SV.oks]) (by first | rfl | simp [Hp.ok, Ob.ok, SV.ok, SV.oks, Vec.cells_ok]) (by simp) ?_
  dsimp only [slices_Clone_Lapi_Op_api_Op.s, Co.M, Co.G, Co.J, Co.H, Co.N, Co.F, Co.C, Co.Z, Co.B, Co.b8, Co.b32, Co.b64, Co.i6, Co.z8, Co.z29]
  refine SW.seq ?_
  refine SW.g0 [0, 2, 4] mixed bq_tt ?_
  refine SW.seq (SW.seq (SW.nilS (n := l.length) (cs := l.flatMap OpD.ds) rfl ?_ fun h0 => ?_))
  · refine SW.condF rfl (SW.skip ?_)
    refine (?_ : Sl.SW _ _ _ _ _ _)
    refine SW.seq ?_
    have f1 := ne4 (show k ≠ k + 1 by omega)
    refine SW.g0 [0, 2, 4] mixed (f1) ?_
    refine SW.ret ?_
    exact End.mk [(k + 1, .arr 31 29 l.length (opc l))] (h3 := HSub.cons (by simp [lk_cons]) (HSub.nil _)) (h4 := ⟨rfl, rfl⟩) (h5 := by simp [retV, SV.ok]) (h6 := by simp [Hp.ok, Ob.ok, SV.oks_d])
  · have hl0 : l = [] := List.eq_nil_of_length_eq_zero h0
    subst hl0
    refine SW.condT rfl (SW.seq ?_)
    refine SW.g0 [0, 2, 4] mixed bq_tt ?_
    refine SW.nilrow 2 31 29 rfl ?_
    refine SW.weak (fun n => if n = k + 1 then k else n) (st1 := ⟨[(2, .gs (k + 1) 0)], [(k + 1, .arr 31 29 0 [])], k + 2⟩) ?_ ?_
    · refine ⟨by simp, fun n hn => by simp; omega, ?_, ?_, ?_⟩
      · simp [EnvW, List.lookup, SV.ren, SV.ok]
      · simp [HpW, Ob.ren, Ob.ok, SV.rens, SV.oks, lk, List.lookup]
      · simp [InjW]
    refine SW.ret ?_
    exact End.mk [(k + 1, .arr 31 29 0 [])] (h3 := fun _ _ h => h) (h4 := ⟨rfl, rfl⟩) (h5 := by simp [retV, SV.ok]) (h6 := by simp [Hp.ok, Ob.ok, SV.oks])
theorem clone_at (l : List OpD) (hl : l.length < 1000000000) (k : Nat) : SCd Tryz.prog slices_Clone_Lapi_Op_api_Op.f [ops l] [] k 2 (.gs (k + 1) l.length) [(k + 1, .arr 31 29 l.length (opc l))] := by
  unfold SCd
  refine (clone_sb l hl k).here (fun _ => false) (fun n h => by cases h) rfl rfl ?_
  rintro x F ⟨rfl, rfl⟩ _ _
  simp [SV.ok, Hp.ok, Ob.ok, SV.oks_d]
end
end Go.Proofs.YtlgfknfdfnaedaaGreat
namespace Go.Proofs.YtlgfknfdfnaedaaGreat
open Go.Sl Go.Proofs
section
variable {σ : Type}
def idxD (step : σ → OpD → σ × Bool) : σ → List OpD → Option Nat × σ
  | s, [] => (none, s)
  | s, x :: l => if (step s x).2 then (some 0, (step s x).1) else ((idxD step (step s x).1 l).1.map (· + 1), (idxD step (step s x).1 l).2)
def keepD (step : σ → OpD → σ × Bool) : σ → List OpD → List OpD × σ
  | s, [] => ([], s)
  | s, x :: l => (if (step s x).2 then (keepD step (step s x).1 l).1 else x :: (keepD step (step s x).1 l).1, (keepD step (step s x).1 l).2)
theorem keepD_len (step : σ → OpD → σ × Bool) : ∀ (l : List OpD) (s : σ), (keepD step s l).1.length ≤ l.length
  | [], s => Nat.le_refl _
  | x :: l, s => by
    have := keepD_len step l (step s x).1
    simp only [keepD]
    split <;> simp <;> omega
theorem idx_none {step : σ → OpD → σ × Bool} : ∀ {l : List OpD} {s : σ}, (idxD step s l).1 = none → keepD step s l = (l, (idxD step s l).2)
  | [], s, _ => rfl
  | x :: l, s, h => by
    simp only [idxD] at h ⊢
    by_cases e : (step s x).2 = true
    · rw [if_pos e] at h; cases h
    · rw [if_neg e] at h ⊢
      have h2 : (idxD step (step s x).1 l).1 = none := by
        cases hh : (idxD step (step s x).1 l).1 with
        | none => rfl
        | some i => rw [hh] at h; cases h
      simp only [keepD]
      rw [idx_none h2, if_neg e]
theorem idx_some {step : σ → OpD → σ × Bool} : ∀ {l : List OpD} {s : σ} {i : Nat}, (idxD step s l).1 = some i → i < l.length ∧ keepD step s l = (l.take i ++ (keepD step (idxD step s l).2 (l.drop (i + 1))).1, (keepD step (idxD step s l).2 (l.drop (i + 1))).2)
  | [], s, i, h => by cases h
  | x :: l, s, i, h => by
    simp only [idxD] at h ⊢
    by_cases e : (step s x).2 = true
    · rw [if_pos e] at h ⊢
      injection h with h
      subst h
      simp [keepD, e]
    · rw [if_neg e] at h ⊢
      cases hh : (idxD step (step s x).1 l).1 with
      | none => rw [hh] at h; cases h
      | some j =>
        rw [hh] at h
        injection h with h
        dsimp only at h
        subst h
        obtain ⟨h1, h2⟩ := idx_some hh
        refine ⟨by simp; omega, ?_⟩
        simp only [keepD]
        rw [h2, if_neg e]
        simp
structure DelOk (P : Program) (g : Nat) (first cap : List SV) (Fh : σ → Hp) (step : σ → OpD → σ × Bool) (nky : Nat) (I : Nat → σ → Prop) (G : OpD → Prop) (B : Nat) : Prop where
  nd : ∀ s, ((Fh s).map (·.1)).Nodup
  nm : ∀ s x, (Fh (step s x).1).map (·.1) = (Fh s).map (·.1)
  nx : ∀ i s x, I i s → G x → i < B → I (i + 1) (step s x).1
  ok : ∀ s x q, (Fh s).ok q = true → (Fh (step s x).1).ok q = true
  call : ∀ i s x k, I i s → G x → i < B → (Fh s).ok (fun n => decide (n < k)) = true → SCd P g (first ++ [.agg x.cells] ++ cap) (Fh s) k nky (bl (step s x).2) (Fh (step s x).1)
  a1 : ∀ s q, (Fh s).ok q = true → SV.oks q first = true ∧ SV.oks q cap = true
end
section
attribute [local irreducible] SW RW SCd SC CallP Pruned
variable {σ : Type} {g : Nat} {first cap : List SV} {Fh : σ → Hp} {step : σ → OpD → σ × Bool} {nky : Nat} {I : Nat → σ → Prop} {G : OpD → Prop} {B : Nat}
def idxV (o : Option Nat) : SV := match o with
  | some i => i64 i
  | none => i64 (-1)
structure Here (Fh : σ → Hp) (n k : Nat) (s0 s : σ) : Prop where
  nm : (Fh s).map (·.1) = (Fh s0).map (·.1)
  ok : (Fh s).ok (fun n => decide (n < k)) = true
  no : lk (Fh s) n = none
theorem Here.mono {n k k' : Nat} {s0 s : σ} (h : Here Fh n k s0 s) (hk : k ≤ k') : Here Fh n k' s0 s := ⟨h.nm, Hp.ok_less hk h.ok, h.no⟩
theorem Here.next (hd : DelOk Tryz.prog g first cap Fh step nky I G B) {n k : Nat} {s0 s : σ} (h : Here Fh n k s0 s) (x : OpD) : Here Fh n k s0 (step s x).1 :=
  ⟨(hd.nm s x).trans h.nm, hd.ok s x _ h.ok, lk_none_of (by rw [hd.nm s x]; exact not_mem_of h.no)⟩
theorem Here.okr {n k : Nat} {s0 s : σ} (h : Here Fh n k s0 s) (hn : n < k) {e sz len : Nat} (ds : List DV) : Hp.ok (fun n => decide (n < k)) ((n, .arr e sz len (ds.map SV.d)) :: Fh s) = true := ok_cons (by simpa using hn) (SV.oks_d _) h.ok
theorem Here.nd (hd : DelOk Tryz.prog g first cap Fh step nky I G B) {n k : Nat} {s0 s : σ} (h : Here Fh n k s0 s) (o : Ob) : (((n, o) :: Fh s : Hp).map (·.1)).Nodup := nd_cons h.no (hd.nd s)
variable (hd : DelOk Tryz.prog g first cap Fh step nky I G B)
include hd in
set_option maxHeartbeats 1000000 in
theorem indexF_sb (l : List OpD) (s0 : σ) (hl : l.length < 1000000000) (hB : l.length ≤ B) (hG : ∀ x, x ∈ l → G x) (hI : I 0 s0) (n k : Nat) (hn : n < k) (h0 : Here Fh n k s0 s0) :
    SB Tryz.prog slices_IndexFunc_Lapi_Op_api_Op.f [.gs n l.length, .fn (.func g) first cap] ((n, .arr 31 29 l.length (opc l)) :: Fh s0) k (l.length * nky)
      (fun r F' => r = idxV (idxD step s0 l).1 ∧ F' = (n, .arr 31 29 l.length (opc l)) :: Fh (idxD step s0 l).2) := by
  obtain ⟨o1, o2⟩ := hd.a1 s0 _ h0.ok
  refine slices_IndexFunc_Lapi_Op_api_Op.enter (by simp [SV.ok, SV.oks, o1, o2, hn]) (h0.okr hn _) (by simp) ?_
  dsimp only [slices_IndexFunc_Lapi_Op_api_Op.s, Co.M, Co.G, Co.J, Co.H, Co.N, Co.F, Co.C, Co.Z, Co.B, Co.b8, Co.b32, Co.b64, Co.i6, Co.z8, Co.z29]
  refine SW.seq ?_
  refine SW.g0 [0, 1, 4, 5, 7, 8, 9, 16] mixed bq_tt ?_
  refine SW.seq (SW.seq ?_)
  refine SW.g0 [0, 1, 4, 5, 7, 8, 9, 16] mixed bq_tt ?_
  refine SW.block ?_
  refine SW.loop (α := {x : Nat × σ // x.1 ≤ l.length ∧ I x.1 x.2 ∧ Here Fh n (k + x.1 * nky) s0 x.2 ∧ idxD step s0 l = ((idxD step x.2 (l.drop x.1)).1.map (· + x.1), (idxD step x.2 (l.drop x.1)).2)})
    (fun x => ⟨[(8, i64 x.1.1), (7, i64 l.length), (0, .gs n l.length), (1, .fn (.func g) first cap)], (n, .arr 31 29 l.length (opc l)) :: Fh x.1.2, k + x.1.1 * nky⟩) (fun x => l.length - x.1.1)
    ⟨(0, s0), by omega, hI, by simpa using h0, by simp⟩ id ?_ ?_
  · exact Weak.same (by simp) (by simp [EnvW, List.lookup, SV.ren, SV.rens_id, SV.ok, o1, o2, hn]) (by simpa using h0.okr hn _) (lk_of_nodup (h0.nd hd _))
  rintro ⟨⟨i, s⟩, hi, hIs, hh, he⟩
  dsimp only at hi hIs hh he ⊢
  have hkk : k ≤ k + i * nky := by omega
  by_cases h : i < l.length
  · have h1 : decide ((i : Int) < l.length) = true := by simp only [decide_eq_true_eq]; omega
    obtain ⟨x, hx⟩ := get_of_lt h
    have hdr : l.drop i = x :: l.drop (i + 1) := by
      rw [List.drop_eq_getElem_cons h]
      rw [List.getElem?_eq_getElem h] at hx
      injection hx with hx
      rw [hx]
    have e2 : IntKind.i64.wrap ((i : Int) + 1) = ((i + 1 : Nat) : Int) := wrap_i64 _ (by omega)
    have hc := hd.call i s x (k + i * nky) hIs (hG x (List.mem_of_getElem? hx)) (by omega) hh.ok
    have hs : HSub (Fh s) ((n, .arr 31 29 l.length (opc l)) :: Fh s) := sub_cons hh.no fun _ _ h => h
    have hm : hsets (hdels ((n, Ob.arr 31 29 l.length (opc l)) :: Fh s) (Fh (step s x).1) (Fh s)) (Fh (step s x).1) = (n, .arr 31 29 l.length (opc l)) :: Fh (step s x).1 :=
      mrg_tail (pre := [(n, .arr 31 29 l.length (opc l))]) (hd.nm s x).symm (hh.nd hd _)
    have hh2 := (hh.next hd x).mono (k' := k + i * nky + nky) (by omega)
    have hk2 : k + i * nky + nky = k + (i + 1) * nky := by rw [Nat.succ_mul]; omega
    rw [hdr] at he
    simp only [idxD] at he
    refine SW.seq ?_
    refine SW.g0 [0, 1, 4, 5, 7, 8, 9, 16] mixed (h1) ?_
    refine SW.seq (SW.condT rfl (SW.skip ?_))
    refine (?_ : Sl.SW _ _ _ _ _ _)
    refine SW.seq (SW.block (SW.seq ?_))
    refine SW.g0 [0, 1, 4, 5, 7, 8, 9, 16] mixed bq_tt ?_
    refine SW.seq ?_
    rcases hb : (step s x).2 with _ | _
    · rw [hb] at hc
      refine SW.g1 [0, 1, 4, 5, 7, 8, 9, 16] mixed (And.intro (op_at hx) (And.intro (op_room0 hx) (hm))) (And.intro hs hc) ?_
      refine SW.condF rfl (SW.skip ?_)
      refine SW.g0 [0, 1, 4, 5, 7, 8, 9, 16] mixed (e2) ?_
      rw [if_neg (by rw [hb]; simp)] at he
      have hh3 : Here Fh n (k + (i + 1) * nky) s0 (step s x).1 := by rw [← hk2]; exact hh2
      refine ⟨⟨(i + 1, (step s x).1), by dsimp only; omega, hd.nx i s x hIs (hG x (List.mem_of_getElem? hx)) (by omega), hh3, ?_⟩, id, by simp; omega, ?_⟩
      · rw [he]
        simp only [Option.map_map]
        congr 2
        funext j
        simp only [Function.comp]
        omega
      · exact Weak.same (by simp) (by simp [EnvW, List.lookup, SV.ren, SV.rens_id, SV.ok]; exact ⟨by omega, (hd.a1 s0 _ (Hp.ok_less (by omega) h0.ok)).1, (hd.a1 s0 _ (Hp.ok_less (by omega) h0.ok)).2⟩) (hh3.okr (by omega) _) (lk_of_nodup (hh3.nd hd _))
    · rw [hb] at hc
      refine SW.g1 [0, 1, 4, 5, 7, 8, 9, 16] mixed (And.intro (op_at hx) (And.intro (op_room0 hx) (hm))) (And.intro hs hc) ?_
      refine SW.condT rfl (SW.seq ?_)
      have : k + i * nky + nky ≤ k + l.length * nky := by
        have := Nat.mul_le_mul_right nky (show i + 1 ≤ l.length by omega)
        omega
      refine SW.weak id (st1 := ⟨[(5, i64 i)], (n, .arr 31 29 l.length (opc l)) :: Fh (step s x).1, k + l.length * nky⟩) (Weak.same (by simp) (by simp [EnvW, List.lookup, SV.ren, SV.ok]) ((hh2.mono this).okr (by omega) _) (lk_of_nodup (hh2.nd hd _))) ?_
      refine SW.g0 [0, 1, 4, 5, 7, 8, 9, 16] mixed bq_tt ?_
      rw [if_pos (by rw [hb])] at he
      refine SW.ret ?_
      rw [he]
      exact End.mk ((n, .arr 31 29 l.length (opc l)) :: Fh (step s x).1) (h3 := fun _ _ h => h) (h4 := ⟨by simp [retV, idxV], rfl⟩) (h6 := (hh2.mono this).okr (by omega) _)
  · have h1 : decide ((i : Int) < l.length) = false := by simp only [decide_eq_false_iff_not]; omega
    have e : i = l.length := by omega
    subst e
    rw [List.drop_length] at he
    refine SW.seq ?_
    refine SW.g0 [0, 1, 4, 5, 7, 8, 9, 16] mixed (h1) ?_
    refine SW.seq (SW.condF rfl (SW.exit ?_))
    refine (?_ : Sl.SW _ _ _ _ _ _)
    refine SW.seq ?_
    refine SW.g0 [0, 1, 4, 5, 7, 8, 9, 16] mixed bq_tt ?_
    refine SW.ret ?_
    rw [he]
    exact End.mk ((n, .arr 31 29 l.length (opc l)) :: Fh s) (h3 := fun _ _ h => h) (h4 := ⟨rfl, rfl⟩) (h6 := (hh.mono (by omega)).okr (by omega) _)
include hd in
theorem idxD_ok {q : Nat → Bool} : ∀ (l : List OpD) (s : σ), (Fh s).ok q = true → (Fh (idxD step s l).2).ok q = true
  | [], s, h => h
  | x :: l, s, h => by
    simp only [idxD]
    split
    · exact hd.ok s x q h
    · exact idxD_ok l _ (hd.ok s x q h)
include hd in
theorem keepD_ok {q : Nat → Bool} : ∀ (l : List OpD) (s : σ), (Fh s).ok q = true → (Fh (keepD step s l).2).ok q = true
  | [], s, h => h
  | x :: l, s, h => keepD_ok l _ (hd.ok s x q h)
include hd in
theorem idxD_nm : ∀ (l : List OpD) (s : σ), (Fh (idxD step s l).2).map (·.1) = (Fh s).map (·.1)
  | [], s => rfl
  | x :: l, s => by
    simp only [idxD]
    split
    · exact hd.nm s x
    · exact (idxD_nm l _).trans (hd.nm s x)
include hd in
theorem idxD_I : ∀ (l : List OpD) (s : σ) (i : Nat), (∀ x, x ∈ l → G x) → i + l.length ≤ B → I i s → ∀ j, (idxD step s l).1 = some j → I (i + j + 1) (idxD step s l).2
  | [], s, i, _, _, _, j, h => by cases h
  | x :: l, s, i, hG, hB, hi, j, h => by
    simp only [List.length_cons] at hB
    simp only [idxD] at h ⊢
    by_cases e : (step s x).2 = true
    · rw [if_pos e] at h ⊢
      injection h with h; subst h
      exact hd.nx i s x hi (hG x (by simp)) (by omega)
    · rw [if_neg e] at h ⊢
      cases hh : (idxD step (step s x).1 l).1 with
      | none => rw [hh] at h; cases h
      | some q =>
        rw [hh] at h
        injection h with h
        dsimp only at h
        subst h
        have := idxD_I l (step s x).1 (i + 1) (fun y hy => hG y (List.mem_cons_of_mem _ hy)) (by omega) (hd.nx i s x hi (hG x (by simp)) (by omega)) q hh
        rwa [show i + (q + 1) + 1 = i + 1 + q + 1 by omega]
theorem own_ok {n : Nat} {s : σ} {o : Ob} (ho : ∀ q, o.ok q = true) (hcl : (Fh s).ok (fun m => (lk (Fh s) m).isSome) = true) (hno : lk (Fh s) n = none) : Hp.ok (fun m => (lk ((n, o) :: Fh s) m).isSome) ((n, o) :: Fh s) = true := by
  refine ok_cons (by simp [lk_cons]) (ho _) (Hp.ok_mono (fun m hm => ?_) hcl)
  rw [lk_cons]
  split
  · rfl
  · exact hm
include hd in
theorem indexF_at (l : List OpD) (s0 : σ) (hl : l.length < 1000000000) (hB : l.length ≤ B) (hG : ∀ x, x ∈ l → G x) (hI : I 0 s0) (n k : Nat) (hn : n < k) (h0 : Here Fh n k s0 s0) (hcl : (Fh s0).ok (fun m => (lk (Fh s0) m).isSome) = true) :
    SCd Tryz.prog slices_IndexFunc_Lapi_Op_api_Op.f [.gs n l.length, .fn (.func g) first cap] ((n, .arr 31 29 l.length (opc l)) :: Fh s0) k (l.length * nky) (idxV (idxD step s0 l).1) ((n, .arr 31 29 l.length (opc l)) :: Fh (idxD step s0 l).2) := by
  unfold SCd
  have hq := own_ok (n := n) (o := .arr 31 29 l.length (opc l)) (fun q => SV.oks_d _) hcl h0.no
  have hq0 : (Fh s0).ok (fun m => (lk ((n, Ob.arr 31 29 l.length (opc l)) :: Fh s0) m).isSome) = true := by
    simp only [Hp.ok, List.all_cons, Bool.and_eq_true] at hq ⊢
    exact hq.2
  obtain ⟨o1, o2⟩ := hd.a1 s0 _ hq0
  refine (indexF_sb hd l s0 hl hB hG hI n k hn h0).here (fun m => (lk ((n, Ob.arr 31 29 l.length (opc l)) :: Fh s0) m).isSome) (fun m h e => by rw [e] at h; cases h) (by simp only [SV.oks, SV.ok, o1, o2, Bool.and_true]; simp [lk_cons]) hq ?_
  rintro x F ⟨rfl, rfl⟩ _ _
  refine ⟨by unfold idxV; split <;> rfl, ?_⟩
  have := idxD_ok hd l s0 hq0
  exact ok_cons (by simp [lk_cons]) (SV.oks_d _) (Hp.ok_mono (fun m hm => by rw [hm]; rfl) this)
end
end Go.Proofs.YtlgfknfdfnaedaaGreat
namespace Go.Proofs.YtlgfknfdfnaedaaGreat
open Go.Sl Go.Proofs
theorem set_take {α : Type} {l : List α} {w : Nat} {x : α} (h : w < l.length) : (l.set w x).take (w + 1) = l.take w ++ [x] := by
  rw [take_snoc (x := x) (by simp [h]), List.take_set_of_le (Nat.le_refl _)]
theorem set_drop {α : Type} {l : List α} {w j : Nat} {x : α} (h : w < j) : (l.set w x).drop j = l.drop j := by
  rw [List.drop_set_of_lt h]
theorem drop_cons {α : Type} {l : List α} {i : Nat} {x : α} (hx : l[i]? = some x) : l.drop i = x :: l.drop (i + 1) := by
  have h := lt_of_get hx
  rw [List.drop_eq_getElem_cons h]
  rw [List.getElem?_eq_getElem h] at hx
  injection hx with hx
  rw [hx]
theorem get_drop {α : Type} {l m : List α} {j : Nat} {x : α} (h : l.drop j = m.drop j) (hx : m[j]? = some x) : l[j]? = some x := by
  have h1 : (l.drop j)[0]? = l[j]? := by simp
  have h2 : (m.drop j)[0]? = m[j]? := by simp
  rw [← h1, h, h2]; exact hx
theorem drop_more {α : Type} {l m : List α} {j : Nat} (h : l.drop j = m.drop j) : l.drop (j + 1) = m.drop (j + 1) := by
  have : ∀ q : List α, q.drop (j + 1) = (q.drop j).drop 1 := fun q => by rw [List.drop_drop]
  rw [this, this, h]
theorem clr_take (cur : List OpD) (w m : Nat) (z : List SV) (hz : z.length = 29) (hw : w + m = cur.length) : (spl (opc cur) (w * 29) ((List.replicate m z).flatten)).take (w * 29) = opc (cur.take w) := by
  have hl : ((List.replicate m z).flatten).length = m * 29 := by simp [hz]
  have hc : (opc cur).length = cur.length * 29 := by rw [List.length_map, ops_len]
  rw [spl_eq (by rw [hl, hc, ← hw, Nat.add_mul]; exact Nat.le_refl _), List.append_assoc, List.take_append_of_le_length (by rw [List.length_take, hc, ← hw, Nat.add_mul]; omega), List.take_of_length_le (by rw [List.length_take]; omega)]
  show ((cur.flatMap OpD.ds).map SV.d).take (w * 29) = _
  rw [← List.map_take]
  congr 1
  conv => lhs; rw [← List.take_append_drop w cur]
  rw [List.flatMap_append, List.take_append_of_le_length, List.take_of_length_le]
  · rw [ops_len, List.length_take]; exact Nat.mul_le_mul_right 29 (Nat.min_le_left _ _)
  · rw [ops_len, List.length_take, Nat.min_eq_left (by omega)]; exact Nat.le_refl _
section
attribute [local irreducible] SW RW SCd SC CallP Pruned
variable {σ : Type} {g : Nat} {first cap : List SV} {Fh : σ → Hp} {step : σ → OpD → σ × Bool} {nky : Nat} {I : Nat → σ → Prop} {G : OpD → Prop} {B : Nat}
variable (hd : DelOk Tryz.prog g first cap Fh step nky I G B)
include hd in
set_option maxHeartbeats 4000000 in
theorem deleteF_sb (l : List OpD) (s0 : σ) (hl : l.length < 1000000000) (hB : l.length ≤ B) (hG : ∀ x, x ∈ l → G x) (hI : I 0 s0) (n k : Nat) (hn : n < k) (h0 : Here Fh n k s0 s0) (hcl : (Fh s0).ok (fun m => (lk (Fh s0) m).isSome) = true) :
    SB Tryz.prog slices_DeleteFunc_Lapi_Op_api_Op.f [.gs n l.length, .fn (.func g) first cap] ((n, .arr 31 29 l.length (opc l)) :: Fh s0) k (l.length * nky + l.length * (nky + 1))
      (fun r F' => r = .gs n (keepD step s0 l).1.length ∧ F' = (n, .arr 31 29 (keepD step s0 l).1.length (opc (keepD step s0 l).1)) :: Fh (keepD step s0 l).2) := by
  obtain ⟨o1, o2⟩ := hd.a1 s0 _ h0.ok
  have ok1 : ∀ kx, k ≤ kx → SV.oks (fun n => decide (n < kx)) first = true ∧ SV.oks (fun n => decide (n < kx)) cap = true := fun kx hx => hd.a1 s0 _ (Hp.ok_less hx h0.ok)
  refine slices_DeleteFunc_Lapi_Op_api_Op.enter (by simp [SV.ok, SV.oks, o1, o2, hn]) (h0.okr hn _) (by simp) ?_
  dsimp only [slices_DeleteFunc_Lapi_Op_api_Op.s, Co.M, Co.G, Co.J, Co.H, Co.N, Co.F, Co.C, Co.Z, Co.B, Co.b8, Co.b32, Co.b64, Co.i6, Co.z8, Co.z29]
  have hx := indexF_at hd l s0 hl hB hG hI n k hn h0 hcl
  have hm0 : hsets (hdels ((n, Ob.arr 31 29 l.length (opc l)) :: Fh s0) ((n, Ob.arr 31 29 l.length (opc l)) :: Fh (idxD step s0 l).2) (Fh s0)) (Fh (idxD step s0 l).2) = (n, Ob.arr 31 29 l.length (opc l)) :: Fh (idxD step s0 l).2 :=
    mrg_tail1 (idxD_nm hd l s0).symm (h0.nd hd _)
  have h1s : Here Fh n k s0 (idxD step s0 l).2 := ⟨idxD_nm hd l s0, idxD_ok hd l s0 h0.ok, lk_none_of (by rw [idxD_nm hd l s0]; exact not_mem_of h0.no)⟩
  refine SW.seq ?_
  refine SW.g0 [0, 1, 4, 5, 6, 7, 12, 19, 29] mixed bq_tt ?_
  refine SW.seq ?_
  rcases hi : (idxD step s0 l).1 with _ | i
  · have hk := idx_none hi
    rw [hi] at hx
    have hx : SCd Tryz.prog slices_IndexFunc_Lapi_Op_api_Op.f [.gs n l.length, .fn (.func g) first cap] ((n, .arr 31 29 l.length (opc l)) :: Fh s0) k (l.length * nky) (.d (.int .i64 (-1))) ((n, .arr 31 29 l.length (opc l)) :: Fh (idxD step s0 l).2) := hx
    (refine SW.regL [0, 1, 4, 5, 6, 7, 12, 19, 29] mixed ?_; (repeat (first | refine RW.ro (hm0) (h := ?_) | refine RW.skip (h := ?_) | refine RW.op (hm0) (h := ?_) | refine RW.opN (hm0) (h := ?_) | refine RW.skip0 (h := ?_) | (refine RW.callC (h := ?_); (first | refine CallP.mk (hm0) (hs := (fun _ _ h => h)) (hc := hx) (h := ?_))))); refine RW.nil ⟨by kernel_rfl, Pruned.mk (h := ?_)⟩)
    refine SW.seq (SW.seq ?_)
    refine SW.g0 [0, 1, 4, 5, 6, 7, 12, 19, 29] mixed bq_tt ?_
    refine SW.condT rfl (SW.seq ?_)
    refine SW.weak id (st1 := ⟨[(0, .gs n l.length)], (n, .arr 31 29 l.length (opc l)) :: Fh (idxD step s0 l).2, k + (l.length * nky + l.length * (nky + 1))⟩) (Weak.same (by simp) (by simp [EnvW, List.lookup, SV.ren, SV.ok]; omega) ((h1s.mono (by show k ≤ k + (l.length * nky + l.length * (nky + 1)); omega)).okr (by show n < k + (l.length * nky + l.length * (nky + 1)); omega) _) (lk_of_nodup (h1s.nd hd _))) ?_
    refine SW.g0 [0, 1, 4, 5, 6, 7, 12, 19, 29] mixed bq_tt ?_
    refine SW.ret ?_
    rw [hk]
    exact End.mk ((n, .arr 31 29 l.length (opc l)) :: Fh (idxD step s0 l).2) (h3 := fun _ _ h => h) (h4 := ⟨rfl, rfl⟩) (h5 := by simp [retV, SV.ok]; omega) (h6 := (h1s.mono (by omega)).okr (by omega) _)
  · obtain ⟨hil, hk⟩ := idx_some hi
    have hI1 := idxD_I hd l s0 0 hG (by omega) hI i hi
    rw [hi] at hx
    have hx : SCd Tryz.prog slices_IndexFunc_Lapi_Op_api_Op.f [.gs n l.length, .fn (.func g) first cap] ((n, .arr 31 29 l.length (opc l)) :: Fh s0) k (l.length * nky) (i64 i) ((n, .arr 31 29 l.length (opc l)) :: Fh (idxD step s0 l).2) := hx
    obtain ⟨s1, hs1⟩ : ∃ s1, (idxD step s0 l).2 = s1 := ⟨_, rfl⟩
    rw [hs1] at hx hm0 h1s hk hI1
    (refine SW.regL [0, 1, 4, 5, 6, 7, 12, 19, 29] mixed ?_; (repeat (first | refine RW.ro (hm0) (h := ?_) | refine RW.skip (h := ?_) | refine RW.op (hm0) (h := ?_) | refine RW.opN (hm0) (h := ?_) | refine RW.skip0 (h := ?_) | (refine RW.callC (h := ?_); (first | refine CallP.mk (hm0) (hs := (fun _ _ h => h)) (hc := hx) (h := ?_))))); refine RW.nil ⟨by kernel_rfl, Pruned.mk (h := ?_)⟩)
    have hne : ((i : Int) == -1) = false := by rw [beq_eq_false_iff_ne]; omega
    refine SW.seq (SW.seq ?_)
    refine SW.g0 [0, 1, 4, 5, 6, 7, 12, 19, 29] mixed (hne) ?_
    refine SW.condF rfl (SW.skip ?_)
    refine (?_ : Sl.SW _ _ _ _ _ _)
    have e1 : IntKind.i64.wrap ((i : Int) + 1) = ((i + 1 : Nat) : Int) := wrap_i64 _ (by omega)
    refine SW.seq (SW.seq ?_)
    refine SW.g0 [0, 1, 4, 5, 6, 7, 12, 19, 29] mixed (e1) ?_
    refine SW.block ?_
    let K0 := k + l.length * nky
    let Inv : Nat → Nat → List OpD → σ → Prop := fun j w cur s => (j ≤ l.length ∧ w < j ∧ cur.length = l.length) ∧ cur.drop j = l.drop j ∧ I j s ∧ Here Fh n (K0 + j * (nky + 1)) s0 s ∧ keepD step s0 l = (cur.take w ++ (keepD step s (l.drop j)).1, (keepD step s (l.drop j)).2)
    refine SW.loop (α := {x : Nat × Nat × List OpD × σ // Inv x.1 x.2.1 x.2.2.1 x.2.2.2})
      (fun x => ⟨[(6, i64 x.1.1), (5, i64 x.1.2.1), (0, .gs n l.length), (1, .fn (.func g) first cap)], (n, .arr 31 29 l.length (opc x.1.2.2.1)) :: Fh x.1.2.2.2, K0 + x.1.1 * (nky + 1)⟩) (fun x => l.length - x.1.1)
      ⟨(i + 1, i, l, s1), ⟨by show i + 1 ≤ l.length; omega, by show i < i + 1; omega, rfl⟩, rfl, by rw [Nat.zero_add] at hI1; exact hI1, h1s.mono (by show k ≤ k + l.length * nky + _; omega), hk⟩ id ?_ ?_
    · refine Weak.same (by show k ≤ k + l.length * nky + _; omega) (by simp [EnvW, List.lookup, SV.ren, SV.rens_id, SV.ok]; exact ⟨by show n < k + l.length * nky + _; omega, ok1 _ (by show k ≤ k + l.length * nky + _; omega)⟩) ((h1s.mono (by show k ≤ k + l.length * nky + _; omega)).okr (by show n < k + l.length * nky + _; omega) _) (lk_of_nodup (h1s.nd hd _))
    rintro ⟨⟨j, w, cur, s⟩, ⟨hj, hwj, hcl2⟩, hdr, hIs, hh, he⟩
    dsimp only at hj hwj hcl2 hdr hIs hh he ⊢
    have hKk : k ≤ K0 + j * (nky + 1) := by show k ≤ k + l.length * nky + _; omega
    obtain ⟨K, hK⟩ : ∃ K, K0 + j * (nky + 1) = K := ⟨_, rfl⟩
    have hK1 : K0 + (j + 1) * (nky + 1) = K + 1 + nky := by rw [← hK, Nat.succ_mul]; omega
    rw [hK] at hh hKk ⊢
    by_cases h : j < l.length
    · have h1 : decide ((j : Int) < l.length) = true := by simp only [decide_eq_true_eq]; omega
      obtain ⟨x, hxl⟩ := get_of_lt h
      have hxc : cur[j]? = some x := get_drop hdr hxl
      have e2 : IntKind.i64.wrap ((j : Int) + 1) = ((j + 1 : Nat) : Int) := wrap_i64 _ (by omega)
      have e3 : IntKind.i64.wrap ((w : Int) + 1) = ((w + 1 : Nat) : Int) := wrap_i64 _ (by omega)
      have hGx := hG x (List.mem_of_getElem? hxl)
      rw [drop_cons hxl] at he
      simp only [keepD] at he
      have hfr : lk (Fh s) K = none := Hp.out hh.ok (Nat.le_refl _)
      have hfr' : List.lookup K (Fh s) = none := hfr
      have f1 := ne4 (show K ≠ n by omega)
      have hh1 := hh.mono (k' := K + 1) (by omega)
      have hc := hd.call j s x (K + 1) hIs hGx (by omega) hh1.ok
      have hs : HSub (Fh s) ((K, .box 31 x.cells) :: (n, .arr 31 29 l.length (opc cur)) :: Fh s) := sub_cons hfr (sub_cons hh.no fun _ _ h => h)
      have hnd : (((K, Ob.box 31 x.cells) :: (n, Ob.arr 31 29 l.length (opc cur)) :: Fh s : Hp).map (·.1)).Nodup := nd_cons (by rw [lk_cons, if_neg (by omega)]; exact hfr) (hh.nd hd _)
      have hm : hsets (hdels ((K, Ob.box 31 x.cells) :: (n, Ob.arr 31 29 l.length (opc cur)) :: Fh s) (Fh (step s x).1) (Fh s)) (Fh (step s x).1) = (K, Ob.box 31 x.cells) :: (n, .arr 31 29 l.length (opc cur)) :: Fh (step s x).1 :=
        mrg_tail (pre := [(K, .box 31 x.cells), (n, .arr 31 29 l.length (opc cur))]) (hd.nm s x).symm hnd
      have hh2 : Here Fh n (K0 + (j + 1) * (nky + 1)) s0 (step s x).1 := by rw [hK1]; exact (hh.next hd x).mono (by omega)
      have hfr2 : List.lookup K (Fh (step s x).1) = none := lk_none_of (by rw [hd.nm s x]; exact not_mem_of hfr)
      have hdr2 := drop_more hdr
      refine SW.seq (SW.seq ?_)
      refine SW.g0 [0, 1, 4, 5, 6, 7, 12, 19, 29] mixed (h1) ?_
      refine SW.condT rfl (SW.skip ?_)
      refine (?_ : Sl.SW _ _ _ _ _ _)
      refine SW.seq (SW.block (SW.seq ?_))
      refine SW.g0 [0, 1, 4, 5, 6, 7, 12, 19, 29] mixed (And.intro (op_at hxc) (And.intro (op_room0 hxc) (And.intro (hfr') (f1)))) ?_
      refine SW.seq ?_
      rcases hb : (step s x).2 with _ | _
      · rw [hb] at hc
        refine SW.g1 [0, 1, 4, 5, 6, 7, 12, 19, 29] mixed (hm) (And.intro hs hc) ?_
        refine SW.condT rfl (SW.seq ?_)
        have hs1 : spl (List.map SV.d (cur.flatMap OpD.ds)) (w * 29) x.cells = List.map SV.d ((cur.set w x).flatMap OpD.ds) := op_set x (by omega)
        have hs2 : (w * 29 + 29 ≤ (List.map SV.d (cur.flatMap OpD.ds)).length) = True := eq_true (by rw [List.length_map, ops_len, hcl2]; omega)
        refine SW.g0 [0, 1, 4, 5, 6, 7, 12, 19, 29] mixed (And.intro (hs1) (And.intro (hs2) (f1))) ?_
        refine SW.g0 [0, 1, 4, 5, 6, 7, 12, 19, 29] mixed (e3) ?_
        refine SW.g0 [0, 1, 4, 5, 6, 7, 12, 19, 29] mixed (e2) ?_
        rw [if_neg (by rw [hb]; simp)] at he
        refine ⟨⟨(j + 1, w + 1, cur.set w x, (step s x).1), ⟨by show j + 1 ≤ l.length; omega, by show w + 1 < j + 1; omega, by simp [hcl2]⟩, by rw [set_drop (by omega)]; exact hdr2, hd.nx j s x hIs hGx (by omega), hh2, ?_⟩, id, by simp; omega, ?_⟩
        · rw [he, set_take (by omega)]; simp
        · exact Weak.same (by show k ≤ k + l.length * nky + _; omega) (by simp [EnvW, List.lookup, SV.ren, SV.rens_id, SV.ok]; exact ⟨by show n < k + l.length * nky + _; omega, ok1 _ (by show k ≤ k + l.length * nky + _; omega)⟩) (hh2.okr (by show n < k + l.length * nky + _; omega) _) (fun y hy => by
            rw [lk_cons, if_neg ?_]
            · exact lk_of_nodup (hh2.nd hd _) y hy
            · intro e
              rcases List.mem_cons.1 hy with rfl | hy
              · dsimp only at e; omega
              · have := mem_names (lk_of_nodup (hd.nd _) y hy)
                rw [e] at this
                exact not_mem_of hfr2 this)
      · rw [hb] at hc
        refine SW.g1 [0, 1, 4, 5, 6, 7, 12, 19, 29] mixed (hm) (And.intro hs hc) ?_
        refine SW.condF rfl (SW.skip ?_)
        refine SW.g0 [0, 1, 4, 5, 6, 7, 12, 19, 29] mixed (e2) ?_
        rw [if_pos (by rw [hb])] at he
        refine ⟨⟨(j + 1, w, cur, (step s x).1), ⟨by show j + 1 ≤ l.length; omega, by show w < j + 1; omega, hcl2⟩, hdr2, hd.nx j s x hIs hGx (by omega), hh2, he⟩, id, by simp; omega, ?_⟩
        exact Weak.same (by show k ≤ k + l.length * nky + _; omega) (by simp [EnvW, List.lookup, SV.ren, SV.rens_id, SV.ok]; exact ⟨by show n < k + l.length * nky + _; omega, ok1 _ (by show k ≤ k + l.length * nky + _; omega)⟩) (hh2.okr (by show n < k + l.length * nky + _; omega) _) (fun y hy => by
            rw [lk_cons, if_neg ?_]
            · exact lk_of_nodup (hh2.nd hd _) y hy
            · intro e
              rcases List.mem_cons.1 hy with rfl | hy
              · dsimp only at e; omega
              · have := mem_names (lk_of_nodup (hd.nd _) y hy)
                rw [e] at this
                exact not_mem_of hfr2 this)
    · have h1 : decide ((j : Int) < l.length) = false := by simp only [decide_eq_false_iff_not]; omega
      have e : j = l.length := by omega
      rw [e, List.drop_length] at he
      simp only [keepD, List.append_nil] at he
      have hKe : K = k + (l.length * nky + l.length * (nky + 1)) := by rw [← hK, e]; show k + l.length * nky + _ = _; omega
      rw [e] at h1
      refine SW.seq (SW.seq ?_)
      rw [e]
      refine SW.g0 [0, 1, 4, 5, 6, 7, 12, 19, 29] mixed (h1) ?_
      refine SW.condF rfl (SW.exit ?_)
      refine (?_ : Sl.SW _ _ _ _ _ _)
      have e4 : (w * 29 + (l.length - w) * 29 ≤ (List.map SV.d (cur.flatMap OpD.ds)).length) = True := eq_true (by
        rw [List.length_map, ops_len, hcl2, ← Nat.add_mul]
        exact Nat.mul_le_mul_right 29 (by omega))
      refine SW.seq ?_
      refine SW.g0 [0, 1, 4, 5, 6, 7, 12, 19, 29] mixed (e4) ?_
      have hz : (OpD.zero.cells).length = 29 := rfl
      have hct := clr_take cur w (l.length - w) OpD.zero.cells hz (by omega)
      obtain ⟨Z, hZ⟩ : ∃ Z, spl (opc cur) (w * 29) (List.replicate (l.length - w) OpD.zero.cells).flatten = Z := ⟨_, rfl⟩
      rw [hZ] at hct
      rw [hZ]
      refine SW.seq ?_
      refine SW.g0 [0, 1, 4, 5, 6, 7, 12, 19, 29] mixed bq_tt ?_
      refine SW.trim (n := n) (e := 31) (sz := 29) (len := l.length) (cs := Z) w (by simp [lk_cons]) (by omega) ?_
      dsimp only
      rw [hset_head, hct, hKe]
      rw [hKe] at hh
      refine SW.ret ?_
      rw [he]
      have hlw : (cur.take w).length = w := by rw [List.length_take]; omega
      exact End.mk ((n, .arr 31 29 w (opc (cur.take w))) :: Fh s) (h3 := fun _ _ h => h) (h4 := ⟨by simp [retV, hlw], by simp [hlw]⟩) (h5 := by simp [retV, SV.ok]; omega) (h6 := hh.okr (by omega) _)
include hd in
theorem deleteF_at (l : List OpD) (s0 : σ) (hl : l.length < 1000000000) (hB : l.length ≤ B) (hG : ∀ x, x ∈ l → G x) (hI : I 0 s0) (n k : Nat) (hn : n < k) (h0 : Here Fh n k s0 s0) (hcl : (Fh s0).ok (fun m => (lk (Fh s0) m).isSome) = true) :
    SCd Tryz.prog slices_DeleteFunc_Lapi_Op_api_Op.f [.gs n l.length, .fn (.func g) first cap] ((n, .arr 31 29 l.length (opc l)) :: Fh s0) k (l.length * nky + l.length * (nky + 1)) (.gs n (keepD step s0 l).1.length)
      ((n, .arr 31 29 (keepD step s0 l).1.length (opc (keepD step s0 l).1)) :: Fh (keepD step s0 l).2) := by
  unfold SCd
  have hq := own_ok (n := n) (o := .arr 31 29 l.length (opc l)) (fun q => SV.oks_d _) hcl h0.no
  have hq0 : (Fh s0).ok (fun m => (lk ((n, Ob.arr 31 29 l.length (opc l)) :: Fh s0) m).isSome) = true := by
    simp only [Hp.ok, List.all_cons, Bool.and_eq_true] at hq ⊢
    exact hq.2
  obtain ⟨o1, o2⟩ := hd.a1 s0 _ hq0
  refine (deleteF_sb hd l s0 hl hB hG hI n k hn h0 hcl).here (fun m => (lk ((n, Ob.arr 31 29 l.length (opc l)) :: Fh s0) m).isSome) (fun m h e => by rw [e] at h; cases h) (by simp only [SV.oks, SV.ok, o1, o2, Bool.and_true]; simp [lk_cons]) hq ?_
  rintro x F ⟨rfl, rfl⟩ _ _
  refine ⟨by simp [SV.ok, lk_cons], ?_⟩
  have := keepD_ok hd l s0 hq0
  exact ok_cons (by simp [lk_cons]) (SV.oks_d _) (Hp.ok_mono (fun m hm => by rw [hm]; rfl) this)
end
end Go.Proofs.YtlgfknfdfnaedaaGreat
namespace Go.Proofs.YtlgfknfdfnaedaaGreat
open Go.Sl Go.Proofs
structure Tr where
  bx : Nat
  ma : Nat
  mm : Nat
  at_ : MM Dt Cr
  ca : Nat
  made : MM Dt OpD
  cm : Nat
abbrev Tr.oa (T : Tr) : Ob := .map (mapE Dt.cells cv T.at_) T.ca
abbrev Tr.om (T : Tr) : Ob := .map (mapE Dt.cells ov T.made) T.cm
def Tr.hp (T : Tr) : Hp := [(T.bx, .box 120 [.mp T.ma, .mp T.mm]), (T.ma, .map (mapE Dt.cells cv T.at_) T.ca), (T.mm, .map (mapE Dt.cells ov T.made) T.cm)]
structure Tr.sep (T : Tr) : Prop where
  ab : T.ma ≠ T.bx
  mb : T.mm ≠ T.bx
  am : T.ma ≠ T.mm
structure Tr.lt (T : Tr) (k : Nat) : Prop where
  b : T.bx < k
  a : T.ma < k
  m : T.mm < k
theorem Tr.okq {T : Tr} {q : Nat → Bool} (h1 : q T.bx = true) (h2 : q T.ma = true) (h3 : q T.mm = true) : T.hp.ok q = true := by
  simp only [Tr.hp, Hp.ok, List.all_cons, List.all_nil, Ob.ok, SV.oks, SV.ok, h1, h2, h3, Bool.and_true, Bool.true_and]
  have a := cmap_ok q T.at_
  have b := omap_ok q T.made
  simp only [a, b, Bool.and_true]
theorem Tr.okk {T : Tr} {k : Nat} (h : T.lt k) : T.hp.ok (fun n => decide (n < k)) = true := Tr.okq (by simpa using h.b) (by simpa using h.a) (by simpa using h.m)
theorem Tr.names (T : Tr) : T.hp.map (·.1) = [T.bx, T.ma, T.mm] := rfl
theorem Tr.nd {T : Tr} (h : T.sep) : (T.hp.map (·.1)).Nodup := by
  have := h.ab; have := h.mb; have := h.am
  simp [Tr.names]; omega
theorem Tr.lkb (T : Tr) : lk T.hp T.bx = some (.box 120 [.mp T.ma, .mp T.mm]) := by simp [Tr.hp, lk_cons]
theorem Tr.lka {T : Tr} (h : T.sep) : lk T.hp T.ma = some T.oa := by
  rw [Tr.hp, lk_cons, if_neg h.ab, lk_cons, if_pos rfl]
theorem Tr.lkm {T : Tr} (h : T.sep) : lk T.hp T.mm = some T.om := by
  rw [Tr.hp, lk_cons, if_neg h.mb, lk_cons, if_neg (Ne.symm h.am), lk_cons, if_pos rfl]
theorem Tr.cl {T : Tr} (h : T.sep) : T.hp.ok (fun m => (lk T.hp m).isSome) = true := Tr.okq (by rw [T.lkb]; rfl) (by rw [Tr.lka h]; rfl) (by rw [Tr.lkm h]; rfl)
theorem Tr.out {T : Tr} {m : Nat} (h1 : m ≠ T.bx) (h2 : m ≠ T.ma) (h3 : m ≠ T.mm) : lk T.hp m = none := by
  rw [Tr.hp, lk_cons, if_neg h1, lk_cons, if_neg h2, lk_cons, if_neg h3]; rfl
theorem Tr.lkk {T : Tr} {k m : Nat} (h : T.lt k) (hm : k ≤ m) : lk T.hp m = none := by
  obtain ⟨h1, h2, h3⟩ := h
  exact Tr.out (by omega) (by omega) (by omega)
section
attribute [local irreducible] SW RW SCd SC CallP Pruned Tr.hp
variable {T : Tr} (hs : T.sep)
include hs in
theorem none_at {k : Nat} (hlt : T.lt k) : SCd Tryz.prog tree_Tree_none.f [.ptr T.bx 0] T.hp k 0 (bl false) T.hp := by
  refine SB.same ?_ (Tr.cl hs) (by simp [SV.oks, SV.ok, Tr.hp, lk_cons]) (fun _ => rfl)
  refine tree_Tree_none.enter (by simp [SV.oks, SV.ok]; exact hlt.b) (Tr.okk hlt) (by simp) ?_
  dsimp only [tree_Tree_none.s, Co.M, Co.G, Co.J, Co.H, Co.N, Co.F, Co.C, Co.Z, Co.B, Co.b8, Co.b32, Co.b64, Co.i6, Co.z8, Co.z29]
  have f1 := ne4 hs.ab
  have u1 : List.lookup T.bx T.hp = some (.box 120 [.mp T.ma, .mp T.mm]) := T.lkb
  have u2 : List.lookup T.ma T.hp = some T.oa := Tr.lka hs
  (repeat (first | refine SW.seq ?_ | refine SW.block ?_ | refine SW.g0 [0, 2] mixed (And.intro (f1) (And.intro (u1) (u2))) ?_ | refine SW.skip ?_ | refine SW.exit ?_ | refine SW.ret ?_ | refine SW.condT rfl ?_ | refine SW.condF rfl ?_))
  exact End.mk T.hp (h3 := fun _ _ h => h) (h4 := ⟨rfl, rfl⟩) (h6 := Tr.okk hlt)
theorem why1_at (o : OpD) {b k : Nat} (hb : b < k) : SCd Tryz.prog tree_Tree_Why_1.f [.ptr b 0] [(b, .box 31 o.cells)] k 0 (bl (decide (o.kind ≠ 1))) [(b, .box 31 o.cells)] := by
  refine SB.same ?_ (by simp [Hp.ok, Ob.ok, lk_cons]) (by simp [SV.oks, SV.ok, lk_cons]) (fun _ => rfl)
  refine tree_Tree_Why_1.enter (by simp [SV.oks, SV.ok]; exact hb) (by simp [Hp.ok, Ob.ok]; exact hb) (by simp) ?_
  dsimp only [tree_Tree_Why_1.s, Co.M, Co.G, Co.J, Co.H, Co.N, Co.F, Co.C, Co.Z, Co.B, Co.b8, Co.b32, Co.b64, Co.i6, Co.z8, Co.z29]
  have e1 : (((o.kind : Nat) : Int) != 1) = decide (o.kind ≠ 1) := by
    rw [Bool.eq_iff_iff]; simp only [bne_iff_ne, decide_eq_true_eq]; omega
  (repeat (first | refine SW.seq ?_ | refine SW.block ?_ | refine SW.g0 [0, 1] mixed (e1) ?_ | refine SW.skip ?_ | refine SW.exit ?_ | refine SW.ret ?_ | refine SW.condT rfl ?_ | refine SW.condF rfl ?_))
  exact End.mk [(b, .box 31 o.cells)] (h3 := fun _ _ h => h) (h4 := ⟨rfl, rfl⟩) (h6 := by simp [Hp.ok, Ob.ok]; exact hb)
theorem why3_at (c : Cr) (o : OpD) {b b2 k : Nat} (hb : b < k) (hb2 : b2 < k) (hne : b ≠ b2) : SCd Tryz.prog tree_Tree_Why_3.f [.ptr b 0, .ptr b2 0] [(b2, .box 31 o.cells), (b, .box 83 c.cells)] k 0 (bl (decide (c.hold ≠ o.who))) [(b2, .box 31 o.cells), (b, .box 83 c.cells)] := by
  refine SB.same ?_ (by simp [Hp.ok, Ob.ok, lk_cons, hne]) (by simp [SV.oks, SV.ok, lk_cons, hne]) (fun _ => rfl)
  refine tree_Tree_Why_3.enter (by simp [SV.oks, SV.ok]; omega) (by simp [Hp.ok, Ob.ok]; omega) (by simp) ?_
  dsimp only [tree_Tree_Why_3.s, Co.M, Co.G, Co.J, Co.H, Co.N, Co.F, Co.C, Co.Z, Co.B, Co.b8, Co.b32, Co.b64, Co.i6, Co.z8, Co.z29]
  have f1 := ne4 hne
  have e1 : (((c.hold : Nat) : Int) != ((o.who : Nat) : Int)) = decide (c.hold ≠ o.who) := by
    rw [Bool.eq_iff_iff]; simp only [bne_iff_ne, decide_eq_true_eq]; omega
  (repeat (first | refine SW.seq ?_ | refine SW.block ?_ | refine SW.g0 [0, 1, 2] mixed (And.intro (e1) (f1)) ?_ | refine SW.skip ?_ | refine SW.exit ?_ | refine SW.ret ?_ | refine SW.condT rfl ?_ | refine SW.condF rfl ?_))
  exact End.mk [(b2, .box 31 o.cells), (b, .box 83 c.cells)] (h3 := fun _ _ h => h) (h4 := ⟨rfl, rfl⟩) (h6 := by simp [Hp.ok, Ob.ok]; omega)
theorem why4_at (c : Cr) {b k : Nat} (hb : b < k) : SCd Tryz.prog tree_Tree_Why_4.f [.ptr b 0] [(b, .box 83 c.cells)] k 0 (bl (bits .and .u8 (c.roles : Int) 1 == 0)) [(b, .box 83 c.cells)] := by
  refine SB.same ?_ (by simp [Hp.ok, Ob.ok, lk_cons]) (by simp [SV.oks, SV.ok, lk_cons]) (fun _ => rfl)
  refine tree_Tree_Why_4.enter (by simp [SV.oks, SV.ok]; exact hb) (by simp [Hp.ok, Ob.ok]; exact hb) (by simp) ?_
  dsimp only [tree_Tree_Why_4.s, Co.M, Co.G, Co.J, Co.H, Co.N, Co.F, Co.C, Co.Z, Co.B, Co.b8, Co.b32, Co.b64, Co.i6, Co.z8, Co.z29]
  (repeat (first | refine SW.seq ?_ | refine SW.block ?_ | refine SW.g0 [0, 1] mixed bq_tt ?_ | refine SW.skip ?_ | refine SW.exit ?_ | refine SW.ret ?_ | refine SW.condT rfl ?_ | refine SW.condF rfl ?_))
  exact End.mk [(b, .box 83 c.cells)] (h3 := fun _ _ h => h) (h4 := ⟨rfl, rfl⟩) (h6 := by simp [Hp.ok, Ob.ok]; exact hb)
def narrowV (o : OpD) (c : Cr) : Bool := (((o.roles : Int) == 0) || (bits .andNot .u8 (o.roles : Int) (c.roles : Int) != 0)) || ((o.to : Int) == 0) || decide ((o.depth : Int) ≥ c.depth) || decide ((o.cap : Int) > c.cap)
theorem why5_at (c : Cr) (o : OpD) {b b2 k : Nat} (hb : b < k) (hb2 : b2 < k) (hne : b ≠ b2) : SCd Tryz.prog tree_Tree_Why_5.f [.ptr b2 0, .ptr b 0] [(b2, .box 31 o.cells), (b, .box 83 c.cells)] k 0 (bl (narrowV o c)) [(b2, .box 31 o.cells), (b, .box 83 c.cells)] := by
  refine SB.same ?_ (by simp [Hp.ok, Ob.ok, lk_cons, hne]) (by simp [SV.oks, SV.ok, lk_cons, hne]) (fun _ => rfl)
  refine tree_Tree_Why_5.enter (by simp [SV.oks, SV.ok]; omega) (by simp [Hp.ok, Ob.ok]; omega) (by simp) ?_
  dsimp only [tree_Tree_Why_5.s, Co.M, Co.G, Co.J, Co.H, Co.N, Co.F, Co.C, Co.Z, Co.B, Co.b8, Co.b32, Co.b64, Co.i6, Co.z8, Co.z29]
  have f1 := ne4 hne
  rcases h1 : ((o.roles : Int) == 0) with _ | _
  · skip
    rcases h2 : (bits .andNot .u8 (o.roles : Int) (c.roles : Int) != 0) with _ | _
    · skip
      rcases h3 : ((o.to : Int) == 0) with _ | _
      · skip
        rcases h4 : decide ((o.depth : Int) ≥ c.depth) with _ | _
        · skip
          (repeat (first | refine SW.seq ?_ | refine SW.block ?_ | refine SW.g0 [0, 1, 2] mixed (And.intro (h1) (And.intro (h2) (And.intro (h3) (And.intro (h4) (f1))))) ?_ | refine SW.skip ?_ | refine SW.exit ?_ | refine SW.ret ?_ | refine SW.condT rfl ?_ | refine SW.condF rfl ?_))
          exact End.mk [(b2, .box 31 o.cells), (b, .box 83 c.cells)] (h3 := fun _ _ h => h) (h4 := ⟨by simp only [narrowV, h1, h2, h3, h4, Bool.false_or, Bool.or_false, Bool.true_or]; rfl, rfl⟩) (h6 := by simp [Hp.ok, Ob.ok]; omega)
        · (repeat (first | refine SW.seq ?_ | refine SW.block ?_ | refine SW.g0 [0, 1, 2] mixed (And.intro (h1) (And.intro (h2) (And.intro (h3) (And.intro (h4) (f1))))) ?_ | refine SW.skip ?_ | refine SW.exit ?_ | refine SW.ret ?_ | refine SW.condT rfl ?_ | refine SW.condF rfl ?_))
          exact End.mk [(b2, .box 31 o.cells), (b, .box 83 c.cells)] (h3 := fun _ _ h => h) (h4 := ⟨by simp only [narrowV, h1, h2, h3, h4, Bool.false_or, Bool.or_false, Bool.true_or]; rfl, rfl⟩) (h6 := by simp [Hp.ok, Ob.ok]; omega)
      · (repeat (first | refine SW.seq ?_ | refine SW.block ?_ | refine SW.g0 [0, 1, 2] mixed (And.intro (h1) (And.intro (h2) (And.intro (h3) (f1)))) ?_ | refine SW.skip ?_ | refine SW.exit ?_ | refine SW.ret ?_ | refine SW.condT rfl ?_ | refine SW.condF rfl ?_))
        exact End.mk [(b2, .box 31 o.cells), (b, .box 83 c.cells)] (h3 := fun _ _ h => h) (h4 := ⟨by simp only [narrowV, h1, h2, h3, Bool.false_or, Bool.or_false, Bool.true_or]; rfl, rfl⟩) (h6 := by simp [Hp.ok, Ob.ok]; omega)
    · (repeat (first | refine SW.seq ?_ | refine SW.block ?_ | refine SW.g0 [0, 1, 2] mixed (And.intro (h1) (And.intro (h2) (f1))) ?_ | refine SW.skip ?_ | refine SW.exit ?_ | refine SW.ret ?_ | refine SW.condT rfl ?_ | refine SW.condF rfl ?_))
      exact End.mk [(b2, .box 31 o.cells), (b, .box 83 c.cells)] (h3 := fun _ _ h => h) (h4 := ⟨by simp only [narrowV, h1, h2, Bool.false_or, Bool.or_false, Bool.true_or]; rfl, rfl⟩) (h6 := by simp [Hp.ok, Ob.ok]; omega)
  · (repeat (first | refine SW.seq ?_ | refine SW.block ?_ | refine SW.g0 [0, 1, 2] mixed (And.intro (h1) (f1)) ?_ | refine SW.skip ?_ | refine SW.exit ?_ | refine SW.ret ?_ | refine SW.condT rfl ?_ | refine SW.condF rfl ?_))
    exact End.mk [(b2, .box 31 o.cells), (b, .box 83 c.cells)] (h3 := fun _ _ h => h) (h4 := ⟨by simp only [narrowV, h1, Bool.false_or, Bool.or_false, Bool.true_or]; rfl, rfl⟩) (h6 := by simp [Hp.ok, Ob.ok]; omega)
end
end Go.Proofs.YtlgfknfdfnaedaaGreat
