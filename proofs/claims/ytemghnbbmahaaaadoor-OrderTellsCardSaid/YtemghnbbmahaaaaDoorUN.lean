/-
  Order: the document's own functions: how two stand, what is before, what is found, kept, known.
-/
import Derived.Test.YtemghnbbmahaaaaDoorUK
import Derived.Test.YtemghnbbmahaaaaDoorUG
import Derived.Test.YtemghnbbmahaaaaDoorUV
import Derived.Test.YtemghnbbmahaaaaDoorU8
import Derived.Test.YtemghnbbmahaaaaDoorU9
import Derived.Test.YtemghnbbmahaaaaDoorU7
set_option linter.unusedSectionVars false
set_option linter.unusedVariables false
set_option linter.unusedSimpArgs false
namespace Go.Proofs.YtemghnbbmahaaaaDoor
open Go.Sl Go.Proofs
attribute [local irreducible] SW RW SCd SC CallP Pruned
theorem rmay_ok (r n : Int) : Go.Sl.Pure Tryd.prog ref03_May.f [.agg [.d (.int .u8 r), .d (.int .u32 n)]] (bl (decide (r ≤ 7) && decide (n ≥ 1))) := by
  refine ref03_May.enter (by first | rfl | simp [SV.ok, SV.oks]) (by first | rfl | simp [Hp.ok, Ob.ok, SV.ok, SV.oks, Vec.cells_ok]) (by simp) ?_
  dsimp only [ref03_May.s, Co.M, Co.G, Co.J, Co.H, Co.N, Co.F, Co.C, Co.Z, Co.B, Co.b8, Co.b32, Co.b64, Co.i6, Co.z8, Co.z29]
  rcases h1 : decide (r ≤ 7) with _ | _
  · (repeat (first | refine SW.seq ?_ | refine SW.block ?_ | refine SW.g0 [0, 1, 2] mixed (h1) ?_ | refine SW.skip ?_ | refine SW.exit ?_ | refine SW.ret ?_ | refine SW.condT rfl ?_ | refine SW.condF rfl ?_))
    exact End.mk [] (h4 := ⟨rfl, rfl⟩)
  · (repeat (first | refine SW.seq ?_ | refine SW.block ?_ | refine SW.g0 [0, 1, 2] mixed (h1) ?_ | refine SW.skip ?_ | refine SW.exit ?_ | refine SW.ret ?_ | refine SW.condT rfl ?_ | refine SW.condF rfl ?_))
    exact End.mk [] (h4 := ⟨rfl, rfl⟩)
theorem rmay_at (d : Dt) (k : Nat) : SCd Tryd.prog ref03_May.f [.agg d.cells] [] k 0 (bl d.may) [] := by
  have := (rmay_ok d.r d.n).sc rfl k
  have e : d.may = (decide ((d.r : Int) ≤ 7) && decide ((d.n : Int) ≥ 1)) := by
    unfold Dt.may
    rw [Bool.eq_iff_iff]; simp only [Bool.and_eq_true, decide_eq_true_eq]; omega
  rw [e]; exact this
theorem rcovers_ok (v : Vec) (d : Dt) : Go.Sl.Pure Tryd.prog ref04_Covers.f [.agg v.cells, .agg d.cells] (bl (v.covers d)) := by
  refine ref04_Covers.enter (by first | rfl | simp [SV.ok, SV.oks]) (by first | rfl | simp [Hp.ok, Ob.ok, SV.ok, SV.oks, Vec.cells_ok]) (by simp) ?_
  dsimp only [ref04_Covers.s, Co.M, Co.G, Co.J, Co.H, Co.N, Co.F, Co.C, Co.Z, Co.B, Co.b8, Co.b32, Co.b64, Co.i6, Co.z8, Co.z29]
  rcases h : d.may with _ | _
  · (repeat (first | refine SW.seq ?_ | refine SW.block ?_ | (refine SW.regL [0, 1, 2, 3, 4] mixed ?_; (repeat (first | refine RW.ro (h) (h := ?_) | refine RW.skip (h := ?_) | refine RW.op (h) (h := ?_) | refine RW.opN (h) (h := ?_) | refine RW.skip0 (h := ?_) | (refine RW.callC (h := ?_); (first | refine CallP.mk (h) (hc := rmay_at _ _) (h := ?_))))); refine RW.nil ⟨by kernel_rfl, Pruned.mk (h := ?_)⟩) | refine SW.skip ?_ | refine SW.exit ?_ | refine SW.ret ?_ | refine SW.condT rfl ?_ | refine SW.condF rfl ?_))
    have e : v.covers d = false := by unfold Vec.covers; rw [h]; rfl
    exact End.mk [] (h4 := ⟨by rw [e]; rfl, rfl⟩)
  · have hr : d.r < 8 := by
      have := h
      simp only [Dt.may, Bool.and_eq_true, decide_eq_true_eq] at this
      exact this.1
    have e : v.covers d = decide ((d.n : Int) ≤ v.get d.r) := by
      unfold Vec.covers
      rw [h, Bool.true_and, Bool.eq_iff_iff]; simp only [decide_eq_true_eq]; omega
    (repeat (first | refine SW.seq ?_ | refine SW.block ?_ | (have fx := (And.intro (h) (Vec.cells_get v hr)); refine SW.regL [0, 1, 2, 3, 4] mixed ?_; (repeat (first | refine RW.ro fx (h := ?_) | refine RW.skip (h := ?_) | refine RW.op fx (h := ?_) | refine RW.opN fx (h := ?_) | refine RW.skip0 (h := ?_) | (refine RW.callC (h := ?_); (first | refine CallP.mk fx (hc := rmay_at _ _) (h := ?_))))); refine RW.nil ⟨by kernel_rfl, Pruned.mk (h := ?_)⟩) | refine SW.skip ?_ | refine SW.exit ?_ | refine SW.ret ?_ | refine SW.condT rfl ?_ | refine SW.condF rfl ?_))
    exact End.mk [] (h4 := ⟨by rw [e]; rfl, rfl⟩)
theorem rcovers_at (v : Vec) (d : Dt) (k : Nat) : SCd Tryd.prog ref04_Covers.f [.agg v.cells, .agg d.cells] [] k 0 (bl (v.covers d)) [] := (rcovers_ok v d).sc rfl k
theorem rbefore_ok (a b : OpD) : Go.Sl.Pure Tryd.prog ref10_Before.f [.agg a.cells, .agg b.cells] (bl (a.before b)) := by
  refine ref10_Before.enter (by first | rfl | simp [SV.ok, SV.oks]) (by first | rfl | simp [Hp.ok, Ob.ok, SV.ok, SV.oks, Vec.cells_ok]) (by simp) ?_
  dsimp only [ref10_Before.s, Co.M, Co.G, Co.J, Co.H, Co.N, Co.F, Co.C, Co.Z, Co.B, Co.b8, Co.b32, Co.b64, Co.i6, Co.z8, Co.z29]
  (repeat (first | refine SW.seq ?_ | refine SW.block ?_ | (refine SW.regL [0, 1, 2, 3, 4] mixed ?_; (repeat (first | refine RW.ro bq_tt (h := ?_) | refine RW.skip (h := ?_) | refine RW.op bq_tt (h := ?_) | refine RW.opN bq_tt (h := ?_) | refine RW.skip0 (h := ?_) | (refine RW.callC (h := ?_); (first | refine CallP.mk bq_tt (hc := rcovers_at _ _ _) (h := ?_))))); refine RW.nil ⟨by kernel_rfl, Pruned.mk (h := ?_)⟩) | refine SW.skip ?_ | refine SW.exit ?_ | refine SW.ret ?_ | refine SW.condT rfl ?_ | refine SW.condF rfl ?_))
  exact End.mk [] (h4 := ⟨rfl, rfl⟩)
theorem rbefore_at (a b : OpD) (k : Nat) : SCd Tryd.prog ref10_Before.f [.agg a.cells, .agg b.cells] [] k 0 (bl (a.before b)) [] := (rbefore_ok a b).sc rfl k
def dcmp (a b : Dt) : Int := if cmpZ a.r b.r = 0 then cmpZ a.n b.n else cmpZ a.r b.r
theorem rcompare_ok (a b : Dt) (ha : a.wf) (hb : b.wf) : Go.Sl.Pure Tryd.prog ref03_Compare.f [.agg a.cells, .agg b.cells] (i64 (cmpZ ((a.r : Int) * 8589934592 + a.n) ((b.r : Int) * 8589934592 + b.n))) := by
  obtain ⟨a1, a2⟩ := ha
  obtain ⟨b1, b2⟩ := hb
  refine ref03_Compare.enter (by first | rfl | simp [SV.ok, SV.oks]) (by first | rfl | simp [Hp.ok, Ob.ok, SV.ok, SV.oks, Vec.cells_ok]) (by simp) ?_
  dsimp only [ref03_Compare.s, Co.M, Co.G, Co.J, Co.H, Co.N, Co.F, Co.C, Co.Z, Co.B, Co.b8, Co.b32, Co.b64, Co.i6, Co.z8, Co.z29]
  generalize hx : (a.r : Int) * 8589934592 + a.n = x
  generalize hy : (b.r : Int) * 8589934592 + b.n = y
  rcases Int.lt_trichotomy x y with h | h | h
  · have e1 : decide (x < y) = true := by simp [h]
    have e2 : cmpZ x y = -1 := by simp [cmpZ, h]
    (repeat (first | refine SW.seq ?_ | refine SW.block ?_ | refine SW.g0 [0, 1, 2, 3, 4, 5, 6, 25, 28] mixed (And.intro (hx) (And.intro (hy) (e1))) ?_ | refine SW.skip ?_ | refine SW.exit ?_ | refine SW.ret ?_ | refine SW.condT rfl ?_ | refine SW.condF rfl ?_))
    exact End.mk [] (h4 := ⟨by rw [e2]; rfl, rfl⟩)
  · have e1 : decide (x < y) = false := by simp [h]
    have e3 : decide (x > y) = false := by simp [h]
    have e2 : cmpZ x y = 0 := by simp [cmpZ, h]
    (repeat (first | refine SW.seq ?_ | refine SW.block ?_ | refine SW.g0 [0, 1, 2, 3, 4, 5, 6, 25, 28] mixed (And.intro (hx) (And.intro (hy) (And.intro (e1) (e3)))) ?_ | refine SW.skip ?_ | refine SW.exit ?_ | refine SW.ret ?_ | refine SW.condT rfl ?_ | refine SW.condF rfl ?_))
    exact End.mk [] (h4 := ⟨by rw [e2]; rfl, rfl⟩)
  · have e1 : decide (x < y) = false := by simp; omega
    have e3 : decide (x > y) = true := by simp [h]
    have e2 : cmpZ x y = 1 := by unfold cmpZ; rw [if_neg (by omega), if_pos h]
    (repeat (first | refine SW.seq ?_ | refine SW.block ?_ | refine SW.g0 [0, 1, 2, 3, 4, 5, 6, 25, 28] mixed (And.intro (hx) (And.intro (hy) (And.intro (e1) (e3)))) ?_ | refine SW.skip ?_ | refine SW.exit ?_ | refine SW.ret ?_ | refine SW.condT rfl ?_ | refine SW.condF rfl ?_))
    exact End.mk [] (h4 := ⟨by rw [e2]; rfl, rfl⟩)
theorem dcmp_eq (a b : Dt) (ha : a.wf) (hb : b.wf) : cmpZ ((a.r : Int) * 8589934592 + a.n) ((b.r : Int) * 8589934592 + b.n) = dcmp a b := by
  obtain ⟨a1, a2⟩ := ha
  obtain ⟨b1, b2⟩ := hb
  unfold dcmp cmpZ
  repeat' split
  all_goals omega
theorem rcompare_at (a b : Dt) (ha : a.wf) (hb : b.wf) (k : Nat) : SCd Tryd.prog ref03_Compare.f [.agg a.cells, .agg b.cells] [] k 0 (.d (.int .i64 (dcmp a b))) [] := by
  have := (rcompare_ok a b ha hb).sc rfl k
  rwa [dcmp_eq a b ha hb] at this
theorem findO_take {l : List OpD} {d : Dt} {i : Nat} {x : OpD} (hx : l[i]? = some x) (h : findO (l.take i) d = none) : findO (l.take (i + 1)) d = if x.dot = d then some x else none := by
  unfold findO at *
  rw [take_snoc hx, List.find?_append, h]
  by_cases e : x.dot = d <;> simp [e]
theorem findO_hit {l : List OpD} {d : Dt} {i : Nat} {x : OpD} (hx : l[i]? = some x) (h : findO (l.take i) d = none) (he : x.dot = d) : findO l d = some x := by
  unfold findO at *
  have hl : l = l.take i ++ x :: l.drop (i + 1) := by
    conv => lhs; rw [← List.take_append_drop i l]
    congr 1
    rw [List.drop_eq_getElem_cons (lt_of_get hx)]
    congr 1
    rw [List.getElem?_eq_getElem (lt_of_get hx)] at hx
    injection hx
  rw [hl, List.find?_append, h]
  simp [he]
theorem find_ok (l : List OpD) (hl : l.length < 4611686018427387904) (d : Dt) : Go.Sl.Pure Tryd.prog ref10_Find.f [ops l, .agg d.cells] (.tup [.agg ((findO l d).getD OpD.zero).cells, bl (findO l d).isSome]) := by
  refine ref10_Find.enter (by first | rfl | simp [SV.ok, SV.oks]) (by first | rfl | simp [Hp.ok, Ob.ok, SV.ok, SV.oks, Vec.cells_ok]) (by simp) ?_
  dsimp only [ref10_Find.s, Co.M, Co.G, Co.J, Co.H, Co.N, Co.F, Co.C, Co.Z, Co.B, Co.b8, Co.b32, Co.b64, Co.i6, Co.z8, Co.z29]
  (repeat (first | refine SW.seq ?_ | refine SW.block ?_ | refine SW.g0 [0, 1, 3, 4, 5, 6, 10, 19] mixed bq_tt ?_ | refine SW.skip ?_ | refine SW.exit ?_ | refine SW.ret ?_ | refine SW.condT rfl ?_ | refine SW.condF rfl ?_))
  refine SW.loopA (α := {i : Nat // i ≤ l.length ∧ findO (l.take i) d = none}) (fun i => ⟨[(6, i64 i.1), (0, ops l), (3, .ptr 0 0), (4, .ptr 1 0)], [(1, .box 36 OpD.zero.cells), (0, .box 30 d.cells)], 2⟩) (fun i => l.length - i.1) ⟨0, by omega, rfl⟩ id bq_tt (round := ?_)
  rintro ⟨i, hi, hs⟩
  by_cases h : i < l.length
  · have h1 : decide ((i : Int) < l.length) = true := by simp only [decide_eq_true_eq]; omega
    obtain ⟨x, hx⟩ := get_of_lt h
    have e2 : IntKind.i64.wrap ((i : Int) + 1) = ((i + 1 : Nat) : Int) := wrap_i64 _ (by omega)
    by_cases he : x.dot = d
    · have e3 : decide (x.dot = d) = true := by simp [he]
      (repeat (first | refine SW.seq ?_ | refine SW.block ?_ | refine SW.g0 [0, 1, 3, 4, 5, 6, 10, 19] mixed (And.intro (h1) (And.intro (op_load hx) (And.intro (op_roomd hx) (And.intro (op_at hx) (And.intro (op_room0 hx) (And.intro (e2) (e3))))))) ?_ | refine SW.skip ?_ | refine SW.exit ?_ | refine SW.ret ?_ | refine SW.condT rfl ?_ | refine SW.condF rfl ?_))
      have hf := findO_hit hx hs he
      rw [hf]
      exact End.mk [] (h4 := ⟨rfl, rfl⟩)
    · have e3 : decide (x.dot = d) = false := by simp [he]
      (repeat (first | refine SW.seq ?_ | refine SW.block ?_ | refine SW.g0 [0, 1, 3, 4, 5, 6, 10, 19] mixed (And.intro (h1) (And.intro (op_load hx) (And.intro (op_roomd hx) (And.intro (e2) (e3))))) ?_ | refine SW.skip ?_ | refine SW.exit ?_ | refine SW.ret ?_ | refine SW.condT rfl ?_ | refine SW.condF rfl ?_))
      exact Next.mk ⟨i + 1, by omega, by rw [findO_take hx hs, if_neg he]⟩ id bq_tt
  · have h1 : decide ((i : Int) < l.length) = false := by simp only [decide_eq_false_iff_not]; omega
    (repeat (first | refine SW.seq ?_ | refine SW.block ?_ | refine SW.g0 [0, 1, 3, 4, 5, 6, 10, 19] mixed (h1) ?_ | refine SW.skip ?_ | refine SW.exit ?_ | refine SW.ret ?_ | refine SW.condT rfl ?_ | refine SW.condF rfl ?_))
    have hf : findO l d = none := by rwa [List.take_of_length_le (by omega)] at hs
    rw [hf]
    exact End.mk [] (h4 := ⟨rfl, rfl⟩)
theorem find_at (l : List OpD) (hl : l.length < 4611686018427387904) (d : Dt) (k : Nat) : SCd Tryd.prog ref10_Find.f [ops l, .agg d.cells] [] k 0 (.tup [.agg ((findO l d).getD OpD.zero).cells, bl (findO l d).isSome]) [] := (find_ok l hl d).sc rfl k
theorem op_r {l : List OpD} {i : Nat} {x : OpD} (h : l[i]? = some x) : (List.map SV.d (l.flatMap OpD.ds))[i * 29]? = some (u8 x.dot.r) := by
  have := op_get h (j := 0) (by omega)
  rw [Nat.add_zero] at this
  rw [this]; rfl
theorem op_n {l : List OpD} {i : Nat} {x : OpD} (h : l[i]? = some x) : (List.map SV.d (l.flatMap OpD.ds))[i * 29 + 1]? = some (u32 x.dot.n) := by rw [op_get h (by omega)]; rfl
set_option maxHeartbeats 2000000 in
theorem known10_ok (l : List OpD) (hl : l.length ≤ 9223372036854775807) : Go.Sl.Pure Tryd.prog ref10_Known.f [ops l] (.agg (knownV l).cells) := by
  refine ref10_Known.enter (by first | rfl | simp [SV.ok, SV.oks]) (by first | rfl | simp [Hp.ok, Ob.ok, SV.ok, SV.oks, Vec.cells_ok]) (by simp) ?_
  dsimp only [ref10_Known.s, Co.M, Co.G, Co.J, Co.H, Co.N, Co.F, Co.C, Co.Z, Co.B, Co.b8, Co.b32, Co.b64, Co.i6, Co.z8, Co.z29]
  refine SW.seq ?_
  refine SW.g0 [0, 2, 3, 4, 8, 34] mixed bq_tt ?_
  refine SW.seq ?_
  refine SW.g0 [0, 2, 3, 4, 8, 34] mixed bq_tt ?_
  refine SW.seq (SW.seq ?_)
  refine SW.g0 [0, 2, 3, 4, 8, 34] mixed bq_tt ?_
  refine SW.block ?_
  refine SW.loopA (α := {i : Nat // i ≤ l.length}) (fun i => ⟨[(4, i64 i.1), (0, ops l), (2, .ptr 0 0), (3, .ptr 1 0)], [(1, .box 32 (knownV (l.take i.1)).cells), (0, .box 32 Vec.zero.cells)], 2⟩) (fun i => l.length - i.1) ⟨0, by omega⟩ id (And.intro (show knownV [] = Vec.zero from rfl) bq_tt) (round := ?_)
  rintro ⟨i, hi⟩
  dsimp only
  by_cases h : i < l.length
  · have h1 : decide ((i : Int) < l.length) = true := by simp only [decide_eq_true_eq]; omega
    obtain ⟨x, hx⟩ := get_of_lt h
    have e2 : IntKind.i64.wrap ((i : Int) + 1) = ((i + 1 : Nat) : Int) := wrap_i64 _ (by omega)
    have e1 : l.take (i + 1) = l.take i ++ [x] := take_snoc hx
    have hsn := knownV_snoc (l.take i) x
    rw [← e1] at hsn
    unfold knStep at hsn
    generalize knownV (l.take i) = v at hsn ⊢
    by_cases hr : x.dot.r < 8
    · have e4 : decide ((x.dot.r : Int) < 8) = true := by simp; omega
      rw [if_pos hr] at hsn
      by_cases hv : v.get x.dot.r < x.dot.n
      · have e5 : decide ((x.dot.n : Int) > ((v.get x.dot.r : Nat) : Int)) = true := by simp; omega
        rw [Nat.max_eq_right (by omega)] at hsn
        have e6 : spl v.cells x.dot.r [.d (.int .u32 (x.dot.n : Int))] = (v.set x.dot.r x.dot.n).cells := by rw [spl_one]; exact Vec.cells_set v hr _
        (repeat (first | refine SW.seq ?_ | refine SW.block ?_ | refine SW.g0 [0, 2, 3, 4, 8, 34] mixed (And.intro (h1) (And.intro (op_r hx) (And.intro (op_n hx) (And.intro (e2) (And.intro (e4) (And.intro (Vec.cells_get v hr) (And.intro (e5) (e6)))))))) ?_ | refine SW.skip ?_ | refine SW.exit ?_ | refine SW.ret ?_ | refine SW.condT rfl ?_ | refine SW.condF rfl ?_))
        dsimp only
        exact ⟨⟨i + 1, by omega⟩, id, by show l.length - (i + 1) < _; omega, Weak.mk (And.intro hsn bq_tt)⟩
      · have e5 : decide ((x.dot.n : Int) > ((v.get x.dot.r : Nat) : Int)) = false := by simp; omega
        rw [Nat.max_eq_left (by omega)] at hsn
        have e7 : v.set x.dot.r (v.get x.dot.r) = v := Vec.ext' fun q hq => by rw [Vec.set_get _ _ _ hq]; split <;> simp_all
        rw [e7] at hsn
        (repeat (first | refine SW.seq ?_ | refine SW.block ?_ | refine SW.g0 [0, 2, 3, 4, 8, 34] mixed (And.intro (h1) (And.intro (op_r hx) (And.intro (op_n hx) (And.intro (e2) (And.intro (e4) (And.intro (Vec.cells_get v hr) (e5))))))) ?_ | refine SW.skip ?_ | refine SW.exit ?_ | refine SW.ret ?_ | refine SW.condT rfl ?_ | refine SW.condF rfl ?_))
        dsimp only
        exact ⟨⟨i + 1, by omega⟩, id, by show l.length - (i + 1) < _; omega, Weak.mk (And.intro hsn bq_tt)⟩
    · have e4 : decide ((x.dot.r : Int) < 8) = false := by simp; omega
      rw [if_neg hr] at hsn
      (repeat (first | refine SW.seq ?_ | refine SW.block ?_ | refine SW.g0 [0, 2, 3, 4, 8, 34] mixed (And.intro (h1) (And.intro (op_r hx) (And.intro (op_n hx) (And.intro (e2) (e4))))) ?_ | refine SW.skip ?_ | refine SW.exit ?_ | refine SW.ret ?_ | refine SW.condT rfl ?_ | refine SW.condF rfl ?_))
      dsimp only
      exact ⟨⟨i + 1, by omega⟩, id, by show l.length - (i + 1) < _; omega, Weak.mk (And.intro hsn bq_tt)⟩
  · have h1 : decide ((i : Int) < l.length) = false := by simp only [decide_eq_false_iff_not]; omega
    have h2 : i = l.length := by omega
    subst h2
    rw [List.take_length]
    (repeat (first | refine SW.seq ?_ | refine SW.block ?_ | refine SW.g0 [0, 2, 3, 4, 8, 34] mixed (h1) ?_ | refine SW.skip ?_ | refine SW.exit ?_ | refine SW.ret ?_ | refine SW.condT rfl ?_ | refine SW.condF rfl ?_))
    exact End.mk [] (h4 := ⟨rfl, rfl⟩)
theorem known10_at (l : List OpD) (hl : l.length ≤ 9223372036854775807) (k : Nat) : SCd Tryd.prog ref10_Known.f [ops l] [] k 0 (.agg (knownV l).cells) [] := (known10_ok l hl).sc rfl k
set_option maxHeartbeats 4000000 in
theorem rcut_ok (l : List OpD) (hl : l.length < 1000000) (v : Vec) : Go.Sl.Pure Tryd.prog ref10_Cut.f [ops l, .agg v.cells] (ops (cutV l v)) := by
  refine ref10_Cut.enter (by first | rfl | simp [SV.ok, SV.oks]) (by first | rfl | simp [Hp.ok, Ob.ok, SV.ok, SV.oks, Vec.cells_ok]) (by simp) ?_
  dsimp only [ref10_Cut.s, Co.M, Co.G, Co.J, Co.H, Co.N, Co.F, Co.C, Co.Z, Co.B, Co.b8, Co.b32, Co.b64, Co.i6, Co.z8, Co.z29]
  refine SW.seq ?_
  (refine SW.regL [0, 1, 3, 4, 5, 6, 10, 19] mixed ?_; (repeat (first | refine RW.ro bq_tt (h := ?_) | refine RW.skip (h := ?_) | refine RW.op bq_tt (h := ?_) | refine RW.opN bq_tt (h := ?_) | refine RW.skip0 (h := ?_) | refine lit1 rfl rfl (h := ?_))); refine RW.nil ⟨conf_of (by kernel_rfl), Pruned.mk (h := ?_)⟩)
  refine SW.seq ?_
  (refine SW.regL [0, 1, 3, 4, 5, 6, 10, 19] mixed ?_; (repeat (first | refine RW.ro bq_tt (h := ?_) | refine RW.skip (h := ?_) | refine RW.op bq_tt (h := ?_) | refine RW.opN bq_tt (h := ?_) | refine RW.skip0 (h := ?_) | refine lit1 rfl rfl (h := ?_))); refine RW.nil ⟨conf_of (by kernel_rfl), Pruned.mk (h := ?_)⟩)
  refine SW.nilrow 5 36 29 rfl ?_
  refine SW.seq (SW.seq ?_)
  (refine SW.regL [0, 1, 3, 4, 5, 6, 10, 19] mixed ?_; (repeat (first | refine RW.ro bq_tt (h := ?_) | refine RW.skip (h := ?_) | refine RW.op bq_tt (h := ?_) | refine RW.opN bq_tt (h := ?_) | refine RW.skip0 (h := ?_) | refine lit1 rfl rfl (h := ?_))); refine RW.nil ⟨conf_of (by kernel_rfl), Pruned.mk (h := ?_)⟩)
  refine SW.block ?_
  refine SW.loopA (α := {i : Nat // i ≤ l.length}) (fun i => ⟨[(6, i64 i.1), (5, .gs 1 (cutV (l.take i.1) v).length), (3, .ptr 0 0), (0, ops l)], [(1, .arr 36 29 (cutV (l.take i.1) v).length (opc (cutV (l.take i.1) v))), (0, .box 32 v.cells)], 2⟩) (fun i => l.length - i.1) ⟨0, by omega⟩ id (And.intro (show cutV [] v = [] from rfl) bq_tt) (round := ?_)
  rintro ⟨i, hi⟩
  dsimp only
  refine SW.seq (SW.seq ?_)
  by_cases h : i < l.length
  · have h1 : decide ((i : Int) < l.length) = true := by simp only [decide_eq_true_eq]; omega
    obtain ⟨x, hx⟩ := get_of_lt h
    have e2 : IntKind.i64.wrap ((i : Int) + 1) = ((i + 1 : Nat) : Int) := wrap_i64 _ (by omega)
    have e1 : l.take (i + 1) = l.take i ++ [x] := take_snoc hx
    have hsn := cutV_snoc (l.take i) v x
    rw [← e1] at hsn
    have hlen := cutV_len (l.take i) v
    rw [List.length_take] at hlen
    generalize cutV (l.take i) v = T at hsn hlen ⊢
    have hc := fun k => rcovers_at v x.dot k
    (refine SW.regL [0, 1, 3, 4, 5, 6, 10, 19] mixed ?_; (repeat (first | refine RW.ro (h1) (h := ?_) | refine RW.skip (h := ?_) | refine RW.op (h1) (h := ?_) | refine RW.opN (h1) (h := ?_) | refine RW.skip0 (h := ?_) | refine lit1 rfl rfl (h := ?_))); refine RW.nil ⟨conf_of (by kernel_rfl), Pruned.mk (h := ?_)⟩)
    refine SW.condT rfl (SW.skip ?_)
    refine SW.seq (SW.block (SW.seq ?_))
    rcases hz : v.covers x.dot with _ | _ <;> rw [hz] at hc hsn
    · rw [if_neg (by decide)] at hsn
      (have fx := (And.intro (op_load hx) (op_roomd hx)); refine SW.regL [0, 1, 3, 4, 5, 6, 10, 19] mixed ?_; (repeat (first | refine RW.ro fx (h := ?_) | refine RW.skip (h := ?_) | refine RW.op fx (h := ?_) | refine RW.opN fx (h := ?_) | refine RW.skip0 (h := ?_) | refine lit1 rfl rfl (h := ?_) | (refine RW.callC (h := ?_); (first | refine CallP.mk fx (hc := hc _) (h := ?_))))); refine RW.nil ⟨conf_of (by kernel_rfl), Pruned.mk (h := ?_)⟩)
      refine SW.condF rfl (SW.skip ?_)
      (refine SW.regL [0, 1, 3, 4, 5, 6, 10, 19] mixed ?_; (repeat (first | refine RW.ro (e2) (h := ?_) | refine RW.skip (h := ?_) | refine RW.op (e2) (h := ?_) | refine RW.opN (e2) (h := ?_) | refine RW.skip0 (h := ?_) | refine lit1 rfl rfl (h := ?_))); refine RW.nil ⟨conf_of (by kernel_rfl), Pruned.mk (h := ?_)⟩)
      refine ⟨⟨i + 1, by omega⟩, id, by show l.length - (i + 1) < l.length - i; omega, ?_⟩
      dsimp only
      rw [hsn]
      exact Weak.mk bq_tt
    · rw [if_pos rfl] at hsn
      (have fx := (And.intro (op_load hx) (op_roomd hx)); refine SW.regL [0, 1, 3, 4, 5, 6, 10, 19] mixed ?_; (repeat (first | refine RW.ro fx (h := ?_) | refine RW.skip (h := ?_) | refine RW.op fx (h := ?_) | refine RW.opN fx (h := ?_) | refine RW.skip0 (h := ?_) | refine lit1 rfl rfl (h := ?_) | (refine RW.callC (h := ?_); (first | refine CallP.mk fx (hc := hc _) (h := ?_))))); refine RW.nil ⟨conf_of (by kernel_rfl), Pruned.mk (h := ?_)⟩)
      refine SW.condT rfl ?_
      (have fx := (And.intro (op_at hx) (op_room0 hx)); refine SW.regL [0, 1, 3, 4, 5, 6, 10, 19] mixed ?_; (repeat (first | refine RW.ro fx (h := ?_) | refine RW.skip (h := ?_) | refine RW.op fx (h := ?_) | refine RW.opN fx (h := ?_) | refine RW.skip0 (h := ?_) | refine lit1 rfl rfl (h := ?_))); refine RW.nil ⟨conf_of (by kernel_rfl), Pruned.mk (h := ?_)⟩)
      (refine SW.regL [0, 1, 3, 4, 5, 6, 10, 19] mixed ?_; (repeat (first | refine RW.ro (e2) (h := ?_) | refine RW.skip (h := ?_) | refine RW.op (e2) (h := ?_) | refine RW.opN (e2) (h := ?_) | refine RW.skip0 (h := ?_) | refine lit1 rfl rfl (h := ?_))); refine RW.nil ⟨conf_of (by kernel_rfl), Pruned.mk (h := ?_)⟩)
      have e5 : (T ++ [x]).length = T.length + [x].length := by simp
      have e6 : opc (T ++ [x]) = opc T ++ List.map SV.d ([x].flatMap OpD.ds) := by simp [opc]
      refine ⟨⟨i + 1, by omega⟩, fun n => if n = 1 then 2 else n, by show l.length - (i + 1) < l.length - i; omega, ?_⟩
      dsimp only
      rw [hsn, e5, e6]
      exact Weak.mk bq_tt
  · have h1 : decide ((i : Int) < l.length) = false := by simp only [decide_eq_false_iff_not]; omega
    have h2 : i = l.length := by omega
    subst h2
    rw [List.take_length]
    (refine SW.regL [0, 1, 3, 4, 5, 6, 10, 19] mixed ?_; (repeat (first | refine RW.ro (h1) (h := ?_) | refine RW.skip (h := ?_) | refine RW.op (h1) (h := ?_) | refine RW.opN (h1) (h := ?_) | refine RW.skip0 (h := ?_) | refine lit1 rfl rfl (h := ?_))); refine RW.nil ⟨conf_of (by kernel_rfl), Pruned.mk (h := ?_)⟩)
    refine SW.condF rfl (SW.exit (SW.seq ?_))
    (refine SW.regL [0, 1, 3, 4, 5, 6, 10, 19] mixed ?_; (repeat (first | refine RW.ro bq_tt (h := ?_) | refine RW.skip (h := ?_) | refine RW.op bq_tt (h := ?_) | refine RW.opN bq_tt (h := ?_) | refine RW.skip0 (h := ?_) | refine lit1 rfl rfl (h := ?_))); refine RW.nil ⟨conf_of (by kernel_rfl), Pruned.mk (h := ?_)⟩)
    refine SW.freeze 1 ((cutV l v).flatMap OpD.ds) rfl rfl ?_
    simp only [frzE, SV.frz, List.map_cons, List.map_nil, if_true, if_false, reduceIte, hdel, Nat.reduceEqDiff]
    refine SW.ret ?_
    exact End.mk [] (h4 := ⟨rfl, rfl⟩)
theorem rcut_at (l : List OpD) (hl : l.length < 1000000) (v : Vec) (k : Nat) : SCd Tryd.prog ref10_Cut.f [ops l, .agg v.cells] [] k 0 (ops (cutV l v)) [] := (rcut_ok l hl v).sc rfl k
end Go.Proofs.YtemghnbbmahaaaaDoor
namespace Go.Proofs.YtemghnbbmahaaaaDoor
open Go.Sl Go.Proofs
attribute [local irreducible] SW RW SCd SC CallP Pruned
theorem lit9 {P : Program} {env : List (Nat × SV)} {hp : Hp} {k d : Nat} {r : List SI} {K : St → List (Bool × List Nat) → Prop} {z : List SV} {ps : List (Nat × Nat × X)}
    (hz : z = [.d (.str []), .d (.str []), .d (.str []), .d (.str []), .d (.str []), .d (.str []), .d (.str []), .d (.str []), .d (.str [])])
    (hp' : ps = [(0, 1, .k (.d (.str []))), (1, 1, .k (.d (.str [99, 116, 114, 100, 112]))), (2, 1, .k (.d (.str [99, 97]))), (3, 1, .k (.d (.str [99, 105, 113, 101]))), (4, 1, .k (.d (.str [99, 97, 113]))), (5, 1, .k (.d (.str [99, 97]))), (6, 1, .k (.d (.str [99, 97, 118]))), (7, 1, .k (.d (.str [99, 97, 118]))), (8, 1, .k (.d (.str [99, 108])))])
    (h : RW P r ⟨(d, .d (.sl 9 (hasS.map .str))) :: env, hp, k⟩ fun st' ts => K st' ((false, []) :: ts)) : RW P (⟨some d, .bsl 9 1 9 z ps, none⟩ :: r) ⟨env, hp, k⟩ K := by
  subst hz; subst hp'
  refine RW.cons (e := ⟨.d (.sl 9 (hasS.map .str)), [], [], 0, _⟩) (fun crs => ⟨.frz :: crs, runOp_some (.inl rfl) rfl⟩) ?_ ?_
  · show 1 = 1 ∧ 0 + 1 ≤ 9 ∧ 1 = 1 ∧ 1 + 1 ≤ 9 ∧ 1 = 1 ∧ 2 + 1 ≤ 9 ∧ 1 = 1 ∧ 3 + 1 ≤ 9 ∧ 1 = 1 ∧ 4 + 1 ≤ 9 ∧ 1 = 1 ∧ 5 + 1 ≤ 9 ∧ 1 = 1 ∧ 6 + 1 ≤ 9 ∧ 1 = 1 ∧ 7 + 1 ≤ 9 ∧ 1 = 1 ∧ 8 + 1 ≤ 9 ∧ True
    decide
  · exact h
theorem has05_ok (kind : Nat) (h256 : kind < 256) : Go.Sl.Pure Tryd.prog ref05_Has.f [u8 kind] (.d (.str (hasK kind))) := by
  refine ref05_Has.enter (by first | rfl | simp [SV.ok, SV.oks]) (by first | rfl | simp [Hp.ok, Ob.ok, SV.ok, SV.oks, Vec.cells_ok]) (by simp) ?_
  dsimp only [ref05_Has.s, Co.M, Co.G, Co.J, Co.H, Co.N, Co.F, Co.C, Co.Z, Co.B, Co.b8, Co.b32, Co.b64, Co.i6, Co.z8, Co.z29]
  refine SW.seq ?_
  refine SW.g0 [0, 2, 3, 9] mixed bq_tt ?_
  refine SW.seq ?_
  (refine SW.regL [0, 2, 3, 9] mixed ?_; (repeat (first | refine RW.ro bq_tt (h := ?_) | refine RW.skip (h := ?_) | refine RW.op bq_tt (h := ?_) | refine RW.opN bq_tt (h := ?_) | refine RW.skip0 (h := ?_) | refine lit9 rfl rfl (h := ?_))); refine RW.nil ⟨by kernel_rfl, Pruned.mk (h := ?_)⟩)
  by_cases hk : kind < 9
  · have h1 : decide ((kind : Int) ≥ 9) = false := by simp; omega
    have e5 : (List.map SV.d (hasS.map DV.str))[kind]? = some (.d (.str (hasK kind))) := by
      have h9 : kind < hasS.length := hk
      rw [List.getElem?_map, List.getElem?_map]
      unfold hasK
      rw [List.getElem?_eq_getElem h9]; rfl
    have e6 : (List.map SV.d (hasS.map DV.str)).length = 9 := rfl
    have e7 : (hasS.map DV.str).length = 9 := rfl
    generalize hasS.map DV.str = row at e5 e6 e7 ⊢
    (repeat (first | refine SW.seq ?_ | refine SW.block ?_ | refine SW.g0 [0, 2, 3, 9] mixed (And.intro (h1) (And.intro (e5) (And.intro (e6) (e7)))) ?_ | refine SW.skip ?_ | refine SW.exit ?_ | refine SW.ret ?_ | refine SW.condT rfl ?_ | refine SW.condF rfl ?_))
    exact End.mk [] (h4 := ⟨rfl, rfl⟩)
  · have h1 : decide ((kind : Int) ≥ 9) = true := by simp; omega
    have e : hasK kind = [] := by
      unfold hasK
      rw [List.getElem?_eq_none (by show 9 ≤ kind; omega)]; rfl
    rw [e]
    generalize hasS.map DV.str = row
    (repeat (first | refine SW.seq ?_ | refine SW.block ?_ | refine SW.g0 [0, 2, 3, 9] mixed (h1) ?_ | refine SW.skip ?_ | refine SW.exit ?_ | refine SW.ret ?_ | refine SW.condT rfl ?_ | refine SW.condF rfl ?_))
    exact End.mk [] (h4 := ⟨rfl, rfl⟩)
theorem has05_at (kind : Nat) (h256 : kind < 256) (k : Nat) : SCd Tryd.prog ref05_Has.f [u8 kind] [] k 0 (.d (.str (hasK kind))) [] := (has05_ok kind h256).sc rfl k
theorem str_at {s : List Nat} {i x : Nat} (h : s[i]? = some x) : s.getD i 0 = x := by simp [h]
theorem in05_ok (s : List Nat) (hs : s.length < 4611686018427387904) (c : Nat) : Go.Sl.Pure Tryd.prog ref05_in.f [.d (.str s), u8 c] (bl (decide (c ∈ s))) := by
  refine ref05_in.enter (by first | rfl | simp [SV.ok, SV.oks]) (by first | rfl | simp [Hp.ok, Ob.ok, SV.ok, SV.oks, Vec.cells_ok]) (by simp) ?_
  dsimp only [ref05_in.s, Co.M, Co.G, Co.J, Co.H, Co.N, Co.F, Co.C, Co.Z, Co.B, Co.b8, Co.b32, Co.b64, Co.i6, Co.z8, Co.z29]
  refine SW.seq ?_
  refine SW.g0 [0, 1, 4, 5, 9, 16] mixed bq_tt ?_
  refine SW.seq (SW.seq ?_)
  refine SW.g0 [0, 1, 4, 5, 9, 16] mixed bq_tt ?_
  refine SW.block ?_
  refine SW.loopA (α := {i : Nat // i ≤ s.length ∧ c ∉ s.take i}) (fun i => ⟨[(5, i64 i.1), (0, .d (.str s)), (1, u8 c)], [], 0⟩) (fun i => s.length - i.1) ⟨0, by omega, by simp⟩ id bq_tt (round := ?_)
  rintro ⟨i, hi, hn⟩
  by_cases h : i < s.length
  · have h1 : decide ((i : Int) < s.length) = true := by simp only [decide_eq_true_eq]; omega
    obtain ⟨x, hx⟩ := get_of_lt h
    have e2 : IntKind.i64.wrap ((i : Int) + 1) = ((i + 1 : Nat) : Int) := wrap_i64 _ (by omega)
    have e4 := str_at hx
    by_cases he : x = c
    · have e3 : ((x : Int) == (c : Int)) = true := by rw [he]; simp
      (repeat (first | refine SW.seq ?_ | refine SW.block ?_ | refine SW.g0 [0, 1, 4, 5, 9, 16] mixed (And.intro (h1) (And.intro (e2) (And.intro (e3) (e4)))) ?_ | refine SW.skip ?_ | refine SW.exit ?_ | refine SW.ret ?_ | refine SW.condT rfl ?_ | refine SW.condF rfl ?_))
      have hm : c ∈ s := by rw [← he]; exact List.mem_of_getElem? hx
      exact End.mk [] (h4 := ⟨by simp [retV, hm], rfl⟩)
    · have e3 : ((x : Int) == (c : Int)) = false := by rw [Bool.eq_false_iff]; intro h; have := beq_iff_eq.mp h; omega
      (repeat (first | refine SW.seq ?_ | refine SW.block ?_ | refine SW.g0 [0, 1, 4, 5, 9, 16] mixed (And.intro (h1) (And.intro (e2) (And.intro (e3) (e4)))) ?_ | refine SW.skip ?_ | refine SW.exit ?_ | refine SW.ret ?_ | refine SW.condT rfl ?_ | refine SW.condF rfl ?_))
      dsimp only
      exact ⟨⟨i + 1, by omega, by rw [take_snoc hx]; simp [hn]; omega⟩, id, by show s.length - (i + 1) < _; omega, Weak.mk bq_tt⟩
  · have h1 : decide ((i : Int) < s.length) = false := by simp only [decide_eq_false_iff_not]; omega
    (repeat (first | refine SW.seq ?_ | refine SW.block ?_ | refine SW.g0 [0, 1, 4, 5, 9, 16] mixed (h1) ?_ | refine SW.skip ?_ | refine SW.exit ?_ | refine SW.ret ?_ | refine SW.condT rfl ?_ | refine SW.condF rfl ?_))
    rw [List.take_of_length_le (by omega)] at hn
    exact End.mk [] (h4 := ⟨by simp [retV, hn], rfl⟩)
theorem in05_at (s : List Nat) (hs : s.length < 4611686018427387904) (c : Nat) (k : Nat) : SCd Tryd.prog ref05_in.f [.d (.str s), u8 c] [] k 0 (bl (decide (c ∈ s))) [] := (in05_ok s hs c).sc rfl k
end Go.Proofs.YtemghnbbmahaaaaDoor
namespace Go.Proofs.YtemghnbbmahaaaaDoor
open Go.Sl Go.Proofs
attribute [local irreducible] SW RW SCd SC CallP Pruned
theorem rdep_get (o : OpD) {r : Nat} (hr : r < 8) : o.cells[2 + r]? = some (.d (.int .u32 (o.dep.get r))) := by
  match r, hr with
  | 0, _ | 1, _ | 2, _ | 3, _ | 4, _ | 5, _ | 6, _ | 7, _ => rfl
theorem cov05_ok (o : OpD) (d : Dt) : Go.Sl.Pure Tryd.prog ref05_Covers.f [.agg o.cells, .agg d.cells] (bl (o.dep.covers d)) := by
  refine ref05_Covers.enter (by first | rfl | simp [SV.ok, SV.oks]) (by first | rfl | simp [Hp.ok, Ob.ok, SV.ok, SV.oks, Vec.cells_ok]) (by simp) ?_
  dsimp only [ref05_Covers.s, Co.M, Co.G, Co.J, Co.H, Co.N, Co.F, Co.C, Co.Z, Co.B, Co.b8, Co.b32, Co.b64, Co.i6, Co.z8, Co.z29]
  refine SW.seq ?_
  refine SW.g0 [0, 1, 2, 3, 4] mixed bq_tt ?_
  by_cases hr : d.r < 8
  · have h1 : decide ((d.r : Int) < 8) = true := by simp; omega
    by_cases hn : 1 ≤ d.n
    · have h2 : decide ((d.n : Int) ≥ 1) = true := by simp; omega
      have e : o.dep.covers d = decide (((o.dep.get d.r : Nat) : Int) ≥ ((d.n : Nat) : Int)) := by
        unfold Vec.covers Dt.may
        rw [Bool.eq_iff_iff]
        simp only [Bool.and_eq_true, decide_eq_true_eq]
        omega
      rw [e]
      refine SW.seq ?_
      refine SW.g0 [0, 1, 2, 3, 4] mixed (And.intro (h1) (And.intro (h2) (rdep_get o hr))) ?_
      refine SW.ret ?_
      exact End.mk [] (h4 := ⟨rfl, rfl⟩)
    · have h2 : decide ((d.n : Int) ≥ 1) = false := by simp; omega
      have e : o.dep.covers d = false := by
        unfold Vec.covers Dt.may
        rw [Bool.eq_false_iff]
        simp only [ne_eq, Bool.and_eq_true, decide_eq_true_eq]
        omega
      rw [e]
      refine SW.seq ?_
      refine SW.g0 [0, 1, 2, 3, 4] mixed (And.intro (h1) (h2)) ?_
      refine SW.ret ?_
      exact End.mk [] (h4 := ⟨rfl, rfl⟩)
  · have h1 : decide ((d.r : Int) < 8) = false := by simp; omega
    have e : o.dep.covers d = false := by
      unfold Vec.covers Dt.may
      rw [Bool.eq_false_iff]
      simp only [ne_eq, Bool.and_eq_true, decide_eq_true_eq]
      omega
    rw [e]
    refine SW.seq ?_
    refine SW.g0 [0, 1, 2, 3, 4] mixed (h1) ?_
    refine SW.ret ?_
    exact End.mk [] (h4 := ⟨rfl, rfl⟩)
theorem cov05_at (o : OpD) (d : Dt) (k : Nat) : SCd Tryd.prog ref05_Covers.f [.agg o.cells, .agg d.cells] [] k 0 (bl (o.dep.covers d)) [] := (cov05_ok o d).sc rfl k
end Go.Proofs.YtemghnbbmahaaaaDoor
namespace Go.Proofs.YtemghnbbmahaaaaDoor
open Go.Sl Go.Proofs
attribute [local irreducible] SW RW SCd SC CallP Pruned
set_option maxHeartbeats 4000000 in
theorem zero_n (o : OpD) (nl : Nat) (cs : List DV) (hl : o.lines = .sl nl cs) (hk : o.kind < 256) (hS : hasK o.kind = []) : Go.Sl.Pure Tryd.prog ref05_zero.f [.agg o.cells] (bl (zeroV [] o nl)) := by
  have hh := has05_at o.kind hk
  rw [hS] at hh
  have f0 : decide (99 ∈ ([] : List Nat)) = false := by decide
  have i0 := in05_at [] (by decide) 99
  rw [f0] at i0
  have f1 : decide (116 ∈ ([] : List Nat)) = false := by decide
  have i1 := in05_at [] (by decide) 116
  rw [f1] at i1
  have f2 : decide (114 ∈ ([] : List Nat)) = false := by decide
  have i2 := in05_at [] (by decide) 114
  rw [f2] at i2
  have f3 : decide (100 ∈ ([] : List Nat)) = false := by decide
  have i3 := in05_at [] (by decide) 100
  rw [f3] at i3
  have f4 : decide (112 ∈ ([] : List Nat)) = false := by decide
  have i4 := in05_at [] (by decide) 112
  rw [f4] at i4
  have f5 : decide (97 ∈ ([] : List Nat)) = false := by decide
  have i5 := in05_at [] (by decide) 97
  rw [f5] at i5
  have f6 : decide (118 ∈ ([] : List Nat)) = false := by decide
  have i6 := in05_at [] (by decide) 118
  rw [f6] at i6
  have f7 : decide (105 ∈ ([] : List Nat)) = false := by decide
  have i7 := in05_at [] (by decide) 105
  rw [f7] at i7
  have f8 : decide (113 ∈ ([] : List Nat)) = false := by decide
  have i8 := in05_at [] (by decide) 113
  rw [f8] at i8
  have f9 : decide (101 ∈ ([] : List Nat)) = false := by decide
  have i9 := in05_at [] (by decide) 101
  rw [f9] at i9
  have f10 : decide (108 ∈ ([] : List Nat)) = false := by decide
  have i10 := in05_at [] (by decide) 108
  rw [f10] at i10
  refine ref05_zero.enter (by first | rfl | simp [SV.ok, SV.oks]) (by first | rfl | simp [Hp.ok, Ob.ok, SV.ok, SV.oks, Vec.cells_ok]) (by simp) ?_
  dsimp only [ref05_zero.s, Co.M, Co.G, Co.J, Co.H, Co.N, Co.F, Co.C, Co.Z, Co.B, Co.b8, Co.b32, Co.b64, Co.i6, Co.z8, Co.z29]
  have cz := And.intro hh True.intro
  refine SW.seq ?_
  refine SW.g1 [0, 1, 2, 3, 4] mixed bq_tt hh ?_
  refine SW.seq ?_
  refine SW.g1 [0, 1, 2, 3, 4] mixed bq_tt hh ?_
  refine SW.seq ?_
  refine SW.g1 [0, 1, 2, 3, 4] mixed bq_tt hh ?_
  refine SW.seq ?_
  have cz := And.intro i0 (And.intro i1 (And.intro i2 (And.intro i3 (And.intro i4 (And.intro i5 (And.intro i6 (And.intro i7 (And.intro i8 (And.intro i9 (And.intro i10 True.intro))))))))))
  refine SW.gB [0, 1, 2, 3, 4] mixed (hl) cz ?_
  rcases z0 : decide (o.cred = (⟨0, 0⟩ : Dt)) with _ | _
  · refine RW.gE (hl) cz ?_
    refine SW.ret ?_
    exact End.mk [] (h4 := ⟨by simp only [zeroV, f0, f1, f2, f3, f4, f5, f6, f7, f8, f9, f10, z0, Bool.true_or, Bool.or_true, Bool.false_or, Bool.and_false, Bool.false_and, Bool.true_and, Bool.and_true, Bool.or_false]; rfl, rfl⟩)
  refine RW.gG (hl) cz ?_
  rcases z1 : ((o.to : Int) == 0) with _ | _
  · refine RW.gE (hl) cz ?_
    refine SW.ret ?_
    exact End.mk [] (h4 := ⟨by simp only [zeroV, f0, f1, f2, f3, f4, f5, f6, f7, f8, f9, f10, z0, z1, Bool.true_or, Bool.or_true, Bool.false_or, Bool.and_false, Bool.false_and, Bool.true_and, Bool.and_true, Bool.or_false]; rfl, rfl⟩)
  refine RW.gG (hl) cz ?_
  rcases z2 : ((o.roles : Int) == 0) with _ | _
  · refine RW.gE (hl) cz ?_
    refine SW.ret ?_
    exact End.mk [] (h4 := ⟨by simp only [zeroV, f0, f1, f2, f3, f4, f5, f6, f7, f8, f9, f10, z0, z1, z2, Bool.true_or, Bool.or_true, Bool.false_or, Bool.and_false, Bool.false_and, Bool.true_and, Bool.and_true, Bool.or_false]; rfl, rfl⟩)
  refine RW.gG (hl) cz ?_
  rcases z3 : ((o.depth : Int) == 0) with _ | _
  · refine RW.gE (hl) cz ?_
    refine SW.ret ?_
    exact End.mk [] (h4 := ⟨by simp only [zeroV, f0, f1, f2, f3, f4, f5, f6, f7, f8, f9, f10, z0, z1, z2, z3, Bool.true_or, Bool.or_true, Bool.false_or, Bool.and_false, Bool.false_and, Bool.true_and, Bool.and_true, Bool.or_false]; rfl, rfl⟩)
  refine RW.gG (hl) cz ?_
  rcases z4 : ((o.cap : Int) == 0) with _ | _
  · refine RW.gE (hl) cz ?_
    refine SW.ret ?_
    exact End.mk [] (h4 := ⟨by simp only [zeroV, f0, f1, f2, f3, f4, f5, f6, f7, f8, f9, f10, z0, z1, z2, z3, z4, Bool.true_or, Bool.or_true, Bool.false_or, Bool.and_false, Bool.false_and, Bool.true_and, Bool.and_true, Bool.or_false]; rfl, rfl⟩)
  refine RW.gG (hl) cz ?_
  rcases z5 : decide (o.at_ = (⟨0, 0⟩ : Dt)) with _ | _
  · refine RW.gE (hl) cz ?_
    refine SW.ret ?_
    exact End.mk [] (h4 := ⟨by simp only [zeroV, f0, f1, f2, f3, f4, f5, f6, f7, f8, f9, f10, z0, z1, z2, z3, z4, z5, Bool.true_or, Bool.or_true, Bool.false_or, Bool.and_false, Bool.false_and, Bool.true_and, Bool.and_true, Bool.or_false]; rfl, rfl⟩)
  refine RW.gG (hl) cz ?_
  rcases z6 : decide (o.ver = (⟨0, 0⟩ : Dt)) with _ | _
  · refine RW.gE (hl) cz ?_
    refine SW.ret ?_
    exact End.mk [] (h4 := ⟨by simp only [zeroV, f0, f1, f2, f3, f4, f5, f6, f7, f8, f9, f10, z0, z1, z2, z3, z4, z5, z6, Bool.true_or, Bool.or_true, Bool.false_or, Bool.and_false, Bool.false_and, Bool.true_and, Bool.and_true, Bool.or_false]; rfl, rfl⟩)
  refine RW.gG (hl) cz ?_
  rcases z7 : ((o.item : Int) == 0) with _ | _
  · refine RW.gE (hl) cz ?_
    refine SW.ret ?_
    exact End.mk [] (h4 := ⟨by simp only [zeroV, f0, f1, f2, f3, f4, f5, f6, f7, f8, f9, f10, z0, z1, z2, z3, z4, z5, z6, z7, Bool.true_or, Bool.or_true, Bool.false_or, Bool.and_false, Bool.false_and, Bool.true_and, Bool.and_true, Bool.or_false]; rfl, rfl⟩)
  refine RW.gG (hl) cz ?_
  rcases z8 : ((o.qty : Int) == 0) with _ | _
  · refine RW.gE (hl) cz ?_
    refine SW.ret ?_
    exact End.mk [] (h4 := ⟨by simp only [zeroV, f0, f1, f2, f3, f4, f5, f6, f7, f8, f9, f10, z0, z1, z2, z3, z4, z5, z6, z7, z8, Bool.true_or, Bool.or_true, Bool.false_or, Bool.and_false, Bool.false_and, Bool.true_and, Bool.and_true, Bool.or_false]; rfl, rfl⟩)
  refine RW.gG (hl) cz ?_
  rcases z9 : ((o.price : Int) == 0) with _ | _
  · refine RW.gE (hl) cz ?_
    refine SW.ret ?_
    exact End.mk [] (h4 := ⟨by simp only [zeroV, f0, f1, f2, f3, f4, f5, f6, f7, f8, f9, f10, z0, z1, z2, z3, z4, z5, z6, z7, z8, z9, Bool.true_or, Bool.or_true, Bool.false_or, Bool.and_false, Bool.false_and, Bool.true_and, Bool.and_true, Bool.or_false]; rfl, rfl⟩)
  refine RW.gG (hl) cz ?_
  rcases z10 : ((nl : Int) == 0) with _ | _
  · refine RW.gE (hl) cz ?_
    refine SW.ret ?_
    exact End.mk [] (h4 := ⟨by simp only [zeroV, f0, f1, f2, f3, f4, f5, f6, f7, f8, f9, f10, z0, z1, z2, z3, z4, z5, z6, z7, z8, z9, z10, Bool.true_or, Bool.or_true, Bool.false_or, Bool.and_false, Bool.false_and, Bool.true_and, Bool.and_true, Bool.or_false]; rfl, rfl⟩)
  refine RW.gE (hl) cz ?_
  refine SW.ret ?_
  exact End.mk [] (h4 := ⟨by simp only [zeroV, f0, f1, f2, f3, f4, f5, f6, f7, f8, f9, f10, z0, z1, z2, z3, z4, z5, z6, z7, z8, z9, z10, Bool.true_or, Bool.or_true, Bool.false_or, Bool.and_self, Bool.true_and, Bool.and_true]; rfl, rfl⟩)
end Go.Proofs.YtemghnbbmahaaaaDoor
namespace Go.Proofs.YtemghnbbmahaaaaDoor
open Go.Sl Go.Proofs
attribute [local irreducible] SW RW SCd SC CallP Pruned
set_option maxHeartbeats 4000000 in
theorem zero_g (o : OpD) (nl : Nat) (cs : List DV) (hl : o.lines = .sl nl cs) (hk : o.kind < 256) (hS : hasK o.kind = [99, 116, 114, 100, 112]) : Go.Sl.Pure Tryd.prog ref05_zero.f [.agg o.cells] (bl (zeroV [99, 116, 114, 100, 112] o nl)) := by
  have hh := has05_at o.kind hk
  rw [hS] at hh
  have f0 : decide (99 ∈ ([99, 116, 114, 100, 112] : List Nat)) = true := by decide
  have i0 := in05_at [99, 116, 114, 100, 112] (by decide) 99
  rw [f0] at i0
  have f1 : decide (116 ∈ ([99, 116, 114, 100, 112] : List Nat)) = true := by decide
  have i1 := in05_at [99, 116, 114, 100, 112] (by decide) 116
  rw [f1] at i1
  have f2 : decide (114 ∈ ([99, 116, 114, 100, 112] : List Nat)) = true := by decide
  have i2 := in05_at [99, 116, 114, 100, 112] (by decide) 114
  rw [f2] at i2
  have f3 : decide (100 ∈ ([99, 116, 114, 100, 112] : List Nat)) = true := by decide
  have i3 := in05_at [99, 116, 114, 100, 112] (by decide) 100
  rw [f3] at i3
  have f4 : decide (112 ∈ ([99, 116, 114, 100, 112] : List Nat)) = true := by decide
  have i4 := in05_at [99, 116, 114, 100, 112] (by decide) 112
  rw [f4] at i4
  have f5 : decide (97 ∈ ([99, 116, 114, 100, 112] : List Nat)) = false := by decide
  have i5 := in05_at [99, 116, 114, 100, 112] (by decide) 97
  rw [f5] at i5
  have f6 : decide (118 ∈ ([99, 116, 114, 100, 112] : List Nat)) = false := by decide
  have i6 := in05_at [99, 116, 114, 100, 112] (by decide) 118
  rw [f6] at i6
  have f7 : decide (105 ∈ ([99, 116, 114, 100, 112] : List Nat)) = false := by decide
  have i7 := in05_at [99, 116, 114, 100, 112] (by decide) 105
  rw [f7] at i7
  have f8 : decide (113 ∈ ([99, 116, 114, 100, 112] : List Nat)) = false := by decide
  have i8 := in05_at [99, 116, 114, 100, 112] (by decide) 113
  rw [f8] at i8
  have f9 : decide (101 ∈ ([99, 116, 114, 100, 112] : List Nat)) = false := by decide
  have i9 := in05_at [99, 116, 114, 100, 112] (by decide) 101
  rw [f9] at i9
  have f10 : decide (108 ∈ ([99, 116, 114, 100, 112] : List Nat)) = false := by decide
  have i10 := in05_at [99, 116, 114, 100, 112] (by decide) 108
  rw [f10] at i10
  refine ref05_zero.enter (by first | rfl | simp [SV.ok, SV.oks]) (by first | rfl | simp [Hp.ok, Ob.ok, SV.ok, SV.oks, Vec.cells_ok]) (by simp) ?_
  dsimp only [ref05_zero.s, Co.M, Co.G, Co.J, Co.H, Co.N, Co.F, Co.C, Co.Z, Co.B, Co.b8, Co.b32, Co.b64, Co.i6, Co.z8, Co.z29]
  have cz := And.intro hh True.intro
  refine SW.seq ?_
  refine SW.g1 [0, 1, 2, 3, 4] mixed bq_tt hh ?_
  refine SW.seq ?_
  refine SW.g1 [0, 1, 2, 3, 4] mixed bq_tt hh ?_
  refine SW.seq ?_
  refine SW.g1 [0, 1, 2, 3, 4] mixed bq_tt hh ?_
  refine SW.seq ?_
  have cz := And.intro i0 (And.intro i1 (And.intro i2 (And.intro i3 (And.intro i4 (And.intro i5 (And.intro i6 (And.intro i7 (And.intro i8 (And.intro i9 (And.intro i10 True.intro))))))))))
  refine SW.gB [0, 1, 2, 3, 4] mixed (hl) cz ?_
  rcases z5 : decide (o.at_ = (⟨0, 0⟩ : Dt)) with _ | _
  · refine RW.gE (hl) cz ?_
    refine SW.ret ?_
    exact End.mk [] (h4 := ⟨by simp only [zeroV, f0, f1, f2, f3, f4, f5, f6, f7, f8, f9, f10, z5, Bool.true_or, Bool.or_true, Bool.false_or, Bool.and_false, Bool.false_and, Bool.true_and, Bool.and_true, Bool.or_false]; rfl, rfl⟩)
  refine RW.gG (hl) cz ?_
  rcases z6 : decide (o.ver = (⟨0, 0⟩ : Dt)) with _ | _
  · refine RW.gE (hl) cz ?_
    refine SW.ret ?_
    exact End.mk [] (h4 := ⟨by simp only [zeroV, f0, f1, f2, f3, f4, f5, f6, f7, f8, f9, f10, z5, z6, Bool.true_or, Bool.or_true, Bool.false_or, Bool.and_false, Bool.false_and, Bool.true_and, Bool.and_true, Bool.or_false]; rfl, rfl⟩)
  refine RW.gG (hl) cz ?_
  rcases z7 : ((o.item : Int) == 0) with _ | _
  · refine RW.gE (hl) cz ?_
    refine SW.ret ?_
    exact End.mk [] (h4 := ⟨by simp only [zeroV, f0, f1, f2, f3, f4, f5, f6, f7, f8, f9, f10, z5, z6, z7, Bool.true_or, Bool.or_true, Bool.false_or, Bool.and_false, Bool.false_and, Bool.true_and, Bool.and_true, Bool.or_false]; rfl, rfl⟩)
  refine RW.gG (hl) cz ?_
  rcases z8 : ((o.qty : Int) == 0) with _ | _
  · refine RW.gE (hl) cz ?_
    refine SW.ret ?_
    exact End.mk [] (h4 := ⟨by simp only [zeroV, f0, f1, f2, f3, f4, f5, f6, f7, f8, f9, f10, z5, z6, z7, z8, Bool.true_or, Bool.or_true, Bool.false_or, Bool.and_false, Bool.false_and, Bool.true_and, Bool.and_true, Bool.or_false]; rfl, rfl⟩)
  refine RW.gG (hl) cz ?_
  rcases z9 : ((o.price : Int) == 0) with _ | _
  · refine RW.gE (hl) cz ?_
    refine SW.ret ?_
    exact End.mk [] (h4 := ⟨by simp only [zeroV, f0, f1, f2, f3, f4, f5, f6, f7, f8, f9, f10, z5, z6, z7, z8, z9, Bool.true_or, Bool.or_true, Bool.false_or, Bool.and_false, Bool.false_and, Bool.true_and, Bool.and_true, Bool.or_false]; rfl, rfl⟩)
  refine RW.gG (hl) cz ?_
  rcases z10 : ((nl : Int) == 0) with _ | _
  · refine RW.gE (hl) cz ?_
    refine SW.ret ?_
    exact End.mk [] (h4 := ⟨by simp only [zeroV, f0, f1, f2, f3, f4, f5, f6, f7, f8, f9, f10, z5, z6, z7, z8, z9, z10, Bool.true_or, Bool.or_true, Bool.false_or, Bool.and_false, Bool.false_and, Bool.true_and, Bool.and_true, Bool.or_false]; rfl, rfl⟩)
  refine RW.gE (hl) cz ?_
  refine SW.ret ?_
  exact End.mk [] (h4 := ⟨by simp only [zeroV, f0, f1, f2, f3, f4, f5, f6, f7, f8, f9, f10, z5, z6, z7, z8, z9, z10, Bool.true_or, Bool.or_true, Bool.false_or, Bool.and_self, Bool.true_and, Bool.and_true]; rfl, rfl⟩)
end Go.Proofs.YtemghnbbmahaaaaDoor
namespace Go.Proofs.YtemghnbbmahaaaaDoor
open Go.Sl Go.Proofs
attribute [local irreducible] SW RW SCd SC CallP Pruned
set_option maxHeartbeats 4000000 in
theorem zero_x (o : OpD) (nl : Nat) (cs : List DV) (hl : o.lines = .sl nl cs) (hk : o.kind < 256) (hS : hasK o.kind = [99, 97]) : Go.Sl.Pure Tryd.prog ref05_zero.f [.agg o.cells] (bl (zeroV [99, 97] o nl)) := by
  have hh := has05_at o.kind hk
  rw [hS] at hh
  have f0 : decide (99 ∈ ([99, 97] : List Nat)) = true := by decide
  have i0 := in05_at [99, 97] (by decide) 99
  rw [f0] at i0
  have f1 : decide (116 ∈ ([99, 97] : List Nat)) = false := by decide
  have i1 := in05_at [99, 97] (by decide) 116
  rw [f1] at i1
  have f2 : decide (114 ∈ ([99, 97] : List Nat)) = false := by decide
  have i2 := in05_at [99, 97] (by decide) 114
  rw [f2] at i2
  have f3 : decide (100 ∈ ([99, 97] : List Nat)) = false := by decide
  have i3 := in05_at [99, 97] (by decide) 100
  rw [f3] at i3
  have f4 : decide (112 ∈ ([99, 97] : List Nat)) = false := by decide
  have i4 := in05_at [99, 97] (by decide) 112
  rw [f4] at i4
  have f5 : decide (97 ∈ ([99, 97] : List Nat)) = true := by decide
  have i5 := in05_at [99, 97] (by decide) 97
  rw [f5] at i5
  have f6 : decide (118 ∈ ([99, 97] : List Nat)) = false := by decide
  have i6 := in05_at [99, 97] (by decide) 118
  rw [f6] at i6
  have f7 : decide (105 ∈ ([99, 97] : List Nat)) = false := by decide
  have i7 := in05_at [99, 97] (by decide) 105
  rw [f7] at i7
  have f8 : decide (113 ∈ ([99, 97] : List Nat)) = false := by decide
  have i8 := in05_at [99, 97] (by decide) 113
  rw [f8] at i8
  have f9 : decide (101 ∈ ([99, 97] : List Nat)) = false := by decide
  have i9 := in05_at [99, 97] (by decide) 101
  rw [f9] at i9
  have f10 : decide (108 ∈ ([99, 97] : List Nat)) = false := by decide
  have i10 := in05_at [99, 97] (by decide) 108
  rw [f10] at i10
  refine ref05_zero.enter (by first | rfl | simp [SV.ok, SV.oks]) (by first | rfl | simp [Hp.ok, Ob.ok, SV.ok, SV.oks, Vec.cells_ok]) (by simp) ?_
  dsimp only [ref05_zero.s, Co.M, Co.G, Co.J, Co.H, Co.N, Co.F, Co.C, Co.Z, Co.B, Co.b8, Co.b32, Co.b64, Co.i6, Co.z8, Co.z29]
  have cz := And.intro hh True.intro
  refine SW.seq ?_
  refine SW.g1 [0, 1, 2, 3, 4] mixed bq_tt hh ?_
  refine SW.seq ?_
  refine SW.g1 [0, 1, 2, 3, 4] mixed bq_tt hh ?_
  refine SW.seq ?_
  refine SW.g1 [0, 1, 2, 3, 4] mixed bq_tt hh ?_
  refine SW.seq ?_
  have cz := And.intro i0 (And.intro i1 (And.intro i2 (And.intro i3 (And.intro i4 (And.intro i5 (And.intro i6 (And.intro i7 (And.intro i8 (And.intro i9 (And.intro i10 True.intro))))))))))
  refine SW.gB [0, 1, 2, 3, 4] mixed (hl) cz ?_
  rcases z1 : ((o.to : Int) == 0) with _ | _
  · refine RW.gE (hl) cz ?_
    refine SW.ret ?_
    exact End.mk [] (h4 := ⟨by simp only [zeroV, f0, f1, f2, f3, f4, f5, f6, f7, f8, f9, f10, z1, Bool.true_or, Bool.or_true, Bool.false_or, Bool.and_false, Bool.false_and, Bool.true_and, Bool.and_true, Bool.or_false]; rfl, rfl⟩)
  refine RW.gG (hl) cz ?_
  rcases z2 : ((o.roles : Int) == 0) with _ | _
  · refine RW.gE (hl) cz ?_
    refine SW.ret ?_
    exact End.mk [] (h4 := ⟨by simp only [zeroV, f0, f1, f2, f3, f4, f5, f6, f7, f8, f9, f10, z1, z2, Bool.true_or, Bool.or_true, Bool.false_or, Bool.and_false, Bool.false_and, Bool.true_and, Bool.and_true, Bool.or_false]; rfl, rfl⟩)
  refine RW.gG (hl) cz ?_
  rcases z3 : ((o.depth : Int) == 0) with _ | _
  · refine RW.gE (hl) cz ?_
    refine SW.ret ?_
    exact End.mk [] (h4 := ⟨by simp only [zeroV, f0, f1, f2, f3, f4, f5, f6, f7, f8, f9, f10, z1, z2, z3, Bool.true_or, Bool.or_true, Bool.false_or, Bool.and_false, Bool.false_and, Bool.true_and, Bool.and_true, Bool.or_false]; rfl, rfl⟩)
  refine RW.gG (hl) cz ?_
  rcases z4 : ((o.cap : Int) == 0) with _ | _
  · refine RW.gE (hl) cz ?_
    refine SW.ret ?_
    exact End.mk [] (h4 := ⟨by simp only [zeroV, f0, f1, f2, f3, f4, f5, f6, f7, f8, f9, f10, z1, z2, z3, z4, Bool.true_or, Bool.or_true, Bool.false_or, Bool.and_false, Bool.false_and, Bool.true_and, Bool.and_true, Bool.or_false]; rfl, rfl⟩)
  refine RW.gG (hl) cz ?_
  rcases z6 : decide (o.ver = (⟨0, 0⟩ : Dt)) with _ | _
  · refine RW.gE (hl) cz ?_
    refine SW.ret ?_
    exact End.mk [] (h4 := ⟨by simp only [zeroV, f0, f1, f2, f3, f4, f5, f6, f7, f8, f9, f10, z1, z2, z3, z4, z6, Bool.true_or, Bool.or_true, Bool.false_or, Bool.and_false, Bool.false_and, Bool.true_and, Bool.and_true, Bool.or_false]; rfl, rfl⟩)
  refine RW.gG (hl) cz ?_
  rcases z7 : ((o.item : Int) == 0) with _ | _
  · refine RW.gE (hl) cz ?_
    refine SW.ret ?_
    exact End.mk [] (h4 := ⟨by simp only [zeroV, f0, f1, f2, f3, f4, f5, f6, f7, f8, f9, f10, z1, z2, z3, z4, z6, z7, Bool.true_or, Bool.or_true, Bool.false_or, Bool.and_false, Bool.false_and, Bool.true_and, Bool.and_true, Bool.or_false]; rfl, rfl⟩)
  refine RW.gG (hl) cz ?_
  rcases z8 : ((o.qty : Int) == 0) with _ | _
  · refine RW.gE (hl) cz ?_
    refine SW.ret ?_
    exact End.mk [] (h4 := ⟨by simp only [zeroV, f0, f1, f2, f3, f4, f5, f6, f7, f8, f9, f10, z1, z2, z3, z4, z6, z7, z8, Bool.true_or, Bool.or_true, Bool.false_or, Bool.and_false, Bool.false_and, Bool.true_and, Bool.and_true, Bool.or_false]; rfl, rfl⟩)
  refine RW.gG (hl) cz ?_
  rcases z9 : ((o.price : Int) == 0) with _ | _
  · refine RW.gE (hl) cz ?_
    refine SW.ret ?_
    exact End.mk [] (h4 := ⟨by simp only [zeroV, f0, f1, f2, f3, f4, f5, f6, f7, f8, f9, f10, z1, z2, z3, z4, z6, z7, z8, z9, Bool.true_or, Bool.or_true, Bool.false_or, Bool.and_false, Bool.false_and, Bool.true_and, Bool.and_true, Bool.or_false]; rfl, rfl⟩)
  refine RW.gG (hl) cz ?_
  rcases z10 : ((nl : Int) == 0) with _ | _
  · refine RW.gE (hl) cz ?_
    refine SW.ret ?_
    exact End.mk [] (h4 := ⟨by simp only [zeroV, f0, f1, f2, f3, f4, f5, f6, f7, f8, f9, f10, z1, z2, z3, z4, z6, z7, z8, z9, z10, Bool.true_or, Bool.or_true, Bool.false_or, Bool.and_false, Bool.false_and, Bool.true_and, Bool.and_true, Bool.or_false]; rfl, rfl⟩)
  refine RW.gE (hl) cz ?_
  refine SW.ret ?_
  exact End.mk [] (h4 := ⟨by simp only [zeroV, f0, f1, f2, f3, f4, f5, f6, f7, f8, f9, f10, z1, z2, z3, z4, z6, z7, z8, z9, z10, Bool.true_or, Bool.or_true, Bool.false_or, Bool.and_self, Bool.true_and, Bool.and_true]; rfl, rfl⟩)
end Go.Proofs.YtemghnbbmahaaaaDoor
namespace Go.Proofs.YtemghnbbmahaaaaDoor
open Go.Sl Go.Proofs
attribute [local irreducible] SW RW SCd SC CallP Pruned
set_option maxHeartbeats 4000000 in
theorem zero_b (o : OpD) (nl : Nat) (cs : List DV) (hl : o.lines = .sl nl cs) (hk : o.kind < 256) (hS : hasK o.kind = [99, 105, 113, 101]) : Go.Sl.Pure Tryd.prog ref05_zero.f [.agg o.cells] (bl (zeroV [99, 105, 113, 101] o nl)) := by
  have hh := has05_at o.kind hk
  rw [hS] at hh
  have f0 : decide (99 ∈ ([99, 105, 113, 101] : List Nat)) = true := by decide
  have i0 := in05_at [99, 105, 113, 101] (by decide) 99
  rw [f0] at i0
  have f1 : decide (116 ∈ ([99, 105, 113, 101] : List Nat)) = false := by decide
  have i1 := in05_at [99, 105, 113, 101] (by decide) 116
  rw [f1] at i1
  have f2 : decide (114 ∈ ([99, 105, 113, 101] : List Nat)) = false := by decide
  have i2 := in05_at [99, 105, 113, 101] (by decide) 114
  rw [f2] at i2
  have f3 : decide (100 ∈ ([99, 105, 113, 101] : List Nat)) = false := by decide
  have i3 := in05_at [99, 105, 113, 101] (by decide) 100
  rw [f3] at i3
  have f4 : decide (112 ∈ ([99, 105, 113, 101] : List Nat)) = false := by decide
  have i4 := in05_at [99, 105, 113, 101] (by decide) 112
  rw [f4] at i4
  have f5 : decide (97 ∈ ([99, 105, 113, 101] : List Nat)) = false := by decide
  have i5 := in05_at [99, 105, 113, 101] (by decide) 97
  rw [f5] at i5
  have f6 : decide (118 ∈ ([99, 105, 113, 101] : List Nat)) = false := by decide
  have i6 := in05_at [99, 105, 113, 101] (by decide) 118
  rw [f6] at i6
  have f7 : decide (105 ∈ ([99, 105, 113, 101] : List Nat)) = true := by decide
  have i7 := in05_at [99, 105, 113, 101] (by decide) 105
  rw [f7] at i7
  have f8 : decide (113 ∈ ([99, 105, 113, 101] : List Nat)) = true := by decide
  have i8 := in05_at [99, 105, 113, 101] (by decide) 113
  rw [f8] at i8
  have f9 : decide (101 ∈ ([99, 105, 113, 101] : List Nat)) = true := by decide
  have i9 := in05_at [99, 105, 113, 101] (by decide) 101
  rw [f9] at i9
  have f10 : decide (108 ∈ ([99, 105, 113, 101] : List Nat)) = false := by decide
  have i10 := in05_at [99, 105, 113, 101] (by decide) 108
  rw [f10] at i10
  refine ref05_zero.enter (by first | rfl | simp [SV.ok, SV.oks]) (by first | rfl | simp [Hp.ok, Ob.ok, SV.ok, SV.oks, Vec.cells_ok]) (by simp) ?_
  dsimp only [ref05_zero.s, Co.M, Co.G, Co.J, Co.H, Co.N, Co.F, Co.C, Co.Z, Co.B, Co.b8, Co.b32, Co.b64, Co.i6, Co.z8, Co.z29]
  have cz := And.intro hh True.intro
  refine SW.seq ?_
  refine SW.g1 [0, 1, 2, 3, 4] mixed bq_tt hh ?_
  refine SW.seq ?_
  refine SW.g1 [0, 1, 2, 3, 4] mixed bq_tt hh ?_
  refine SW.seq ?_
  refine SW.g1 [0, 1, 2, 3, 4] mixed bq_tt hh ?_
  refine SW.seq ?_
  have cz := And.intro i0 (And.intro i1 (And.intro i2 (And.intro i3 (And.intro i4 (And.intro i5 (And.intro i6 (And.intro i7 (And.intro i8 (And.intro i9 (And.intro i10 True.intro))))))))))
  refine SW.gB [0, 1, 2, 3, 4] mixed (hl) cz ?_
  rcases z1 : ((o.to : Int) == 0) with _ | _
  · refine RW.gE (hl) cz ?_
    refine SW.ret ?_
    exact End.mk [] (h4 := ⟨by simp only [zeroV, f0, f1, f2, f3, f4, f5, f6, f7, f8, f9, f10, z1, Bool.true_or, Bool.or_true, Bool.false_or, Bool.and_false, Bool.false_and, Bool.true_and, Bool.and_true, Bool.or_false]; rfl, rfl⟩)
  refine RW.gG (hl) cz ?_
  rcases z2 : ((o.roles : Int) == 0) with _ | _
  · refine RW.gE (hl) cz ?_
    refine SW.ret ?_
    exact End.mk [] (h4 := ⟨by simp only [zeroV, f0, f1, f2, f3, f4, f5, f6, f7, f8, f9, f10, z1, z2, Bool.true_or, Bool.or_true, Bool.false_or, Bool.and_false, Bool.false_and, Bool.true_and, Bool.and_true, Bool.or_false]; rfl, rfl⟩)
  refine RW.gG (hl) cz ?_
  rcases z3 : ((o.depth : Int) == 0) with _ | _
  · refine RW.gE (hl) cz ?_
    refine SW.ret ?_
    exact End.mk [] (h4 := ⟨by simp only [zeroV, f0, f1, f2, f3, f4, f5, f6, f7, f8, f9, f10, z1, z2, z3, Bool.true_or, Bool.or_true, Bool.false_or, Bool.and_false, Bool.false_and, Bool.true_and, Bool.and_true, Bool.or_false]; rfl, rfl⟩)
  refine RW.gG (hl) cz ?_
  rcases z4 : ((o.cap : Int) == 0) with _ | _
  · refine RW.gE (hl) cz ?_
    refine SW.ret ?_
    exact End.mk [] (h4 := ⟨by simp only [zeroV, f0, f1, f2, f3, f4, f5, f6, f7, f8, f9, f10, z1, z2, z3, z4, Bool.true_or, Bool.or_true, Bool.false_or, Bool.and_false, Bool.false_and, Bool.true_and, Bool.and_true, Bool.or_false]; rfl, rfl⟩)
  refine RW.gG (hl) cz ?_
  rcases z5 : decide (o.at_ = (⟨0, 0⟩ : Dt)) with _ | _
  · refine RW.gE (hl) cz ?_
    refine SW.ret ?_
    exact End.mk [] (h4 := ⟨by simp only [zeroV, f0, f1, f2, f3, f4, f5, f6, f7, f8, f9, f10, z1, z2, z3, z4, z5, Bool.true_or, Bool.or_true, Bool.false_or, Bool.and_false, Bool.false_and, Bool.true_and, Bool.and_true, Bool.or_false]; rfl, rfl⟩)
  refine RW.gG (hl) cz ?_
  rcases z6 : decide (o.ver = (⟨0, 0⟩ : Dt)) with _ | _
  · refine RW.gE (hl) cz ?_
    refine SW.ret ?_
    exact End.mk [] (h4 := ⟨by simp only [zeroV, f0, f1, f2, f3, f4, f5, f6, f7, f8, f9, f10, z1, z2, z3, z4, z5, z6, Bool.true_or, Bool.or_true, Bool.false_or, Bool.and_false, Bool.false_and, Bool.true_and, Bool.and_true, Bool.or_false]; rfl, rfl⟩)
  refine RW.gG (hl) cz ?_
  rcases z10 : ((nl : Int) == 0) with _ | _
  · refine RW.gE (hl) cz ?_
    refine SW.ret ?_
    exact End.mk [] (h4 := ⟨by simp only [zeroV, f0, f1, f2, f3, f4, f5, f6, f7, f8, f9, f10, z1, z2, z3, z4, z5, z6, z10, Bool.true_or, Bool.or_true, Bool.false_or, Bool.and_false, Bool.false_and, Bool.true_and, Bool.and_true, Bool.or_false]; rfl, rfl⟩)
  refine RW.gE (hl) cz ?_
  refine SW.ret ?_
  exact End.mk [] (h4 := ⟨by simp only [zeroV, f0, f1, f2, f3, f4, f5, f6, f7, f8, f9, f10, z1, z2, z3, z4, z5, z6, z10, Bool.true_or, Bool.or_true, Bool.false_or, Bool.and_self, Bool.true_and, Bool.and_true]; rfl, rfl⟩)
end Go.Proofs.YtemghnbbmahaaaaDoor
