/-
  Histories: what the document asks of one operation.
-/
import Derived.Test.YtemghnbbmahaaaaDoorUK
import Derived.Test.YtemghnbbmahaaaaDoorUO
import Derived.Test.YtemghnbbmahaaaaDoorUP
import Derived.Test.YtemghnbbmahaaaaDoorUV
import Derived.Test.YtemghnbbmahaaaaDoorUN
import Derived.Test.YtemghnbbmahaaaaDoorUF
set_option linter.unusedSectionVars false
set_option linter.unusedVariables false
set_option linter.unusedSimpArgs false
namespace Go.Proofs.YtemghnbbmahaaaaDoor
open Go.Sl Go.Proofs
attribute [local irreducible] SW RW SCd SC CallP Pruned
theorem op_time {l : List OpD} {i : Nat} {x : OpD} (h : l[i]? = some x) : (List.map SV.d (l.flatMap OpD.ds))[i * 29 + 10]? = some (.d (.int .u64 x.time)) := by rw [op_get h (by omega)]; rfl
theorem op_dep {l : List OpD} {i : Nat} {x : OpD} (h : l[i]? = some x) : List.take 8 (List.drop (i * 29 + 2) (List.map SV.d (l.flatMap OpD.ds))) = x.dep.cells := by rw [op_part h (by omega)]; rfl
theorem op_room8 {l : List OpD} {i : Nat} {x : OpD} (h : l[i]? = some x) : (i * 29 + 2 + 8 ≤ (List.map SV.d (l.flatMap OpD.ds)).length) = True := op_room h (by omega)
theorem rvabove_ok (a b : Vec) : Go.Sl.Pure Tryd.prog ref04_Above.f [.agg a.cells, .agg b.cells] (bl (a.above b)) := by
  refine ref04_Above.enter (by first | rfl | simp [SV.ok, SV.oks]) (by first | rfl | simp [Hp.ok, Ob.ok, SV.ok, SV.oks, Vec.cells_ok]) (by simp) ?_
  dsimp only [ref04_Above.s, Co.M, Co.G, Co.J, Co.H, Co.N, Co.F, Co.C, Co.Z, Co.B, Co.b8, Co.b32, Co.b64, Co.i6, Co.z8, Co.z29]
  refine SW.seq ?_
  refine SW.g0 [0, 1, 2, 3, 4, 5, 7, 16] mixed bq_tt ?_
  refine SW.seq (SW.seq ?_)
  refine SW.g0 [0, 1, 2, 3, 4, 5, 7, 16] mixed bq_tt ?_
  refine SW.block ?_
  refine SW.loopA (α := {i : Nat // i ≤ 8 ∧ ∀ r, r < i → b.get r ≤ a.get r}) (fun i => ⟨[(5, i64 i.1), (2, .ptr 0 0), (3, .ptr 1 0)], [(0, .box 32 a.cells), (1, .box 32 b.cells)], 2⟩) (fun i => 8 - i.1) ⟨0, by omega, by omega⟩ id bq_tt (round := ?_)
  rintro ⟨i, hi, hs⟩
  by_cases h : i < 8
  · have h1 : decide ((i : Int) < 8) = true := by simp; omega
    have e2 : IntKind.i64.wrap ((i : Int) + 1) = ((i + 1 : Nat) : Int) := wrap_i64 _ (by omega)
    rcases hc : decide (((a.get i : Nat) : Int) < ((b.get i : Nat) : Int)) with _ | _
    · (repeat (first | refine SW.seq ?_ | refine SW.block ?_ | refine SW.g0 [0, 1, 2, 3, 4, 5, 7, 16] mixed (And.intro (h1) (And.intro (a.cells_get h) (And.intro (b.cells_get h) (And.intro (hc) (e2))))) ?_ | refine SW.skip ?_ | refine SW.exit ?_ | refine SW.ret ?_ | refine SW.condT rfl ?_ | refine SW.condF rfl ?_))
      dsimp only
      exact ⟨⟨i + 1, by omega, fun r hr => by
        by_cases hri : r = i
        · subst hri; simp at hc; omega
        · exact hs r (by omega)⟩, id, by show 8 - (i + 1) < _; omega, Weak.mk bq_tt⟩
    · (repeat (first | refine SW.seq ?_ | refine SW.block ?_ | refine SW.g0 [0, 1, 2, 3, 4, 5, 7, 16] mixed (And.intro (h1) (And.intro (a.cells_get h) (And.intro (b.cells_get h) (hc)))) ?_ | refine SW.skip ?_ | refine SW.exit ?_ | refine SW.ret ?_ | refine SW.condT rfl ?_ | refine SW.condF rfl ?_))
      have : a.above b = false := by
        cases hab : a.above b with
        | false => rfl
        | true => have := Vec.above_iff.1 hab i h; simp at hc; omega
      exact End.mk [] (h4 := ⟨by rw [this]; rfl, rfl⟩)
  · have h1 : decide ((i : Int) < 8) = false := by simp; omega
    have : a.above b = true := Vec.above_iff.2 fun r hr => hs r (by omega)
    (repeat (first | refine SW.seq ?_ | refine SW.block ?_ | refine SW.g0 [0, 1, 2, 3, 4, 5, 7, 16] mixed (h1) ?_ | refine SW.skip ?_ | refine SW.exit ?_ | refine SW.ret ?_ | refine SW.condT rfl ?_ | refine SW.condF rfl ?_))
    exact End.mk [] (h4 := ⟨by rw [this]; rfl, rfl⟩)
theorem rvabove_at (a b : Vec) (k : Nat) : SCd Tryd.prog ref04_Above.f [.agg a.cells, .agg b.cells] [] k 0 (bl (a.above b)) [] := (rvabove_ok a b).sc rfl k
open Classical in
noncomputable def oneV (l : List OpD) (o : OpD) : Bool := decide (OneOf l o)
open Classical in
theorem oneV_no {l : List OpD} {o : OpD} (h : ¬ OneOf l o) : oneV l o = false := decide_eq_false h
open Classical in
theorem oneV_iff {l : List OpD} {o : OpD} : oneV l o = true ↔ OneOf l o := decide_eq_true_iff
set_option maxHeartbeats 4000000 in
theorem one_ok (l : List OpD) (hl : l.length ≤ 9223372036854775807) (o : OpD) (hd : o.dot.wf) : Go.Sl.Pure Tryd.prog ref10_one.f [ops l, .agg o.cells] (bl (oneV l o)) := by
  have hd2 : o.dot.n < 4294967296 := hd.2
  refine ref10_one.enter (by first | rfl | simp [SV.ok, SV.oks]) (by first | rfl | simp [Hp.ok, Ob.ok, SV.ok, SV.oks, Vec.cells_ok]) (by simp) ?_
  dsimp only [ref10_one.s, Co.M, Co.G, Co.J, Co.H, Co.N, Co.F, Co.C, Co.Z, Co.B, Co.b8, Co.b32, Co.b64, Co.i6, Co.z8, Co.z29]
  refine SW.seq ?_
  refine SW.g0 [0, 1, 3, 4, 5, 6, 30, 32, 51, 55, 84] mixed bq_tt ?_
  have t1 := there_at l hl o.dot
  have t2 : ∀ k, SCd Tryd.prog ref10_there.f [ops l, .agg [u8 o.dot.r, u32 (o.dot.n - 1)]] [] k 0 (.d (.int .i64 ((cntO l ⟨o.dot.r, o.dot.n - 1⟩ : Nat) : Int))) [] := there_at l hl ⟨o.dot.r, o.dot.n - 1⟩
  have cz := And.intro t1 (And.intro t2 True.intro)
  refine SW.seq (SW.seq ?_)
  refine SW.gB [0, 1, 3, 4, 5, 6, 30, 32, 51, 55, 84] mixed bq_tt cz ?_
  rcases a1 : (((cntO l o.dot : Nat) : Int) != 1) with _ | _
  rotate_left
  · rw [oneV_no fun h => by have := h.self; simp at a1; omega]
    refine RW.gE bq_tt cz ?_
    refine SW.condT rfl (SW.seq ?_)
    refine SW.g2 [0, 1, 3, 4, 5, 6, 30, 32, 51, 55, 84] mixed bq_tt t1 t2 ?_
    refine SW.ret ?_
    exact End.mk [] (h4 := ⟨rfl, rfl⟩)
  refine RW.gG bq_tt cz ?_
  have hself : cntO l o.dot = 1 := by simp at a1; omega
  rcases a2 : decide ((o.dot.n : Int) > 1) with _ | _
  · have hprev : 1 < o.dot.n → cntO l ⟨o.dot.r, o.dot.n - 1⟩ = 1 := fun h => by simp at a2; omega
    refine RW.gE bq_tt cz ?_
    refine SW.condF rfl (SW.skip ?_)
    refine SW.seq (SW.seq ?_)
    refine SW.g2 [0, 1, 3, 4, 5, 6, 30, 32, 51, 55, 84] mixed bq_tt t1 t2 ?_
    refine SW.block ?_
    refine SW.loopA (α := {i : Nat // i ≤ 8 ∧ ∀ r, r < i → 0 < o.dep.get r → cntO l ⟨r, o.dep.get r⟩ = 1}) (fun i => ⟨[(5, i64 i.1), (3, .ptr 0 0), (0, ops l)], [(0, .box 36 o.cells)], 1⟩) (fun i => 8 - i.1) ⟨0, by omega, by omega⟩ id bq_tt (round := ?_)
    rintro ⟨i, hi, hs⟩
    by_cases h : i < 8
    · have h1 : decide ((i : Int) < 8) = true := by simp; omega
      have e2 : IntKind.i64.wrap ((i : Int) + 1) = ((i + 1 : Nat) : Int) := wrap_i64 _ (by omega)
      have e4 : IntKind.u8.wrap (i : Int) = (i : Int) := wrap_u8' _ (by omega)
      have t3 : ∀ k, SCd Tryd.prog ref10_there.f [ops l, .agg [u8 i, u32 (o.dep.get i)]] [] k 0 (.d (.int .i64 ((cntO l ⟨i, o.dep.get i⟩ : Nat) : Int))) [] := there_at l hl ⟨i, o.dep.get i⟩
      have cz := And.intro t3 True.intro
      refine SW.seq (SW.seq ?_)
      refine SW.g1 [0, 1, 3, 4, 5, 6, 30, 32, 51, 55, 84] mixed (h1) t3 ?_
      refine SW.condT rfl (SW.skip ?_)
      refine SW.seq (SW.block (SW.seq ?_))
      rcases c1 : decide ((o.dep.get i : Int) > 0) with _ | _
      · refine SW.g1 [0, 1, 3, 4, 5, 6, 30, 32, 51, 55, 84] mixed (And.intro (rdep_get o h) (And.intro (c1) (e4))) t3 ?_
        refine SW.condF rfl (SW.skip ?_)
        refine SW.g1 [0, 1, 3, 4, 5, 6, 30, 32, 51, 55, 84] mixed (e2) t3 ?_
        dsimp only
        exact ⟨⟨i + 1, by omega, fun r hr hp => by
          by_cases hri : r = i
          · subst hri; simp at c1; omega
          · exact hs r (by omega) hp⟩, id, by show 8 - (i + 1) < _; omega, Weak.mk bq_tt⟩
      · rcases c2 : (((cntO l ⟨i, o.dep.get i⟩ : Nat) : Int) != 1) with _ | _
        · refine SW.g1 [0, 1, 3, 4, 5, 6, 30, 32, 51, 55, 84] mixed (And.intro (rdep_get o h) (And.intro (c1) (And.intro (c2) (e4)))) t3 ?_
          refine SW.condF rfl (SW.skip ?_)
          refine SW.g1 [0, 1, 3, 4, 5, 6, 30, 32, 51, 55, 84] mixed (e2) t3 ?_
          dsimp only
          exact ⟨⟨i + 1, by omega, fun r hr hp => by
            by_cases hri : r = i
            · subst hri; simp at c2; omega
            · exact hs r (by omega) hp⟩, id, by show 8 - (i + 1) < _; omega, Weak.mk bq_tt⟩
        · rw [oneV_no fun h' => by have := h'.deps i h (by simp at c1; omega); simp at c2; omega]
          refine SW.g1 [0, 1, 3, 4, 5, 6, 30, 32, 51, 55, 84] mixed (And.intro (rdep_get o h) (And.intro (c1) (And.intro (c2) (e4)))) t3 ?_
          refine SW.condT rfl (SW.seq ?_)
          refine SW.g1 [0, 1, 3, 4, 5, 6, 30, 32, 51, 55, 84] mixed bq_tt t3 ?_
          refine SW.ret ?_
          exact End.mk [] (h4 := ⟨rfl, rfl⟩)
    have h1 : decide ((i : Int) < 8) = false := by simp; omega
    have hdeps : ∀ r, r < 8 → 0 < o.dep.get r → cntO l ⟨r, o.dep.get r⟩ = 1 := fun r h1 h2 => hs r (by omega) h2
    refine SW.seq (SW.seq ?_)
    refine SW.g0 [0, 1, 3, 4, 5, 6, 30, 32, 51, 55, 84] mixed (h1) ?_
    refine SW.condF rfl (SW.exit ?_)
    refine SW.seq (SW.seq ?_)
    refine SW.g0 [0, 1, 3, 4, 5, 6, 30, 32, 51, 55, 84] mixed bq_tt ?_
    refine SW.block ?_
    refine SW.loopA (α := {i : Nat // i ≤ l.length ∧ ∀ j x, j < i → l[j]? = some x → x.before o = true → x.time < o.time ∧ o.dep.above x.dep = true}) (fun i => ⟨[(6, i64 i.1), (3, .ptr 0 0), (0, ops l)], [(0, .box 36 o.cells)], 1⟩) (fun i => l.length - i.1) ⟨0, by omega, by omega⟩ id bq_tt (round := ?_)
    rintro ⟨i, hi, hs⟩
    by_cases h : i < l.length
    · have h1 : decide ((i : Int) < l.length) = true := by simp; exact h
      have e2 : IntKind.i64.wrap ((i : Int) + 1) = ((i + 1 : Nat) : Int) := wrap_i64 _ (by omega)
      obtain ⟨x, hx⟩ := get_of_lt h
      have rb := rbefore_at x o
      have ra := rvabove_at o.dep x.dep
      refine SW.seq (SW.seq ?_)
      refine SW.g0 [0, 1, 3, 4, 5, 6, 30, 32, 51, 55, 84] mixed (h1) ?_
      refine SW.condT rfl (SW.skip ?_)
      refine SW.seq (SW.block (SW.seq ?_))
      have good : ((x.before o = true → x.time < o.time ∧ o.dep.above x.dep = true)) → ∀ j y, j < i + 1 → l[j]? = some y → y.before o = true → y.time < o.time ∧ o.dep.above y.dep = true := fun hg j y hj hy => by
        by_cases hji : j = i
        · subst hji; rw [hx] at hy; injection hy with hy; subst hy; exact hg
        · exact hs j y (by omega) hy
      have bad : ¬ (x.before o = true → x.time < o.time ∧ o.dep.above x.dep = true) → oneV l o = false := fun hb => oneV_no fun h' => hb (h'.bef x (List.mem_of_getElem? hx))
      rcases g1 : x.before o with _ | _ <;> rw [g1] at rb
      · 
        have cz := And.intro rb True.intro
        refine SW.g1 [0, 1, 3, 4, 5, 6, 30, 32, 51, 55, 84] mixed (And.intro (op_at hx) (op_room0 hx)) rb ?_
        refine SW.condF rfl (SW.skip ?_)
        refine SW.g1 [0, 1, 3, 4, 5, 6, 30, 32, 51, 55, 84] mixed (e2) rb ?_
        dsimp only
        exact ⟨⟨i + 1, by omega, good (fun h => by rw [g1] at h; cases h)⟩, id, by show l.length - (i + 1) < _; omega, Weak.mk bq_tt⟩
      rcases g2 : decide ((x.time : Int) ≥ o.time) with _ | _
      rotate_left
      · rw [bad fun h' => by have := (h' g1).1; simp at g2; omega]
        refine SW.g1 [0, 1, 3, 4, 5, 6, 30, 32, 51, 55, 84] mixed (And.intro (op_at hx) (And.intro (op_room0 hx) (And.intro (op_time hx) (And.intro (op_dep hx) (And.intro (op_room8 hx) (g2)))))) rb ?_
        refine SW.condT rfl (SW.seq ?_)
        refine SW.g1 [0, 1, 3, 4, 5, 6, 30, 32, 51, 55, 84] mixed bq_tt rb ?_
        refine SW.ret ?_
        exact End.mk [] (h4 := ⟨rfl, rfl⟩)
      rcases g3 : o.dep.above x.dep with _ | _ <;> rw [g3] at ra
      · rw [bad fun h' => by have := (h' g1).2; rw [g3] at this; cases this]
        have cz := And.intro rb (And.intro ra True.intro)
        refine SW.g2 [0, 1, 3, 4, 5, 6, 30, 32, 51, 55, 84] mixed (And.intro (op_at hx) (And.intro (op_room0 hx) (And.intro (op_time hx) (And.intro (op_dep hx) (And.intro (op_room8 hx) (g2)))))) rb ra ?_
        refine SW.condT rfl (SW.seq ?_)
        refine SW.g2 [0, 1, 3, 4, 5, 6, 30, 32, 51, 55, 84] mixed bq_tt rb ra ?_
        refine SW.ret ?_
        exact End.mk [] (h4 := ⟨rfl, rfl⟩)
      · refine SW.g2 [0, 1, 3, 4, 5, 6, 30, 32, 51, 55, 84] mixed (And.intro (op_at hx) (And.intro (op_room0 hx) (And.intro (op_time hx) (And.intro (op_dep hx) (And.intro (op_room8 hx) (g2)))))) rb ra ?_
        refine SW.condF rfl (SW.skip ?_)
        refine SW.g2 [0, 1, 3, 4, 5, 6, 30, 32, 51, 55, 84] mixed (e2) rb ra ?_
        dsimp only
        exact ⟨⟨i + 1, by omega, good (fun _ => ⟨by simp at g2; omega, g3⟩)⟩, id, by show l.length - (i + 1) < _; omega, Weak.mk bq_tt⟩
    have h1 : decide ((i : Int) < l.length) = false := by simp; omega
    have hone : oneV l o = true := oneV_iff.2 ⟨hself, hprev, hdeps, fun a ha hb => by
      obtain ⟨j, hj⟩ := List.mem_iff_getElem?.1 ha
      exact hs j a (by have := lt_of_get hj; omega) hj hb⟩
    rw [hone]
    (repeat (first | refine SW.seq ?_ | refine SW.block ?_ | refine SW.g0 [0, 1, 3, 4, 5, 6, 30, 32, 51, 55, 84] mixed (h1) ?_ | refine SW.skip ?_ | refine SW.exit ?_ | refine SW.ret ?_ | refine SW.condT rfl ?_ | refine SW.condF rfl ?_))
    exact End.mk [] (h4 := ⟨rfl, rfl⟩)
  · have e3 : IntKind.u32.wrap ((o.dot.n : Int) - 1) = ((o.dot.n - 1 : Nat) : Int) := by simp at a2; rw [wrap_u32' _ (by omega)]; omega
    have cz := And.intro t1 (And.intro t2 True.intro)
    refine RW.gG (e3) cz ?_
    rcases a3 : (((cntO l ⟨o.dot.r, o.dot.n - 1⟩ : Nat) : Int) != 1) with _ | _
    rotate_left
    · rw [oneV_no fun h => by have := h.prev (by simp at a2; omega); simp at a3; omega]
      refine RW.gE bq_tt cz ?_
      refine SW.condT rfl (SW.seq ?_)
      refine SW.g2 [0, 1, 3, 4, 5, 6, 30, 32, 51, 55, 84] mixed bq_tt t1 t2 ?_
      refine SW.ret ?_
      exact End.mk [] (h4 := ⟨rfl, rfl⟩)
    have hprev : 1 < o.dot.n → cntO l ⟨o.dot.r, o.dot.n - 1⟩ = 1 := fun h => by simp at a3; omega
    refine RW.gE bq_tt cz ?_
    refine SW.condF rfl (SW.skip ?_)
    refine SW.seq (SW.seq ?_)
    refine SW.g2 [0, 1, 3, 4, 5, 6, 30, 32, 51, 55, 84] mixed bq_tt t1 t2 ?_
    refine SW.block ?_
    refine SW.loopA (α := {i : Nat // i ≤ 8 ∧ ∀ r, r < i → 0 < o.dep.get r → cntO l ⟨r, o.dep.get r⟩ = 1}) (fun i => ⟨[(5, i64 i.1), (3, .ptr 0 0), (0, ops l)], [(0, .box 36 o.cells)], 1⟩) (fun i => 8 - i.1) ⟨0, by omega, by omega⟩ id bq_tt (round := ?_)
    rintro ⟨i, hi, hs⟩
    by_cases h : i < 8
    · have h1 : decide ((i : Int) < 8) = true := by simp; omega
      have e2 : IntKind.i64.wrap ((i : Int) + 1) = ((i + 1 : Nat) : Int) := wrap_i64 _ (by omega)
      have e4 : IntKind.u8.wrap (i : Int) = (i : Int) := wrap_u8' _ (by omega)
      have t3 : ∀ k, SCd Tryd.prog ref10_there.f [ops l, .agg [u8 i, u32 (o.dep.get i)]] [] k 0 (.d (.int .i64 ((cntO l ⟨i, o.dep.get i⟩ : Nat) : Int))) [] := there_at l hl ⟨i, o.dep.get i⟩
      have cz := And.intro t3 True.intro
      refine SW.seq (SW.seq ?_)
      refine SW.g1 [0, 1, 3, 4, 5, 6, 30, 32, 51, 55, 84] mixed (h1) t3 ?_
      refine SW.condT rfl (SW.skip ?_)
      refine SW.seq (SW.block (SW.seq ?_))
      rcases c1 : decide ((o.dep.get i : Int) > 0) with _ | _
      · refine SW.g1 [0, 1, 3, 4, 5, 6, 30, 32, 51, 55, 84] mixed (And.intro (rdep_get o h) (And.intro (c1) (e4))) t3 ?_
        refine SW.condF rfl (SW.skip ?_)
        refine SW.g1 [0, 1, 3, 4, 5, 6, 30, 32, 51, 55, 84] mixed (e2) t3 ?_
        dsimp only
        exact ⟨⟨i + 1, by omega, fun r hr hp => by
          by_cases hri : r = i
          · subst hri; simp at c1; omega
          · exact hs r (by omega) hp⟩, id, by show 8 - (i + 1) < _; omega, Weak.mk bq_tt⟩
      · rcases c2 : (((cntO l ⟨i, o.dep.get i⟩ : Nat) : Int) != 1) with _ | _
        · refine SW.g1 [0, 1, 3, 4, 5, 6, 30, 32, 51, 55, 84] mixed (And.intro (rdep_get o h) (And.intro (c1) (And.intro (c2) (e4)))) t3 ?_
          refine SW.condF rfl (SW.skip ?_)
          refine SW.g1 [0, 1, 3, 4, 5, 6, 30, 32, 51, 55, 84] mixed (e2) t3 ?_
          dsimp only
          exact ⟨⟨i + 1, by omega, fun r hr hp => by
            by_cases hri : r = i
            · subst hri; simp at c2; omega
            · exact hs r (by omega) hp⟩, id, by show 8 - (i + 1) < _; omega, Weak.mk bq_tt⟩
        · rw [oneV_no fun h' => by have := h'.deps i h (by simp at c1; omega); simp at c2; omega]
          refine SW.g1 [0, 1, 3, 4, 5, 6, 30, 32, 51, 55, 84] mixed (And.intro (rdep_get o h) (And.intro (c1) (And.intro (c2) (e4)))) t3 ?_
          refine SW.condT rfl (SW.seq ?_)
          refine SW.g1 [0, 1, 3, 4, 5, 6, 30, 32, 51, 55, 84] mixed bq_tt t3 ?_
          refine SW.ret ?_
          exact End.mk [] (h4 := ⟨rfl, rfl⟩)
    have h1 : decide ((i : Int) < 8) = false := by simp; omega
    have hdeps : ∀ r, r < 8 → 0 < o.dep.get r → cntO l ⟨r, o.dep.get r⟩ = 1 := fun r h1 h2 => hs r (by omega) h2
    refine SW.seq (SW.seq ?_)
    refine SW.g0 [0, 1, 3, 4, 5, 6, 30, 32, 51, 55, 84] mixed (h1) ?_
    refine SW.condF rfl (SW.exit ?_)
    refine SW.seq (SW.seq ?_)
    refine SW.g0 [0, 1, 3, 4, 5, 6, 30, 32, 51, 55, 84] mixed bq_tt ?_
    refine SW.block ?_
    refine SW.loopA (α := {i : Nat // i ≤ l.length ∧ ∀ j x, j < i → l[j]? = some x → x.before o = true → x.time < o.time ∧ o.dep.above x.dep = true}) (fun i => ⟨[(6, i64 i.1), (3, .ptr 0 0), (0, ops l)], [(0, .box 36 o.cells)], 1⟩) (fun i => l.length - i.1) ⟨0, by omega, by omega⟩ id bq_tt (round := ?_)
    rintro ⟨i, hi, hs⟩
    by_cases h : i < l.length
    · have h1 : decide ((i : Int) < l.length) = true := by simp; exact h
      have e2 : IntKind.i64.wrap ((i : Int) + 1) = ((i + 1 : Nat) : Int) := wrap_i64 _ (by omega)
      obtain ⟨x, hx⟩ := get_of_lt h
      have rb := rbefore_at x o
      have ra := rvabove_at o.dep x.dep
      refine SW.seq (SW.seq ?_)
      refine SW.g0 [0, 1, 3, 4, 5, 6, 30, 32, 51, 55, 84] mixed (h1) ?_
      refine SW.condT rfl (SW.skip ?_)
      refine SW.seq (SW.block (SW.seq ?_))
      have good : ((x.before o = true → x.time < o.time ∧ o.dep.above x.dep = true)) → ∀ j y, j < i + 1 → l[j]? = some y → y.before o = true → y.time < o.time ∧ o.dep.above y.dep = true := fun hg j y hj hy => by
        by_cases hji : j = i
        · subst hji; rw [hx] at hy; injection hy with hy; subst hy; exact hg
        · exact hs j y (by omega) hy
      have bad : ¬ (x.before o = true → x.time < o.time ∧ o.dep.above x.dep = true) → oneV l o = false := fun hb => oneV_no fun h' => hb (h'.bef x (List.mem_of_getElem? hx))
      rcases g1 : x.before o with _ | _ <;> rw [g1] at rb
      · 
        have cz := And.intro rb True.intro
        refine SW.g1 [0, 1, 3, 4, 5, 6, 30, 32, 51, 55, 84] mixed (And.intro (op_at hx) (op_room0 hx)) rb ?_
        refine SW.condF rfl (SW.skip ?_)
        refine SW.g1 [0, 1, 3, 4, 5, 6, 30, 32, 51, 55, 84] mixed (e2) rb ?_
        dsimp only
        exact ⟨⟨i + 1, by omega, good (fun h => by rw [g1] at h; cases h)⟩, id, by show l.length - (i + 1) < _; omega, Weak.mk bq_tt⟩
      rcases g2 : decide ((x.time : Int) ≥ o.time) with _ | _
      rotate_left
      · rw [bad fun h' => by have := (h' g1).1; simp at g2; omega]
        refine SW.g1 [0, 1, 3, 4, 5, 6, 30, 32, 51, 55, 84] mixed (And.intro (op_at hx) (And.intro (op_room0 hx) (And.intro (op_time hx) (And.intro (op_dep hx) (And.intro (op_room8 hx) (g2)))))) rb ?_
        refine SW.condT rfl (SW.seq ?_)
        refine SW.g1 [0, 1, 3, 4, 5, 6, 30, 32, 51, 55, 84] mixed bq_tt rb ?_
        refine SW.ret ?_
        exact End.mk [] (h4 := ⟨rfl, rfl⟩)
      rcases g3 : o.dep.above x.dep with _ | _ <;> rw [g3] at ra
      · rw [bad fun h' => by have := (h' g1).2; rw [g3] at this; cases this]
        have cz := And.intro rb (And.intro ra True.intro)
        refine SW.g2 [0, 1, 3, 4, 5, 6, 30, 32, 51, 55, 84] mixed (And.intro (op_at hx) (And.intro (op_room0 hx) (And.intro (op_time hx) (And.intro (op_dep hx) (And.intro (op_room8 hx) (g2)))))) rb ra ?_
        refine SW.condT rfl (SW.seq ?_)
        refine SW.g2 [0, 1, 3, 4, 5, 6, 30, 32, 51, 55, 84] mixed bq_tt rb ra ?_
        refine SW.ret ?_
        exact End.mk [] (h4 := ⟨rfl, rfl⟩)
      · refine SW.g2 [0, 1, 3, 4, 5, 6, 30, 32, 51, 55, 84] mixed (And.intro (op_at hx) (And.intro (op_room0 hx) (And.intro (op_time hx) (And.intro (op_dep hx) (And.intro (op_room8 hx) (g2)))))) rb ra ?_
        refine SW.condF rfl (SW.skip ?_)
        refine SW.g2 [0, 1, 3, 4, 5, 6, 30, 32, 51, 55, 84] mixed (e2) rb ra ?_
        dsimp only
        exact ⟨⟨i + 1, by omega, good (fun _ => ⟨by simp at g2; omega, g3⟩)⟩, id, by show l.length - (i + 1) < _; omega, Weak.mk bq_tt⟩
    have h1 : decide ((i : Int) < l.length) = false := by simp; omega
    have hone : oneV l o = true := oneV_iff.2 ⟨hself, hprev, hdeps, fun a ha hb => by
      obtain ⟨j, hj⟩ := List.mem_iff_getElem?.1 ha
      exact hs j a (by have := lt_of_get hj; omega) hj hb⟩
    rw [hone]
    (repeat (first | refine SW.seq ?_ | refine SW.block ?_ | refine SW.g0 [0, 1, 3, 4, 5, 6, 30, 32, 51, 55, 84] mixed (h1) ?_ | refine SW.skip ?_ | refine SW.exit ?_ | refine SW.ret ?_ | refine SW.condT rfl ?_ | refine SW.condF rfl ?_))
    exact End.mk [] (h4 := ⟨rfl, rfl⟩)
theorem one_at (l : List OpD) (hl : l.length ≤ 9223372036854775807) (o : OpD) (hd : o.dot.wf) (k : Nat) : SCd Tryd.prog ref10_one.f [ops l, .agg o.cells] [] k 0 (bl (oneV l o)) [] := (one_ok l hl o hd).sc rfl k
end Go.Proofs.YtemghnbbmahaaaaDoor
namespace Go.Proofs.YtemghnbbmahaaaaDoor
open Go.Sl Go.Proofs
attribute [local irreducible] SW RW SCd SC CallP Pruned
theorem histV_two {n : Int} {l : List OpD} (h : n < 1 ∨ 8 < n) : histV n l = 2 := by unfold histV; rw [if_pos h]
theorem histV_five {n : Int} {l : List OpD} (h : ¬ (n < 1 ∨ 8 < n)) (hf : ¬ ∀ o, o ∈ l → Go.Sl.Form n.toNat o) : histV n l = 5 := by unfold histV; rw [if_neg h, if_neg hf]
theorem histV_nine {n : Int} {l : List OpD} (h : ¬ (n < 1 ∨ 8 < n)) (hf : ∀ o, o ∈ l → Go.Sl.Form n.toNat o) (ho : ¬ ∀ o, o ∈ l → OneOf l o) : histV n l = 9 := by unfold histV; rw [if_neg h, if_pos hf, if_neg ho]
set_option maxHeartbeats 4000000 in
theorem rhistory_ok (l : List OpD) (hl : l.length ≤ 9223372036854775807) (n : Int) (hd : ∀ o, o ∈ l → o.dot.wf ∧ o.kind < 256 ∧ o.lin) : Go.Sl.Pure Tryd.prog ref10_History.f [ops l, .d (.int .i64 n)] (.d (.int .i64 (histV n l))) := by
  refine ref10_History.enter (by first | rfl | simp [SV.ok, SV.oks]) (by first | rfl | simp [Hp.ok, Ob.ok, SV.ok, SV.oks, Vec.cells_ok]) (by simp) ?_
  dsimp only [ref10_History.s, Co.M, Co.G, Co.J, Co.H, Co.N, Co.F, Co.C, Co.Z, Co.B, Co.b8, Co.b32, Co.b64, Co.i6, Co.z8, Co.z29]
  refine SW.seq ?_
  refine SW.g0 [0, 1, 4, 5, 6, 12, 16, 25, 29, 38] mixed bq_tt ?_
  refine SW.seq (SW.seq ?_)
  refine SW.gB [0, 1, 4, 5, 6, 12, 16, 25, 29, 38] mixed bq_tt True.intro ?_
  rcases a1 : decide (n < 1) with _ | _
  rotate_left
  · rw [histV_two (.inl (by simpa using a1))]
    refine RW.gE bq_tt True.intro ?_
    refine SW.condT rfl (SW.seq ?_)
    refine SW.g0 [0, 1, 4, 5, 6, 12, 16, 25, 29, 38] mixed bq_tt ?_
    refine SW.ret ?_
    exact End.mk [] (h4 := ⟨rfl, rfl⟩)
  refine RW.gG bq_tt True.intro ?_
  rcases a2 : decide (n > 8) with _ | _
  rotate_left
  · rw [histV_two (.inr (by simpa using a2))]
    refine RW.gE bq_tt True.intro ?_
    refine SW.condT rfl (SW.seq ?_)
    refine SW.g0 [0, 1, 4, 5, 6, 12, 16, 25, 29, 38] mixed bq_tt ?_
    refine SW.ret ?_
    exact End.mk [] (h4 := ⟨rfl, rfl⟩)
  refine RW.gE bq_tt True.intro ?_
  refine SW.condF rfl (SW.skip ?_)
  have hn : ¬ (n < 1 ∨ 8 < n) := by simp at a1 a2; omega
  refine SW.seq (SW.seq ?_)
  refine SW.g0 [0, 1, 4, 5, 6, 12, 16, 25, 29, 38] mixed bq_tt ?_
  refine SW.block ?_
  refine SW.loopA (α := {i : Nat // i ≤ l.length ∧ ∀ j x, j < i → l[j]? = some x → Go.Sl.Form n.toNat x}) (fun i => ⟨[(5, i64 i.1), (0, ops l), (1, .d (.int .i64 n))], [], 0⟩) (fun i => l.length - i.1) ⟨0, by omega, by omega⟩ id bq_tt (round := ?_)
  rintro ⟨i, hi, hs⟩
  by_cases h : i < l.length
  · have h1 : decide ((i : Int) < l.length) = true := by simp; exact h
    have e2 : IntKind.i64.wrap ((i : Int) + 1) = ((i + 1 : Nat) : Int) := wrap_i64 _ (by omega)
    obtain ⟨x, hx⟩ := get_of_lt h
    have hdx := hd x (List.mem_of_getElem? hx)
    have ck := rcheck_at x n hdx.1 hdx.2.1 hdx.2.2
    refine SW.seq (SW.seq ?_)
    refine SW.g0 [0, 1, 4, 5, 6, 12, 16, 25, 29, 38] mixed (h1) ?_
    refine SW.condT rfl (SW.skip ?_)
    refine SW.seq (SW.block (SW.seq ?_))
    rcases c1 : (checkV n x != 0) with _ | _
    · have hF : Go.Sl.Form n.toNat x := (checkV_zero.1 (by simpa using c1)).2.2
      have cz := And.intro ck True.intro
      refine SW.g1 [0, 1, 4, 5, 6, 12, 16, 25, 29, 38] mixed (And.intro (op_at hx) (And.intro (op_room0 hx) (c1))) ck ?_
      refine SW.condF rfl (SW.skip ?_)
      refine SW.g1 [0, 1, 4, 5, 6, 12, 16, 25, 29, 38] mixed (e2) ck ?_
      dsimp only
      exact ⟨⟨i + 1, by omega, fun j y hj hy => by
        by_cases hji : j = i
        · subst hji; rw [hx] at hy; injection hy with hy; subst hy; exact hF
        · exact hs j y (by omega) hy⟩, id, by show l.length - (i + 1) < _; omega, Weak.mk bq_tt⟩
    · rw [histV_five hn fun hf => by
        have := checkV_zero.2 ⟨by omega, by omega, hf x (List.mem_of_getElem? hx)⟩
        rw [this] at c1; simp at c1]
      refine SW.g1 [0, 1, 4, 5, 6, 12, 16, 25, 29, 38] mixed (And.intro (op_at hx) (And.intro (op_room0 hx) (c1))) ck ?_
      refine SW.condT rfl (SW.seq ?_)
      refine SW.g1 [0, 1, 4, 5, 6, 12, 16, 25, 29, 38] mixed bq_tt ck ?_
      refine SW.ret ?_
      exact End.mk [] (h4 := ⟨rfl, rfl⟩)
  have h1 : decide ((i : Int) < l.length) = false := by simp; omega
  have hf : ∀ o, o ∈ l → Go.Sl.Form n.toNat o := fun o ho => by
    obtain ⟨j, hj⟩ := List.mem_iff_getElem?.1 ho
    exact hs j o (by have := lt_of_get hj; omega) hj
  refine SW.seq (SW.seq ?_)
  refine SW.g0 [0, 1, 4, 5, 6, 12, 16, 25, 29, 38] mixed (h1) ?_
  refine SW.condF rfl (SW.exit ?_)
  refine SW.seq (SW.seq ?_)
  refine SW.g0 [0, 1, 4, 5, 6, 12, 16, 25, 29, 38] mixed bq_tt ?_
  refine SW.block ?_
  refine SW.loopA (α := {i : Nat // i ≤ l.length ∧ ∀ j x, j < i → l[j]? = some x → OneOf l x}) (fun i => ⟨[(6, i64 i.1), (0, ops l)], [], 0⟩) (fun i => l.length - i.1) ⟨0, by omega, by omega⟩ id bq_tt (round := ?_)
  clear hs hi h h1
  rintro ⟨i, hi, hs⟩
  by_cases h : i < l.length
  · have h1 : decide ((i : Int) < l.length) = true := by simp; exact h
    have e2 : IntKind.i64.wrap ((i : Int) + 1) = ((i + 1 : Nat) : Int) := wrap_i64 _ (by omega)
    obtain ⟨x, hx⟩ := get_of_lt h
    have hdx := hd x (List.mem_of_getElem? hx)
    have ck := one_at l hl x hdx.1
    refine SW.seq (SW.seq ?_)
    refine SW.g0 [0, 1, 4, 5, 6, 12, 16, 25, 29, 38] mixed (h1) ?_
    refine SW.condT rfl (SW.skip ?_)
    refine SW.seq (SW.block (SW.seq ?_))
    rcases c1 : oneV l x with _ | _ <;> rw [c1] at ck
    · rw [histV_nine hn hf fun ho => by
        have := oneV_iff.2 (ho x (List.mem_of_getElem? hx))
        rw [c1] at this; cases this]
      have cz := And.intro ck True.intro
      refine SW.g1 [0, 1, 4, 5, 6, 12, 16, 25, 29, 38] mixed (And.intro (op_at hx) (op_room0 hx)) ck ?_
      refine SW.condT rfl (SW.seq ?_)
      refine SW.g1 [0, 1, 4, 5, 6, 12, 16, 25, 29, 38] mixed bq_tt ck ?_
      refine SW.ret ?_
      exact End.mk [] (h4 := ⟨rfl, rfl⟩)
    · refine SW.g1 [0, 1, 4, 5, 6, 12, 16, 25, 29, 38] mixed (And.intro (op_at hx) (op_room0 hx)) ck ?_
      refine SW.condF rfl (SW.skip ?_)
      refine SW.g1 [0, 1, 4, 5, 6, 12, 16, 25, 29, 38] mixed (e2) ck ?_
      dsimp only
      exact ⟨⟨i + 1, by omega, fun j y hj hy => by
        by_cases hji : j = i
        · subst hji; rw [hx] at hy; injection hy with hy; subst hy; exact oneV_iff.1 c1
        · exact hs j y (by omega) hy⟩, id, by show l.length - (i + 1) < _; omega, Weak.mk bq_tt⟩
  have h1 : decide ((i : Int) < l.length) = false := by simp; omega
  have hV : histV n l = 0 := histV_zero.2 ⟨by omega, by omega, hf, fun o ho => by
    obtain ⟨j, hj⟩ := List.mem_iff_getElem?.1 ho
    exact hs j o (by have := lt_of_get hj; omega) hj⟩
  rw [hV]
  (repeat (first | refine SW.seq ?_ | refine SW.block ?_ | refine SW.g0 [0, 1, 4, 5, 6, 12, 16, 25, 29, 38] mixed (h1) ?_ | refine SW.skip ?_ | refine SW.exit ?_ | refine SW.ret ?_ | refine SW.condT rfl ?_ | refine SW.condF rfl ?_))
  exact End.mk [] (h4 := ⟨rfl, rfl⟩)
theorem rhistory_at (l : List OpD) (hl : l.length ≤ 9223372036854775807) (n : Int) (hd : ∀ o, o ∈ l → o.dot.wf ∧ o.kind < 256 ∧ o.lin) (k : Nat) : SCd Tryd.prog ref10_History.f [ops l, .d (.int .i64 n)] [] k 0 (.d (.int .i64 (histV n l))) [] := (rhistory_ok l hl n hd).sc rfl k
end Go.Proofs.YtemghnbbmahaaaaDoor
namespace Go.Proofs.YtemghnbbmahaaaaDoor
open Go.Sl Go.Proofs
attribute [local irreducible] SW RW SCd SC CallP Pruned
theorem ocmp_time {a b : OpD} (h : a.time < b.time) : ocmp a b = -1 := by
  unfold ocmp
  rw [if_pos (OpD.lt_iff.2 (.inl h))]
theorem ocmp_time' {a b : OpD} (h : b.time < a.time) : ocmp a b = 1 := by
  unfold ocmp
  rw [if_neg (by rw [OpD.lt_iff]; omega), if_pos (OpD.lt_iff.2 (.inl h))]
theorem ocmp_dot {a b : OpD} (h : a.time = b.time) : ocmp a b = dcmp a.dot b.dot := by
  have l1 : (a.lt b = true) ↔ (a.dot.r < b.dot.r ∨ a.dot.r = b.dot.r ∧ a.dot.n < b.dot.n) := by rw [OpD.lt_iff]; omega
  have l2 : (b.lt a = true) ↔ (b.dot.r < a.dot.r ∨ b.dot.r = a.dot.r ∧ b.dot.n < a.dot.n) := by rw [OpD.lt_iff]; omega
  unfold ocmp
  simp only [l1, l2]
  unfold dcmp cmpZ
  repeat' split
  all_goals omega
theorem rocmp_ok (a b : OpD) (ha : a.dot.wf) (hb : b.dot.wf) : Go.Sl.Pure Tryd.prog ref10_Compare.f [.agg a.cells, .agg b.cells] (.d (.int .i64 (ocmp a b))) := by
  have hc := rcompare_at a.dot b.dot ha hb
  refine ref10_Compare.enter (by first | rfl | simp [SV.ok, SV.oks]) (by first | rfl | simp [Hp.ok, Ob.ok, SV.ok, SV.oks, Vec.cells_ok]) (by simp) ?_
  dsimp only [ref10_Compare.s, Co.M, Co.G, Co.J, Co.H, Co.N, Co.F, Co.C, Co.Z, Co.B, Co.b8, Co.b32, Co.b64, Co.i6, Co.z8, Co.z29]
  refine SW.seq ?_
  refine SW.g0 [0, 1, 2, 3, 4, 9, 14] mixed bq_tt ?_
  refine SW.seq (SW.seq ?_)
  rcases h1 : decide ((a.time : Int) < b.time) with _ | _
  rotate_left
  · rw [ocmp_time (by simpa using h1)]
    (repeat (first | refine SW.seq ?_ | refine SW.block ?_ | refine SW.g0 [0, 1, 2, 3, 4, 9, 14] mixed (h1) ?_ | refine SW.skip ?_ | refine SW.exit ?_ | refine SW.ret ?_ | refine SW.condT rfl ?_ | refine SW.condF rfl ?_))
    exact End.mk [] (h4 := ⟨rfl, rfl⟩)
  refine SW.g0 [0, 1, 2, 3, 4, 9, 14] mixed (h1) ?_
  refine SW.condF rfl (SW.skip ?_)
  refine SW.seq (SW.seq ?_)
  rcases h2 : decide ((a.time : Int) > b.time) with _ | _
  rotate_left
  · rw [ocmp_time' (by simpa using h2)]
    (repeat (first | refine SW.seq ?_ | refine SW.block ?_ | refine SW.g0 [0, 1, 2, 3, 4, 9, 14] mixed (h2) ?_ | refine SW.skip ?_ | refine SW.exit ?_ | refine SW.ret ?_ | refine SW.condT rfl ?_ | refine SW.condF rfl ?_))
    exact End.mk [] (h4 := ⟨rfl, rfl⟩)
  rw [ocmp_dot (by simp at h1 h2; omega)]
  refine SW.g0 [0, 1, 2, 3, 4, 9, 14] mixed (h2) ?_
  refine SW.condF rfl (SW.skip ?_)
  refine SW.seq ?_
  refine SW.g1 [0, 1, 2, 3, 4, 9, 14] mixed bq_tt hc ?_
  refine SW.ret ?_
  exact End.mk [] (h4 := ⟨rfl, rfl⟩)
theorem rocmp_at (a b : OpD) (ha : a.dot.wf) (hb : b.dot.wf) (k : Nat) : SCd Tryd.prog ref10_Compare.f [.agg a.cells, .agg b.cells] [] k 0 (.d (.int .i64 (ocmp a b))) [] := (rocmp_ok a b ha hb).sc rfl k
theorem rops_drop : ∀ (l : List OpD) (i : Nat), (l.flatMap OpD.ds).drop (i * 29) = (l.drop i).flatMap OpD.ds
  | [], i => by simp
  | x :: l, 0 => by simp
  | x :: l, i + 1 => by
    have := rops_drop l i
    rw [List.drop_succ_cons, ← this, List.flatMap_cons, List.drop_append]
    rw [show (i + 1) * 29 - x.ds.length = i * 29 by rw [show x.ds.length = 29 from rfl]; omega, List.drop_of_length_le (by rw [show x.ds.length = 29 from rfl]; omega)]
    rfl
theorem rops_take (l : List OpD) (i : Nat) : (l.flatMap OpD.ds).take (i * 29) = (l.take i).flatMap OpD.ds := by
  have h1 := List.take_append_drop (i * 29) (l.flatMap OpD.ds)
  rw [rops_drop] at h1
  have h2 : (l.take i).flatMap OpD.ds ++ (l.drop i).flatMap OpD.ds = l.flatMap OpD.ds := by rw [← List.flatMap_append, List.take_append_drop]
  rw [← h2] at h1 ⊢
  exact List.append_cancel_right h1
theorem rops_rest (l : List OpD) (k : Nat) : ((l.flatMap OpD.ds).drop (k * 29)).take ((l.length - k) * 29) = (l.drop k).flatMap OpD.ds := by
  rw [rops_drop, List.take_of_length_le]
  rw [flat_length OpD.ds 29 (fun _ => rfl)]; simp
theorem osort_nil : osort [] = [] := by simp [osort, fstO, osorted]
theorem findSorted (t : List OpD) (ht : (osort t).length < 4611686018427387904) (d : Dt) (k : Nat) : SCd Tryd.prog ref10_Find.f [ops (osort t), .agg d.cells] [] k 0 (.tup [.agg ((findO t d).getD OpD.zero).cells, bl (findO t d).isSome]) [] := by
  have := find_at (osort t) ht d k
  rwa [findO_osort] at this
set_option maxHeartbeats 4000000 in
theorem rosort_ok (l : List OpD) (hl : l.length < 1000000) (hw : ∀ o, o ∈ l → o.dot.wf) : Go.Sl.Pure Tryd.prog ref10_Sort.f [ops l] (ops (osort l)) := by
  refine ref10_Sort.enter (by first | rfl | simp [SV.ok, SV.oks]) (by first | rfl | simp [Hp.ok, Ob.ok, SV.ok, SV.oks, Vec.cells_ok]) (by simp) ?_
  dsimp only [ref10_Sort.s, Co.M, Co.G, Co.J, Co.H, Co.N, Co.F, Co.C, Co.Z, Co.B, Co.b8, Co.b32, Co.b64, Co.i6, Co.z8, Co.z29]
  refine SW.seq ?_
  refine SW.g0 [0, 2, 3, 4, 6, 7, 11, 24, 41] mixed bq_tt ?_
  refine SW.seq ?_
  refine SW.g0 [0, 2, 3, 4, 6, 7, 11, 24, 41] mixed bq_tt ?_
  refine SW.nils 3 rfl ?_
  refine SW.seq (SW.seq ?_)
  refine SW.g0 [0, 2, 3, 4, 6, 7, 11, 24, 41] mixed bq_tt ?_
  refine SW.block ?_
  refine SW.loopA (α := {i : Nat // i ≤ l.length}) (fun i => ⟨[(4, i64 i.1), (0, ops l), (3, ops (osort (l.take i.1)))], [], 0⟩) (fun i => l.length - i.1) ⟨0, by omega⟩ id (And.intro osort_nil bq_tt) (round := ?_)
  rintro ⟨i, hi⟩
  have hsl : (osort (l.take i)).length ≤ i := Nat.le_trans (osort_len _) (by rw [List.length_take]; omega)
  dsimp only
  by_cases h : i < l.length
  · obtain ⟨x, hx⟩ := get_of_lt h
    have hwx : x.dot.wf := hw x (List.mem_of_getElem? hx)
    have h1 : decide ((i : Int) < l.length) = true := by simp; exact h
    have e1 : l.take (i + 1) = l.take i ++ [x] := take_snoc hx
    have e2 : IntKind.i64.wrap ((i : Int) + 1) = ((i + 1 : Nat) : Int) := wrap_i64 _ (by omega)
    have hfd := findSorted (l.take i) (by omega) x.dot
    refine SW.seq (SW.seq ?_)
    refine SW.g0 [0, 2, 3, 4, 6, 7, 11, 24, 41] mixed (h1) ?_
    refine SW.condT rfl (SW.skip ?_)
    refine SW.seq (SW.block (SW.seq ?_))
    cases hf : findO (l.take i) x.dot with
    | some y =>
      rw [hf] at hfd
      have hfd' : ∀ k, SCd Tryd.prog ref10_Find.f [ops (osort (l.take i)), .agg x.dot.cells] [] k 0 (.tup [.agg y.cells, .d (.bool true)]) [] := hfd
      have hs := osort_same (t := l.take i) (x := x) (by rw [hf]; rfl)
      rw [← e1] at hs
      refine SW.g1 [0, 2, 3, 4, 6, 7, 11, 24, 41] mixed (And.intro (op_load hx) (op_roomd hx)) hfd' ?_
      refine SW.seq (SW.seq ?_)
      refine SW.g1 [0, 2, 3, 4, 6, 7, 11, 24, 41] mixed bq_tt hfd' ?_
      refine SW.condT rfl (SW.exit ?_)
      refine SW.g1 [0, 2, 3, 4, 6, 7, 11, 24, 41] mixed (e2) hfd' ?_
      dsimp only
      exact ⟨⟨i + 1, by omega⟩, id, by show l.length - (i + 1) < _; omega, Weak.mk (And.intro hs bq_tt)⟩
    | none =>
      rw [hf] at hfd
      have hfd' : ∀ k, SCd Tryd.prog ref10_Find.f [ops (osort (l.take i)), .agg x.dot.cells] [] k 0 (.tup [.agg OpD.zero.cells, .d (.bool false)]) [] := hfd
      have hwt : ∀ y, y ∈ osort (l.take i) → y.dot.wf := fun y hy => by
        have := mem_osort.1 hy
        exact hw y (List.mem_of_mem_take (findO_some this).1)
      have hput : ∀ k, k ≤ (osort (l.take i)).length → (∀ j y, k ≤ j → (osort (l.take i))[j]? = some y → x.lt y = true) → (∀ y, 0 < k → (osort (l.take i))[k - 1]? = some y → x.lt y = false) → osort (l.take (i + 1)) = (osort (l.take i)).take k ++ x :: (osort (l.take i)).drop k := fun k hk h1 h2 => by
        rw [e1]; exact osort_put hf (fun j y hj hk => h1 j y hk hj) h2 hk
      refine SW.g1 [0, 2, 3, 4, 6, 7, 11, 24, 41] mixed (And.intro (op_load hx) (op_roomd hx)) hfd' ?_
      generalize osort (l.take i) = s at hsl hwt hput ⊢
      refine SW.seq (SW.seq ?_)
      refine SW.g0 [0, 2, 3, 4, 6, 7, 11, 24, 41] mixed bq_tt ?_
      refine SW.condF rfl (SW.skip ?_)
      refine SW.seq ?_
      refine SW.g0 [0, 2, 3, 4, 6, 7, 11, 24, 41] mixed bq_tt ?_
      refine SW.seq (SW.block ?_)
      refine SW.loopA (α := {k : Nat // k ≤ s.length ∧ ∀ j y, k ≤ j → s[j]? = some y → x.lt y = true}) (fun k => ⟨[(7, i64 k.1), (4, i64 i), (0, ops l), (3, ops s)], [], 0⟩) (fun k => k.1) ⟨s.length, Nat.le_refl _, fun j y hj hy => by have := lt_of_get hy; omega⟩ id bq_tt (round := ?_)
      rintro ⟨k, hk, hs⟩
      have e0 : (k : Int).toNat = k := Int.toNat_natCast k
      by_cases h0 : 0 < k
      · obtain ⟨y, hy⟩ := get_of_lt (show k - 1 < s.length by omega)
        have k1 : decide ((k : Int) > 0) = true := by simp; omega
        have k2 : IntKind.i64.wrap ((k : Int) - 1) = ((k - 1 : Nat) : Int) := by rw [wrap_i64 _ (by omega)]; omega
        have hc := rocmp_at y x (hwt y (List.mem_of_getElem? hy)) hwx
        refine SW.seq (SW.seq ?_)
        rcases hlt : decide (ocmp y x > 0) with _ | _
        · have hp := hput k hk hs (fun z _ hz => by
            rw [hy] at hz; injection hz with hz; subst hz
            rw [Bool.eq_false_iff]; intro hh
            have := ocmp_gt.2 hh
            simp at hlt; omega)
          refine SW.g1 [0, 2, 3, 4, 6, 7, 11, 24, 41] mixed (And.intro (k1) (And.intro (k2) (And.intro (op_at hy) (And.intro (op_room0 hy) (And.intro (op_at hx) (And.intro (op_room0 hx) (hlt))))))) hc ?_
          refine SW.condF rfl (SW.exit ?_)
          (have fx := (And.intro (e0) (And.intro (op_at hx) (And.intro (op_room0 hx) (Nat.sub_zero)))); refine SW.regL [0, 2, 3, 4, 6, 7, 11, 24, 41] mixed ?_; (repeat (first | refine RW.ro fx (h := ?_) | refine RW.skip (h := ?_) | refine RW.op fx (h := ?_) | refine RW.opN fx (h := ?_) | refine RW.skip0 (h := ?_) | refine lit1 rfl rfl (h := ?_))); refine RW.nil ⟨by kernel_rfl, Pruned.mk (h := ?_)⟩)
          have hln : (osort (l.take (i + 1))).length = k + [x].length + (s.length - k) := by rw [hp]; simp; omega
          refine SW.freeze 3 ((osort (l.take (i + 1))).flatMap OpD.ds) rfl (by rw [hp, rops_take, rops_rest]; simp) ?_
          simp only [frzE, SV.frz, List.map_cons, List.map_nil, if_true, if_false, reduceIte, hdel, Nat.reduceEqDiff, ← hln]
          refine SW.g0 [0, 2, 3, 4, 6, 7, 11, 24, 41] mixed (e2) ?_
          dsimp only
          exact ⟨⟨i + 1, by omega⟩, id, by show l.length - (i + 1) < _; omega, Weak.mk bq_tt⟩
        · 
          refine SW.g1 [0, 2, 3, 4, 6, 7, 11, 24, 41] mixed (And.intro (k1) (And.intro (k2) (And.intro (op_at hy) (And.intro (op_room0 hy) (And.intro (op_at hx) (And.intro (op_room0 hx) (hlt))))))) hc ?_
          refine SW.condT rfl (SW.skip ?_)
          refine SW.block ?_
          refine SW.g0 [0, 2, 3, 4, 6, 7, 11, 24, 41] mixed (k2) ?_
          dsimp only
          exact ⟨⟨k - 1, by omega, fun j z hj hz => by
            by_cases hjk : j = k - 1
            · subst hjk
              rw [hy] at hz; injection hz with hz; subst hz
              exact ocmp_gt.1 (by simpa using hlt)
            · exact hs j z (by omega) hz⟩, id, by show k - 1 < k; omega, Weak.mk bq_tt⟩
      · have k1 : decide ((k : Int) > 0) = false := by simp; omega
        have hp := hput k hk hs (fun z hz _ => by omega)
        refine SW.seq (SW.seq ?_)
        refine SW.g0 [0, 2, 3, 4, 6, 7, 11, 24, 41] mixed (k1) ?_
        refine SW.condF rfl (SW.exit ?_)
        (have fx := (And.intro (e0) (And.intro (op_at hx) (And.intro (op_room0 hx) (Nat.sub_zero)))); refine SW.regL [0, 2, 3, 4, 6, 7, 11, 24, 41] mixed ?_; (repeat (first | refine RW.ro fx (h := ?_) | refine RW.skip (h := ?_) | refine RW.op fx (h := ?_) | refine RW.opN fx (h := ?_) | refine RW.skip0 (h := ?_) | refine lit1 rfl rfl (h := ?_))); refine RW.nil ⟨by kernel_rfl, Pruned.mk (h := ?_)⟩)
        have hln : (osort (l.take (i + 1))).length = k + [x].length + (s.length - k) := by rw [hp]; simp; omega
        refine SW.freeze 3 ((osort (l.take (i + 1))).flatMap OpD.ds) rfl (by rw [hp, rops_take, rops_rest]; simp) ?_
        simp only [frzE, SV.frz, List.map_cons, List.map_nil, if_true, if_false, reduceIte, hdel, Nat.reduceEqDiff, ← hln]
        refine SW.g0 [0, 2, 3, 4, 6, 7, 11, 24, 41] mixed (e2) ?_
        dsimp only
        exact ⟨⟨i + 1, by omega⟩, id, by show l.length - (i + 1) < _; omega, Weak.mk bq_tt⟩
  · have h1 : decide ((i : Int) < l.length) = false := by simp; omega
    have h2 : i = l.length := by omega
    subst h2
    rw [List.take_length]
    (repeat (first | refine SW.seq ?_ | refine SW.block ?_ | refine SW.g0 [0, 2, 3, 4, 6, 7, 11, 24, 41] mixed (h1) ?_ | refine SW.skip ?_ | refine SW.exit ?_ | refine SW.ret ?_ | refine SW.condT rfl ?_ | refine SW.condF rfl ?_))
    exact End.mk [] (h4 := ⟨rfl, rfl⟩)
theorem rosort_at (l : List OpD) (hl : l.length < 1000000) (hw : ∀ o, o ∈ l → o.dot.wf) (k : Nat) : SCd Tryd.prog ref10_Sort.f [ops l] [] k 0 (ops (osort l)) [] := (rosort_ok l hl hw).sc rfl k
end Go.Proofs.YtemghnbbmahaaaaDoor
namespace Go.Proofs.YtemghnbbmahaaaaDoor
open Go.Sl Go.Proofs
attribute [local irreducible] SW RW SCd SC CallP Pruned
set_option maxRecDepth 100000 in
set_option maxHeartbeats 16000000 in
theorem law_tells (l : List OpD) (hl : RowR l) (hkd : ∀ o, o ∈ l → o.kind < 256) (n : Int) (hn : -9223372036854775808 ≤ n) (hn2 : n ≤ 9223372036854775807) (v : Vec) : Go.Sl.Pure Tryd.prog law10_OrderTells.f [ops l, i64 n, .agg v.cells] (bl true) := by
  have hlen := hl.len
  have hwf : ∀ o, o ∈ l → o.dot.wf := fun o ho => by have := (hl.op o ho).1; exact ⟨this.dr, this.dn⟩
  refine law10_OrderTells.enter (by first | rfl | simp [SV.ok, SV.oks]) (by first | rfl | simp [Hp.ok, Ob.ok, SV.ok, SV.oks, Vec.cells_ok]) (by simp) ?_
  dsimp only [law10_OrderTells.s, Co.M, Co.G, Co.J, Co.H, Co.N, Co.F, Co.C, Co.Z, Co.B, Co.b8, Co.b32, Co.b64, Co.i6, Co.z8, Co.z29]
  have hg := hl.great
  refine SW.seq ?_
  refine SW.g0 [0, 1, 2, 5, 6, 7, 8, 9, 10, 11, 12, 14, 19, 25, 114, 143] mixed bq_tt ?_
  refine SW.seq (SW.seq ?_)
  rcases hgv : greatV l with _ | _ <;> rw [hgv] at hg
  case true =>
    refine SW.g1 [0, 1, 2, 5, 6, 7, 8, 9, 10, 11, 12, 14, 19, 25, 114, 143] mixed bq_tt hg ?_
    refine SW.condT rfl (SW.seq ?_)
    refine SW.g1 [0, 1, 2, 5, 6, 7, 8, 9, 10, 11, 12, 14, 19, 25, 114, 143] mixed bq_tt head10_at ?_
    refine SW.ret ?_
    exact End.mk [] (h4 := ⟨rfl, rfl⟩)
  have hl80 := great_len hgv
  refine SW.g1 [0, 1, 2, 5, 6, 7, 8, 9, 10, 11, 12, 14, 19, 25, 114, 143] mixed bq_tt hg ?_
  refine SW.condF rfl (SW.skip (SW.seq (SW.seq ?_)))
  refine SW.g0 [0, 1, 2, 5, 6, 7, 8, 9, 10, 11, 12, 14, 19, 25, 114, 143] mixed bq_tt ?_
  refine SW.block ?_
  refine SW.loopA (α := {i : Nat // i ≤ l.length}) (fun i => ⟨[(7, i64 i.1), (5, .ptr 0 0), (1, i64 n), (0, ops l)], [(0, .box 32 v.cells)], 1⟩) (fun i => l.length - i.1) ⟨0, by omega⟩ id bq_tt (round := ?_)
  rintro ⟨i, hi⟩
  dsimp only
  refine SW.seq (SW.seq ?_)
  by_cases h : i < l.length
  · have h1 : decide ((i : Int) < l.length) = true := by simp only [decide_eq_true_eq]; omega
    obtain ⟨x, hx⟩ := get_of_lt h
    have hxm := List.mem_of_getElem? hx
    have e2 : IntKind.i64.wrap ((i : Int) + 1) = ((i + 1 : Nat) : Int) := wrap_i64 _ (by omega)
    refine SW.g0 [0, 1, 2, 5, 6, 7, 8, 9, 10, 11, 12, 14, 19, 25, 114, 143] mixed (h1) ?_
    refine SW.condT rfl (SW.skip (SW.seq (SW.block (SW.seq (SW.seq ?_)))))
    refine SW.g0 [0, 1, 2, 5, 6, 7, 8, 9, 10, 11, 12, 14, 19, 25, 114, 143] mixed bq_tt ?_
    refine SW.block ?_
    refine SW.loopA (α := {k : Nat // k ≤ l.length}) (fun k => ⟨[(8, i64 k.1), (7, i64 i), (5, .ptr 0 0), (1, i64 n), (0, ops l)], [(0, .box 32 v.cells)], 1⟩) (fun k => l.length - k.1) ⟨0, by omega⟩ id bq_tt (round := ?_)
    rintro ⟨k, hk⟩
    dsimp only
    refine SW.seq (SW.seq ?_)
    by_cases h2 : k < l.length
    · have h3 : decide ((k : Int) < l.length) = true := by simp only [decide_eq_true_eq]; omega
      obtain ⟨y, hy⟩ := get_of_lt h2
      have hym := List.mem_of_getElem? hy
      have e3 : IntKind.i64.wrap ((k : Int) + 1) = ((k + 1 : Nat) : Int) := wrap_i64 _ (by omega)
      have c1 := fun k => ocompare_at x y k
      have c2 := fun k => rocmp_at x y (hwf x hxm) (hwf y hym) k
      have c3 := fun k => before_at x y k
      have c4 := fun k => rbefore_at x y k
      have c5 := fun k => beside_at x y k
      have c6 := fun k => rbefore_at y x k
      have q1 := Dt.eqb x.dot y.dot
      unfold besideV at c5
      generalize ocmp x y = z at c1 c2
      have q2 : (z != z) = false := by simp
      refine SW.g0 [0, 1, 2, 5, 6, 7, 8, 9, 10, 11, 12, 14, 19, 25, 114, 143] mixed (h3) ?_
      refine SW.condT rfl (SW.skip (SW.seq (SW.block ?_)))
      refine SW.cut ⟨[(114, bl false), (8, i64 k), (7, i64 i), (5, .ptr 0 0), (1, i64 n), (0, ops l)], [(0, .box 32 v.cells)], 1⟩ id ?_ ?_
      · rcases he : decide (x.dot = y.dot) with _ | _ <;> rw [he] at q1 c5
        · rcases hb1 : x.before y with _ | _ <;> rw [hb1] at c3 c4 c5
          · rcases hb2 : y.before x with _ | _ <;> rw [hb2] at c5 c6
            all_goals simp only [Bool.not_false, Bool.not_true, Bool.and_false, Bool.and_true, Bool.true_and, Bool.false_and] at c5
            · skip
              have cz := And.intro c1 (And.intro c2 (And.intro c3 (And.intro c4 (And.intro c5 (And.intro c6 True.intro)))))
              refine SW.gM [0, 1, 2, 5, 6, 7, 8, 9, 10, 11, 12, 14, 19, 25, 114, 143] mixed (And.intro (op_at hx) (And.intro (op_room0 hx) (And.intro (op_at hy) (And.intro (op_room0 hy) (And.intro (op_load hx) (And.intro (op_roomd hx) (And.intro (op_load hy) (And.intro (op_roomd hy) (And.intro (q1) (q2)))))))))) cz ?_
              exact Weak.mk bq_tt
            · skip
              have cz := And.intro c1 (And.intro c2 (And.intro c3 (And.intro c4 (And.intro c5 (And.intro c6 True.intro)))))
              refine SW.gM [0, 1, 2, 5, 6, 7, 8, 9, 10, 11, 12, 14, 19, 25, 114, 143] mixed (And.intro (op_at hx) (And.intro (op_room0 hx) (And.intro (op_at hy) (And.intro (op_room0 hy) (And.intro (op_load hx) (And.intro (op_roomd hx) (And.intro (op_load hy) (And.intro (op_roomd hy) (And.intro (q1) (q2)))))))))) cz ?_
              exact Weak.mk bq_tt
          · simp only [Bool.not_false, Bool.not_true, Bool.and_false, Bool.and_true, Bool.true_and, Bool.false_and] at c5
            have cz := And.intro c1 (And.intro c2 (And.intro c3 (And.intro c4 (And.intro c5 (And.intro c6 True.intro)))))
            refine SW.gM [0, 1, 2, 5, 6, 7, 8, 9, 10, 11, 12, 14, 19, 25, 114, 143] mixed (And.intro (op_at hx) (And.intro (op_room0 hx) (And.intro (op_at hy) (And.intro (op_room0 hy) (And.intro (op_load hx) (And.intro (op_roomd hx) (And.intro (op_load hy) (And.intro (op_roomd hy) (And.intro (q1) (q2)))))))))) cz ?_
            exact Weak.mk bq_tt
        · simp only [Bool.not_false, Bool.not_true, Bool.and_false, Bool.and_true, Bool.true_and, Bool.false_and] at c5
          rcases hb1 : x.before y with _ | _ <;> rw [hb1] at c3 c4
          · skip
            have cz := And.intro c1 (And.intro c2 (And.intro c3 (And.intro c4 (And.intro c5 (And.intro c6 True.intro)))))
            refine SW.gM [0, 1, 2, 5, 6, 7, 8, 9, 10, 11, 12, 14, 19, 25, 114, 143] mixed (And.intro (op_at hx) (And.intro (op_room0 hx) (And.intro (op_at hy) (And.intro (op_room0 hy) (And.intro (op_load hx) (And.intro (op_roomd hx) (And.intro (op_load hy) (And.intro (op_roomd hy) (And.intro (q1) (q2)))))))))) cz ?_
            exact Weak.mk bq_tt
          · skip
            have cz := And.intro c1 (And.intro c2 (And.intro c3 (And.intro c4 (And.intro c5 (And.intro c6 True.intro)))))
            refine SW.gM [0, 1, 2, 5, 6, 7, 8, 9, 10, 11, 12, 14, 19, 25, 114, 143] mixed (And.intro (op_at hx) (And.intro (op_room0 hx) (And.intro (op_at hy) (And.intro (op_room0 hy) (And.intro (op_load hx) (And.intro (op_roomd hx) (And.intro (op_load hy) (And.intro (op_roomd hy) (And.intro (q1) (q2)))))))))) cz ?_
            exact Weak.mk bq_tt
      refine SW.condF rfl (SW.skip ?_)
      refine SW.g0 [0, 1, 2, 5, 6, 7, 8, 9, 10, 11, 12, 14, 19, 25, 114, 143] mixed (e3) ?_
      refine ⟨⟨k + 1, by omega⟩, id, by show l.length - (k + 1) < l.length - k; omega, ?_⟩
      exact Weak.mk bq_tt
    have h3 : decide ((k : Int) < l.length) = false := by simp only [decide_eq_false_iff_not]; omega
    refine SW.g0 [0, 1, 2, 5, 6, 7, 8, 9, 10, 11, 12, 14, 19, 25, 114, 143] mixed (h3) ?_
    refine SW.condF rfl (SW.exit ?_)
    obtain ⟨z, hz⟩ := Option.isSome_iff_exists.1 (findO_isSome.2 ⟨x, hxm, rfl⟩)
    have hzm := (findO_some hz).1
    have hf1 := fun k => ofind_at l (by omega) x.dot k
    have hf2 := fun k => find_at l (by omega) x.dot k
    rw [hz] at hf1 hf2
    have hf1' : ∀ k, SCd Tryd.prog order_Find.f [ops l, .agg x.dot.cells] [] k 0 (.tup [.agg z.cells, .d (.bool true)]) [] := hf1
    have hf2' : ∀ k, SCd Tryd.prog ref10_Find.f [ops l, .agg x.dot.cells] [] k 0 (.tup [.agg z.cells, .d (.bool true)]) [] := hf2
    have hsz := fun k => same_at z (.inr (hl.op z hzm).1.w.lin) k
    refine SW.seq ?_
    refine SW.g1 [0, 1, 2, 5, 6, 7, 8, 9, 10, 11, 12, 14, 19, 25, 114, 143] mixed (And.intro (op_load hx) (op_roomd hx)) hf1' ?_
    refine SW.seq ?_
    refine SW.g1 [0, 1, 2, 5, 6, 7, 8, 9, 10, 11, 12, 14, 19, 25, 114, 143] mixed (And.intro (op_load hx) (op_roomd hx)) hf2' ?_
    refine SW.seq ?_
    refine SW.g1 [0, 1, 2, 5, 6, 7, 8, 9, 10, 11, 12, 14, 19, 25, 114, 143] mixed bq_tt hsz ?_
    refine SW.condF rfl (SW.skip ?_)
    refine SW.g0 [0, 1, 2, 5, 6, 7, 8, 9, 10, 11, 12, 14, 19, 25, 114, 143] mixed (e2) ?_
    refine ⟨⟨i + 1, by omega⟩, id, by show l.length - (i + 1) < l.length - i; omega, ?_⟩
    exact Weak.mk bq_tt
  have h1 : decide ((i : Int) < l.length) = false := by simp only [decide_eq_false_iff_not]; omega
  refine SW.g0 [0, 1, 2, 5, 6, 7, 8, 9, 10, 11, 12, 14, 19, 25, 114, 143] mixed (h1) ?_
  refine SW.condF rfl (SW.exit (SW.seq ?_))
  have g1 := fun k => osort_at l (by omega) k
  have g2 := fun k => rosort_at l (by omega) hwf k
  have g3 := fun k => samel_at (osort l) (by have := osort_len l; omega) (fun x hx => .inr (hl.op x (findO_some (mem_osort.1 hx)).1).1.w.lin) k
  have g4 := fun k => cut_at l (by omega) v k
  have g5 := fun k => rcut_at l (by omega) v k
  have g6 := fun k => samel_at (cutV l v) (by have := cutV_len l v; omega) (fun x hx => .inr (hl.op x (cutV_sub l v x hx)).1.w.lin) k
  have g7 := fun k => known_at l (by omega) hwf k
  have g8 := fun k => known10_at l (by omega) k
  have g9 := fun k => history_at n hn hn2 l (by omega) hl.one k
  have g10 := fun k => rhistory_at l (by omega) n (fun o ho => ⟨hwf o ho, hkd o ho, (hl.op o ho).1.w.lin⟩) k
  have d2 : ∀ d : Vec, decide (d = d) = true := fun d => by simp
  generalize histV n l = z at g9 g10
  have q2 : (z == z) = true := by simp
  have cz := And.intro g1 (And.intro g2 (And.intro g3 (And.intro g4 (And.intro g5 (And.intro g6 (And.intro g7 (And.intro g8 (And.intro g9 (And.intro g10 (And.intro head10_at True.intro))))))))))
  refine SW.gM [0, 1, 2, 5, 6, 7, 8, 9, 10, 11, 12, 14, 19, 25, 114, 143] mixed (And.intro (d2) (q2)) cz ?_
  refine SW.ret ?_
  exact End.mk [] (h4 := ⟨rfl, rfl⟩)
end Go.Proofs.YtemghnbbmahaaaaDoor
