/-
  Operations' forms: which fields a kind has, and which letters a text has.
-/
import Derived.Test.YtnakpdoioammhaaDoorUK
import Derived.Test.YtnakpdoioammhaaDoorUV
import Derived.Test.YtnakpdoioammhaaDoorU8
import Derived.Test.YtnakpdoioammhaaDoorU9
import Derived.Test.YtnakpdoioammhaaDoorU7
set_option linter.unusedSectionVars false
set_option linter.unusedVariables false
set_option linter.unusedSimpArgs false
namespace Go.Proofs.YtnakpdoioammhaaDoor
open Go.Sl Go.Proofs
attribute [local irreducible] SW RW SCd SC CallP Pruned
theorem lit9 {P : Program} {env : List (Nat × SV)} {hp : Hp} {k d : Nat} {r : List SI} {K : St → List (Bool × List Nat) → Prop} {z : List SV} {ps : List (Nat × Nat × X)}
    (hz : z = [.d (.str []), .d (.str []), .d (.str []), .d (.str []), .d (.str []), .d (.str []), .d (.str []), .d (.str []), .d (.str [])])
    (hp' : ps = [(0, 1, .k (.d (.str []))), (1, 1, .k (.d (.str [99, 116, 114, 100, 112]))), (2, 1, .k (.d (.str [99, 97]))), (3, 1, .k (.d (.str [99, 105, 113, 101]))), (4, 1, .k (.d (.str [99, 97, 113]))), (5, 1, .k (.d (.str [99, 97]))), (6, 1, .k (.d (.str [99, 97, 118]))), (7, 1, .k (.d (.str [99, 97, 118]))), (8, 1, .k (.d (.str [99, 108])))])
    (h : RW P r ⟨(d, .d (.sl 9 (hasS.map .str))) :: env, hp, k⟩ fun st' ts => K st' ((false, []) :: ts)) : RW P (⟨some d, .bsl 9 1 9 z ps, none⟩ :: r) ⟨env, hp, k⟩ K := by
  subst hz; subst hp'
  refine RW.cons (e := ⟨.d (.sl 9 (hasS.map .str)), [], [], 0, _⟩) (fun crs => ⟨.frz :: crs, runOp_some (.inl rfl) rfl⟩) ?_ ?_
  · show 1 = 1 ∧ 0 + 1 ≤ 9 ∧ 1 = 1 ∧ 1 + 1 ≤ 9 ∧ 1 = 1 ∧ 2 + 1 ≤ 9 ∧ 1 = 1 ∧ 3 + 1 ≤ 9 ∧ 1 = 1 ∧ 4 + 1 ≤ 9 ∧ 1 = 1 ∧ 5 + 1 ≤ 9 ∧ 1 = 1 ∧ 6 + 1 ≤ 9 ∧ 1 = 1 ∧ 7 + 1 ≤ 9 ∧ 1 = 1 ∧ 8 + 1 ≤ 9 ∧ True
    decide
  · exact h
theorem has05_ok (kind : Nat) (h256 : kind < 256) : Go.Sl.Pure Tryd.prog ref05_Has.f [u8 kind] (.d (.str (hasK kind))) := by
  refine ref05_Has.enter (by first | rfl | simp [SV.ok, SV.oks]) (by first | rfl | simp [Hp.ok, Ob.ok, SV.ok, SV.oks, Vec.cells_ok]) (by simp) ?_
  dsimp only [ref05_Has.s, Co.M, Co.G, Co.J, Co.H, Co.N, Co.F, Co.C, Co.Z, Co.B, Co.b8, Co.b32, Co.b64, Co.i6, Co.z8, Co.z29]
  refine SW.seq ?_
  refine SW.g0 [0, 2, 3, 9] mixed bq_tt ?_
  refine SW.seq ?_
  (refine SW.regL [0, 2, 3, 9] mixed ?_; (repeat (first | refine RW.ro bq_tt (h := ?_) | refine RW.skip (h := ?_) | refine RW.op bq_tt (h := ?_) | refine RW.opN bq_tt (h := ?_) | refine RW.skip0 (h := ?_) | refine lit9 rfl rfl (h := ?_))); refine RW.nil ⟨by kernel_rfl, Pruned.mk (h := ?_)⟩)
  by_cases hk : kind < 9
  · have h1 : decide ((kind : Int) ≥ 9) = false := by simp; omega
    have e5 : (List.map SV.d (hasS.map DV.str))[kind]? = some (.d (.str (hasK kind))) := by
      have h9 : kind < hasS.length := hk
      rw [List.getElem?_map, List.getElem?_map]
      unfold hasK
      rw [List.getElem?_eq_getElem h9]; rfl
    have e6 : (List.map SV.d (hasS.map DV.str)).length = 9 := rfl
    have e7 : (hasS.map DV.str).length = 9 := rfl
    generalize hasS.map DV.str = row at e5 e6 e7 ⊢
    (repeat (first | refine SW.seq ?_ | refine SW.block ?_ | refine SW.g0 [0, 2, 3, 9] mixed (And.intro (h1) (And.intro (e5) (And.intro (e6) (e7)))) ?_ | refine SW.skip ?_ | refine SW.exit ?_ | refine SW.ret ?_ | refine SW.condT rfl ?_ | refine SW.condF rfl ?_))
    exact End.mk [] (h4 := ⟨rfl, rfl⟩)
  · have h1 : decide ((kind : Int) ≥ 9) = true := by simp; omega
    have e : hasK kind = [] := by
      unfold hasK
      rw [List.getElem?_eq_none (by show 9 ≤ kind; omega)]; rfl
    rw [e]
    generalize hasS.map DV.str = row
    (repeat (first | refine SW.seq ?_ | refine SW.block ?_ | refine SW.g0 [0, 2, 3, 9] mixed (h1) ?_ | refine SW.skip ?_ | refine SW.exit ?_ | refine SW.ret ?_ | refine SW.condT rfl ?_ | refine SW.condF rfl ?_))
    exact End.mk [] (h4 := ⟨rfl, rfl⟩)
theorem has05_at (kind : Nat) (h256 : kind < 256) (k : Nat) : SCd Tryd.prog ref05_Has.f [u8 kind] [] k 0 (.d (.str (hasK kind))) [] := (has05_ok kind h256).sc rfl k
theorem str_at {s : List Nat} {i x : Nat} (h : s[i]? = some x) : s.getD i 0 = x := by simp [h]
theorem in05_ok (s : List Nat) (hs : s.length < 4611686018427387904) (c : Nat) : Go.Sl.Pure Tryd.prog ref05_in.f [.d (.str s), u8 c] (bl (decide (c ∈ s))) := by
  refine ref05_in.enter (by first | rfl | simp [SV.ok, SV.oks]) (by first | rfl | simp [Hp.ok, Ob.ok, SV.ok, SV.oks, Vec.cells_ok]) (by simp) ?_
  dsimp only [ref05_in.s, Co.M, Co.G, Co.J, Co.H, Co.N, Co.F, Co.C, Co.Z, Co.B, Co.b8, Co.b32, Co.b64, Co.i6, Co.z8, Co.z29]
  refine SW.seq ?_
  refine SW.g0 [0, 1, 4, 5, 9, 16] mixed bq_tt ?_
  refine SW.seq (SW.seq ?_)
  refine SW.g0 [0, 1, 4, 5, 9, 16] mixed bq_tt ?_
  refine SW.block ?_
  refine SW.loopA (α := {i : Nat // i ≤ s.length ∧ c ∉ s.take i}) (fun i => ⟨[(5, i64 i.1), (0, .d (.str s)), (1, u8 c)], [], 0⟩) (fun i => s.length - i.1) ⟨0, by omega, by simp⟩ id bq_tt (round := ?_)
  rintro ⟨i, hi, hn⟩
  by_cases h : i < s.length
  · have h1 : decide ((i : Int) < s.length) = true := by simp only [decide_eq_true_eq]; omega
    obtain ⟨x, hx⟩ := get_of_lt h
    have e2 : IntKind.i64.wrap ((i : Int) + 1) = ((i + 1 : Nat) : Int) := wrap_i64 _ (by omega)
    have e4 := str_at hx
    by_cases he : x = c
    · have e3 : ((x : Int) == (c : Int)) = true := by rw [he]; simp
      (repeat (first | refine SW.seq ?_ | refine SW.block ?_ | refine SW.g0 [0, 1, 4, 5, 9, 16] mixed (And.intro (h1) (And.intro (e2) (And.intro (e3) (e4)))) ?_ | refine SW.skip ?_ | refine SW.exit ?_ | refine SW.ret ?_ | refine SW.condT rfl ?_ | refine SW.condF rfl ?_))
      have hm : c ∈ s := by rw [← he]; exact List.mem_of_getElem? hx
      exact End.mk [] (h4 := ⟨by simp [retV, hm], rfl⟩)
    · have e3 : ((x : Int) == (c : Int)) = false := by rw [Bool.eq_false_iff]; intro h; have := beq_iff_eq.mp h; omega
      (repeat (first | refine SW.seq ?_ | refine SW.block ?_ | refine SW.g0 [0, 1, 4, 5, 9, 16] mixed (And.intro (h1) (And.intro (e2) (And.intro (e3) (e4)))) ?_ | refine SW.skip ?_ | refine SW.exit ?_ | refine SW.ret ?_ | refine SW.condT rfl ?_ | refine SW.condF rfl ?_))
      dsimp only
      exact ⟨⟨i + 1, by omega, by rw [take_snoc hx]; simp [hn]; omega⟩, id, by show s.length - (i + 1) < _; omega, Weak.mk bq_tt⟩
  · have h1 : decide ((i : Int) < s.length) = false := by simp only [decide_eq_false_iff_not]; omega
    (repeat (first | refine SW.seq ?_ | refine SW.block ?_ | refine SW.g0 [0, 1, 4, 5, 9, 16] mixed (h1) ?_ | refine SW.skip ?_ | refine SW.exit ?_ | refine SW.ret ?_ | refine SW.condT rfl ?_ | refine SW.condF rfl ?_))
    rw [List.take_of_length_le (by omega)] at hn
    exact End.mk [] (h4 := ⟨by simp [retV, hn], rfl⟩)
theorem in05_at (s : List Nat) (hs : s.length < 4611686018427387904) (c : Nat) (k : Nat) : SCd Tryd.prog ref05_in.f [.d (.str s), u8 c] [] k 0 (bl (decide (c ∈ s))) [] := (in05_ok s hs c).sc rfl k
end Go.Proofs.YtnakpdoioammhaaDoor
namespace Go.Proofs.YtnakpdoioammhaaDoor
open Go.Sl Go.Proofs
attribute [local irreducible] SW RW SCd SC CallP Pruned
theorem rdep_get (o : OpD) {r : Nat} (hr : r < 8) : o.cells[2 + r]? = some (.d (.int .u32 (o.dep.get r))) := by
  match r, hr with
  | 0, _ | 1, _ | 2, _ | 3, _ | 4, _ | 5, _ | 6, _ | 7, _ => rfl
theorem cov05_ok (o : OpD) (d : Dt) : Go.Sl.Pure Tryd.prog ref05_Covers.f [.agg o.cells, .agg d.cells] (bl (o.dep.covers d)) := by
  refine ref05_Covers.enter (by first | rfl | simp [SV.ok, SV.oks]) (by first | rfl | simp [Hp.ok, Ob.ok, SV.ok, SV.oks, Vec.cells_ok]) (by simp) ?_
  dsimp only [ref05_Covers.s, Co.M, Co.G, Co.J, Co.H, Co.N, Co.F, Co.C, Co.Z, Co.B, Co.b8, Co.b32, Co.b64, Co.i6, Co.z8, Co.z29]
  refine SW.seq ?_
  refine SW.g0 [0, 1, 2, 3, 4] mixed bq_tt ?_
  by_cases hr : d.r < 8
  · have h1 : decide ((d.r : Int) < 8) = true := by simp; omega
    by_cases hn : 1 ≤ d.n
    · have h2 : decide ((d.n : Int) ≥ 1) = true := by simp; omega
      have e : o.dep.covers d = decide (((o.dep.get d.r : Nat) : Int) ≥ ((d.n : Nat) : Int)) := by
        unfold Vec.covers Dt.may
        rw [Bool.eq_iff_iff]
        simp only [Bool.and_eq_true, decide_eq_true_eq]
        omega
      rw [e]
      refine SW.seq ?_
      refine SW.g0 [0, 1, 2, 3, 4] mixed (And.intro (h1) (And.intro (h2) (rdep_get o hr))) ?_
      refine SW.ret ?_
      exact End.mk [] (h4 := ⟨rfl, rfl⟩)
    · have h2 : decide ((d.n : Int) ≥ 1) = false := by simp; omega
      have e : o.dep.covers d = false := by
        unfold Vec.covers Dt.may
        rw [Bool.eq_false_iff]
        simp only [ne_eq, Bool.and_eq_true, decide_eq_true_eq]
        omega
      rw [e]
      refine SW.seq ?_
      refine SW.g0 [0, 1, 2, 3, 4] mixed (And.intro (h1) (h2)) ?_
      refine SW.ret ?_
      exact End.mk [] (h4 := ⟨rfl, rfl⟩)
  · have h1 : decide ((d.r : Int) < 8) = false := by simp; omega
    have e : o.dep.covers d = false := by
      unfold Vec.covers Dt.may
      rw [Bool.eq_false_iff]
      simp only [ne_eq, Bool.and_eq_true, decide_eq_true_eq]
      omega
    rw [e]
    refine SW.seq ?_
    refine SW.g0 [0, 1, 2, 3, 4] mixed (h1) ?_
    refine SW.ret ?_
    exact End.mk [] (h4 := ⟨rfl, rfl⟩)
theorem cov05_at (o : OpD) (d : Dt) (k : Nat) : SCd Tryd.prog ref05_Covers.f [.agg o.cells, .agg d.cells] [] k 0 (bl (o.dep.covers d)) [] := (cov05_ok o d).sc rfl k
end Go.Proofs.YtnakpdoioammhaaDoor
namespace Go.Proofs.YtnakpdoioammhaaDoor
open Go.Sl Go.Proofs
attribute [local irreducible] SW RW SCd SC CallP Pruned
end Go.Proofs.YtnakpdoioammhaaDoor
namespace Go.Proofs.YtnakpdoioammhaaDoor
open Go.Sl Go.Proofs Go.RowKit
attribute [local irreducible] SW RW SCd SC CallP Pruned
theorem rcm_at {l : List Cm} {i : Nat} {x : Cm} (h : l[i]? = some x) : List.take 4 (List.drop (i * 4) (List.map SV.d (l.flatMap Cm.ds))) = x.line.cells ++ x.ver.cells := by
  rw [← List.map_drop, ← List.map_take, flat_take Cm.ds 4 (fun _ => rfl) l i x h]
  rfl
theorem cm_line {l : List Cm} {i : Nat} {x : Cm} (h : l[i]? = some x) : List.take 2 (List.drop (i * 4) (List.map SV.d (l.flatMap Cm.ds))) = x.line.cells := by
  have h1 : List.take 2 (List.drop (i * 4) (List.map SV.d (l.flatMap Cm.ds))) = (List.take 4 (List.drop (i * 4) (List.map SV.d (l.flatMap Cm.ds)))).take 2 := by rw [List.take_take]; rfl
  rw [h1, rcm_at h]; rfl
theorem cm_ver {l : List Cm} {i : Nat} {x : Cm} (h : l[i]? = some x) : List.take 2 (List.drop (i * 4 + 2) (List.map SV.d (l.flatMap Cm.ds))) = x.ver.cells := by
  have h1 : List.take 2 (List.drop (i * 4 + 2) (List.map SV.d (l.flatMap Cm.ds))) = (List.take 4 (List.drop (i * 4) (List.map SV.d (l.flatMap Cm.ds)))).drop 2 := by rw [List.drop_take, List.drop_drop]
  rw [h1, rcm_at h]; rfl
theorem cm_room {l : List Cm} {i : Nat} {x : Cm} (h : l[i]? = some x) : (i * 4 + 2 ≤ (List.map SV.d (l.flatMap Cm.ds)).length) = True := eq_true (by
  have := lt_of_get h
  rw [List.length_map, cms_len]
  omega)
theorem cm_room2 {l : List Cm} {i : Nat} {x : Cm} (h : l[i]? = some x) : (i * 4 + 2 + 2 ≤ (List.map SV.d (l.flatMap Cm.ds)).length) = True := eq_true (by
  have := lt_of_get h
  rw [List.length_map, cms_len]
  omega)
theorem lines_bad {o : OpD} {cl : List Cm} {i : Nat} {x : Cm} (hx : cl[i]? = some x) (h : okL o x (cl.take i) = false) : linesV o cl = false := by
  unfold linesV
  rw [Bool.and_eq_false_iff]
  refine .inr ?_
  rw [List.all_eq_false]
  refine ⟨i, List.mem_range.2 (lt_of_get hx), ?_⟩
  unfold okAt
  rw [hx]
  simp [h]
set_option maxHeartbeats 4000000 in
theorem lines05_ok (o : OpD) (cl : List Cm) (hlen : cl.length ≤ 9223372036854775807) (hl : o.lines = .sl cl.length (cl.flatMap Cm.ds)) : Go.Sl.Pure Tryd.prog ref05_lines.f [.agg o.cells] (bl (linesV o cl)) := by
  refine ref05_lines.enter (by first | rfl | simp [SV.ok, SV.oks]) (by first | rfl | simp [Hp.ok, Ob.ok, SV.ok, SV.oks, Vec.cells_ok]) (by simp) ?_
  dsimp only [ref05_lines.s, Co.M, Co.G, Co.J, Co.H, Co.N, Co.F, Co.C, Co.Z, Co.B, Co.b8, Co.b32, Co.b64, Co.i6, Co.z8, Co.z29]
  refine SW.seq ?_
  refine SW.g0 [0, 1, 2, 3, 4, 14, 19, 41, 44, 59] mixed bq_tt ?_
  by_cases h1 : cl.length < 1
  · have e1 : decide ((cl.length : Int) < 1) = true := by simp; omega
    have evl : linesV o cl = false := by unfold linesV; rw [decide_eq_false (by omega)]; rfl
    rw [evl]
    refine SW.seq (SW.seq ?_)
    refine SW.g0 [0, 1, 2, 3, 4, 14, 19, 41, 44, 59] mixed (And.intro (hl) (e1)) ?_
    refine SW.condT rfl (SW.seq ?_)
    refine SW.g0 [0, 1, 2, 3, 4, 14, 19, 41, 44, 59] mixed bq_tt ?_
    refine SW.ret ?_
    exact End.mk [] (h4 := ⟨rfl, rfl⟩)
  have e1 : decide ((cl.length : Int) < 1) = false := by simp; omega
  by_cases h2 : 16 < cl.length
  · have e2 : decide ((cl.length : Int) > 16) = true := by simp; omega
    have evl : linesV o cl = false := by unfold linesV; rw [decide_eq_false (by omega)]; rfl
    rw [evl]
    refine SW.seq (SW.seq ?_)
    refine SW.g0 [0, 1, 2, 3, 4, 14, 19, 41, 44, 59] mixed (And.intro (hl) (And.intro (e1) (e2))) ?_
    refine SW.condT rfl (SW.seq ?_)
    refine SW.g0 [0, 1, 2, 3, 4, 14, 19, 41, 44, 59] mixed bq_tt ?_
    refine SW.ret ?_
    exact End.mk [] (h4 := ⟨rfl, rfl⟩)
  have e2 : decide ((cl.length : Int) > 16) = false := by simp; omega
  refine SW.seq (SW.seq ?_)
  refine SW.g0 [0, 1, 2, 3, 4, 14, 19, 41, 44, 59] mixed (And.intro (hl) (And.intro (e1) (e2))) ?_
  refine SW.condF rfl (SW.skip ?_)
  refine SW.seq (SW.seq ?_)
  refine SW.g0 [0, 1, 2, 3, 4, 14, 19, 41, 44, 59] mixed bq_tt ?_
  refine SW.block ?_
  refine SW.loopA (α := {i : Nat // i ≤ cl.length ∧ ∀ j, j < i → okAt o cl j = true}) (fun i => ⟨[(3, i64 i.1), (1, .ptr 0 0)], [(0, .box 37 o.cells)], 1⟩) (fun i => cl.length - i.1) ⟨0, by omega, by omega⟩ id bq_tt (round := ?_)
  rintro ⟨i, hi, hs⟩
  by_cases h : i < cl.length
  · obtain ⟨x, hx⟩ := get_of_lt h
    have f1 : decide ((i : Int) < cl.length) = true := by simp; exact h
    have f2 : IntKind.i64.wrap ((i : Int) + 1) = ((i + 1 : Nat) : Int) := wrap_i64 _ (by omega)
    refine SW.seq (SW.seq ?_)
    refine SW.g0 [0, 1, 2, 3, 4, 14, 19, 41, 44, 59] mixed (And.intro (hl) (f1)) ?_
    refine SW.condT rfl (SW.skip ?_)
    refine SW.seq (SW.block (SW.seq (SW.seq ?_)))
    have c1 := cov05_at o x.line
    have c2 := cov05_at o x.ver
    rcases g1 : o.dep.covers x.line with _ | _
    · rw [lines_bad hx (by unfold okL; rw [g1]; rfl)]
      rw [g1] at c1
      refine SW.g1 [0, 1, 2, 3, 4, 14, 19, 41, 44, 59] mixed (And.intro (hl) (And.intro (cm_line hx) (cm_room hx))) c1 ?_
      refine SW.condT rfl ?_
      (repeat (first | refine SW.seq ?_ | refine SW.block ?_ | refine SW.g1 [0, 1, 2, 3, 4, 14, 19, 41, 44, 59] mixed bq_tt c1 ?_ | refine SW.skip ?_ | refine SW.exit ?_ | refine SW.ret ?_ | refine SW.condT rfl ?_ | refine SW.condF rfl ?_))
      exact End.mk [] (h4 := ⟨rfl, rfl⟩)
    rcases g2 : o.dep.covers x.ver with _ | _
    · rw [lines_bad hx (by unfold okL; rw [g1, g2]; rfl)]
      rw [g1] at c1
      rw [g2] at c2
      refine SW.g2 [0, 1, 2, 3, 4, 14, 19, 41, 44, 59] mixed (And.intro (hl) (And.intro (cm_line hx) (And.intro (cm_room hx) (And.intro (cm_ver hx) (cm_room2 hx))))) c1 c2 ?_
      refine SW.condT rfl ?_
      (repeat (first | refine SW.seq ?_ | refine SW.block ?_ | refine SW.g2 [0, 1, 2, 3, 4, 14, 19, 41, 44, 59] mixed bq_tt c1 c2 ?_ | refine SW.skip ?_ | refine SW.exit ?_ | refine SW.ret ?_ | refine SW.condT rfl ?_ | refine SW.condF rfl ?_))
      exact End.mk [] (h4 := ⟨rfl, rfl⟩)
    rw [g1] at c1
    rw [g2] at c2
    refine SW.g2 [0, 1, 2, 3, 4, 14, 19, 41, 44, 59] mixed (And.intro (hl) (And.intro (cm_line hx) (And.intro (cm_room hx) (And.intro (cm_ver hx) (cm_room2 hx))))) c1 c2 ?_
    refine SW.condF rfl (SW.skip ?_)
    refine SW.seq ?_
    refine SW.g0 [0, 1, 2, 3, 4, 14, 19, 41, 44, 59] mixed bq_tt ?_
    refine SW.block ?_
    refine SW.loopA (α := {k : Nat // k ≤ i ∧ ∀ j y, j < k → cl[j]? = some y → y.line ≠ x.line}) (fun k => ⟨[(4, i64 k.1), (3, i64 i), (1, .ptr 0 0)], [(0, .box 37 o.cells)], 1⟩) (fun k => i - k.1) ⟨0, by omega, by omega⟩ id bq_tt (round := ?_)
    rintro ⟨k, hk, hks⟩
    by_cases hki : k < i
    · obtain ⟨y, hy⟩ := get_of_lt (show k < cl.length by omega)
      have k1 : decide ((k : Int) < i) = true := by simp; exact hki
      have k2 : IntKind.i64.wrap ((k : Int) + 1) = ((k + 1 : Nat) : Int) := wrap_i64 _ (by omega)
      refine SW.seq (SW.seq ?_)
      refine SW.g0 [0, 1, 2, 3, 4, 14, 19, 41, 44, 59] mixed (k1) ?_
      refine SW.condT rfl (SW.skip ?_)
      refine SW.seq (SW.block (SW.seq ?_))
      by_cases hd : y.line = x.line
      · have k3 : decide (y.line = x.line) = true := decide_eq_true hd
        have hbad : okL o x (cl.take i) = false := by
          unfold okL
          rw [g1, g2, Bool.true_and, Bool.true_and, List.all_eq_false]
          exact ⟨y, List.mem_of_getElem? (by rw [List.getElem?_take_of_lt hki]; exact hy), by simp [hd]⟩
        rw [lines_bad hx hbad]
        refine SW.g0 [0, 1, 2, 3, 4, 14, 19, 41, 44, 59] mixed (And.intro (hl) (And.intro (cm_line hx) (And.intro (cm_room hx) (And.intro (cm_line hy) (And.intro (cm_room hy) (k3)))))) ?_
        refine SW.condT rfl ?_
        (repeat (first | refine SW.seq ?_ | refine SW.block ?_ | refine SW.g0 [0, 1, 2, 3, 4, 14, 19, 41, 44, 59] mixed bq_tt ?_ | refine SW.skip ?_ | refine SW.exit ?_ | refine SW.ret ?_ | refine SW.condT rfl ?_ | refine SW.condF rfl ?_))
        exact End.mk [] (h4 := ⟨rfl, rfl⟩)
      · have k3 : decide (y.line = x.line) = false := decide_eq_false hd
        refine SW.g0 [0, 1, 2, 3, 4, 14, 19, 41, 44, 59] mixed (And.intro (hl) (And.intro (cm_line hx) (And.intro (cm_room hx) (And.intro (cm_line hy) (And.intro (cm_room hy) (k3)))))) ?_
        refine SW.condF rfl (SW.skip ?_)
        refine SW.g0 [0, 1, 2, 3, 4, 14, 19, 41, 44, 59] mixed (k2) ?_
        dsimp only
        exact ⟨⟨k + 1, by omega, fun j z hj hz => by
          rcases Nat.lt_or_ge j k with hjk | hjk
          · exact hks j z hjk hz
          · have : j = k := by omega
            subst this
            rw [hy] at hz; injection hz with hz; subst hz; exact hd⟩, id, by show i - (k + 1) < _; omega, Weak.mk bq_tt⟩
    · have k1 : decide ((k : Int) < i) = false := by simp; omega
      (repeat (first | refine SW.seq ?_ | refine SW.block ?_ | refine SW.g0 [0, 1, 2, 3, 4, 14, 19, 41, 44, 59] mixed (And.intro (k1) (f2)) ?_ | refine SW.skip ?_ | refine SW.exit ?_ | refine SW.ret ?_ | refine SW.condT rfl ?_ | refine SW.condF rfl ?_))
      dsimp only
      refine ⟨⟨i + 1, by omega, fun j hj => ?_⟩, id, by show cl.length - (i + 1) < _; omega, Weak.mk bq_tt⟩
      rcases Nat.lt_or_ge j i with hji | hji
      · exact hs j hji
      · have : j = i := by omega
        subst this
        unfold okAt
        rw [hx]
        dsimp only
        unfold okL
        rw [g1, g2, Bool.true_and, Bool.true_and, List.all_eq_true]
        intro y hy
        obtain ⟨q, hq⟩ := List.mem_iff_getElem?.1 hy
        have hqj : q < j := by
          have := lt_of_get hq
          rw [List.length_take] at this; omega
        rw [List.getElem?_take_of_lt hqj] at hq
        have := hks q y (by omega) hq
        simp [this]
  · have f1 : decide ((i : Int) < cl.length) = false := by simp; omega
    have evl : linesV o cl = true := by
      unfold linesV
      rw [decide_eq_true (by omega), Bool.true_and, List.all_eq_true]
      intro j hj
      exact hs j (by have := List.mem_range.1 hj; omega)
    rw [evl]
    (repeat (first | refine SW.seq ?_ | refine SW.block ?_ | refine SW.g0 [0, 1, 2, 3, 4, 14, 19, 41, 44, 59] mixed (And.intro (hl) (f1)) ?_ | refine SW.skip ?_ | refine SW.exit ?_ | refine SW.ret ?_ | refine SW.condT rfl ?_ | refine SW.condF rfl ?_))
    exact End.mk [] (h4 := ⟨rfl, rfl⟩)
theorem lines05_at (o : OpD) (cl : List Cm) (hlen : cl.length ≤ 9223372036854775807) (hl : o.lines = .sl cl.length (cl.flatMap Cm.ds)) (k : Nat) : SCd Tryd.prog ref05_lines.f [.agg o.cells] [] k 0 (bl (linesV o cl)) [] := (lines05_ok o cl hlen hl).sc rfl k
end Go.Proofs.YtnakpdoioammhaaDoor
namespace Go.Proofs.YtnakpdoioammhaaDoor
open Go.Sl Go.Proofs
attribute [local irreducible] SW RW SCd SC CallP Pruned
set_option maxHeartbeats 4000000 in
theorem zero_n (o : OpD) (nl : Nat) (cs : List DV) (hl : o.lines = .sl nl cs) (hk : o.kind < 256) (hS : hasK o.kind = []) : Go.Sl.Pure Tryd.prog ref05_zero.f [.agg o.cells] (bl (zeroV [] o nl)) := by
  have hh := has05_at o.kind hk
  rw [hS] at hh
  have f0 : decide (99 ∈ ([] : List Nat)) = false := by decide
  have i0 := in05_at [] (by decide) 99
  rw [f0] at i0
  have f1 : decide (116 ∈ ([] : List Nat)) = false := by decide
  have i1 := in05_at [] (by decide) 116
  rw [f1] at i1
  have f2 : decide (114 ∈ ([] : List Nat)) = false := by decide
  have i2 := in05_at [] (by decide) 114
  rw [f2] at i2
  have f3 : decide (100 ∈ ([] : List Nat)) = false := by decide
  have i3 := in05_at [] (by decide) 100
  rw [f3] at i3
  have f4 : decide (112 ∈ ([] : List Nat)) = false := by decide
  have i4 := in05_at [] (by decide) 112
  rw [f4] at i4
  have f5 : decide (97 ∈ ([] : List Nat)) = false := by decide
  have i5 := in05_at [] (by decide) 97
  rw [f5] at i5
  have f6 : decide (118 ∈ ([] : List Nat)) = false := by decide
  have i6 := in05_at [] (by decide) 118
  rw [f6] at i6
  have f7 : decide (105 ∈ ([] : List Nat)) = false := by decide
  have i7 := in05_at [] (by decide) 105
  rw [f7] at i7
  have f8 : decide (113 ∈ ([] : List Nat)) = false := by decide
  have i8 := in05_at [] (by decide) 113
  rw [f8] at i8
  have f9 : decide (101 ∈ ([] : List Nat)) = false := by decide
  have i9 := in05_at [] (by decide) 101
  rw [f9] at i9
  have f10 : decide (108 ∈ ([] : List Nat)) = false := by decide
  have i10 := in05_at [] (by decide) 108
  rw [f10] at i10
  refine ref05_zero.enter (by first | rfl | simp [SV.ok, SV.oks]) (by first | rfl | simp [Hp.ok, Ob.ok, SV.ok, SV.oks, Vec.cells_ok]) (by simp) ?_
  dsimp only [ref05_zero.s, Co.M, Co.G, Co.J, Co.H, Co.N, Co.F, Co.C, Co.Z, Co.B, Co.b8, Co.b32, Co.b64, Co.i6, Co.z8, Co.z29]
  have cz := And.intro hh True.intro
  refine SW.seq ?_
  refine SW.g1 [0, 1, 2, 3, 4] mixed bq_tt hh ?_
  refine SW.seq ?_
  refine SW.g1 [0, 1, 2, 3, 4] mixed bq_tt hh ?_
  refine SW.seq ?_
  refine SW.g1 [0, 1, 2, 3, 4] mixed bq_tt hh ?_
  refine SW.seq ?_
  have cz := And.intro i0 (And.intro i1 (And.intro i2 (And.intro i3 (And.intro i4 (And.intro i5 (And.intro i6 (And.intro i7 (And.intro i8 (And.intro i9 (And.intro i10 True.intro))))))))))
  refine SW.gB [0, 1, 2, 3, 4] mixed (hl) cz ?_
  rcases z0 : decide (o.cred = (⟨0, 0⟩ : Dt)) with _ | _
  · refine RW.gE (hl) cz ?_
    refine SW.ret ?_
    exact End.mk [] (h4 := ⟨by simp only [zeroV, f0, f1, f2, f3, f4, f5, f6, f7, f8, f9, f10, z0, Bool.true_or, Bool.or_true, Bool.false_or, Bool.and_false, Bool.false_and, Bool.true_and, Bool.and_true, Bool.or_false]; rfl, rfl⟩)
  refine RW.gG (hl) cz ?_
  rcases z1 : ((o.to : Int) == 0) with _ | _
  · refine RW.gE (hl) cz ?_
    refine SW.ret ?_
    exact End.mk [] (h4 := ⟨by simp only [zeroV, f0, f1, f2, f3, f4, f5, f6, f7, f8, f9, f10, z0, z1, Bool.true_or, Bool.or_true, Bool.false_or, Bool.and_false, Bool.false_and, Bool.true_and, Bool.and_true, Bool.or_false]; rfl, rfl⟩)
  refine RW.gG (hl) cz ?_
  rcases z2 : ((o.roles : Int) == 0) with _ | _
  · refine RW.gE (hl) cz ?_
    refine SW.ret ?_
    exact End.mk [] (h4 := ⟨by simp only [zeroV, f0, f1, f2, f3, f4, f5, f6, f7, f8, f9, f10, z0, z1, z2, Bool.true_or, Bool.or_true, Bool.false_or, Bool.and_false, Bool.false_and, Bool.true_and, Bool.and_true, Bool.or_false]; rfl, rfl⟩)
  refine RW.gG (hl) cz ?_
  rcases z3 : ((o.depth : Int) == 0) with _ | _
  · refine RW.gE (hl) cz ?_
    refine SW.ret ?_
    exact End.mk [] (h4 := ⟨by simp only [zeroV, f0, f1, f2, f3, f4, f5, f6, f7, f8, f9, f10, z0, z1, z2, z3, Bool.true_or, Bool.or_true, Bool.false_or, Bool.and_false, Bool.false_and, Bool.true_and, Bool.and_true, Bool.or_false]; rfl, rfl⟩)
  refine RW.gG (hl) cz ?_
  rcases z4 : ((o.cap : Int) == 0) with _ | _
  · refine RW.gE (hl) cz ?_
    refine SW.ret ?_
    exact End.mk [] (h4 := ⟨by simp only [zeroV, f0, f1, f2, f3, f4, f5, f6, f7, f8, f9, f10, z0, z1, z2, z3, z4, Bool.true_or, Bool.or_true, Bool.false_or, Bool.and_false, Bool.false_and, Bool.true_and, Bool.and_true, Bool.or_false]; rfl, rfl⟩)
  refine RW.gG (hl) cz ?_
  rcases z5 : decide (o.at_ = (⟨0, 0⟩ : Dt)) with _ | _
  · refine RW.gE (hl) cz ?_
    refine SW.ret ?_
    exact End.mk [] (h4 := ⟨by simp only [zeroV, f0, f1, f2, f3, f4, f5, f6, f7, f8, f9, f10, z0, z1, z2, z3, z4, z5, Bool.true_or, Bool.or_true, Bool.false_or, Bool.and_false, Bool.false_and, Bool.true_and, Bool.and_true, Bool.or_false]; rfl, rfl⟩)
  refine RW.gG (hl) cz ?_
  rcases z6 : decide (o.ver = (⟨0, 0⟩ : Dt)) with _ | _
  · refine RW.gE (hl) cz ?_
    refine SW.ret ?_
    exact End.mk [] (h4 := ⟨by simp only [zeroV, f0, f1, f2, f3, f4, f5, f6, f7, f8, f9, f10, z0, z1, z2, z3, z4, z5, z6, Bool.true_or, Bool.or_true, Bool.false_or, Bool.and_false, Bool.false_and, Bool.true_and, Bool.and_true, Bool.or_false]; rfl, rfl⟩)
  refine RW.gG (hl) cz ?_
  rcases z7 : ((o.item : Int) == 0) with _ | _
  · refine RW.gE (hl) cz ?_
    refine SW.ret ?_
    exact End.mk [] (h4 := ⟨by simp only [zeroV, f0, f1, f2, f3, f4, f5, f6, f7, f8, f9, f10, z0, z1, z2, z3, z4, z5, z6, z7, Bool.true_or, Bool.or_true, Bool.false_or, Bool.and_false, Bool.false_and, Bool.true_and, Bool.and_true, Bool.or_false]; rfl, rfl⟩)
  refine RW.gG (hl) cz ?_
  rcases z8 : ((o.qty : Int) == 0) with _ | _
  · refine RW.gE (hl) cz ?_
    refine SW.ret ?_
    exact End.mk [] (h4 := ⟨by simp only [zeroV, f0, f1, f2, f3, f4, f5, f6, f7, f8, f9, f10, z0, z1, z2, z3, z4, z5, z6, z7, z8, Bool.true_or, Bool.or_true, Bool.false_or, Bool.and_false, Bool.false_and, Bool.true_and, Bool.and_true, Bool.or_false]; rfl, rfl⟩)
  refine RW.gG (hl) cz ?_
  rcases z9 : ((o.price : Int) == 0) with _ | _
  · refine RW.gE (hl) cz ?_
    refine SW.ret ?_
    exact End.mk [] (h4 := ⟨by simp only [zeroV, f0, f1, f2, f3, f4, f5, f6, f7, f8, f9, f10, z0, z1, z2, z3, z4, z5, z6, z7, z8, z9, Bool.true_or, Bool.or_true, Bool.false_or, Bool.and_false, Bool.false_and, Bool.true_and, Bool.and_true, Bool.or_false]; rfl, rfl⟩)
  refine RW.gG (hl) cz ?_
  rcases z10 : ((nl : Int) == 0) with _ | _
  · refine RW.gE (hl) cz ?_
    refine SW.ret ?_
    exact End.mk [] (h4 := ⟨by simp only [zeroV, f0, f1, f2, f3, f4, f5, f6, f7, f8, f9, f10, z0, z1, z2, z3, z4, z5, z6, z7, z8, z9, z10, Bool.true_or, Bool.or_true, Bool.false_or, Bool.and_false, Bool.false_and, Bool.true_and, Bool.and_true, Bool.or_false]; rfl, rfl⟩)
  refine RW.gE (hl) cz ?_
  refine SW.ret ?_
  exact End.mk [] (h4 := ⟨by simp only [zeroV, f0, f1, f2, f3, f4, f5, f6, f7, f8, f9, f10, z0, z1, z2, z3, z4, z5, z6, z7, z8, z9, z10, Bool.true_or, Bool.or_true, Bool.false_or, Bool.and_self, Bool.true_and, Bool.and_true]; rfl, rfl⟩)
end Go.Proofs.YtnakpdoioammhaaDoor
namespace Go.Proofs.YtnakpdoioammhaaDoor
open Go.Sl Go.Proofs
attribute [local irreducible] SW RW SCd SC CallP Pruned
set_option maxHeartbeats 4000000 in
theorem zero_g (o : OpD) (nl : Nat) (cs : List DV) (hl : o.lines = .sl nl cs) (hk : o.kind < 256) (hS : hasK o.kind = [99, 116, 114, 100, 112]) : Go.Sl.Pure Tryd.prog ref05_zero.f [.agg o.cells] (bl (zeroV [99, 116, 114, 100, 112] o nl)) := by
  have hh := has05_at o.kind hk
  rw [hS] at hh
  have f0 : decide (99 ∈ ([99, 116, 114, 100, 112] : List Nat)) = true := by decide
  have i0 := in05_at [99, 116, 114, 100, 112] (by decide) 99
  rw [f0] at i0
  have f1 : decide (116 ∈ ([99, 116, 114, 100, 112] : List Nat)) = true := by decide
  have i1 := in05_at [99, 116, 114, 100, 112] (by decide) 116
  rw [f1] at i1
  have f2 : decide (114 ∈ ([99, 116, 114, 100, 112] : List Nat)) = true := by decide
  have i2 := in05_at [99, 116, 114, 100, 112] (by decide) 114
  rw [f2] at i2
  have f3 : decide (100 ∈ ([99, 116, 114, 100, 112] : List Nat)) = true := by decide
  have i3 := in05_at [99, 116, 114, 100, 112] (by decide) 100
  rw [f3] at i3
  have f4 : decide (112 ∈ ([99, 116, 114, 100, 112] : List Nat)) = true := by decide
  have i4 := in05_at [99, 116, 114, 100, 112] (by decide) 112
  rw [f4] at i4
  have f5 : decide (97 ∈ ([99, 116, 114, 100, 112] : List Nat)) = false := by decide
  have i5 := in05_at [99, 116, 114, 100, 112] (by decide) 97
  rw [f5] at i5
  have f6 : decide (118 ∈ ([99, 116, 114, 100, 112] : List Nat)) = false := by decide
  have i6 := in05_at [99, 116, 114, 100, 112] (by decide) 118
  rw [f6] at i6
  have f7 : decide (105 ∈ ([99, 116, 114, 100, 112] : List Nat)) = false := by decide
  have i7 := in05_at [99, 116, 114, 100, 112] (by decide) 105
  rw [f7] at i7
  have f8 : decide (113 ∈ ([99, 116, 114, 100, 112] : List Nat)) = false := by decide
  have i8 := in05_at [99, 116, 114, 100, 112] (by decide) 113
  rw [f8] at i8
  have f9 : decide (101 ∈ ([99, 116, 114, 100, 112] : List Nat)) = false := by decide
  have i9 := in05_at [99, 116, 114, 100, 112] (by decide) 101
  rw [f9] at i9
  have f10 : decide (108 ∈ ([99, 116, 114, 100, 112] : List Nat)) = false := by decide
  have i10 := in05_at [99, 116, 114, 100, 112] (by decide) 108
  rw [f10] at i10
  refine ref05_zero.enter (by first | rfl | simp [SV.ok, SV.oks]) (by first | rfl | simp [Hp.ok, Ob.ok, SV.ok, SV.oks, Vec.cells_ok]) (by simp) ?_
  dsimp only [ref05_zero.s, Co.M, Co.G, Co.J, Co.H, Co.N, Co.F, Co.C, Co.Z, Co.B, Co.b8, Co.b32, Co.b64, Co.i6, Co.z8, Co.z29]
  have cz := And.intro hh True.intro
  refine SW.seq ?_
  refine SW.g1 [0, 1, 2, 3, 4] mixed bq_tt hh ?_
  refine SW.seq ?_
  refine SW.g1 [0, 1, 2, 3, 4] mixed bq_tt hh ?_
  refine SW.seq ?_
  refine SW.g1 [0, 1, 2, 3, 4] mixed bq_tt hh ?_
  refine SW.seq ?_
  have cz := And.intro i0 (And.intro i1 (And.intro i2 (And.intro i3 (And.intro i4 (And.intro i5 (And.intro i6 (And.intro i7 (And.intro i8 (And.intro i9 (And.intro i10 True.intro))))))))))
  refine SW.gB [0, 1, 2, 3, 4] mixed (hl) cz ?_
  rcases z5 : decide (o.at_ = (⟨0, 0⟩ : Dt)) with _ | _
  · refine RW.gE (hl) cz ?_
    refine SW.ret ?_
    exact End.mk [] (h4 := ⟨by simp only [zeroV, f0, f1, f2, f3, f4, f5, f6, f7, f8, f9, f10, z5, Bool.true_or, Bool.or_true, Bool.false_or, Bool.and_false, Bool.false_and, Bool.true_and, Bool.and_true, Bool.or_false]; rfl, rfl⟩)
  refine RW.gG (hl) cz ?_
  rcases z6 : decide (o.ver = (⟨0, 0⟩ : Dt)) with _ | _
  · refine RW.gE (hl) cz ?_
    refine SW.ret ?_
    exact End.mk [] (h4 := ⟨by simp only [zeroV, f0, f1, f2, f3, f4, f5, f6, f7, f8, f9, f10, z5, z6, Bool.true_or, Bool.or_true, Bool.false_or, Bool.and_false, Bool.false_and, Bool.true_and, Bool.and_true, Bool.or_false]; rfl, rfl⟩)
  refine RW.gG (hl) cz ?_
  rcases z7 : ((o.item : Int) == 0) with _ | _
  · refine RW.gE (hl) cz ?_
    refine SW.ret ?_
    exact End.mk [] (h4 := ⟨by simp only [zeroV, f0, f1, f2, f3, f4, f5, f6, f7, f8, f9, f10, z5, z6, z7, Bool.true_or, Bool.or_true, Bool.false_or, Bool.and_false, Bool.false_and, Bool.true_and, Bool.and_true, Bool.or_false]; rfl, rfl⟩)
  refine RW.gG (hl) cz ?_
  rcases z8 : ((o.qty : Int) == 0) with _ | _
  · refine RW.gE (hl) cz ?_
    refine SW.ret ?_
    exact End.mk [] (h4 := ⟨by simp only [zeroV, f0, f1, f2, f3, f4, f5, f6, f7, f8, f9, f10, z5, z6, z7, z8, Bool.true_or, Bool.or_true, Bool.false_or, Bool.and_false, Bool.false_and, Bool.true_and, Bool.and_true, Bool.or_false]; rfl, rfl⟩)
  refine RW.gG (hl) cz ?_
  rcases z9 : ((o.price : Int) == 0) with _ | _
  · refine RW.gE (hl) cz ?_
    refine SW.ret ?_
    exact End.mk [] (h4 := ⟨by simp only [zeroV, f0, f1, f2, f3, f4, f5, f6, f7, f8, f9, f10, z5, z6, z7, z8, z9, Bool.true_or, Bool.or_true, Bool.false_or, Bool.and_false, Bool.false_and, Bool.true_and, Bool.and_true, Bool.or_false]; rfl, rfl⟩)
  refine RW.gG (hl) cz ?_
  rcases z10 : ((nl : Int) == 0) with _ | _
  · refine RW.gE (hl) cz ?_
    refine SW.ret ?_
    exact End.mk [] (h4 := ⟨by simp only [zeroV, f0, f1, f2, f3, f4, f5, f6, f7, f8, f9, f10, z5, z6, z7, z8, z9, z10, Bool.true_or, Bool.or_true, Bool.false_or, Bool.and_false, Bool.false_and, Bool.true_and, Bool.and_true, Bool.or_false]; rfl, rfl⟩)
  refine RW.gE (hl) cz ?_
  refine SW.ret ?_
  exact End.mk [] (h4 := ⟨by simp only [zeroV, f0, f1, f2, f3, f4, f5, f6, f7, f8, f9, f10, z5, z6, z7, z8, z9, z10, Bool.true_or, Bool.or_true, Bool.false_or, Bool.and_self, Bool.true_and, Bool.and_true]; rfl, rfl⟩)
end Go.Proofs.YtnakpdoioammhaaDoor
namespace Go.Proofs.YtnakpdoioammhaaDoor
open Go.Sl Go.Proofs
attribute [local irreducible] SW RW SCd SC CallP Pruned
set_option maxHeartbeats 4000000 in
theorem zero_x (o : OpD) (nl : Nat) (cs : List DV) (hl : o.lines = .sl nl cs) (hk : o.kind < 256) (hS : hasK o.kind = [99, 97]) : Go.Sl.Pure Tryd.prog ref05_zero.f [.agg o.cells] (bl (zeroV [99, 97] o nl)) := by
  have hh := has05_at o.kind hk
  rw [hS] at hh
  have f0 : decide (99 ∈ ([99, 97] : List Nat)) = true := by decide
  have i0 := in05_at [99, 97] (by decide) 99
  rw [f0] at i0
  have f1 : decide (116 ∈ ([99, 97] : List Nat)) = false := by decide
  have i1 := in05_at [99, 97] (by decide) 116
  rw [f1] at i1
  have f2 : decide (114 ∈ ([99, 97] : List Nat)) = false := by decide
  have i2 := in05_at [99, 97] (by decide) 114
  rw [f2] at i2
  have f3 : decide (100 ∈ ([99, 97] : List Nat)) = false := by decide
  have i3 := in05_at [99, 97] (by decide) 100
  rw [f3] at i3
  have f4 : decide (112 ∈ ([99, 97] : List Nat)) = false := by decide
  have i4 := in05_at [99, 97] (by decide) 112
  rw [f4] at i4
  have f5 : decide (97 ∈ ([99, 97] : List Nat)) = true := by decide
  have i5 := in05_at [99, 97] (by decide) 97
  rw [f5] at i5
  have f6 : decide (118 ∈ ([99, 97] : List Nat)) = false := by decide
  have i6 := in05_at [99, 97] (by decide) 118
  rw [f6] at i6
  have f7 : decide (105 ∈ ([99, 97] : List Nat)) = false := by decide
  have i7 := in05_at [99, 97] (by decide) 105
  rw [f7] at i7
  have f8 : decide (113 ∈ ([99, 97] : List Nat)) = false := by decide
  have i8 := in05_at [99, 97] (by decide) 113
  rw [f8] at i8
  have f9 : decide (101 ∈ ([99, 97] : List Nat)) = false := by decide
  have i9 := in05_at [99, 97] (by decide) 101
  rw [f9] at i9
  have f10 : decide (108 ∈ ([99, 97] : List Nat)) = false := by decide
  have i10 := in05_at [99, 97] (by decide) 108
  rw [f10] at i10
  refine ref05_zero.enter (by first | rfl | simp [SV.ok, SV.oks]) (by first | rfl | simp [Hp.ok, Ob.ok, SV.ok, SV.oks, Vec.cells_ok]) (by simp) ?_
  dsimp only [ref05_zero.s, Co.M, Co.G, Co.J, Co.H, Co.N, Co.F, Co.C, Co.Z, Co.B, Co.b8, Co.b32, Co.b64, Co.i6, Co.z8, Co.z29]
  have cz := And.intro hh True.intro
  refine SW.seq ?_
  refine SW.g1 [0, 1, 2, 3, 4] mixed bq_tt hh ?_
  refine SW.seq ?_
  refine SW.g1 [0, 1, 2, 3, 4] mixed bq_tt hh ?_
  refine SW.seq ?_
  refine SW.g1 [0, 1, 2, 3, 4] mixed bq_tt hh ?_
  refine SW.seq ?_
  have cz := And.intro i0 (And.intro i1 (And.intro i2 (And.intro i3 (And.intro i4 (And.intro i5 (And.intro i6 (And.intro i7 (And.intro i8 (And.intro i9 (And.intro i10 True.intro))))))))))
  refine SW.gB [0, 1, 2, 3, 4] mixed (hl) cz ?_
  rcases z1 : ((o.to : Int) == 0) with _ | _
  · refine RW.gE (hl) cz ?_
    refine SW.ret ?_
    exact End.mk [] (h4 := ⟨by simp only [zeroV, f0, f1, f2, f3, f4, f5, f6, f7, f8, f9, f10, z1, Bool.true_or, Bool.or_true, Bool.false_or, Bool.and_false, Bool.false_and, Bool.true_and, Bool.and_true, Bool.or_false]; rfl, rfl⟩)
  refine RW.gG (hl) cz ?_
  rcases z2 : ((o.roles : Int) == 0) with _ | _
  · refine RW.gE (hl) cz ?_
    refine SW.ret ?_
    exact End.mk [] (h4 := ⟨by simp only [zeroV, f0, f1, f2, f3, f4, f5, f6, f7, f8, f9, f10, z1, z2, Bool.true_or, Bool.or_true, Bool.false_or, Bool.and_false, Bool.false_and, Bool.true_and, Bool.and_true, Bool.or_false]; rfl, rfl⟩)
  refine RW.gG (hl) cz ?_
  rcases z3 : ((o.depth : Int) == 0) with _ | _
  · refine RW.gE (hl) cz ?_
    refine SW.ret ?_
    exact End.mk [] (h4 := ⟨by simp only [zeroV, f0, f1, f2, f3, f4, f5, f6, f7, f8, f9, f10, z1, z2, z3, Bool.true_or, Bool.or_true, Bool.false_or, Bool.and_false, Bool.false_and, Bool.true_and, Bool.and_true, Bool.or_false]; rfl, rfl⟩)
  refine RW.gG (hl) cz ?_
  rcases z4 : ((o.cap : Int) == 0) with _ | _
  · refine RW.gE (hl) cz ?_
    refine SW.ret ?_
    exact End.mk [] (h4 := ⟨by simp only [zeroV, f0, f1, f2, f3, f4, f5, f6, f7, f8, f9, f10, z1, z2, z3, z4, Bool.true_or, Bool.or_true, Bool.false_or, Bool.and_false, Bool.false_and, Bool.true_and, Bool.and_true, Bool.or_false]; rfl, rfl⟩)
  refine RW.gG (hl) cz ?_
  rcases z6 : decide (o.ver = (⟨0, 0⟩ : Dt)) with _ | _
  · refine RW.gE (hl) cz ?_
    refine SW.ret ?_
    exact End.mk [] (h4 := ⟨by simp only [zeroV, f0, f1, f2, f3, f4, f5, f6, f7, f8, f9, f10, z1, z2, z3, z4, z6, Bool.true_or, Bool.or_true, Bool.false_or, Bool.and_false, Bool.false_and, Bool.true_and, Bool.and_true, Bool.or_false]; rfl, rfl⟩)
  refine RW.gG (hl) cz ?_
  rcases z7 : ((o.item : Int) == 0) with _ | _
  · refine RW.gE (hl) cz ?_
    refine SW.ret ?_
    exact End.mk [] (h4 := ⟨by simp only [zeroV, f0, f1, f2, f3, f4, f5, f6, f7, f8, f9, f10, z1, z2, z3, z4, z6, z7, Bool.true_or, Bool.or_true, Bool.false_or, Bool.and_false, Bool.false_and, Bool.true_and, Bool.and_true, Bool.or_false]; rfl, rfl⟩)
  refine RW.gG (hl) cz ?_
  rcases z8 : ((o.qty : Int) == 0) with _ | _
  · refine RW.gE (hl) cz ?_
    refine SW.ret ?_
    exact End.mk [] (h4 := ⟨by simp only [zeroV, f0, f1, f2, f3, f4, f5, f6, f7, f8, f9, f10, z1, z2, z3, z4, z6, z7, z8, Bool.true_or, Bool.or_true, Bool.false_or, Bool.and_false, Bool.false_and, Bool.true_and, Bool.and_true, Bool.or_false]; rfl, rfl⟩)
  refine RW.gG (hl) cz ?_
  rcases z9 : ((o.price : Int) == 0) with _ | _
  · refine RW.gE (hl) cz ?_
    refine SW.ret ?_
    exact End.mk [] (h4 := ⟨by simp only [zeroV, f0, f1, f2, f3, f4, f5, f6, f7, f8, f9, f10, z1, z2, z3, z4, z6, z7, z8, z9, Bool.true_or, Bool.or_true, Bool.false_or, Bool.and_false, Bool.false_and, Bool.true_and, Bool.and_true, Bool.or_false]; rfl, rfl⟩)
  refine RW.gG (hl) cz ?_
  rcases z10 : ((nl : Int) == 0) with _ | _
  · refine RW.gE (hl) cz ?_
    refine SW.ret ?_
    exact End.mk [] (h4 := ⟨by simp only [zeroV, f0, f1, f2, f3, f4, f5, f6, f7, f8, f9, f10, z1, z2, z3, z4, z6, z7, z8, z9, z10, Bool.true_or, Bool.or_true, Bool.false_or, Bool.and_false, Bool.false_and, Bool.true_and, Bool.and_true, Bool.or_false]; rfl, rfl⟩)
  refine RW.gE (hl) cz ?_
  refine SW.ret ?_
  exact End.mk [] (h4 := ⟨by simp only [zeroV, f0, f1, f2, f3, f4, f5, f6, f7, f8, f9, f10, z1, z2, z3, z4, z6, z7, z8, z9, z10, Bool.true_or, Bool.or_true, Bool.false_or, Bool.and_self, Bool.true_and, Bool.and_true]; rfl, rfl⟩)
end Go.Proofs.YtnakpdoioammhaaDoor
namespace Go.Proofs.YtnakpdoioammhaaDoor
open Go.Sl Go.Proofs
attribute [local irreducible] SW RW SCd SC CallP Pruned
set_option maxHeartbeats 4000000 in
theorem zero_b (o : OpD) (nl : Nat) (cs : List DV) (hl : o.lines = .sl nl cs) (hk : o.kind < 256) (hS : hasK o.kind = [99, 105, 113, 101]) : Go.Sl.Pure Tryd.prog ref05_zero.f [.agg o.cells] (bl (zeroV [99, 105, 113, 101] o nl)) := by
  have hh := has05_at o.kind hk
  rw [hS] at hh
  have f0 : decide (99 ∈ ([99, 105, 113, 101] : List Nat)) = true := by decide
  have i0 := in05_at [99, 105, 113, 101] (by decide) 99
  rw [f0] at i0
  have f1 : decide (116 ∈ ([99, 105, 113, 101] : List Nat)) = false := by decide
  have i1 := in05_at [99, 105, 113, 101] (by decide) 116
  rw [f1] at i1
  have f2 : decide (114 ∈ ([99, 105, 113, 101] : List Nat)) = false := by decide
  have i2 := in05_at [99, 105, 113, 101] (by decide) 114
  rw [f2] at i2
  have f3 : decide (100 ∈ ([99, 105, 113, 101] : List Nat)) = false := by decide
  have i3 := in05_at [99, 105, 113, 101] (by decide) 100
  rw [f3] at i3
  have f4 : decide (112 ∈ ([99, 105, 113, 101] : List Nat)) = false := by decide
  have i4 := in05_at [99, 105, 113, 101] (by decide) 112
  rw [f4] at i4
  have f5 : decide (97 ∈ ([99, 105, 113, 101] : List Nat)) = false := by decide
  have i5 := in05_at [99, 105, 113, 101] (by decide) 97
  rw [f5] at i5
  have f6 : decide (118 ∈ ([99, 105, 113, 101] : List Nat)) = false := by decide
  have i6 := in05_at [99, 105, 113, 101] (by decide) 118
  rw [f6] at i6
  have f7 : decide (105 ∈ ([99, 105, 113, 101] : List Nat)) = true := by decide
  have i7 := in05_at [99, 105, 113, 101] (by decide) 105
  rw [f7] at i7
  have f8 : decide (113 ∈ ([99, 105, 113, 101] : List Nat)) = true := by decide
  have i8 := in05_at [99, 105, 113, 101] (by decide) 113
  rw [f8] at i8
  have f9 : decide (101 ∈ ([99, 105, 113, 101] : List Nat)) = true := by decide
  have i9 := in05_at [99, 105, 113, 101] (by decide) 101
  rw [f9] at i9
  have f10 : decide (108 ∈ ([99, 105, 113, 101] : List Nat)) = false := by decide
  have i10 := in05_at [99, 105, 113, 101] (by decide) 108
  rw [f10] at i10
  refine ref05_zero.enter (by first | rfl | simp [SV.ok, SV.oks]) (by first | rfl | simp [Hp.ok, Ob.ok, SV.ok, SV.oks, Vec.cells_ok]) (by simp) ?_
  dsimp only [ref05_zero.s, Co.M, Co.G, Co.J, Co.H, Co.N, Co.F, Co.C, Co.Z, Co.B, Co.b8, Co.b32, Co.b64, Co.i6, Co.z8, Co.z29]
  have cz := And.intro hh True.intro
  refine SW.seq ?_
  refine SW.g1 [0, 1, 2, 3, 4] mixed bq_tt hh ?_
  refine SW.seq ?_
  refine SW.g1 [0, 1, 2, 3, 4] mixed bq_tt hh ?_
  refine SW.seq ?_
  refine SW.g1 [0, 1, 2, 3, 4] mixed bq_tt hh ?_
  refine SW.seq ?_
  have cz := And.intro i0 (And.intro i1 (And.intro i2 (And.intro i3 (And.intro i4 (And.intro i5 (And.intro i6 (And.intro i7 (And.intro i8 (And.intro i9 (And.intro i10 True.intro))))))))))
  refine SW.gB [0, 1, 2, 3, 4] mixed (hl) cz ?_
  rcases z1 : ((o.to : Int) == 0) with _ | _
  · refine RW.gE (hl) cz ?_
    refine SW.ret ?_
    exact End.mk [] (h4 := ⟨by simp only [zeroV, f0, f1, f2, f3, f4, f5, f6, f7, f8, f9, f10, z1, Bool.true_or, Bool.or_true, Bool.false_or, Bool.and_false, Bool.false_and, Bool.true_and, Bool.and_true, Bool.or_false]; rfl, rfl⟩)
  refine RW.gG (hl) cz ?_
  rcases z2 : ((o.roles : Int) == 0) with _ | _
  · refine RW.gE (hl) cz ?_
    refine SW.ret ?_
    exact End.mk [] (h4 := ⟨by simp only [zeroV, f0, f1, f2, f3, f4, f5, f6, f7, f8, f9, f10, z1, z2, Bool.true_or, Bool.or_true, Bool.false_or, Bool.and_false, Bool.false_and, Bool.true_and, Bool.and_true, Bool.or_false]; rfl, rfl⟩)
  refine RW.gG (hl) cz ?_
  rcases z3 : ((o.depth : Int) == 0) with _ | _
  · refine RW.gE (hl) cz ?_
    refine SW.ret ?_
    exact End.mk [] (h4 := ⟨by simp only [zeroV, f0, f1, f2, f3, f4, f5, f6, f7, f8, f9, f10, z1, z2, z3, Bool.true_or, Bool.or_true, Bool.false_or, Bool.and_false, Bool.false_and, Bool.true_and, Bool.and_true, Bool.or_false]; rfl, rfl⟩)
  refine RW.gG (hl) cz ?_
  rcases z4 : ((o.cap : Int) == 0) with _ | _
  · refine RW.gE (hl) cz ?_
    refine SW.ret ?_
    exact End.mk [] (h4 := ⟨by simp only [zeroV, f0, f1, f2, f3, f4, f5, f6, f7, f8, f9, f10, z1, z2, z3, z4, Bool.true_or, Bool.or_true, Bool.false_or, Bool.and_false, Bool.false_and, Bool.true_and, Bool.and_true, Bool.or_false]; rfl, rfl⟩)
  refine RW.gG (hl) cz ?_
  rcases z5 : decide (o.at_ = (⟨0, 0⟩ : Dt)) with _ | _
  · refine RW.gE (hl) cz ?_
    refine SW.ret ?_
    exact End.mk [] (h4 := ⟨by simp only [zeroV, f0, f1, f2, f3, f4, f5, f6, f7, f8, f9, f10, z1, z2, z3, z4, z5, Bool.true_or, Bool.or_true, Bool.false_or, Bool.and_false, Bool.false_and, Bool.true_and, Bool.and_true, Bool.or_false]; rfl, rfl⟩)
  refine RW.gG (hl) cz ?_
  rcases z6 : decide (o.ver = (⟨0, 0⟩ : Dt)) with _ | _
  · refine RW.gE (hl) cz ?_
    refine SW.ret ?_
    exact End.mk [] (h4 := ⟨by simp only [zeroV, f0, f1, f2, f3, f4, f5, f6, f7, f8, f9, f10, z1, z2, z3, z4, z5, z6, Bool.true_or, Bool.or_true, Bool.false_or, Bool.and_false, Bool.false_and, Bool.true_and, Bool.and_true, Bool.or_false]; rfl, rfl⟩)
  refine RW.gG (hl) cz ?_
  rcases z10 : ((nl : Int) == 0) with _ | _
  · refine RW.gE (hl) cz ?_
    refine SW.ret ?_
    exact End.mk [] (h4 := ⟨by simp only [zeroV, f0, f1, f2, f3, f4, f5, f6, f7, f8, f9, f10, z1, z2, z3, z4, z5, z6, z10, Bool.true_or, Bool.or_true, Bool.false_or, Bool.and_false, Bool.false_and, Bool.true_and, Bool.and_true, Bool.or_false]; rfl, rfl⟩)
  refine RW.gE (hl) cz ?_
  refine SW.ret ?_
  exact End.mk [] (h4 := ⟨by simp only [zeroV, f0, f1, f2, f3, f4, f5, f6, f7, f8, f9, f10, z1, z2, z3, z4, z5, z6, z10, Bool.true_or, Bool.or_true, Bool.false_or, Bool.and_self, Bool.true_and, Bool.and_true]; rfl, rfl⟩)
end Go.Proofs.YtnakpdoioammhaaDoor
namespace Go.Proofs.YtnakpdoioammhaaDoor
open Go.Sl Go.Proofs
attribute [local irreducible] SW RW SCd SC CallP Pruned
set_option maxHeartbeats 4000000 in
theorem zero_s (o : OpD) (nl : Nat) (cs : List DV) (hl : o.lines = .sl nl cs) (hk : o.kind < 256) (hS : hasK o.kind = [99, 97, 113]) : Go.Sl.Pure Tryd.prog ref05_zero.f [.agg o.cells] (bl (zeroV [99, 97, 113] o nl)) := by
  have hh := has05_at o.kind hk
  rw [hS] at hh
  have f0 : decide (99 ∈ ([99, 97, 113] : List Nat)) = true := by decide
  have i0 := in05_at [99, 97, 113] (by decide) 99
  rw [f0] at i0
  have f1 : decide (116 ∈ ([99, 97, 113] : List Nat)) = false := by decide
  have i1 := in05_at [99, 97, 113] (by decide) 116
  rw [f1] at i1
  have f2 : decide (114 ∈ ([99, 97, 113] : List Nat)) = false := by decide
  have i2 := in05_at [99, 97, 113] (by decide) 114
  rw [f2] at i2
  have f3 : decide (100 ∈ ([99, 97, 113] : List Nat)) = false := by decide
  have i3 := in05_at [99, 97, 113] (by decide) 100
  rw [f3] at i3
  have f4 : decide (112 ∈ ([99, 97, 113] : List Nat)) = false := by decide
  have i4 := in05_at [99, 97, 113] (by decide) 112
  rw [f4] at i4
  have f5 : decide (97 ∈ ([99, 97, 113] : List Nat)) = true := by decide
  have i5 := in05_at [99, 97, 113] (by decide) 97
  rw [f5] at i5
  have f6 : decide (118 ∈ ([99, 97, 113] : List Nat)) = false := by decide
  have i6 := in05_at [99, 97, 113] (by decide) 118
  rw [f6] at i6
  have f7 : decide (105 ∈ ([99, 97, 113] : List Nat)) = false := by decide
  have i7 := in05_at [99, 97, 113] (by decide) 105
  rw [f7] at i7
  have f8 : decide (113 ∈ ([99, 97, 113] : List Nat)) = true := by decide
  have i8 := in05_at [99, 97, 113] (by decide) 113
  rw [f8] at i8
  have f9 : decide (101 ∈ ([99, 97, 113] : List Nat)) = false := by decide
  have i9 := in05_at [99, 97, 113] (by decide) 101
  rw [f9] at i9
  have f10 : decide (108 ∈ ([99, 97, 113] : List Nat)) = false := by decide
  have i10 := in05_at [99, 97, 113] (by decide) 108
  rw [f10] at i10
  refine ref05_zero.enter (by first | rfl | simp [SV.ok, SV.oks]) (by first | rfl | simp [Hp.ok, Ob.ok, SV.ok, SV.oks, Vec.cells_ok]) (by simp) ?_
  dsimp only [ref05_zero.s, Co.M, Co.G, Co.J, Co.H, Co.N, Co.F, Co.C, Co.Z, Co.B, Co.b8, Co.b32, Co.b64, Co.i6, Co.z8, Co.z29]
  have cz := And.intro hh True.intro
  refine SW.seq ?_
  refine SW.g1 [0, 1, 2, 3, 4] mixed bq_tt hh ?_
  refine SW.seq ?_
  refine SW.g1 [0, 1, 2, 3, 4] mixed bq_tt hh ?_
  refine SW.seq ?_
  refine SW.g1 [0, 1, 2, 3, 4] mixed bq_tt hh ?_
  refine SW.seq ?_
  have cz := And.intro i0 (And.intro i1 (And.intro i2 (And.intro i3 (And.intro i4 (And.intro i5 (And.intro i6 (And.intro i7 (And.intro i8 (And.intro i9 (And.intro i10 True.intro))))))))))
  refine SW.gB [0, 1, 2, 3, 4] mixed (hl) cz ?_
  rcases z1 : ((o.to : Int) == 0) with _ | _
  · refine RW.gE (hl) cz ?_
    refine SW.ret ?_
    exact End.mk [] (h4 := ⟨by simp only [zeroV, f0, f1, f2, f3, f4, f5, f6, f7, f8, f9, f10, z1, Bool.true_or, Bool.or_true, Bool.false_or, Bool.and_false, Bool.false_and, Bool.true_and, Bool.and_true, Bool.or_false]; rfl, rfl⟩)
  refine RW.gG (hl) cz ?_
  rcases z2 : ((o.roles : Int) == 0) with _ | _
  · refine RW.gE (hl) cz ?_
    refine SW.ret ?_
    exact End.mk [] (h4 := ⟨by simp only [zeroV, f0, f1, f2, f3, f4, f5, f6, f7, f8, f9, f10, z1, z2, Bool.true_or, Bool.or_true, Bool.false_or, Bool.and_false, Bool.false_and, Bool.true_and, Bool.and_true, Bool.or_false]; rfl, rfl⟩)
  refine RW.gG (hl) cz ?_
  rcases z3 : ((o.depth : Int) == 0) with _ | _
  · refine RW.gE (hl) cz ?_
    refine SW.ret ?_
    exact End.mk [] (h4 := ⟨by simp only [zeroV, f0, f1, f2, f3, f4, f5, f6, f7, f8, f9, f10, z1, z2, z3, Bool.true_or, Bool.or_true, Bool.false_or, Bool.and_false, Bool.false_and, Bool.true_and, Bool.and_true, Bool.or_false]; rfl, rfl⟩)
  refine RW.gG (hl) cz ?_
  rcases z4 : ((o.cap : Int) == 0) with _ | _
  · refine RW.gE (hl) cz ?_
    refine SW.ret ?_
    exact End.mk [] (h4 := ⟨by simp only [zeroV, f0, f1, f2, f3, f4, f5, f6, f7, f8, f9, f10, z1, z2, z3, z4, Bool.true_or, Bool.or_true, Bool.false_or, Bool.and_false, Bool.false_and, Bool.true_and, Bool.and_true, Bool.or_false]; rfl, rfl⟩)
  refine RW.gG (hl) cz ?_
  rcases z6 : decide (o.ver = (⟨0, 0⟩ : Dt)) with _ | _
  · refine RW.gE (hl) cz ?_
    refine SW.ret ?_
    exact End.mk [] (h4 := ⟨by simp only [zeroV, f0, f1, f2, f3, f4, f5, f6, f7, f8, f9, f10, z1, z2, z3, z4, z6, Bool.true_or, Bool.or_true, Bool.false_or, Bool.and_false, Bool.false_and, Bool.true_and, Bool.and_true, Bool.or_false]; rfl, rfl⟩)
  refine RW.gG (hl) cz ?_
  rcases z7 : ((o.item : Int) == 0) with _ | _
  · refine RW.gE (hl) cz ?_
    refine SW.ret ?_
    exact End.mk [] (h4 := ⟨by simp only [zeroV, f0, f1, f2, f3, f4, f5, f6, f7, f8, f9, f10, z1, z2, z3, z4, z6, z7, Bool.true_or, Bool.or_true, Bool.false_or, Bool.and_false, Bool.false_and, Bool.true_and, Bool.and_true, Bool.or_false]; rfl, rfl⟩)
  refine RW.gG (hl) cz ?_
  rcases z9 : ((o.price : Int) == 0) with _ | _
  · refine RW.gE (hl) cz ?_
    refine SW.ret ?_
    exact End.mk [] (h4 := ⟨by simp only [zeroV, f0, f1, f2, f3, f4, f5, f6, f7, f8, f9, f10, z1, z2, z3, z4, z6, z7, z9, Bool.true_or, Bool.or_true, Bool.false_or, Bool.and_false, Bool.false_and, Bool.true_and, Bool.and_true, Bool.or_false]; rfl, rfl⟩)
  refine RW.gG (hl) cz ?_
  rcases z10 : ((nl : Int) == 0) with _ | _
  · refine RW.gE (hl) cz ?_
    refine SW.ret ?_
    exact End.mk [] (h4 := ⟨by simp only [zeroV, f0, f1, f2, f3, f4, f5, f6, f7, f8, f9, f10, z1, z2, z3, z4, z6, z7, z9, z10, Bool.true_or, Bool.or_true, Bool.false_or, Bool.and_false, Bool.false_and, Bool.true_and, Bool.and_true, Bool.or_false]; rfl, rfl⟩)
  refine RW.gE (hl) cz ?_
  refine SW.ret ?_
  exact End.mk [] (h4 := ⟨by simp only [zeroV, f0, f1, f2, f3, f4, f5, f6, f7, f8, f9, f10, z1, z2, z3, z4, z6, z7, z9, z10, Bool.true_or, Bool.or_true, Bool.false_or, Bool.and_self, Bool.true_and, Bool.and_true]; rfl, rfl⟩)
end Go.Proofs.YtnakpdoioammhaaDoor
namespace Go.Proofs.YtnakpdoioammhaaDoor
open Go.Sl Go.Proofs
attribute [local irreducible] SW RW SCd SC CallP Pruned
set_option maxHeartbeats 4000000 in
theorem zero_y (o : OpD) (nl : Nat) (cs : List DV) (hl : o.lines = .sl nl cs) (hk : o.kind < 256) (hS : hasK o.kind = [99, 97, 118]) : Go.Sl.Pure Tryd.prog ref05_zero.f [.agg o.cells] (bl (zeroV [99, 97, 118] o nl)) := by
  have hh := has05_at o.kind hk
  rw [hS] at hh
  have f0 : decide (99 ∈ ([99, 97, 118] : List Nat)) = true := by decide
  have i0 := in05_at [99, 97, 118] (by decide) 99
  rw [f0] at i0
  have f1 : decide (116 ∈ ([99, 97, 118] : List Nat)) = false := by decide
  have i1 := in05_at [99, 97, 118] (by decide) 116
  rw [f1] at i1
  have f2 : decide (114 ∈ ([99, 97, 118] : List Nat)) = false := by decide
  have i2 := in05_at [99, 97, 118] (by decide) 114
  rw [f2] at i2
  have f3 : decide (100 ∈ ([99, 97, 118] : List Nat)) = false := by decide
  have i3 := in05_at [99, 97, 118] (by decide) 100
  rw [f3] at i3
  have f4 : decide (112 ∈ ([99, 97, 118] : List Nat)) = false := by decide
  have i4 := in05_at [99, 97, 118] (by decide) 112
  rw [f4] at i4
  have f5 : decide (97 ∈ ([99, 97, 118] : List Nat)) = true := by decide
  have i5 := in05_at [99, 97, 118] (by decide) 97
  rw [f5] at i5
  have f6 : decide (118 ∈ ([99, 97, 118] : List Nat)) = true := by decide
  have i6 := in05_at [99, 97, 118] (by decide) 118
  rw [f6] at i6
  have f7 : decide (105 ∈ ([99, 97, 118] : List Nat)) = false := by decide
  have i7 := in05_at [99, 97, 118] (by decide) 105
  rw [f7] at i7
  have f8 : decide (113 ∈ ([99, 97, 118] : List Nat)) = false := by decide
  have i8 := in05_at [99, 97, 118] (by decide) 113
  rw [f8] at i8
  have f9 : decide (101 ∈ ([99, 97, 118] : List Nat)) = false := by decide
  have i9 := in05_at [99, 97, 118] (by decide) 101
  rw [f9] at i9
  have f10 : decide (108 ∈ ([99, 97, 118] : List Nat)) = false := by decide
  have i10 := in05_at [99, 97, 118] (by decide) 108
  rw [f10] at i10
  refine ref05_zero.enter (by first | rfl | simp [SV.ok, SV.oks]) (by first | rfl | simp [Hp.ok, Ob.ok, SV.ok, SV.oks, Vec.cells_ok]) (by simp) ?_
  dsimp only [ref05_zero.s, Co.M, Co.G, Co.J, Co.H, Co.N, Co.F, Co.C, Co.Z, Co.B, Co.b8, Co.b32, Co.b64, Co.i6, Co.z8, Co.z29]
  have cz := And.intro hh True.intro
  refine SW.seq ?_
  refine SW.g1 [0, 1, 2, 3, 4] mixed bq_tt hh ?_
  refine SW.seq ?_
  refine SW.g1 [0, 1, 2, 3, 4] mixed bq_tt hh ?_
  refine SW.seq ?_
  refine SW.g1 [0, 1, 2, 3, 4] mixed bq_tt hh ?_
  refine SW.seq ?_
  have cz := And.intro i0 (And.intro i1 (And.intro i2 (And.intro i3 (And.intro i4 (And.intro i5 (And.intro i6 (And.intro i7 (And.intro i8 (And.intro i9 (And.intro i10 True.intro))))))))))
  refine SW.gB [0, 1, 2, 3, 4] mixed (hl) cz ?_
  rcases z1 : ((o.to : Int) == 0) with _ | _
  · refine RW.gE (hl) cz ?_
    refine SW.ret ?_
    exact End.mk [] (h4 := ⟨by simp only [zeroV, f0, f1, f2, f3, f4, f5, f6, f7, f8, f9, f10, z1, Bool.true_or, Bool.or_true, Bool.false_or, Bool.and_false, Bool.false_and, Bool.true_and, Bool.and_true, Bool.or_false]; rfl, rfl⟩)
  refine RW.gG (hl) cz ?_
  rcases z2 : ((o.roles : Int) == 0) with _ | _
  · refine RW.gE (hl) cz ?_
    refine SW.ret ?_
    exact End.mk [] (h4 := ⟨by simp only [zeroV, f0, f1, f2, f3, f4, f5, f6, f7, f8, f9, f10, z1, z2, Bool.true_or, Bool.or_true, Bool.false_or, Bool.and_false, Bool.false_and, Bool.true_and, Bool.and_true, Bool.or_false]; rfl, rfl⟩)
  refine RW.gG (hl) cz ?_
  rcases z3 : ((o.depth : Int) == 0) with _ | _
  · refine RW.gE (hl) cz ?_
    refine SW.ret ?_
    exact End.mk [] (h4 := ⟨by simp only [zeroV, f0, f1, f2, f3, f4, f5, f6, f7, f8, f9, f10, z1, z2, z3, Bool.true_or, Bool.or_true, Bool.false_or, Bool.and_false, Bool.false_and, Bool.true_and, Bool.and_true, Bool.or_false]; rfl, rfl⟩)
  refine RW.gG (hl) cz ?_
  rcases z4 : ((o.cap : Int) == 0) with _ | _
  · refine RW.gE (hl) cz ?_
    refine SW.ret ?_
    exact End.mk [] (h4 := ⟨by simp only [zeroV, f0, f1, f2, f3, f4, f5, f6, f7, f8, f9, f10, z1, z2, z3, z4, Bool.true_or, Bool.or_true, Bool.false_or, Bool.and_false, Bool.false_and, Bool.true_and, Bool.and_true, Bool.or_false]; rfl, rfl⟩)
  refine RW.gG (hl) cz ?_
  rcases z7 : ((o.item : Int) == 0) with _ | _
  · refine RW.gE (hl) cz ?_
    refine SW.ret ?_
    exact End.mk [] (h4 := ⟨by simp only [zeroV, f0, f1, f2, f3, f4, f5, f6, f7, f8, f9, f10, z1, z2, z3, z4, z7, Bool.true_or, Bool.or_true, Bool.false_or, Bool.and_false, Bool.false_and, Bool.true_and, Bool.and_true, Bool.or_false]; rfl, rfl⟩)
  refine RW.gG (hl) cz ?_
  rcases z8 : ((o.qty : Int) == 0) with _ | _
  · refine RW.gE (hl) cz ?_
    refine SW.ret ?_
    exact End.mk [] (h4 := ⟨by simp only [zeroV, f0, f1, f2, f3, f4, f5, f6, f7, f8, f9, f10, z1, z2, z3, z4, z7, z8, Bool.true_or, Bool.or_true, Bool.false_or, Bool.and_false, Bool.false_and, Bool.true_and, Bool.and_true, Bool.or_false]; rfl, rfl⟩)
  refine RW.gG (hl) cz ?_
  rcases z9 : ((o.price : Int) == 0) with _ | _
  · refine RW.gE (hl) cz ?_
    refine SW.ret ?_
    exact End.mk [] (h4 := ⟨by simp only [zeroV, f0, f1, f2, f3, f4, f5, f6, f7, f8, f9, f10, z1, z2, z3, z4, z7, z8, z9, Bool.true_or, Bool.or_true, Bool.false_or, Bool.and_false, Bool.false_and, Bool.true_and, Bool.and_true, Bool.or_false]; rfl, rfl⟩)
  refine RW.gG (hl) cz ?_
  rcases z10 : ((nl : Int) == 0) with _ | _
  · refine RW.gE (hl) cz ?_
    refine SW.ret ?_
    exact End.mk [] (h4 := ⟨by simp only [zeroV, f0, f1, f2, f3, f4, f5, f6, f7, f8, f9, f10, z1, z2, z3, z4, z7, z8, z9, z10, Bool.true_or, Bool.or_true, Bool.false_or, Bool.and_false, Bool.false_and, Bool.true_and, Bool.and_true, Bool.or_false]; rfl, rfl⟩)
  refine RW.gE (hl) cz ?_
  refine SW.ret ?_
  exact End.mk [] (h4 := ⟨by simp only [zeroV, f0, f1, f2, f3, f4, f5, f6, f7, f8, f9, f10, z1, z2, z3, z4, z7, z8, z9, z10, Bool.true_or, Bool.or_true, Bool.false_or, Bool.and_self, Bool.true_and, Bool.and_true]; rfl, rfl⟩)
end Go.Proofs.YtnakpdoioammhaaDoor
namespace Go.Proofs.YtnakpdoioammhaaDoor
open Go.Sl Go.Proofs
attribute [local irreducible] SW RW SCd SC CallP Pruned
set_option maxHeartbeats 4000000 in
theorem zero_z (o : OpD) (nl : Nat) (cs : List DV) (hl : o.lines = .sl nl cs) (hk : o.kind < 256) (hS : hasK o.kind = [99, 108]) : Go.Sl.Pure Tryd.prog ref05_zero.f [.agg o.cells] (bl (zeroV [99, 108] o nl)) := by
  have hh := has05_at o.kind hk
  rw [hS] at hh
  have f0 : decide (99 ∈ ([99, 108] : List Nat)) = true := by decide
  have i0 := in05_at [99, 108] (by decide) 99
  rw [f0] at i0
  have f1 : decide (116 ∈ ([99, 108] : List Nat)) = false := by decide
  have i1 := in05_at [99, 108] (by decide) 116
  rw [f1] at i1
  have f2 : decide (114 ∈ ([99, 108] : List Nat)) = false := by decide
  have i2 := in05_at [99, 108] (by decide) 114
  rw [f2] at i2
  have f3 : decide (100 ∈ ([99, 108] : List Nat)) = false := by decide
  have i3 := in05_at [99, 108] (by decide) 100
  rw [f3] at i3
  have f4 : decide (112 ∈ ([99, 108] : List Nat)) = false := by decide
  have i4 := in05_at [99, 108] (by decide) 112
  rw [f4] at i4
  have f5 : decide (97 ∈ ([99, 108] : List Nat)) = false := by decide
  have i5 := in05_at [99, 108] (by decide) 97
  rw [f5] at i5
  have f6 : decide (118 ∈ ([99, 108] : List Nat)) = false := by decide
  have i6 := in05_at [99, 108] (by decide) 118
  rw [f6] at i6
  have f7 : decide (105 ∈ ([99, 108] : List Nat)) = false := by decide
  have i7 := in05_at [99, 108] (by decide) 105
  rw [f7] at i7
  have f8 : decide (113 ∈ ([99, 108] : List Nat)) = false := by decide
  have i8 := in05_at [99, 108] (by decide) 113
  rw [f8] at i8
  have f9 : decide (101 ∈ ([99, 108] : List Nat)) = false := by decide
  have i9 := in05_at [99, 108] (by decide) 101
  rw [f9] at i9
  have f10 : decide (108 ∈ ([99, 108] : List Nat)) = true := by decide
  have i10 := in05_at [99, 108] (by decide) 108
  rw [f10] at i10
  refine ref05_zero.enter (by first | rfl | simp [SV.ok, SV.oks]) (by first | rfl | simp [Hp.ok, Ob.ok, SV.ok, SV.oks, Vec.cells_ok]) (by simp) ?_
  dsimp only [ref05_zero.s, Co.M, Co.G, Co.J, Co.H, Co.N, Co.F, Co.C, Co.Z, Co.B, Co.b8, Co.b32, Co.b64, Co.i6, Co.z8, Co.z29]
  have cz := And.intro hh True.intro
  refine SW.seq ?_
  refine SW.g1 [0, 1, 2, 3, 4] mixed bq_tt hh ?_
  refine SW.seq ?_
  refine SW.g1 [0, 1, 2, 3, 4] mixed bq_tt hh ?_
  refine SW.seq ?_
  refine SW.g1 [0, 1, 2, 3, 4] mixed bq_tt hh ?_
  refine SW.seq ?_
  have cz := And.intro i0 (And.intro i1 (And.intro i2 (And.intro i3 (And.intro i4 (And.intro i5 (And.intro i6 (And.intro i7 (And.intro i8 (And.intro i9 (And.intro i10 True.intro))))))))))
  refine SW.gB [0, 1, 2, 3, 4] mixed (hl) cz ?_
  rcases z1 : ((o.to : Int) == 0) with _ | _
  · refine RW.gE (hl) cz ?_
    refine SW.ret ?_
    exact End.mk [] (h4 := ⟨by simp only [zeroV, f0, f1, f2, f3, f4, f5, f6, f7, f8, f9, f10, z1, Bool.true_or, Bool.or_true, Bool.false_or, Bool.and_false, Bool.false_and, Bool.true_and, Bool.and_true, Bool.or_false]; rfl, rfl⟩)
  refine RW.gG (hl) cz ?_
  rcases z2 : ((o.roles : Int) == 0) with _ | _
  · refine RW.gE (hl) cz ?_
    refine SW.ret ?_
    exact End.mk [] (h4 := ⟨by simp only [zeroV, f0, f1, f2, f3, f4, f5, f6, f7, f8, f9, f10, z1, z2, Bool.true_or, Bool.or_true, Bool.false_or, Bool.and_false, Bool.false_and, Bool.true_and, Bool.and_true, Bool.or_false]; rfl, rfl⟩)
  refine RW.gG (hl) cz ?_
  rcases z3 : ((o.depth : Int) == 0) with _ | _
  · refine RW.gE (hl) cz ?_
    refine SW.ret ?_
    exact End.mk [] (h4 := ⟨by simp only [zeroV, f0, f1, f2, f3, f4, f5, f6, f7, f8, f9, f10, z1, z2, z3, Bool.true_or, Bool.or_true, Bool.false_or, Bool.and_false, Bool.false_and, Bool.true_and, Bool.and_true, Bool.or_false]; rfl, rfl⟩)
  refine RW.gG (hl) cz ?_
  rcases z4 : ((o.cap : Int) == 0) with _ | _
  · refine RW.gE (hl) cz ?_
    refine SW.ret ?_
    exact End.mk [] (h4 := ⟨by simp only [zeroV, f0, f1, f2, f3, f4, f5, f6, f7, f8, f9, f10, z1, z2, z3, z4, Bool.true_or, Bool.or_true, Bool.false_or, Bool.and_false, Bool.false_and, Bool.true_and, Bool.and_true, Bool.or_false]; rfl, rfl⟩)
  refine RW.gG (hl) cz ?_
  rcases z5 : decide (o.at_ = (⟨0, 0⟩ : Dt)) with _ | _
  · refine RW.gE (hl) cz ?_
    refine SW.ret ?_
    exact End.mk [] (h4 := ⟨by simp only [zeroV, f0, f1, f2, f3, f4, f5, f6, f7, f8, f9, f10, z1, z2, z3, z4, z5, Bool.true_or, Bool.or_true, Bool.false_or, Bool.and_false, Bool.false_and, Bool.true_and, Bool.and_true, Bool.or_false]; rfl, rfl⟩)
  refine RW.gG (hl) cz ?_
  rcases z6 : decide (o.ver = (⟨0, 0⟩ : Dt)) with _ | _
  · refine RW.gE (hl) cz ?_
    refine SW.ret ?_
    exact End.mk [] (h4 := ⟨by simp only [zeroV, f0, f1, f2, f3, f4, f5, f6, f7, f8, f9, f10, z1, z2, z3, z4, z5, z6, Bool.true_or, Bool.or_true, Bool.false_or, Bool.and_false, Bool.false_and, Bool.true_and, Bool.and_true, Bool.or_false]; rfl, rfl⟩)
  refine RW.gG (hl) cz ?_
  rcases z7 : ((o.item : Int) == 0) with _ | _
  · refine RW.gE (hl) cz ?_
    refine SW.ret ?_
    exact End.mk [] (h4 := ⟨by simp only [zeroV, f0, f1, f2, f3, f4, f5, f6, f7, f8, f9, f10, z1, z2, z3, z4, z5, z6, z7, Bool.true_or, Bool.or_true, Bool.false_or, Bool.and_false, Bool.false_and, Bool.true_and, Bool.and_true, Bool.or_false]; rfl, rfl⟩)
  refine RW.gG (hl) cz ?_
  rcases z8 : ((o.qty : Int) == 0) with _ | _
  · refine RW.gE (hl) cz ?_
    refine SW.ret ?_
    exact End.mk [] (h4 := ⟨by simp only [zeroV, f0, f1, f2, f3, f4, f5, f6, f7, f8, f9, f10, z1, z2, z3, z4, z5, z6, z7, z8, Bool.true_or, Bool.or_true, Bool.false_or, Bool.and_false, Bool.false_and, Bool.true_and, Bool.and_true, Bool.or_false]; rfl, rfl⟩)
  refine RW.gG (hl) cz ?_
  rcases z9 : ((o.price : Int) == 0) with _ | _
  · refine RW.gE (hl) cz ?_
    refine SW.ret ?_
    exact End.mk [] (h4 := ⟨by simp only [zeroV, f0, f1, f2, f3, f4, f5, f6, f7, f8, f9, f10, z1, z2, z3, z4, z5, z6, z7, z8, z9, Bool.true_or, Bool.or_true, Bool.false_or, Bool.and_false, Bool.false_and, Bool.true_and, Bool.and_true, Bool.or_false]; rfl, rfl⟩)
  refine RW.gE (hl) cz ?_
  refine SW.ret ?_
  exact End.mk [] (h4 := ⟨by simp only [zeroV, f0, f1, f2, f3, f4, f5, f6, f7, f8, f9, f10, z1, z2, z3, z4, z5, z6, z7, z8, z9, Bool.true_or, Bool.or_true, Bool.false_or, Bool.and_self, Bool.true_and, Bool.and_true]; rfl, rfl⟩)
end Go.Proofs.YtnakpdoioammhaaDoor
