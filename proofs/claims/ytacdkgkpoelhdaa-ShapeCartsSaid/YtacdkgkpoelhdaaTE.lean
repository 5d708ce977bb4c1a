/-
  Operations' forms: which fields a kind has, and which letters a text has.
-/
import Derived.Test.YtacdkgkpoelhdaaT6
import Derived.Test.YtacdkgkpoelhdaaTV
import Derived.Test.YtacdkgkpoelhdaaT5
import Derived.Test.YtacdkgkpoelhdaaT4
import Derived.Test.YtacdkgkpoelhdaaTA
set_option linter.unusedSectionVars false
set_option linter.unusedVariables false
set_option linter.unusedSimpArgs false
namespace Go.Proofs.Ytacdkgkpoelhdaa
open Go.Sl Go.Proofs
attribute [local irreducible] SW RW SCd SC CallP Pruned
theorem lit9 {P : Program} {env : List (Nat × SV)} {hp : Hp} {k d : Nat} {r : List SI} {K : St → List (Bool × List Nat) → Prop} {z : List SV} {ps : List (Nat × Nat × X)}
    (hz : z = [.d (.str []), .d (.str []), .d (.str []), .d (.str []), .d (.str []), .d (.str []), .d (.str []), .d (.str []), .d (.str [])])
    (hp' : ps = [(0, 1, .k (.d (.str []))), (1, 1, .k (.d (.str [99, 116, 114, 100, 112]))), (2, 1, .k (.d (.str [99, 97]))), (3, 1, .k (.d (.str [99, 105, 113, 101]))), (4, 1, .k (.d (.str [99, 97, 113]))), (5, 1, .k (.d (.str [99, 97]))), (6, 1, .k (.d (.str [99, 97, 118]))), (7, 1, .k (.d (.str [99, 97, 118]))), (8, 1, .k (.d (.str [99, 108])))])
    (h : RW P r ⟨(d, .d (.sl 9 (hasS.map .str))) :: env, hp, k⟩ fun st' ts => K st' ((false, []) :: ts)) : RW P (⟨some d, .bsl 9 1 9 z ps, none⟩ :: r) ⟨env, hp, k⟩ K := by
  subst hz; subst hp'
  refine RW.cons (e := ⟨.d (.sl 9 (hasS.map .str)), [], [], 0, _⟩) (fun crs => ⟨.frz :: crs, runOp_some (.inl rfl) rfl⟩) ?_ ?_
  · show 1 = 1 ∧ 0 + 1 ≤ 9 ∧ 1 = 1 ∧ 1 + 1 ≤ 9 ∧ 1 = 1 ∧ 2 + 1 ≤ 9 ∧ 1 = 1 ∧ 3 + 1 ≤ 9 ∧ 1 = 1 ∧ 4 + 1 ≤ 9 ∧ 1 = 1 ∧ 5 + 1 ≤ 9 ∧ 1 = 1 ∧ 6 + 1 ≤ 9 ∧ 1 = 1 ∧ 7 + 1 ≤ 9 ∧ 1 = 1 ∧ 8 + 1 ≤ 9 ∧ True
    decide
  · exact h
theorem has05_ok (kind : Nat) (h256 : kind < 256) : Go.Sl.Pure Try.prog ref05_Has.f [u8 kind] (.d (.str (hasK kind))) := by
  refine ref05_Has.enter (by first | rfl | simp [SV.ok, SV.oks]) (by first | rfl | simp [Hp.ok, Ob.ok, SV.ok, SV.oks, Vec.cells_ok]) (by simp) ?_
  unfold ref05_Has.s
  refine SW.seq ?_
  refine SW.g0 [0, 2, 3, 9] mixed bq_tt ?_
  refine SW.seq ?_
  (refine SW.regL [0, 2, 3, 9] mixed ?_; (repeat (first | refine RW.ro bq_tt (h := ?_) | refine RW.skip (h := ?_) | refine RW.op bq_tt (h := ?_) | refine RW.opN bq_tt (h := ?_) | refine RW.skip0 (h := ?_) | refine lit9 rfl rfl (h := ?_))); refine RW.nil ⟨by kernel_rfl, Pruned.mk (h := ?_)⟩)
  by_cases hk : kind < 9
  · have h1 : decide ((kind : Int) ≥ 9) = false := by simp; omega
    have e5 : (List.map SV.d (hasS.map DV.str))[kind]? = some (.d (.str (hasK kind))) := by
      have h9 : kind < hasS.length := hk
      rw [List.getElem?_map, List.getElem?_map]
      unfold hasK
      rw [List.getElem?_eq_getElem h9]; rfl
    have e6 : (List.map SV.d (hasS.map DV.str)).length = 9 := rfl
    have e7 : (hasS.map DV.str).length = 9 := rfl
    generalize hasS.map DV.str = row at e5 e6 e7 ⊢
    (repeat (first | refine SW.seq ?_ | refine SW.block ?_ | refine SW.g0 [0, 2, 3, 9] mixed (And.intro (h1) (And.intro (e5) (And.intro (e6) (e7)))) ?_ | refine SW.skip ?_ | refine SW.exit ?_ | refine SW.ret ?_ | refine SW.condT rfl ?_ | refine SW.condF rfl ?_))
    exact End.mk [] (h4 := ⟨rfl, rfl⟩)
  · have h1 : decide ((kind : Int) ≥ 9) = true := by simp; omega
    have e : hasK kind = [] := by
      unfold hasK
      rw [List.getElem?_eq_none (by show 9 ≤ kind; omega)]; rfl
    rw [e]
    generalize hasS.map DV.str = row
    (repeat (first | refine SW.seq ?_ | refine SW.block ?_ | refine SW.g0 [0, 2, 3, 9] mixed (h1) ?_ | refine SW.skip ?_ | refine SW.exit ?_ | refine SW.ret ?_ | refine SW.condT rfl ?_ | refine SW.condF rfl ?_))
    exact End.mk [] (h4 := ⟨rfl, rfl⟩)
theorem has05_at (kind : Nat) (h256 : kind < 256) (k : Nat) : SCd Try.prog ref05_Has.f [u8 kind] [] k 0 (.d (.str (hasK kind))) [] := (has05_ok kind h256).sc rfl k
theorem str_at {s : List Nat} {i x : Nat} (h : s[i]? = some x) : s.getD i 0 = x := by simp [h]
theorem in05_ok (s : List Nat) (hs : s.length < 4611686018427387904) (c : Nat) : Go.Sl.Pure Try.prog ref05_in.f [.d (.str s), u8 c] (bl (decide (c ∈ s))) := by
  refine ref05_in.enter (by first | rfl | simp [SV.ok, SV.oks]) (by first | rfl | simp [Hp.ok, Ob.ok, SV.ok, SV.oks, Vec.cells_ok]) (by simp) ?_
  unfold ref05_in.s
  refine SW.seq ?_
  refine SW.g0 [0, 1, 4, 5, 9, 16] mixed bq_tt ?_
  refine SW.seq (SW.seq ?_)
  refine SW.g0 [0, 1, 4, 5, 9, 16] mixed bq_tt ?_
  refine SW.block ?_
  refine SW.loopA (α := {i : Nat // i ≤ s.length ∧ c ∉ s.take i}) (fun i => ⟨[(5, i64 i.1), (0, .d (.str s)), (1, u8 c)], [], 0⟩) (fun i => s.length - i.1) ⟨0, by omega, by simp⟩ id bq_tt (round := ?_)
  rintro ⟨i, hi, hn⟩
  by_cases h : i < s.length
  · have h1 : decide ((i : Int) < s.length) = true := by simp only [decide_eq_true_eq]; omega
    obtain ⟨x, hx⟩ := get_of_lt h
    have e2 : IntKind.i64.wrap ((i : Int) + 1) = ((i + 1 : Nat) : Int) := wrap_i64 _ (by omega)
    have e4 := str_at hx
    by_cases he : x = c
    · have e3 : ((x : Int) == (c : Int)) = true := by rw [he]; simp
      (repeat (first | refine SW.seq ?_ | refine SW.block ?_ | refine SW.g0 [0, 1, 4, 5, 9, 16] mixed (And.intro (h1) (And.intro (e2) (And.intro (e3) (e4)))) ?_ | refine SW.skip ?_ | refine SW.exit ?_ | refine SW.ret ?_ | refine SW.condT rfl ?_ | refine SW.condF rfl ?_))
      have hm : c ∈ s := by rw [← he]; exact List.mem_of_getElem? hx
      exact End.mk [] (h4 := ⟨by simp [retV, hm], rfl⟩)
    · have e3 : ((x : Int) == (c : Int)) = false := by rw [Bool.eq_false_iff]; intro h; have := beq_iff_eq.mp h; omega
      (repeat (first | refine SW.seq ?_ | refine SW.block ?_ | refine SW.g0 [0, 1, 4, 5, 9, 16] mixed (And.intro (h1) (And.intro (e2) (And.intro (e3) (e4)))) ?_ | refine SW.skip ?_ | refine SW.exit ?_ | refine SW.ret ?_ | refine SW.condT rfl ?_ | refine SW.condF rfl ?_))
      dsimp only
      exact ⟨⟨i + 1, by omega, by rw [take_snoc hx]; simp [hn]; omega⟩, id, by show s.length - (i + 1) < _; omega, Weak.mk bq_tt⟩
  · have h1 : decide ((i : Int) < s.length) = false := by simp only [decide_eq_false_iff_not]; omega
    (repeat (first | refine SW.seq ?_ | refine SW.block ?_ | refine SW.g0 [0, 1, 4, 5, 9, 16] mixed (h1) ?_ | refine SW.skip ?_ | refine SW.exit ?_ | refine SW.ret ?_ | refine SW.condT rfl ?_ | refine SW.condF rfl ?_))
    rw [List.take_of_length_le (by omega)] at hn
    exact End.mk [] (h4 := ⟨by simp [retV, hn], rfl⟩)
theorem in05_at (s : List Nat) (hs : s.length < 4611686018427387904) (c : Nat) (k : Nat) : SCd Try.prog ref05_in.f [.d (.str s), u8 c] [] k 0 (bl (decide (c ∈ s))) [] := (in05_ok s hs c).sc rfl k
end Go.Proofs.Ytacdkgkpoelhdaa
namespace Go.Proofs.Ytacdkgkpoelhdaa
open Go.Sl Go.Proofs
attribute [local irreducible] SW RW SCd SC CallP Pruned
theorem dep_get (o : OpD) {r : Nat} (hr : r < 8) : o.cells[2 + r]? = some (.d (.int .u32 (o.dep.get r))) := by
  match r, hr with
  | 0, _ | 1, _ | 2, _ | 3, _ | 4, _ | 5, _ | 6, _ | 7, _ => rfl
theorem cov05_ok (o : OpD) (d : Dt) : Go.Sl.Pure Try.prog ref05_Covers.f [.agg o.cells, .agg d.cells] (bl (o.dep.covers d)) := by
  refine ref05_Covers.enter (by first | rfl | simp [SV.ok, SV.oks]) (by first | rfl | simp [Hp.ok, Ob.ok, SV.ok, SV.oks, Vec.cells_ok]) (by simp) ?_
  unfold ref05_Covers.s
  refine SW.seq ?_
  refine SW.g0 [0, 1, 2, 3, 4] mixed bq_tt ?_
  by_cases hr : d.r < 8
  · have h1 : decide ((d.r : Int) < 8) = true := by simp; omega
    by_cases hn : 1 ≤ d.n
    · have h2 : decide ((d.n : Int) ≥ 1) = true := by simp; omega
      have e : o.dep.covers d = decide (((o.dep.get d.r : Nat) : Int) ≥ ((d.n : Nat) : Int)) := by
        unfold Vec.covers Dt.may
        rw [Bool.eq_iff_iff]
        simp only [Bool.and_eq_true, decide_eq_true_eq]
        omega
      rw [e]
      refine SW.seq ?_
      refine SW.g0 [0, 1, 2, 3, 4] mixed (And.intro (h1) (And.intro (h2) (dep_get o hr))) ?_
      refine SW.ret ?_
      exact End.mk [] (h4 := ⟨rfl, rfl⟩)
    · have h2 : decide ((d.n : Int) ≥ 1) = false := by simp; omega
      have e : o.dep.covers d = false := by
        unfold Vec.covers Dt.may
        rw [Bool.eq_false_iff]
        simp only [ne_eq, Bool.and_eq_true, decide_eq_true_eq]
        omega
      rw [e]
      refine SW.seq ?_
      refine SW.g0 [0, 1, 2, 3, 4] mixed (And.intro (h1) (h2)) ?_
      refine SW.ret ?_
      exact End.mk [] (h4 := ⟨rfl, rfl⟩)
  · have h1 : decide ((d.r : Int) < 8) = false := by simp; omega
    have e : o.dep.covers d = false := by
      unfold Vec.covers Dt.may
      rw [Bool.eq_false_iff]
      simp only [ne_eq, Bool.and_eq_true, decide_eq_true_eq]
      omega
    rw [e]
    refine SW.seq ?_
    refine SW.g0 [0, 1, 2, 3, 4] mixed (h1) ?_
    refine SW.ret ?_
    exact End.mk [] (h4 := ⟨rfl, rfl⟩)
theorem cov05_at (o : OpD) (d : Dt) (k : Nat) : SCd Try.prog ref05_Covers.f [.agg o.cells, .agg d.cells] [] k 0 (bl (o.dep.covers d)) [] := (cov05_ok o d).sc rfl k
end Go.Proofs.Ytacdkgkpoelhdaa
namespace Go.Proofs.Ytacdkgkpoelhdaa
open Go.Sl Go.Proofs
attribute [local irreducible] SW RW SCd SC CallP Pruned
set_option maxHeartbeats 2000000 in
theorem there_ok (l : List OpD) (hl : l.length ≤ 9223372036854775807) (d : Dt) : Go.Sl.Pure Try.prog ref10_there.f [ops l, .agg d.cells] (.d (.int .i64 ((cntO l d : Nat) : Int))) := by
  refine ref10_there.enter (by first | rfl | simp [SV.ok, SV.oks]) (by first | rfl | simp [Hp.ok, Ob.ok, SV.ok, SV.oks, Vec.cells_ok]) (by simp) ?_
  unfold ref10_there.s
  refine SW.seq ?_
  refine SW.g0 [0, 1, 3, 4, 5, 6, 10, 19] mixed bq_tt ?_
  refine SW.seq ?_
  refine SW.g0 [0, 1, 3, 4, 5, 6, 10, 19] mixed bq_tt ?_
  refine SW.seq (SW.seq ?_)
  refine SW.g0 [0, 1, 3, 4, 5, 6, 10, 19] mixed bq_tt ?_
  refine SW.block ?_
  refine SW.loopA (α := {i : Nat // i ≤ l.length}) (fun i => ⟨[(6, i64 i.1), (5, .d (.int .i64 ((cntO (l.take i.1) d : Nat) : Int))), (0, ops l), (3, .ptr 0 0)], [(0, .box 37 d.cells)], 1⟩) (fun i => l.length - i.1) ⟨0, by omega⟩ id (And.intro (show cntO [] d = 0 from rfl) bq_tt) (round := ?_)
  rintro ⟨i, hi⟩
  dsimp only
  have hcl : cntO (l.take i) d ≤ i := Nat.le_trans List.countP_le_length (by simp; omega)
  by_cases h : i < l.length
  · have h1 : decide ((i : Int) < l.length) = true := by simp only [decide_eq_true_eq]; omega
    obtain ⟨x, hx⟩ := get_of_lt h
    have e2 : IntKind.i64.wrap ((i : Int) + 1) = ((i + 1 : Nat) : Int) := wrap_i64 _ (by omega)
    have e1 : l.take (i + 1) = l.take i ++ [x] := take_snoc hx
    have hsn := cntO_snoc (l.take i) x d
    rw [← e1] at hsn
    generalize cntO (l.take i) d = n at hcl hsn
    have e3 : IntKind.i64.wrap ((n : Int) + 1) = ((n + 1 : Nat) : Int) := wrap_i64 _ (by omega)
    by_cases he : x.dot = d
    · have e4 : decide (x.dot = d) = true := by simp [he]
      rw [if_pos he] at hsn
      (repeat (first | refine SW.seq ?_ | refine SW.block ?_ | refine SW.g0 [0, 1, 3, 4, 5, 6, 10, 19] mixed (And.intro (h1) (And.intro (op_load hx) (And.intro (op_roomd hx) (And.intro (e2) (And.intro (e3) (e4)))))) ?_ | refine SW.skip ?_ | refine SW.exit ?_ | refine SW.ret ?_ | refine SW.condT rfl ?_ | refine SW.condF rfl ?_))
      dsimp only
      exact ⟨⟨i + 1, by omega⟩, id, by show l.length - (i + 1) < _; omega, Weak.mk (And.intro hsn bq_tt)⟩
    · have e4 : decide (x.dot = d) = false := by simp [he]
      rw [if_neg he] at hsn
      (repeat (first | refine SW.seq ?_ | refine SW.block ?_ | refine SW.g0 [0, 1, 3, 4, 5, 6, 10, 19] mixed (And.intro (h1) (And.intro (op_load hx) (And.intro (op_roomd hx) (And.intro (e2) (e4))))) ?_ | refine SW.skip ?_ | refine SW.exit ?_ | refine SW.ret ?_ | refine SW.condT rfl ?_ | refine SW.condF rfl ?_))
      dsimp only
      exact ⟨⟨i + 1, by omega⟩, id, by show l.length - (i + 1) < _; omega, Weak.mk (And.intro hsn bq_tt)⟩
  · have h1 : decide ((i : Int) < l.length) = false := by simp only [decide_eq_false_iff_not]; omega
    have h2 : i = l.length := by omega
    subst h2
    rw [List.take_length]
    (repeat (first | refine SW.seq ?_ | refine SW.block ?_ | refine SW.g0 [0, 1, 3, 4, 5, 6, 10, 19] mixed (h1) ?_ | refine SW.skip ?_ | refine SW.exit ?_ | refine SW.ret ?_ | refine SW.condT rfl ?_ | refine SW.condF rfl ?_))
    exact End.mk [] (h4 := ⟨rfl, rfl⟩)
theorem there_at (l : List OpD) (hl : l.length ≤ 9223372036854775807) (d : Dt) (k : Nat) : SCd Try.prog ref10_there.f [ops l, .agg d.cells] [] k 0 (.d (.int .i64 ((cntO l d : Nat) : Int))) [] := (there_ok l hl d).sc rfl k
end Go.Proofs.Ytacdkgkpoelhdaa
namespace Go.Proofs.Ytacdkgkpoelhdaa
open Go.Sl Go.Proofs Go.RowKit
attribute [local irreducible] SW RW SCd SC CallP Pruned
theorem cm_at {l : List Cm} {i : Nat} {x : Cm} (h : l[i]? = some x) : List.take 4 (List.drop (i * 4) (List.map SV.d (l.flatMap Cm.ds))) = x.line.cells ++ x.ver.cells := by
  rw [← List.map_drop, ← List.map_take, flat_take Cm.ds 4 (fun _ => rfl) l i x h]
  rfl
theorem cm_line {l : List Cm} {i : Nat} {x : Cm} (h : l[i]? = some x) : List.take 2 (List.drop (i * 4) (List.map SV.d (l.flatMap Cm.ds))) = x.line.cells := by
  have h1 : List.take 2 (List.drop (i * 4) (List.map SV.d (l.flatMap Cm.ds))) = (List.take 4 (List.drop (i * 4) (List.map SV.d (l.flatMap Cm.ds)))).take 2 := by rw [List.take_take]; rfl
  rw [h1, cm_at h]; rfl
theorem cm_ver {l : List Cm} {i : Nat} {x : Cm} (h : l[i]? = some x) : List.take 2 (List.drop (i * 4 + 2) (List.map SV.d (l.flatMap Cm.ds))) = x.ver.cells := by
  have h1 : List.take 2 (List.drop (i * 4 + 2) (List.map SV.d (l.flatMap Cm.ds))) = (List.take 4 (List.drop (i * 4) (List.map SV.d (l.flatMap Cm.ds)))).drop 2 := by rw [List.drop_take, List.drop_drop]
  rw [h1, cm_at h]; rfl
theorem cm_room {l : List Cm} {i : Nat} {x : Cm} (h : l[i]? = some x) : (i * 4 + 2 ≤ (List.map SV.d (l.flatMap Cm.ds)).length) = True := eq_true (by
  have := lt_of_get h
  rw [List.length_map, cms_len]
  omega)
theorem cm_room2 {l : List Cm} {i : Nat} {x : Cm} (h : l[i]? = some x) : (i * 4 + 2 + 2 ≤ (List.map SV.d (l.flatMap Cm.ds)).length) = True := eq_true (by
  have := lt_of_get h
  rw [List.length_map, cms_len]
  omega)
theorem lines_bad {o : OpD} {cl : List Cm} {i : Nat} {x : Cm} (hx : cl[i]? = some x) (h : okL o x (cl.take i) = false) : linesV o cl = false := by
  unfold linesV
  rw [Bool.and_eq_false_iff]
  refine .inr ?_
  rw [List.all_eq_false]
  refine ⟨i, List.mem_range.2 (lt_of_get hx), ?_⟩
  unfold okAt
  rw [hx]
  simp [h]
set_option maxHeartbeats 4000000 in
theorem lines05_ok (o : OpD) (cl : List Cm) (hlen : cl.length ≤ 9223372036854775807) (hl : o.lines = .sl cl.length (cl.flatMap Cm.ds)) : Go.Sl.Pure Try.prog ref05_lines.f [.agg o.cells] (bl (linesV o cl)) := by
  refine ref05_lines.enter (by first | rfl | simp [SV.ok, SV.oks]) (by first | rfl | simp [Hp.ok, Ob.ok, SV.ok, SV.oks, Vec.cells_ok]) (by simp) ?_
  unfold ref05_lines.s
  refine SW.seq ?_
  refine SW.g0 [0, 1, 2, 3, 4, 14, 19, 41, 44, 59] mixed bq_tt ?_
  by_cases h1 : cl.length < 1
  · have e1 : decide ((cl.length : Int) < 1) = true := by simp; omega
    have evl : linesV o cl = false := by unfold linesV; rw [decide_eq_false (by omega)]; rfl
    rw [evl]
    refine SW.seq (SW.seq ?_)
    refine SW.g0 [0, 1, 2, 3, 4, 14, 19, 41, 44, 59] mixed (And.intro (hl) (e1)) ?_
    refine SW.condT rfl (SW.seq ?_)
    refine SW.g0 [0, 1, 2, 3, 4, 14, 19, 41, 44, 59] mixed bq_tt ?_
    refine SW.ret ?_
    exact End.mk [] (h4 := ⟨rfl, rfl⟩)
  have e1 : decide ((cl.length : Int) < 1) = false := by simp; omega
  by_cases h2 : 16 < cl.length
  · have e2 : decide ((cl.length : Int) > 16) = true := by simp; omega
    have evl : linesV o cl = false := by unfold linesV; rw [decide_eq_false (by omega)]; rfl
    rw [evl]
    refine SW.seq (SW.seq ?_)
    refine SW.g0 [0, 1, 2, 3, 4, 14, 19, 41, 44, 59] mixed (And.intro (hl) (And.intro (e1) (e2))) ?_
    refine SW.condT rfl (SW.seq ?_)
    refine SW.g0 [0, 1, 2, 3, 4, 14, 19, 41, 44, 59] mixed bq_tt ?_
    refine SW.ret ?_
    exact End.mk [] (h4 := ⟨rfl, rfl⟩)
  have e2 : decide ((cl.length : Int) > 16) = false := by simp; omega
  refine SW.seq (SW.seq ?_)
  refine SW.g0 [0, 1, 2, 3, 4, 14, 19, 41, 44, 59] mixed (And.intro (hl) (And.intro (e1) (e2))) ?_
  refine SW.condF rfl (SW.skip ?_)
  refine SW.seq (SW.seq ?_)
  refine SW.g0 [0, 1, 2, 3, 4, 14, 19, 41, 44, 59] mixed bq_tt ?_
  refine SW.block ?_
  refine SW.loopA (α := {i : Nat // i ≤ cl.length ∧ ∀ j, j < i → okAt o cl j = true}) (fun i => ⟨[(3, i64 i.1), (1, .ptr 0 0)], [(0, .box 41 o.cells)], 1⟩) (fun i => cl.length - i.1) ⟨0, by omega, by omega⟩ id bq_tt (round := ?_)
  rintro ⟨i, hi, hs⟩
  by_cases h : i < cl.length
  · obtain ⟨x, hx⟩ := get_of_lt h
    have f1 : decide ((i : Int) < cl.length) = true := by simp; exact h
    have f2 : IntKind.i64.wrap ((i : Int) + 1) = ((i + 1 : Nat) : Int) := wrap_i64 _ (by omega)
    refine SW.seq (SW.seq ?_)
    refine SW.g0 [0, 1, 2, 3, 4, 14, 19, 41, 44, 59] mixed (And.intro (hl) (f1)) ?_
    refine SW.condT rfl (SW.skip ?_)
    refine SW.seq (SW.block (SW.seq (SW.seq ?_)))
    have c1 := cov05_at o x.line
    have c2 := cov05_at o x.ver
    rcases g1 : o.dep.covers x.line with _ | _
    · rw [lines_bad hx (by unfold okL; rw [g1]; rfl)]
      rw [g1] at c1
      refine SW.g1 [0, 1, 2, 3, 4, 14, 19, 41, 44, 59] mixed (And.intro (hl) (And.intro (cm_line hx) (cm_room hx))) c1 ?_
      refine SW.condT rfl ?_
      (repeat (first | refine SW.seq ?_ | refine SW.block ?_ | refine SW.g1 [0, 1, 2, 3, 4, 14, 19, 41, 44, 59] mixed bq_tt c1 ?_ | refine SW.skip ?_ | refine SW.exit ?_ | refine SW.ret ?_ | refine SW.condT rfl ?_ | refine SW.condF rfl ?_))
      exact End.mk [] (h4 := ⟨rfl, rfl⟩)
    rcases g2 : o.dep.covers x.ver with _ | _
    · rw [lines_bad hx (by unfold okL; rw [g1, g2]; rfl)]
      rw [g1] at c1
      rw [g2] at c2
      refine SW.g2 [0, 1, 2, 3, 4, 14, 19, 41, 44, 59] mixed (And.intro (hl) (And.intro (cm_line hx) (And.intro (cm_room hx) (And.intro (cm_ver hx) (cm_room2 hx))))) c1 c2 ?_
      refine SW.condT rfl ?_
      (repeat (first | refine SW.seq ?_ | refine SW.block ?_ | refine SW.g2 [0, 1, 2, 3, 4, 14, 19, 41, 44, 59] mixed bq_tt c1 c2 ?_ | refine SW.skip ?_ | refine SW.exit ?_ | refine SW.ret ?_ | refine SW.condT rfl ?_ | refine SW.condF rfl ?_))
      exact End.mk [] (h4 := ⟨rfl, rfl⟩)
    rw [g1] at c1
    rw [g2] at c2
    refine SW.g2 [0, 1, 2, 3, 4, 14, 19, 41, 44, 59] mixed (And.intro (hl) (And.intro (cm_line hx) (And.intro (cm_room hx) (And.intro (cm_ver hx) (cm_room2 hx))))) c1 c2 ?_
    refine SW.condF rfl (SW.skip ?_)
    refine SW.seq ?_
    refine SW.g0 [0, 1, 2, 3, 4, 14, 19, 41, 44, 59] mixed bq_tt ?_
    refine SW.block ?_
    refine SW.loopA (α := {k : Nat // k ≤ i ∧ ∀ j y, j < k → cl[j]? = some y → y.line ≠ x.line}) (fun k => ⟨[(4, i64 k.1), (3, i64 i), (1, .ptr 0 0)], [(0, .box 41 o.cells)], 1⟩) (fun k => i - k.1) ⟨0, by omega, by omega⟩ id bq_tt (round := ?_)
    rintro ⟨k, hk, hks⟩
    by_cases hki : k < i
    · obtain ⟨y, hy⟩ := get_of_lt (show k < cl.length by omega)
      have k1 : decide ((k : Int) < i) = true := by simp; exact hki
      have k2 : IntKind.i64.wrap ((k : Int) + 1) = ((k + 1 : Nat) : Int) := wrap_i64 _ (by omega)
      refine SW.seq (SW.seq ?_)
      refine SW.g0 [0, 1, 2, 3, 4, 14, 19, 41, 44, 59] mixed (k1) ?_
      refine SW.condT rfl (SW.skip ?_)
      refine SW.seq (SW.block (SW.seq ?_))
      by_cases hd : y.line = x.line
      · have k3 : decide (y.line = x.line) = true := decide_eq_true hd
        have hbad : okL o x (cl.take i) = false := by
          unfold okL
          rw [g1, g2, Bool.true_and, Bool.true_and, List.all_eq_false]
          exact ⟨y, List.mem_of_getElem? (by rw [List.getElem?_take_of_lt hki]; exact hy), by simp [hd]⟩
        rw [lines_bad hx hbad]
        refine SW.g0 [0, 1, 2, 3, 4, 14, 19, 41, 44, 59] mixed (And.intro (hl) (And.intro (cm_line hx) (And.intro (cm_room hx) (And.intro (cm_line hy) (And.intro (cm_room hy) (k3)))))) ?_
        refine SW.condT rfl ?_
        (repeat (first | refine SW.seq ?_ | refine SW.block ?_ | refine SW.g0 [0, 1, 2, 3, 4, 14, 19, 41, 44, 59] mixed bq_tt ?_ | refine SW.skip ?_ | refine SW.exit ?_ | refine SW.ret ?_ | refine SW.condT rfl ?_ | refine SW.condF rfl ?_))
        exact End.mk [] (h4 := ⟨rfl, rfl⟩)
      · have k3 : decide (y.line = x.line) = false := decide_eq_false hd
        refine SW.g0 [0, 1, 2, 3, 4, 14, 19, 41, 44, 59] mixed (And.intro (hl) (And.intro (cm_line hx) (And.intro (cm_room hx) (And.intro (cm_line hy) (And.intro (cm_room hy) (k3)))))) ?_
        refine SW.condF rfl (SW.skip ?_)
        refine SW.g0 [0, 1, 2, 3, 4, 14, 19, 41, 44, 59] mixed (k2) ?_
        dsimp only
        exact ⟨⟨k + 1, by omega, fun j z hj hz => by
          rcases Nat.lt_or_ge j k with hjk | hjk
          · exact hks j z hjk hz
          · have : j = k := by omega
            subst this
            rw [hy] at hz; injection hz with hz; subst hz; exact hd⟩, id, by show i - (k + 1) < _; omega, Weak.mk bq_tt⟩
    · have k1 : decide ((k : Int) < i) = false := by simp; omega
      (repeat (first | refine SW.seq ?_ | refine SW.block ?_ | refine SW.g0 [0, 1, 2, 3, 4, 14, 19, 41, 44, 59] mixed (And.intro (k1) (f2)) ?_ | refine SW.skip ?_ | refine SW.exit ?_ | refine SW.ret ?_ | refine SW.condT rfl ?_ | refine SW.condF rfl ?_))
      dsimp only
      refine ⟨⟨i + 1, by omega, fun j hj => ?_⟩, id, by show cl.length - (i + 1) < _; omega, Weak.mk bq_tt⟩
      rcases Nat.lt_or_ge j i with hji | hji
      · exact hs j hji
      · have : j = i := by omega
        subst this
        unfold okAt
        rw [hx]
        dsimp only
        unfold okL
        rw [g1, g2, Bool.true_and, Bool.true_and, List.all_eq_true]
        intro y hy
        obtain ⟨q, hq⟩ := List.mem_iff_getElem?.1 hy
        have hqj : q < j := by
          have := lt_of_get hq
          rw [List.length_take] at this; omega
        rw [List.getElem?_take_of_lt hqj] at hq
        have := hks q y (by omega) hq
        simp [this]
  · have f1 : decide ((i : Int) < cl.length) = false := by simp; omega
    have evl : linesV o cl = true := by
      unfold linesV
      rw [decide_eq_true (by omega), Bool.true_and, List.all_eq_true]
      intro j hj
      exact hs j (by have := List.mem_range.1 hj; omega)
    rw [evl]
    (repeat (first | refine SW.seq ?_ | refine SW.block ?_ | refine SW.g0 [0, 1, 2, 3, 4, 14, 19, 41, 44, 59] mixed (And.intro (hl) (f1)) ?_ | refine SW.skip ?_ | refine SW.exit ?_ | refine SW.ret ?_ | refine SW.condT rfl ?_ | refine SW.condF rfl ?_))
    exact End.mk [] (h4 := ⟨rfl, rfl⟩)
theorem lines05_at (o : OpD) (cl : List Cm) (hlen : cl.length ≤ 9223372036854775807) (hl : o.lines = .sl cl.length (cl.flatMap Cm.ds)) (k : Nat) : SCd Try.prog ref05_lines.f [.agg o.cells] [] k 0 (bl (linesV o cl)) [] := (lines05_ok o cl hlen hl).sc rfl k
end Go.Proofs.Ytacdkgkpoelhdaa
namespace Go.Proofs.Ytacdkgkpoelhdaa
open Go.Sl Go.Proofs
attribute [local irreducible] SW RW SCd SC CallP Pruned
theorem op_time {l : List OpD} {i : Nat} {x : OpD} (h : l[i]? = some x) : (List.map SV.d (l.flatMap OpD.ds))[i * 29 + 10]? = some (.d (.int .u64 x.time)) := by rw [op_get h (by omega)]; rfl
theorem op_dep {l : List OpD} {i : Nat} {x : OpD} (h : l[i]? = some x) : List.take 8 (List.drop (i * 29 + 2) (List.map SV.d (l.flatMap OpD.ds))) = x.dep.cells := by rw [op_part h (by omega)]; rfl
theorem op_room8 {l : List OpD} {i : Nat} {x : OpD} (h : l[i]? = some x) : (i * 29 + 2 + 8 ≤ (List.map SV.d (l.flatMap OpD.ds)).length) = True := op_room h (by omega)
theorem rabove_ok (a b : Vec) : Go.Sl.Pure Try.prog ref04_Above.f [.agg a.cells, .agg b.cells] (bl (a.above b)) := by
  refine ref04_Above.enter (by first | rfl | simp [SV.ok, SV.oks]) (by first | rfl | simp [Hp.ok, Ob.ok, SV.ok, SV.oks, Vec.cells_ok]) (by simp) ?_
  unfold ref04_Above.s
  refine SW.seq ?_
  refine SW.g0 [0, 1, 2, 3, 4, 5, 7, 16] mixed bq_tt ?_
  refine SW.seq (SW.seq ?_)
  refine SW.g0 [0, 1, 2, 3, 4, 5, 7, 16] mixed bq_tt ?_
  refine SW.block ?_
  refine SW.loopA (α := {i : Nat // i ≤ 8 ∧ ∀ r, r < i → b.get r ≤ a.get r}) (fun i => ⟨[(5, i64 i.1), (2, .ptr 0 0), (3, .ptr 1 0)], [(0, .box 25 a.cells), (1, .box 25 b.cells)], 2⟩) (fun i => 8 - i.1) ⟨0, by omega, by omega⟩ id bq_tt (round := ?_)
  rintro ⟨i, hi, hs⟩
  by_cases h : i < 8
  · have h1 : decide ((i : Int) < 8) = true := by simp; omega
    have e2 : IntKind.i64.wrap ((i : Int) + 1) = ((i + 1 : Nat) : Int) := wrap_i64 _ (by omega)
    rcases hc : decide (((a.get i : Nat) : Int) < ((b.get i : Nat) : Int)) with _ | _
    · (repeat (first | refine SW.seq ?_ | refine SW.block ?_ | refine SW.g0 [0, 1, 2, 3, 4, 5, 7, 16] mixed (And.intro (h1) (And.intro (a.cells_get h) (And.intro (b.cells_get h) (And.intro (hc) (e2))))) ?_ | refine SW.skip ?_ | refine SW.exit ?_ | refine SW.ret ?_ | refine SW.condT rfl ?_ | refine SW.condF rfl ?_))
      dsimp only
      exact ⟨⟨i + 1, by omega, fun r hr => by
        by_cases hri : r = i
        · subst hri; simp at hc; omega
        · exact hs r (by omega)⟩, id, by show 8 - (i + 1) < _; omega, Weak.mk bq_tt⟩
    · (repeat (first | refine SW.seq ?_ | refine SW.block ?_ | refine SW.g0 [0, 1, 2, 3, 4, 5, 7, 16] mixed (And.intro (h1) (And.intro (a.cells_get h) (And.intro (b.cells_get h) (hc)))) ?_ | refine SW.skip ?_ | refine SW.exit ?_ | refine SW.ret ?_ | refine SW.condT rfl ?_ | refine SW.condF rfl ?_))
      have : a.above b = false := by
        cases hab : a.above b with
        | false => rfl
        | true => have := Vec.above_iff.1 hab i h; simp at hc; omega
      exact End.mk [] (h4 := ⟨by rw [this]; rfl, rfl⟩)
  · have h1 : decide ((i : Int) < 8) = false := by simp; omega
    have : a.above b = true := Vec.above_iff.2 fun r hr => hs r (by omega)
    (repeat (first | refine SW.seq ?_ | refine SW.block ?_ | refine SW.g0 [0, 1, 2, 3, 4, 5, 7, 16] mixed (h1) ?_ | refine SW.skip ?_ | refine SW.exit ?_ | refine SW.ret ?_ | refine SW.condT rfl ?_ | refine SW.condF rfl ?_))
    exact End.mk [] (h4 := ⟨by rw [this]; rfl, rfl⟩)
theorem rabove_at (a b : Vec) (k : Nat) : SCd Try.prog ref04_Above.f [.agg a.cells, .agg b.cells] [] k 0 (bl (a.above b)) [] := (rabove_ok a b).sc rfl k
open Classical in
noncomputable def oneV (l : List OpD) (o : OpD) : Bool := decide (OneOf l o)
open Classical in
theorem oneV_no {l : List OpD} {o : OpD} (h : ¬ OneOf l o) : oneV l o = false := decide_eq_false h
open Classical in
theorem oneV_iff {l : List OpD} {o : OpD} : oneV l o = true ↔ OneOf l o := decide_eq_true_iff
set_option maxHeartbeats 4000000 in
theorem one_ok (l : List OpD) (hl : l.length ≤ 9223372036854775807) (o : OpD) (hd : o.dot.wf) : Go.Sl.Pure Try.prog ref10_one.f [ops l, .agg o.cells] (bl (oneV l o)) := by
  have hd2 : o.dot.n < 4294967296 := hd.2
  refine ref10_one.enter (by first | rfl | simp [SV.ok, SV.oks]) (by first | rfl | simp [Hp.ok, Ob.ok, SV.ok, SV.oks, Vec.cells_ok]) (by simp) ?_
  unfold ref10_one.s
  refine SW.seq ?_
  refine SW.g0 [0, 1, 3, 4, 5, 6, 30, 32, 51, 55, 84] mixed bq_tt ?_
  have t1 := there_at l hl o.dot
  have t2 : ∀ k, SCd Try.prog ref10_there.f [ops l, .agg [u8 o.dot.r, u32 (o.dot.n - 1)]] [] k 0 (.d (.int .i64 ((cntO l ⟨o.dot.r, o.dot.n - 1⟩ : Nat) : Int))) [] := there_at l hl ⟨o.dot.r, o.dot.n - 1⟩
  have cz := And.intro t1 (And.intro t2 True.intro)
  refine SW.seq (SW.seq ?_)
  refine SW.gB [0, 1, 3, 4, 5, 6, 30, 32, 51, 55, 84] mixed bq_tt cz ?_
  rcases a1 : (((cntO l o.dot : Nat) : Int) != 1) with _ | _
  rotate_left
  · rw [oneV_no fun h => by have := h.self; simp at a1; omega]
    refine RW.gE bq_tt cz ?_
    refine SW.condT rfl (SW.seq ?_)
    refine SW.g2 [0, 1, 3, 4, 5, 6, 30, 32, 51, 55, 84] mixed bq_tt t1 t2 ?_
    refine SW.ret ?_
    exact End.mk [] (h4 := ⟨rfl, rfl⟩)
  refine RW.gG bq_tt cz ?_
  have hself : cntO l o.dot = 1 := by simp at a1; omega
  rcases a2 : decide ((o.dot.n : Int) > 1) with _ | _
  · have hprev : 1 < o.dot.n → cntO l ⟨o.dot.r, o.dot.n - 1⟩ = 1 := fun h => by simp at a2; omega
    refine RW.gE bq_tt cz ?_
    refine SW.condF rfl (SW.skip ?_)
    refine SW.seq (SW.seq ?_)
    refine SW.g2 [0, 1, 3, 4, 5, 6, 30, 32, 51, 55, 84] mixed bq_tt t1 t2 ?_
    refine SW.block ?_
    refine SW.loopA (α := {i : Nat // i ≤ 8 ∧ ∀ r, r < i → 0 < o.dep.get r → cntO l ⟨r, o.dep.get r⟩ = 1}) (fun i => ⟨[(5, i64 i.1), (3, .ptr 0 0), (0, ops l)], [(0, .box 41 o.cells)], 1⟩) (fun i => 8 - i.1) ⟨0, by omega, by omega⟩ id bq_tt (round := ?_)
    rintro ⟨i, hi, hs⟩
    by_cases h : i < 8
    · have h1 : decide ((i : Int) < 8) = true := by simp; omega
      have e2 : IntKind.i64.wrap ((i : Int) + 1) = ((i + 1 : Nat) : Int) := wrap_i64 _ (by omega)
      have e4 : IntKind.u8.wrap (i : Int) = (i : Int) := wrap_u8' _ (by omega)
      have t3 : ∀ k, SCd Try.prog ref10_there.f [ops l, .agg [u8 i, u32 (o.dep.get i)]] [] k 0 (.d (.int .i64 ((cntO l ⟨i, o.dep.get i⟩ : Nat) : Int))) [] := there_at l hl ⟨i, o.dep.get i⟩
      have cz := And.intro t3 True.intro
      refine SW.seq (SW.seq ?_)
      refine SW.g1 [0, 1, 3, 4, 5, 6, 30, 32, 51, 55, 84] mixed (h1) t3 ?_
      refine SW.condT rfl (SW.skip ?_)
      refine SW.seq (SW.block (SW.seq ?_))
      rcases c1 : decide ((o.dep.get i : Int) > 0) with _ | _
      · refine SW.g1 [0, 1, 3, 4, 5, 6, 30, 32, 51, 55, 84] mixed (And.intro (dep_get o h) (And.intro (c1) (e4))) t3 ?_
        refine SW.condF rfl (SW.skip ?_)
        refine SW.g1 [0, 1, 3, 4, 5, 6, 30, 32, 51, 55, 84] mixed (e2) t3 ?_
        dsimp only
        exact ⟨⟨i + 1, by omega, fun r hr hp => by
          by_cases hri : r = i
          · subst hri; simp at c1; omega
          · exact hs r (by omega) hp⟩, id, by show 8 - (i + 1) < _; omega, Weak.mk bq_tt⟩
      · rcases c2 : (((cntO l ⟨i, o.dep.get i⟩ : Nat) : Int) != 1) with _ | _
        · refine SW.g1 [0, 1, 3, 4, 5, 6, 30, 32, 51, 55, 84] mixed (And.intro (dep_get o h) (And.intro (c1) (And.intro (c2) (e4)))) t3 ?_
          refine SW.condF rfl (SW.skip ?_)
          refine SW.g1 [0, 1, 3, 4, 5, 6, 30, 32, 51, 55, 84] mixed (e2) t3 ?_
          dsimp only
          exact ⟨⟨i + 1, by omega, fun r hr hp => by
            by_cases hri : r = i
            · subst hri; simp at c2; omega
            · exact hs r (by omega) hp⟩, id, by show 8 - (i + 1) < _; omega, Weak.mk bq_tt⟩
        · rw [oneV_no fun h' => by have := h'.deps i h (by simp at c1; omega); simp at c2; omega]
          refine SW.g1 [0, 1, 3, 4, 5, 6, 30, 32, 51, 55, 84] mixed (And.intro (dep_get o h) (And.intro (c1) (And.intro (c2) (e4)))) t3 ?_
          refine SW.condT rfl (SW.seq ?_)
          refine SW.g1 [0, 1, 3, 4, 5, 6, 30, 32, 51, 55, 84] mixed bq_tt t3 ?_
          refine SW.ret ?_
          exact End.mk [] (h4 := ⟨rfl, rfl⟩)
    have h1 : decide ((i : Int) < 8) = false := by simp; omega
    have hdeps : ∀ r, r < 8 → 0 < o.dep.get r → cntO l ⟨r, o.dep.get r⟩ = 1 := fun r h1 h2 => hs r (by omega) h2
    refine SW.seq (SW.seq ?_)
    refine SW.g0 [0, 1, 3, 4, 5, 6, 30, 32, 51, 55, 84] mixed (h1) ?_
    refine SW.condF rfl (SW.exit ?_)
    refine SW.seq (SW.seq ?_)
    refine SW.g0 [0, 1, 3, 4, 5, 6, 30, 32, 51, 55, 84] mixed bq_tt ?_
    refine SW.block ?_
    refine SW.loopA (α := {i : Nat // i ≤ l.length ∧ ∀ j x, j < i → l[j]? = some x → x.before o = true → x.time < o.time ∧ o.dep.above x.dep = true}) (fun i => ⟨[(6, i64 i.1), (3, .ptr 0 0), (0, ops l)], [(0, .box 41 o.cells)], 1⟩) (fun i => l.length - i.1) ⟨0, by omega, by omega⟩ id bq_tt (round := ?_)
    rintro ⟨i, hi, hs⟩
    by_cases h : i < l.length
    · have h1 : decide ((i : Int) < l.length) = true := by simp; exact h
      have e2 : IntKind.i64.wrap ((i : Int) + 1) = ((i + 1 : Nat) : Int) := wrap_i64 _ (by omega)
      obtain ⟨x, hx⟩ := get_of_lt h
      have rb := rbefore_at x o
      have ra := rabove_at o.dep x.dep
      refine SW.seq (SW.seq ?_)
      refine SW.g0 [0, 1, 3, 4, 5, 6, 30, 32, 51, 55, 84] mixed (h1) ?_
      refine SW.condT rfl (SW.skip ?_)
      refine SW.seq (SW.block (SW.seq ?_))
      have good : ((x.before o = true → x.time < o.time ∧ o.dep.above x.dep = true)) → ∀ j y, j < i + 1 → l[j]? = some y → y.before o = true → y.time < o.time ∧ o.dep.above y.dep = true := fun hg j y hj hy => by
        by_cases hji : j = i
        · subst hji; rw [hx] at hy; injection hy with hy; subst hy; exact hg
        · exact hs j y (by omega) hy
      have bad : ¬ (x.before o = true → x.time < o.time ∧ o.dep.above x.dep = true) → oneV l o = false := fun hb => oneV_no fun h' => hb (h'.bef x (List.mem_of_getElem? hx))
      rcases g1 : x.before o with _ | _ <;> rw [g1] at rb
      · 
        have cz := And.intro rb True.intro
        refine SW.g1 [0, 1, 3, 4, 5, 6, 30, 32, 51, 55, 84] mixed (And.intro (op_at hx) (op_room0 hx)) rb ?_
        refine SW.condF rfl (SW.skip ?_)
        refine SW.g1 [0, 1, 3, 4, 5, 6, 30, 32, 51, 55, 84] mixed (e2) rb ?_
        dsimp only
        exact ⟨⟨i + 1, by omega, good (fun h => by rw [g1] at h; cases h)⟩, id, by show l.length - (i + 1) < _; omega, Weak.mk bq_tt⟩
      rcases g2 : decide ((x.time : Int) ≥ o.time) with _ | _
      rotate_left
      · rw [bad fun h' => by have := (h' g1).1; simp at g2; omega]
        refine SW.g1 [0, 1, 3, 4, 5, 6, 30, 32, 51, 55, 84] mixed (And.intro (op_at hx) (And.intro (op_room0 hx) (And.intro (op_time hx) (And.intro (op_dep hx) (And.intro (op_room8 hx) (g2)))))) rb ?_
        refine SW.condT rfl (SW.seq ?_)
        refine SW.g1 [0, 1, 3, 4, 5, 6, 30, 32, 51, 55, 84] mixed bq_tt rb ?_
        refine SW.ret ?_
        exact End.mk [] (h4 := ⟨rfl, rfl⟩)
      rcases g3 : o.dep.above x.dep with _ | _ <;> rw [g3] at ra
      · rw [bad fun h' => by have := (h' g1).2; rw [g3] at this; cases this]
        have cz := And.intro rb (And.intro ra True.intro)
        refine SW.g2 [0, 1, 3, 4, 5, 6, 30, 32, 51, 55, 84] mixed (And.intro (op_at hx) (And.intro (op_room0 hx) (And.intro (op_time hx) (And.intro (op_dep hx) (And.intro (op_room8 hx) (g2)))))) rb ra ?_
        refine SW.condT rfl (SW.seq ?_)
        refine SW.g2 [0, 1, 3, 4, 5, 6, 30, 32, 51, 55, 84] mixed bq_tt rb ra ?_
        refine SW.ret ?_
        exact End.mk [] (h4 := ⟨rfl, rfl⟩)
      · refine SW.g2 [0, 1, 3, 4, 5, 6, 30, 32, 51, 55, 84] mixed (And.intro (op_at hx) (And.intro (op_room0 hx) (And.intro (op_time hx) (And.intro (op_dep hx) (And.intro (op_room8 hx) (g2)))))) rb ra ?_
        refine SW.condF rfl (SW.skip ?_)
        refine SW.g2 [0, 1, 3, 4, 5, 6, 30, 32, 51, 55, 84] mixed (e2) rb ra ?_
        dsimp only
        exact ⟨⟨i + 1, by omega, good (fun _ => ⟨by simp at g2; omega, g3⟩)⟩, id, by show l.length - (i + 1) < _; omega, Weak.mk bq_tt⟩
    have h1 : decide ((i : Int) < l.length) = false := by simp; omega
    have hone : oneV l o = true := oneV_iff.2 ⟨hself, hprev, hdeps, fun a ha hb => by
      obtain ⟨j, hj⟩ := List.mem_iff_getElem?.1 ha
      exact hs j a (by have := lt_of_get hj; omega) hj hb⟩
    rw [hone]
    (repeat (first | refine SW.seq ?_ | refine SW.block ?_ | refine SW.g0 [0, 1, 3, 4, 5, 6, 30, 32, 51, 55, 84] mixed (h1) ?_ | refine SW.skip ?_ | refine SW.exit ?_ | refine SW.ret ?_ | refine SW.condT rfl ?_ | refine SW.condF rfl ?_))
    exact End.mk [] (h4 := ⟨rfl, rfl⟩)
  · have e3 : IntKind.u32.wrap ((o.dot.n : Int) - 1) = ((o.dot.n - 1 : Nat) : Int) := by simp at a2; rw [wrap_u32' _ (by omega)]; omega
    have cz := And.intro t1 (And.intro t2 True.intro)
    refine RW.gG (e3) cz ?_
    rcases a3 : (((cntO l ⟨o.dot.r, o.dot.n - 1⟩ : Nat) : Int) != 1) with _ | _
    rotate_left
    · rw [oneV_no fun h => by have := h.prev (by simp at a2; omega); simp at a3; omega]
      refine RW.gE bq_tt cz ?_
      refine SW.condT rfl (SW.seq ?_)
      refine SW.g2 [0, 1, 3, 4, 5, 6, 30, 32, 51, 55, 84] mixed bq_tt t1 t2 ?_
      refine SW.ret ?_
      exact End.mk [] (h4 := ⟨rfl, rfl⟩)
    have hprev : 1 < o.dot.n → cntO l ⟨o.dot.r, o.dot.n - 1⟩ = 1 := fun h => by simp at a3; omega
    refine RW.gE bq_tt cz ?_
    refine SW.condF rfl (SW.skip ?_)
    refine SW.seq (SW.seq ?_)
    refine SW.g2 [0, 1, 3, 4, 5, 6, 30, 32, 51, 55, 84] mixed bq_tt t1 t2 ?_
    refine SW.block ?_
    refine SW.loopA (α := {i : Nat // i ≤ 8 ∧ ∀ r, r < i → 0 < o.dep.get r → cntO l ⟨r, o.dep.get r⟩ = 1}) (fun i => ⟨[(5, i64 i.1), (3, .ptr 0 0), (0, ops l)], [(0, .box 41 o.cells)], 1⟩) (fun i => 8 - i.1) ⟨0, by omega, by omega⟩ id bq_tt (round := ?_)
    rintro ⟨i, hi, hs⟩
    by_cases h : i < 8
    · have h1 : decide ((i : Int) < 8) = true := by simp; omega
      have e2 : IntKind.i64.wrap ((i : Int) + 1) = ((i + 1 : Nat) : Int) := wrap_i64 _ (by omega)
      have e4 : IntKind.u8.wrap (i : Int) = (i : Int) := wrap_u8' _ (by omega)
      have t3 : ∀ k, SCd Try.prog ref10_there.f [ops l, .agg [u8 i, u32 (o.dep.get i)]] [] k 0 (.d (.int .i64 ((cntO l ⟨i, o.dep.get i⟩ : Nat) : Int))) [] := there_at l hl ⟨i, o.dep.get i⟩
      have cz := And.intro t3 True.intro
      refine SW.seq (SW.seq ?_)
      refine SW.g1 [0, 1, 3, 4, 5, 6, 30, 32, 51, 55, 84] mixed (h1) t3 ?_
      refine SW.condT rfl (SW.skip ?_)
      refine SW.seq (SW.block (SW.seq ?_))
      rcases c1 : decide ((o.dep.get i : Int) > 0) with _ | _
      · refine SW.g1 [0, 1, 3, 4, 5, 6, 30, 32, 51, 55, 84] mixed (And.intro (dep_get o h) (And.intro (c1) (e4))) t3 ?_
        refine SW.condF rfl (SW.skip ?_)
        refine SW.g1 [0, 1, 3, 4, 5, 6, 30, 32, 51, 55, 84] mixed (e2) t3 ?_
        dsimp only
        exact ⟨⟨i + 1, by omega, fun r hr hp => by
          by_cases hri : r = i
          · subst hri; simp at c1; omega
          · exact hs r (by omega) hp⟩, id, by show 8 - (i + 1) < _; omega, Weak.mk bq_tt⟩
      · rcases c2 : (((cntO l ⟨i, o.dep.get i⟩ : Nat) : Int) != 1) with _ | _
        · refine SW.g1 [0, 1, 3, 4, 5, 6, 30, 32, 51, 55, 84] mixed (And.intro (dep_get o h) (And.intro (c1) (And.intro (c2) (e4)))) t3 ?_
          refine SW.condF rfl (SW.skip ?_)
          refine SW.g1 [0, 1, 3, 4, 5, 6, 30, 32, 51, 55, 84] mixed (e2) t3 ?_
          dsimp only
          exact ⟨⟨i + 1, by omega, fun r hr hp => by
            by_cases hri : r = i
            · subst hri; simp at c2; omega
            · exact hs r (by omega) hp⟩, id, by show 8 - (i + 1) < _; omega, Weak.mk bq_tt⟩
        · rw [oneV_no fun h' => by have := h'.deps i h (by simp at c1; omega); simp at c2; omega]
          refine SW.g1 [0, 1, 3, 4, 5, 6, 30, 32, 51, 55, 84] mixed (And.intro (dep_get o h) (And.intro (c1) (And.intro (c2) (e4)))) t3 ?_
          refine SW.condT rfl (SW.seq ?_)
          refine SW.g1 [0, 1, 3, 4, 5, 6, 30, 32, 51, 55, 84] mixed bq_tt t3 ?_
          refine SW.ret ?_
          exact End.mk [] (h4 := ⟨rfl, rfl⟩)
    have h1 : decide ((i : Int) < 8) = false := by simp; omega
    have hdeps : ∀ r, r < 8 → 0 < o.dep.get r → cntO l ⟨r, o.dep.get r⟩ = 1 := fun r h1 h2 => hs r (by omega) h2
    refine SW.seq (SW.seq ?_)
    refine SW.g0 [0, 1, 3, 4, 5, 6, 30, 32, 51, 55, 84] mixed (h1) ?_
    refine SW.condF rfl (SW.exit ?_)
    refine SW.seq (SW.seq ?_)
    refine SW.g0 [0, 1, 3, 4, 5, 6, 30, 32, 51, 55, 84] mixed bq_tt ?_
    refine SW.block ?_
    refine SW.loopA (α := {i : Nat // i ≤ l.length ∧ ∀ j x, j < i → l[j]? = some x → x.before o = true → x.time < o.time ∧ o.dep.above x.dep = true}) (fun i => ⟨[(6, i64 i.1), (3, .ptr 0 0), (0, ops l)], [(0, .box 41 o.cells)], 1⟩) (fun i => l.length - i.1) ⟨0, by omega, by omega⟩ id bq_tt (round := ?_)
    rintro ⟨i, hi, hs⟩
    by_cases h : i < l.length
    · have h1 : decide ((i : Int) < l.length) = true := by simp; exact h
      have e2 : IntKind.i64.wrap ((i : Int) + 1) = ((i + 1 : Nat) : Int) := wrap_i64 _ (by omega)
      obtain ⟨x, hx⟩ := get_of_lt h
      have rb := rbefore_at x o
      have ra := rabove_at o.dep x.dep
      refine SW.seq (SW.seq ?_)
      refine SW.g0 [0, 1, 3, 4, 5, 6, 30, 32, 51, 55, 84] mixed (h1) ?_
      refine SW.condT rfl (SW.skip ?_)
      refine SW.seq (SW.block (SW.seq ?_))
      have good : ((x.before o = true → x.time < o.time ∧ o.dep.above x.dep = true)) → ∀ j y, j < i + 1 → l[j]? = some y → y.before o = true → y.time < o.time ∧ o.dep.above y.dep = true := fun hg j y hj hy => by
        by_cases hji : j = i
        · subst hji; rw [hx] at hy; injection hy with hy; subst hy; exact hg
        · exact hs j y (by omega) hy
      have bad : ¬ (x.before o = true → x.time < o.time ∧ o.dep.above x.dep = true) → oneV l o = false := fun hb => oneV_no fun h' => hb (h'.bef x (List.mem_of_getElem? hx))
      rcases g1 : x.before o with _ | _ <;> rw [g1] at rb
      · 
        have cz := And.intro rb True.intro
        refine SW.g1 [0, 1, 3, 4, 5, 6, 30, 32, 51, 55, 84] mixed (And.intro (op_at hx) (op_room0 hx)) rb ?_
        refine SW.condF rfl (SW.skip ?_)
        refine SW.g1 [0, 1, 3, 4, 5, 6, 30, 32, 51, 55, 84] mixed (e2) rb ?_
        dsimp only
        exact ⟨⟨i + 1, by omega, good (fun h => by rw [g1] at h; cases h)⟩, id, by show l.length - (i + 1) < _; omega, Weak.mk bq_tt⟩
      rcases g2 : decide ((x.time : Int) ≥ o.time) with _ | _
      rotate_left
      · rw [bad fun h' => by have := (h' g1).1; simp at g2; omega]
        refine SW.g1 [0, 1, 3, 4, 5, 6, 30, 32, 51, 55, 84] mixed (And.intro (op_at hx) (And.intro (op_room0 hx) (And.intro (op_time hx) (And.intro (op_dep hx) (And.intro (op_room8 hx) (g2)))))) rb ?_
        refine SW.condT rfl (SW.seq ?_)
        refine SW.g1 [0, 1, 3, 4, 5, 6, 30, 32, 51, 55, 84] mixed bq_tt rb ?_
        refine SW.ret ?_
        exact End.mk [] (h4 := ⟨rfl, rfl⟩)
      rcases g3 : o.dep.above x.dep with _ | _ <;> rw [g3] at ra
      · rw [bad fun h' => by have := (h' g1).2; rw [g3] at this; cases this]
        have cz := And.intro rb (And.intro ra True.intro)
        refine SW.g2 [0, 1, 3, 4, 5, 6, 30, 32, 51, 55, 84] mixed (And.intro (op_at hx) (And.intro (op_room0 hx) (And.intro (op_time hx) (And.intro (op_dep hx) (And.intro (op_room8 hx) (g2)))))) rb ra ?_
        refine SW.condT rfl (SW.seq ?_)
        refine SW.g2 [0, 1, 3, 4, 5, 6, 30, 32, 51, 55, 84] mixed bq_tt rb ra ?_
        refine SW.ret ?_
        exact End.mk [] (h4 := ⟨rfl, rfl⟩)
      · refine SW.g2 [0, 1, 3, 4, 5, 6, 30, 32, 51, 55, 84] mixed (And.intro (op_at hx) (And.intro (op_room0 hx) (And.intro (op_time hx) (And.intro (op_dep hx) (And.intro (op_room8 hx) (g2)))))) rb ra ?_
        refine SW.condF rfl (SW.skip ?_)
        refine SW.g2 [0, 1, 3, 4, 5, 6, 30, 32, 51, 55, 84] mixed (e2) rb ra ?_
        dsimp only
        exact ⟨⟨i + 1, by omega, good (fun _ => ⟨by simp at g2; omega, g3⟩)⟩, id, by show l.length - (i + 1) < _; omega, Weak.mk bq_tt⟩
    have h1 : decide ((i : Int) < l.length) = false := by simp; omega
    have hone : oneV l o = true := oneV_iff.2 ⟨hself, hprev, hdeps, fun a ha hb => by
      obtain ⟨j, hj⟩ := List.mem_iff_getElem?.1 ha
      exact hs j a (by have := lt_of_get hj; omega) hj hb⟩
    rw [hone]
    (repeat (first | refine SW.seq ?_ | refine SW.block ?_ | refine SW.g0 [0, 1, 3, 4, 5, 6, 30, 32, 51, 55, 84] mixed (h1) ?_ | refine SW.skip ?_ | refine SW.exit ?_ | refine SW.ret ?_ | refine SW.condT rfl ?_ | refine SW.condF rfl ?_))
    exact End.mk [] (h4 := ⟨rfl, rfl⟩)
theorem one_at (l : List OpD) (hl : l.length ≤ 9223372036854775807) (o : OpD) (hd : o.dot.wf) (k : Nat) : SCd Try.prog ref10_one.f [ops l, .agg o.cells] [] k 0 (bl (oneV l o)) [] := (one_ok l hl o hd).sc rfl k
end Go.Proofs.Ytacdkgkpoelhdaa
namespace Go.Proofs.Ytacdkgkpoelhdaa
open Go.Sl Go.Proofs
attribute [local irreducible] SW RW SCd SC CallP Pruned
theorem lit1 {P : Program} {env : List (Nat × SV)} {hp : Hp} {k d p : Nat} {r : List SI} {K : St → List (Bool × List Nat) → Prop} {a : OpD} {z : List SV} (hz : z = zOp)
    (ha : env.lookup p = some (.agg a.cells))
    (h : RW P r ⟨(d, ops [a]) :: env, hp, k⟩ fun st' ts => K st' ((false, []) :: ts)) : RW P (⟨some d, .bsl 41 29 1 z [(0, 29, .t p)], none⟩ :: r) ⟨env, hp, k⟩ K := by
  subst hz
  refine RW.cons (e := ⟨ops [a], [], [], 0, ((29 = 29 ∧ 0 + 29 ≤ 29 ∧ True))⟩) (fun crs => ⟨.frz :: crs, runOp_some (.inl rfl) ?_⟩) (by show 29 = 29 ∧ 0 + 29 ≤ 29 ∧ True; decide) ?_
  · have h1 : evp (fun t => env.lookup t) [(0, 29, X.t p)] = some [(0, 29, .agg a.cells)] := by
      simp only [evp, ev, ha]
    have h2 : bldS zOp [(0, 29, .agg a.cells)] = some (a.cells, ((29 = 29 ∧ 0 + 29 ≤ 29 ∧ True))) := rfl
    have h3 : datas a.cells = some ([a].flatMap OpD.ds) := rfl
    have h4 : a.cells.all SV.isOne = true := rfl
    simp only [goOp, sop, h1, h2, h3, h4, if_true, Bool.false_or]
    rfl
  · exact h
end Go.Proofs.Ytacdkgkpoelhdaa
