/-
  Shapes: the document's lines, versions, targets; why.
-/
import Derived.Test.YtlgfknfdfnaedaaGreatU6
import Derived.Test.YtlgfknfdfnaedaaGreatUL
import Derived.Test.YtlgfknfdfnaedaaGreatUE
set_option linter.unusedSectionVars false
set_option linter.unusedVariables false
set_option linter.unusedSimpArgs false
namespace Go.Proofs.YtlgfknfdfnaedaaGreat
open Go.Sl Go.Proofs
theorem tgtP_2 {l : List OpD} {o : OpD} {ab : Bool} (h : o.kind = 2) : tgtP l (newTr l).at_ (newTr l).made o ab = (crdP l (newTr l).at_ o.at_ o && ab) := by unfold tgtP; rw [if_pos h]
theorem tgtP_4 {l : List OpD} {o : OpD} {ab : Bool} (h : o.kind = 4 ∨ o.kind = 5) : tgtP l (newTr l).at_ (newTr l).made o ab = lineP l (newTr l).at_ (newTr l).made o.at_ o := by unfold tgtP; rw [if_neg (by omega), if_pos h]
theorem tgtP_6 {l : List OpD} {o : OpD} {ab : Bool} (h : o.kind = 6 ∨ o.kind = 7) : tgtP l (newTr l).at_ (newTr l).made o ab = clmP l (newTr l).at_ (newTr l).made ⟨o.at_, o.ver⟩ o := by unfold tgtP; rw [if_neg (by omega), if_neg (by omega), if_pos h]
theorem tgtP_8 {l : List OpD} {o : OpD} {ab : Bool} (h : o.kind = 8) : tgtP l (newTr l).at_ (newTr l).made o ab = !(o.cl.any fun c => !clmP l (newTr l).at_ (newTr l).made c o) := by unfold tgtP; rw [if_neg (by omega), if_neg (by omega), if_neg (by omega), if_pos h]
theorem tgtP_n {l : List OpD} {o : OpD} {ab : Bool} (h : o.kind ≠ 2 ∧ ¬ (4 ≤ o.kind ∧ o.kind ≤ 8)) : tgtP l (newTr l).at_ (newTr l).made o ab = true := by unfold tgtP; rw [if_neg (by omega), if_neg (by omega), if_neg (by omega), if_neg (by omega)]
section
attribute [local irreducible] SW RW SCd SC CallP Pruned
variable (l : List OpD) (hl : l.length < 1000000000) (hr : ∀ x, x ∈ l → x.roles < 256)
include hl hr
set_option maxHeartbeats 4000000 in
theorem tgtn_ok (o : OpD) (h : o.kind ≠ 2 ∧ ¬ (4 ≤ o.kind ∧ o.kind ≤ 8)) : Go.Sl.Pure Tryz.prog ref17_target.f [ops l, .agg o.cells] (bl true) := by
  have q2 : ((o.kind : Int) == 2) = false := by simp; omega
  have q4 : ((o.kind : Int) == 4) = false := by simp; omega
  have q5 : ((o.kind : Int) == 5) = false := by simp; omega
  have q6 : ((o.kind : Int) == 6) = false := by simp; omega
  have q7 : ((o.kind : Int) == 7) = false := by simp; omega
  have q8 : ((o.kind : Int) == 8) = false := by simp; omega
  refine ref17_target.enter (by first | rfl | simp [SV.ok, SV.oks]) (by first | rfl | simp [Hp.ok, Ob.ok, SV.ok, SV.oks, Vec.cells_ok]) (by simp) ?_
  dsimp only [ref17_target.s, Co.M, Co.G, Co.J, Co.H, Co.N, Co.F, Co.C, Co.Z, Co.B, Co.b8, Co.b32, Co.b64, Co.i6, Co.z8, Co.z29]
  (repeat (first | refine SW.seq ?_ | refine SW.block ?_ | refine SW.g0 [0, 1, 3, 4, 6, 7, 9, 10, 29, 45, 55, 61, 79] mixed (And.intro (q2) (And.intro (q4) (And.intro (q5) (And.intro (q6) (And.intro (q7) (q8)))))) ?_ | refine SW.skip ?_ | refine SW.exit ?_ | refine SW.ret ?_ | refine SW.condT rfl ?_ | refine SW.condF rfl ?_))
  exact End.mk [] (h4 := ⟨rfl, rfl⟩)
theorem whyn_at (o : OpD) (ho : o.roles < 256) (h : o.kind ≠ 2 ∧ ¬ (4 ≤ o.kind ∧ o.kind ≤ 8)) (k : Nat) : SCd Tryz.prog ref17_Why.f [ops l, .agg o.cells] [] k 0 (i64 (whyL l o)) [] := by
  have := (why17_ok l hl hr o ho true (fun k => (tgtn_ok l hl hr o h).sc rfl k) (fun _ => rfl)).sc rfl k
  unfold whyL whyP
  rw [tgtP_n h]
  exact this
set_option maxHeartbeats 4000000 in
theorem line17_ok (d c : Dt) : Go.Sl.Pure Tryz.prog ref17_Line.f [ops l, .agg d.cells, .agg c.cells] (bl (rlineP l d c)) := by
  have hf := rfind_at l hl d
  unfold rlineP
  refine ref17_Line.enter (by first | rfl | simp [SV.ok, SV.oks]) (by first | rfl | simp [Hp.ok, Ob.ok, SV.ok, SV.oks, Vec.cells_ok]) (by simp) ?_
  dsimp only [ref17_Line.s, Co.M, Co.G, Co.J, Co.H, Co.N, Co.F, Co.C, Co.Z, Co.B, Co.b8, Co.b32, Co.b64, Co.i6, Co.z8, Co.z29]
  cases hh : findO l d with
  | none =>
    rw [hh] at hf
    (repeat (first | refine SW.seq ?_ | refine SW.block ?_ | refine SW.g1 [0, 1, 2, 4, 5, 6, 7, 8] mixed bq_tt hf ?_ | refine SW.skip ?_ | refine SW.exit ?_ | refine SW.ret ?_ | refine SW.condT rfl ?_ | refine SW.condF rfl ?_))
    exact End.mk [] (h4 := ⟨rfl, rfl⟩)
  | some a =>
    rw [hh, opP_some hh] at hf
    dsimp only
    by_cases h3 : a.kind = 3
    rotate_left
    · have z : ((a.kind : Int) == 3) = false := by simp; omega
      rw [decide_eq_false h3]
      (repeat (first | refine SW.seq ?_ | refine SW.block ?_ | refine SW.g1 [0, 1, 2, 4, 5, 6, 7, 8] mixed (z) hf ?_ | refine SW.skip ?_ | refine SW.exit ?_ | refine SW.ret ?_ | refine SW.condT rfl ?_ | refine SW.condF rfl ?_))
      exact End.mk [] (h4 := ⟨rfl, rfl⟩)
    have z : ((a.kind : Int) == 3) = true := by rw [h3]; rfl
    rw [decide_eq_true h3]
    have hw := whyn_at l hl hr a (hr a (findO_some hh).1) (by omega)
    obtain ⟨w, hww⟩ : ∃ w, whyL l a = w := ⟨_, rfl⟩
    rw [hww] at hw ⊢
    have hz : ((w : Int) == 0) = decide (w = 0) := by rw [Bool.eq_iff_iff]; simp
    rcases h2 : decide (a.cart = c) with _ | _
    · (repeat (first | refine SW.seq ?_ | refine SW.block ?_ | refine SW.g2 [0, 1, 2, 4, 5, 6, 7, 8] mixed (And.intro (z) (h2)) hf hw ?_ | refine SW.skip ?_ | refine SW.exit ?_ | refine SW.ret ?_ | refine SW.condT rfl ?_ | refine SW.condF rfl ?_))
      exact End.mk [] (h4 := ⟨rfl, rfl⟩)
    · (repeat (first | refine SW.seq ?_ | refine SW.block ?_ | refine SW.g2 [0, 1, 2, 4, 5, 6, 7, 8] mixed (And.intro (z) (And.intro (h2) (hz))) hf hw ?_ | refine SW.skip ?_ | refine SW.exit ?_ | refine SW.ret ?_ | refine SW.condT rfl ?_ | refine SW.condF rfl ?_))
      exact End.mk [] (h4 := ⟨by simp only [Bool.true_and]; rfl, rfl⟩)
theorem line17_at (d c : Dt) (k : Nat) : SCd Tryz.prog ref17_Line.f [ops l, .agg d.cells, .agg c.cells] [] k 0 (bl (rlineP l d c)) [] := (line17_ok l hl hr d c).sc rfl k
set_option maxHeartbeats 4000000 in
theorem tgt4_ok (o : OpD) (h : o.kind = 4 ∨ o.kind = 5) : Go.Sl.Pure Tryz.prog ref17_target.f [ops l, .agg o.cells] (bl (lineP l (newTr l).at_ (newTr l).made o.at_ o)) := by
  have hL := line17_at l hl hr o.at_ o.cart
  have hb := b17_at l hl o.at_ o
  rw [line_ref]
  obtain ⟨x, hx⟩ : ∃ x, rlineP l o.at_ o.cart = x := ⟨_, rfl⟩
  obtain ⟨y, hy⟩ : ∃ y, befP l o.at_ o = y := ⟨_, rfl⟩
  rw [hx] at hL ⊢
  rw [hy] at hb ⊢
  have q2 : ((o.kind : Int) == 2) = false := by simp; omega
  refine ref17_target.enter (by first | rfl | simp [SV.ok, SV.oks]) (by first | rfl | simp [Hp.ok, Ob.ok, SV.ok, SV.oks, Vec.cells_ok]) (by simp) ?_
  dsimp only [ref17_target.s, Co.M, Co.G, Co.J, Co.H, Co.N, Co.F, Co.C, Co.Z, Co.B, Co.b8, Co.b32, Co.b64, Co.i6, Co.z8, Co.z29]
  by_cases h4 : o.kind = 4
  · have q4 : ((o.kind : Int) == 4) = true := by rw [h4]; rfl
    cases x
    · (repeat (first | refine SW.seq ?_ | refine SW.block ?_ | refine SW.g2 [0, 1, 3, 4, 6, 7, 9, 10, 29, 45, 55, 61, 79] mixed (And.intro (q2) (q4)) hL hb ?_ | refine SW.skip ?_ | refine SW.exit ?_ | refine SW.ret ?_ | refine SW.condT rfl ?_ | refine SW.condF rfl ?_))
      exact End.mk [] (h4 := ⟨rfl, rfl⟩)
    · (repeat (first | refine SW.seq ?_ | refine SW.block ?_ | refine SW.g2 [0, 1, 3, 4, 6, 7, 9, 10, 29, 45, 55, 61, 79] mixed (And.intro (q2) (q4)) hL hb ?_ | refine SW.skip ?_ | refine SW.exit ?_ | refine SW.ret ?_ | refine SW.condT rfl ?_ | refine SW.condF rfl ?_))
      exact End.mk [] (h4 := ⟨by simp only [Bool.true_and]; rfl, rfl⟩)
  · have q4 : ((o.kind : Int) == 4) = false := by simp; omega
    have q5 : ((o.kind : Int) == 5) = true := by rw [h.resolve_left h4]; rfl
    cases x
    · (repeat (first | refine SW.seq ?_ | refine SW.block ?_ | refine SW.g2 [0, 1, 3, 4, 6, 7, 9, 10, 29, 45, 55, 61, 79] mixed (And.intro (q2) (And.intro (q4) (q5))) hL hb ?_ | refine SW.skip ?_ | refine SW.exit ?_ | refine SW.ret ?_ | refine SW.condT rfl ?_ | refine SW.condF rfl ?_))
      exact End.mk [] (h4 := ⟨rfl, rfl⟩)
    · (repeat (first | refine SW.seq ?_ | refine SW.block ?_ | refine SW.g2 [0, 1, 3, 4, 6, 7, 9, 10, 29, 45, 55, 61, 79] mixed (And.intro (q2) (And.intro (q4) (q5))) hL hb ?_ | refine SW.skip ?_ | refine SW.exit ?_ | refine SW.ret ?_ | refine SW.condT rfl ?_ | refine SW.condF rfl ?_))
      exact End.mk [] (h4 := ⟨by simp only [Bool.true_and]; rfl, rfl⟩)
theorem why45_at (o : OpD) (ho : o.roles < 256) (h : o.kind = 4 ∨ o.kind = 5) (k : Nat) : SCd Tryz.prog ref17_Why.f [ops l, .agg o.cells] [] k 0 (i64 (whyL l o)) [] := by
  have := (why17_ok l hl hr o ho _ (fun k => (tgt4_ok l hl hr o h).sc rfl k) (fun h0 => by omega)).sc rfl k
  unfold whyL whyP
  rw [tgtP_4 h]
  exact this
set_option maxHeartbeats 4000000 in
theorem vers17_ok (d v : Dt) (o : OpD) : Go.Sl.Pure Tryz.prog ref17_version.f [ops l, .agg d.cells, .agg v.cells, .agg o.cells] (bl (clmP l (newTr l).at_ (newTr l).made ⟨d, v⟩ o)) := by
  have hL := line17_at l hl hr d o.cart
  have hb := b17_at l hl d o
  have hv := b17_at l hl v o
  have hf := rfind_at l hl v
  rw [clm_ref]
  dsimp only
  obtain ⟨x, hx⟩ : ∃ x, rlineP l d o.cart = x := ⟨_, rfl⟩
  obtain ⟨y, hy⟩ : ∃ y, befP l d o = y := ⟨_, rfl⟩
  rw [hx] at hL ⊢
  rw [hy] at hb ⊢
  refine ref17_version.enter (by first | rfl | simp [SV.ok, SV.oks]) (by first | rfl | simp [Hp.ok, Ob.ok, SV.ok, SV.oks, Vec.cells_ok]) (by simp) ?_
  dsimp only [ref17_version.s, Co.M, Co.G, Co.J, Co.H, Co.N, Co.F, Co.C, Co.Z, Co.B, Co.b8, Co.b32, Co.b64, Co.i6, Co.z8, Co.z29]
  refine SW.seq ?_
  refine SW.g0 [0, 1, 2, 3, 5, 6, 7, 8, 9, 10, 23, 26] mixed bq_tt ?_
  refine SW.seq (SW.seq ?_)
  cases x
  · refine SW.g2 [0, 1, 2, 3, 5, 6, 7, 8, 9, 10, 23, 26] mixed bq_tt hL hb ?_
    (repeat (first | refine SW.seq ?_ | refine SW.block ?_ | refine SW.g0 [0, 1, 2, 3, 5, 6, 7, 8, 9, 10, 23, 26] mixed bq_tt ?_ | refine SW.skip ?_ | refine SW.exit ?_ | refine SW.ret ?_ | refine SW.condT rfl ?_ | refine SW.condF rfl ?_))
    exact End.mk [] (h4 := ⟨rfl, rfl⟩)
  cases y
  · refine SW.g2 [0, 1, 2, 3, 5, 6, 7, 8, 9, 10, 23, 26] mixed bq_tt hL hb ?_
    (repeat (first | refine SW.seq ?_ | refine SW.block ?_ | refine SW.g0 [0, 1, 2, 3, 5, 6, 7, 8, 9, 10, 23, 26] mixed bq_tt ?_ | refine SW.skip ?_ | refine SW.exit ?_ | refine SW.ret ?_ | refine SW.condT rfl ?_ | refine SW.condF rfl ?_))
    exact End.mk [] (h4 := ⟨rfl, rfl⟩)
  refine SW.g2 [0, 1, 2, 3, 5, 6, 7, 8, 9, 10, 23, 26] mixed bq_tt hL hb ?_
  refine SW.condF rfl (SW.skip ?_)
  refine SW.seq (SW.seq ?_)
  rcases e1 : decide (v = d) with _ | _
  rotate_left
  · (repeat (first | refine SW.seq ?_ | refine SW.block ?_ | refine SW.g0 [0, 1, 2, 3, 5, 6, 7, 8, 9, 10, 23, 26] mixed (e1) ?_ | refine SW.skip ?_ | refine SW.exit ?_ | refine SW.ret ?_ | refine SW.condT rfl ?_ | refine SW.condF rfl ?_))
    exact End.mk [] (h4 := ⟨rfl, rfl⟩)
  refine SW.g0 [0, 1, 2, 3, 5, 6, 7, 8, 9, 10, 23, 26] mixed (e1) ?_
  refine SW.condF rfl (SW.skip ?_)
  cases hh : findO l v with
  | none =>
    rw [hh] at hf
    (repeat (first | refine SW.seq ?_ | refine SW.block ?_ | refine SW.g1 [0, 1, 2, 3, 5, 6, 7, 8, 9, 10, 23, 26] mixed bq_tt hf ?_ | refine SW.skip ?_ | refine SW.exit ?_ | refine SW.ret ?_ | refine SW.condT rfl ?_ | refine SW.condF rfl ?_))
    exact End.mk [] (h4 := ⟨rfl, rfl⟩)
  | some s =>
    rw [hh, opP_some hh] at hf
    dsimp only
    by_cases h4 : s.kind = 4
    rotate_left
    · have z : ((s.kind : Int) == 4) = false := by simp; omega
      rw [decide_eq_false h4]
      (repeat (first | refine SW.seq ?_ | refine SW.block ?_ | refine SW.g1 [0, 1, 2, 3, 5, 6, 7, 8, 9, 10, 23, 26] mixed (z) hf ?_ | refine SW.skip ?_ | refine SW.exit ?_ | refine SW.ret ?_ | refine SW.condT rfl ?_ | refine SW.condF rfl ?_))
      exact End.mk [] (h4 := ⟨rfl, rfl⟩)
    have z : ((s.kind : Int) == 4) = true := by rw [h4]; rfl
    rw [decide_eq_true h4]
    have hw := why45_at l hl hr s (hr s (findO_some hh).1) (.inl h4)
    obtain ⟨w, hww⟩ : ∃ w, whyL l s = w := ⟨_, rfl⟩
    rw [hww] at hw ⊢
    have hz : ((w : Int) == 0) = decide (w = 0) := by rw [Bool.eq_iff_iff]; simp
    obtain ⟨u, hu⟩ : ∃ u, befP l v o = u := ⟨_, rfl⟩
    rw [hu] at hv ⊢
    rcases h2 : decide (s.at_ = d) with _ | _
    · (repeat (first | refine SW.seq ?_ | refine SW.block ?_ | refine SW.g4 [0, 1, 2, 3, 5, 6, 7, 8, 9, 10, 23, 26] mixed (And.intro (z) (h2)) hf hv hw trivial ?_ | refine SW.skip ?_ | refine SW.exit ?_ | refine SW.ret ?_ | refine SW.condT rfl ?_ | refine SW.condF rfl ?_))
      exact End.mk [] (h4 := ⟨rfl, rfl⟩)
    cases u
    · (repeat (first | refine SW.seq ?_ | refine SW.block ?_ | refine SW.g4 [0, 1, 2, 3, 5, 6, 7, 8, 9, 10, 23, 26] mixed (And.intro (z) (h2)) hf hv hw trivial ?_ | refine SW.skip ?_ | refine SW.exit ?_ | refine SW.ret ?_ | refine SW.condT rfl ?_ | refine SW.condF rfl ?_))
      exact End.mk [] (h4 := ⟨rfl, rfl⟩)
    · (repeat (first | refine SW.seq ?_ | refine SW.block ?_ | refine SW.g4 [0, 1, 2, 3, 5, 6, 7, 8, 9, 10, 23, 26] mixed (And.intro (z) (And.intro (h2) (hz))) hf hv hw trivial ?_ | refine SW.skip ?_ | refine SW.exit ?_ | refine SW.ret ?_ | refine SW.condT rfl ?_ | refine SW.condF rfl ?_))
      exact End.mk [] (h4 := ⟨by simp only [Bool.true_and, Bool.false_or]; rfl, rfl⟩)
theorem vers17_at (d v : Dt) (o : OpD) (k : Nat) : SCd Tryz.prog ref17_version.f [ops l, .agg d.cells, .agg v.cells, .agg o.cells] [] k 0 (bl (clmP l (newTr l).at_ (newTr l).made ⟨d, v⟩ o)) [] := (vers17_ok l hl hr d v o).sc rfl k
end
end Go.Proofs.YtlgfknfdfnaedaaGreat
namespace Go.Proofs.YtlgfknfdfnaedaaGreat
open Go.Sl Go.Proofs
theorem cm_line {l : List Cm} {i : Nat} {x : Cm} (h : l[i]? = some x) : List.take 2 (List.drop (i * 4) (List.map SV.d (l.flatMap Cm.ds))) = x.line.cells := by
  have := cm_load h
  rw [← x.s0, ← this, List.take_take]
  rfl
theorem cm_ver {l : List Cm} {i : Nat} {x : Cm} (h : l[i]? = some x) : List.take 2 (List.drop (i * 4 + 2) (List.map SV.d (l.flatMap Cm.ds))) = x.ver.cells := by
  have := cm_load h
  rw [← x.s2, ← this, List.drop_take, List.take_take, List.drop_drop]
  rfl
theorem cm_roomL {l : List Cm} {i : Nat} {x : Cm} (h : l[i]? = some x) : (i * 4 + 2 ≤ (List.map SV.d (l.flatMap Cm.ds)).length) = True := eq_true (by
  have := of_eq_true (cm_room17 h); omega)
theorem cm_roomV {l : List Cm} {i : Nat} {x : Cm} (h : l[i]? = some x) : (i * 4 + 2 + 2 ≤ (List.map SV.d (l.flatMap Cm.ds)).length) = True := eq_true (by
  have := of_eq_true (cm_room17 h); omega)
section
attribute [local irreducible] SW RW SCd SC CallP Pruned
variable (l : List OpD) (hl : l.length < 1000000000) (hr : ∀ x, x ∈ l → x.roles < 256)
include hl hr
set_option maxHeartbeats 4000000 in
theorem tgt6_ok (o : OpD) (h : o.kind = 6 ∨ o.kind = 7) : Go.Sl.Pure Tryz.prog ref17_target.f [ops l, .agg o.cells] (bl (clmP l (newTr l).at_ (newTr l).made ⟨o.at_, o.ver⟩ o)) := by
  have hv := vers17_at l hl hr o.at_ o.ver o
  obtain ⟨x, hx⟩ : ∃ x, clmP l (newTr l).at_ (newTr l).made ⟨o.at_, o.ver⟩ o = x := ⟨_, rfl⟩
  rw [hx] at hv ⊢
  have q2 : ((o.kind : Int) == 2) = false := by simp; omega
  have q4 : ((o.kind : Int) == 4) = false := by simp; omega
  have q5 : ((o.kind : Int) == 5) = false := by simp; omega
  refine ref17_target.enter (by first | rfl | simp [SV.ok, SV.oks]) (by first | rfl | simp [Hp.ok, Ob.ok, SV.ok, SV.oks, Vec.cells_ok]) (by simp) ?_
  dsimp only [ref17_target.s, Co.M, Co.G, Co.J, Co.H, Co.N, Co.F, Co.C, Co.Z, Co.B, Co.b8, Co.b32, Co.b64, Co.i6, Co.z8, Co.z29]
  by_cases h6 : o.kind = 6
  · have q6 : ((o.kind : Int) == 6) = true := by rw [h6]; rfl
    (repeat (first | refine SW.seq ?_ | refine SW.block ?_ | refine SW.g1 [0, 1, 3, 4, 6, 7, 9, 10, 29, 45, 55, 61, 79] mixed (And.intro (q2) (And.intro (q4) (And.intro (q5) (q6)))) hv ?_ | refine SW.skip ?_ | refine SW.exit ?_ | refine SW.ret ?_ | refine SW.condT rfl ?_ | refine SW.condF rfl ?_))
    exact End.mk [] (h4 := ⟨rfl, rfl⟩)
  · have q6 : ((o.kind : Int) == 6) = false := by simp; omega
    have q7 : ((o.kind : Int) == 7) = true := by rw [h.resolve_left h6]; rfl
    (repeat (first | refine SW.seq ?_ | refine SW.block ?_ | refine SW.g1 [0, 1, 3, 4, 6, 7, 9, 10, 29, 45, 55, 61, 79] mixed (And.intro (q2) (And.intro (q4) (And.intro (q5) (And.intro (q6) (q7))))) hv ?_ | refine SW.skip ?_ | refine SW.exit ?_ | refine SW.ret ?_ | refine SW.condT rfl ?_ | refine SW.condF rfl ?_))
    exact End.mk [] (h4 := ⟨rfl, rfl⟩)
set_option maxHeartbeats 4000000 in
theorem tgt2_ok (o : OpD) (h : o.kind = 2) : Go.Sl.Pure Tryz.prog ref17_target.f [ops l, .agg o.cells] (bl (crdP l (newTr l).at_ o.at_ o && aboveR (newTr l).at_ o.cred o.at_ (upsL (newTr l).at_ o.at_))) := by
  have hc := cred17_at l hl hr o.at_ o
  obtain ⟨L, hL, hlen, _⟩ := (newTr_tok l).ups o.at_
  have ha := rabove_at (by omega) hr (newTr_tok l) o.cred o.at_ L hL (by omega)
  rw [upsL_eq hL]
  obtain ⟨x, hx⟩ : ∃ x, crdP l (newTr l).at_ o.at_ o = x := ⟨_, rfl⟩
  obtain ⟨y, hy⟩ : ∃ y, aboveR (newTr l).at_ o.cred o.at_ L = y := ⟨_, rfl⟩
  obtain ⟨c, hcc⟩ : ∃ c, (getR l 10 o.at_).1 = c := ⟨_, rfl⟩
  rw [hx, hcc] at hc
  rw [hx, hy]
  rw [hy] at ha
  have q2 : ((o.kind : Int) == 2) = true := by rw [h]; rfl
  refine ref17_target.enter (by first | rfl | simp [SV.ok, SV.oks]) (by first | rfl | simp [Hp.ok, Ob.ok, SV.ok, SV.oks, Vec.cells_ok]) (by simp) ?_
  dsimp only [ref17_target.s, Co.M, Co.G, Co.J, Co.H, Co.N, Co.F, Co.C, Co.Z, Co.B, Co.b8, Co.b32, Co.b64, Co.i6, Co.z8, Co.z29]
  cases x
  · (repeat (first | refine SW.seq ?_ | refine SW.block ?_ | refine SW.g2 [0, 1, 3, 4, 6, 7, 9, 10, 29, 45, 55, 61, 79] mixed (q2) hc ha ?_ | refine SW.skip ?_ | refine SW.exit ?_ | refine SW.ret ?_ | refine SW.condT rfl ?_ | refine SW.condF rfl ?_))
    exact End.mk [] (h4 := ⟨rfl, rfl⟩)
  · (repeat (first | refine SW.seq ?_ | refine SW.block ?_ | refine SW.g2 [0, 1, 3, 4, 6, 7, 9, 10, 29, 45, 55, 61, 79] mixed (q2) hc ha ?_ | refine SW.skip ?_ | refine SW.exit ?_ | refine SW.ret ?_ | refine SW.condT rfl ?_ | refine SW.condF rfl ?_))
    exact End.mk [] (h4 := ⟨by simp only [Bool.true_and]; rfl, rfl⟩)
set_option maxHeartbeats 4000000 in
theorem tgt8_ok (o : OpD) (h : o.kind = 8) (hlin : o.lin) : Go.Sl.Pure Tryz.prog ref17_target.f [ops l, .agg o.cells] (bl (!(o.cl.any fun c => !clmP l (newTr l).at_ (newTr l).made c o))) := by
  have q2 : ((o.kind : Int) == 2) = false := by simp; omega
  have q4 : ((o.kind : Int) == 4) = false := by simp; omega
  have q5 : ((o.kind : Int) == 5) = false := by simp; omega
  have q6 : ((o.kind : Int) == 6) = false := by simp; omega
  have q7 : ((o.kind : Int) == 7) = false := by simp; omega
  have q8 : ((o.kind : Int) == 8) = true := by rw [h]; rfl
  have hle := hlin.eq
  have hll := hlin.le
  refine ref17_target.enter (by first | rfl | simp [SV.ok, SV.oks]) (by first | rfl | simp [Hp.ok, Ob.ok, SV.ok, SV.oks, Vec.cells_ok]) (by simp) ?_
  dsimp only [ref17_target.s, Co.M, Co.G, Co.J, Co.H, Co.N, Co.F, Co.C, Co.Z, Co.B, Co.b8, Co.b32, Co.b64, Co.i6, Co.z8, Co.z29]
  (repeat (first | refine SW.seq ?_ | refine SW.block ?_ | refine SW.g0 [0, 1, 3, 4, 6, 7, 9, 10, 29, 45, 55, 61, 79] mixed (And.intro (q2) (And.intro (q4) (And.intro (q5) (And.intro (q6) (And.intro (q7) (q8)))))) ?_ | refine SW.skip ?_ | refine SW.exit ?_ | refine SW.ret ?_ | refine SW.condT rfl ?_ | refine SW.condF rfl ?_))
  refine SW.loopA (α := {j : Nat // j ≤ o.cl.length ∧ ∀ c, c ∈ o.cl.take j → clmP l (newTr l).at_ (newTr l).made c o = true}) (fun j => ⟨[(7, i64 j.1), (3, .ptr 0 0), (0, ops l)], [(0, .box 31 o.cells)], 1⟩) (fun j => o.cl.length - j.1) ⟨0, by omega, by simp⟩ id bq_tt (round := ?_)
  rintro ⟨j, hj, hall⟩
  dsimp only
  refine SW.seq (SW.seq ?_)
  by_cases hjl : j < o.cl.length
  · have j1 : decide ((j : Int) < o.cl.length) = true := by simp only [decide_eq_true_eq]; omega
    obtain ⟨y, hy⟩ := get_of_lt hjl
    have j2 : IntKind.i64.wrap ((j : Int) + 1) = ((j + 1 : Nat) : Int) := wrap_i64 _ (by omega)
    have hv := vers17_at l hl hr y.line y.ver o
    refine SW.g0 [0, 1, 3, 4, 6, 7, 9, 10, 29, 45, 55, 61, 79] mixed (And.intro (hle) (j1)) ?_
    refine SW.condT rfl (SW.skip ?_)
    refine SW.seq (SW.block (SW.seq ?_))
    rcases hc : clmP l (newTr l).at_ (newTr l).made y o with _ | _
    · rw [show (⟨y.line, y.ver⟩ : Cm) = y from rfl, hc] at hv
      refine SW.g1 [0, 1, 3, 4, 6, 7, 9, 10, 29, 45, 55, 61, 79] mixed (And.intro (hle) (And.intro (cm_line hy) (And.intro (cm_roomL hy) (And.intro (cm_ver hy) (cm_roomV hy))))) hv ?_
      have e : (o.cl.any fun c => !clmP l (newTr l).at_ (newTr l).made c o) = true := by
        rw [List.any_eq_true]
        exact ⟨y, List.mem_of_getElem? hy, by rw [hc]; rfl⟩
      rw [e]
      (repeat (first | refine SW.seq ?_ | refine SW.block ?_ | refine SW.g0 [0, 1, 3, 4, 6, 7, 9, 10, 29, 45, 55, 61, 79] mixed bq_tt ?_ | refine SW.skip ?_ | refine SW.exit ?_ | refine SW.ret ?_ | refine SW.condT rfl ?_ | refine SW.condF rfl ?_))
      exact End.mk [] (h4 := ⟨rfl, rfl⟩)
    · rw [show (⟨y.line, y.ver⟩ : Cm) = y from rfl, hc] at hv
      refine SW.g1 [0, 1, 3, 4, 6, 7, 9, 10, 29, 45, 55, 61, 79] mixed (And.intro (hle) (And.intro (cm_line hy) (And.intro (cm_roomL hy) (And.intro (cm_ver hy) (cm_roomV hy))))) hv ?_
      refine SW.condF rfl (SW.skip ?_)
      refine SW.g0 [0, 1, 3, 4, 6, 7, 9, 10, 29, 45, 55, 61, 79] mixed (j2) ?_
      dsimp only
      exact ⟨⟨j + 1, by omega, fun c hcm => by
        rw [take_snoc hy] at hcm
        rcases List.mem_append.1 hcm with hcm | hcm
        · exact hall c hcm
        · rw [List.mem_singleton.1 hcm]; exact hc⟩, id, by show o.cl.length - (j + 1) < _; omega, Weak.mk bq_tt⟩
  · have j1 : decide ((j : Int) < o.cl.length) = false := by simp only [decide_eq_false_iff_not]; omega
    have e : (o.cl.any fun c => !clmP l (newTr l).at_ (newTr l).made c o) = false := by
      rw [List.any_eq_false]
      intro c hc
      rw [hall c (by rw [List.take_of_length_le (by omega)]; exact hc)]; simp
    rw [e]
    refine SW.g0 [0, 1, 3, 4, 6, 7, 9, 10, 29, 45, 55, 61, 79] mixed (And.intro (hle) (j1)) ?_
    refine SW.condF rfl (SW.exit ?_)
    (repeat (first | refine SW.seq ?_ | refine SW.block ?_ | refine SW.g0 [0, 1, 3, 4, 6, 7, 9, 10, 29, 45, 55, 61, 79] mixed bq_tt ?_ | refine SW.skip ?_ | refine SW.exit ?_ | refine SW.ret ?_ | refine SW.condT rfl ?_ | refine SW.condF rfl ?_))
    exact End.mk [] (h4 := ⟨rfl, rfl⟩)
theorem why17_at (o : OpD) (ho : o.roles < 256) (hlin : o.lin) (k : Nat) : SCd Tryz.prog ref17_Why.f [ops l, .agg o.cells] [] k 0 (i64 (whyL l o)) [] := by
  by_cases hn : o.kind ≠ 2 ∧ ¬ (4 ≤ o.kind ∧ o.kind ≤ 8)
  · exact whyn_at l hl hr o ho hn k
  by_cases h4 : o.kind = 4 ∨ o.kind = 5
  · exact why45_at l hl hr o ho h4 k
  by_cases h2 : o.kind = 2
  · have := (why17_ok l hl hr o ho _ (fun k => (tgt2_ok l hl hr o h2).sc rfl k) (fun h0 => by omega)).sc rfl k
    unfold whyL whyP
    rw [tgtP_2 h2]
    exact this
  by_cases h6 : o.kind = 6 ∨ o.kind = 7
  · have := (why17_ok l hl hr o ho _ (fun k => (tgt6_ok l hl hr o h6).sc rfl k) (fun h0 => by omega)).sc rfl k
    unfold whyL whyP
    rw [tgtP_6 h6]
    exact this
  have h8 : o.kind = 8 := by omega
  have := (why17_ok l hl hr o ho _ (fun k => (tgt8_ok l hl hr o h8 hlin).sc rfl k) (fun h0 => by omega)).sc rfl k
  unfold whyL whyP
  rw [tgtP_8 h8]
  exact this
end
end Go.Proofs.YtlgfknfdfnaedaaGreat
namespace Go.Proofs.YtlgfknfdfnaedaaGreat
open Go.Sl Go.Proofs
noncomputable def rvL (l m : List OpD) (d : Dt) : List Dt := d :: ((m.filter fun x => decide (setP l (newTr l).at_ (newTr l).made x.dot = some d)).map (·.dot))
noncomputable abbrev rversL (l : List OpD) (d : Dt) : List Dt := rvL l l d
theorem rvL_snoc (l m : List OpD) (x : OpD) (d : Dt) : rvL l (m ++ [x]) d = if setP l (newTr l).at_ (newTr l).made x.dot = some d then rvL l m d ++ [x.dot] else rvL l m d := by
  unfold rvL
  rw [List.filter_append]
  by_cases e : setP l (newTr l).at_ (newTr l).made x.dot = some d <;> simp [e]
theorem rvL_len (l m : List OpD) (d : Dt) : (rvL l m d).length ≤ m.length + 1 := by
  unfold rvL
  rw [List.length_cons, List.length_map]
  have := List.length_filter_le (fun x : OpD => decide (setP l (newTr l).at_ (newTr l).made x.dot = some d)) m
  omega
theorem mem_rversL {l : List OpD} {d v : Dt} : v ∈ rversL l d ↔ v = d ∨ setP l (newTr l).at_ (newTr l).made v = some d := by
  unfold rversL rvL
  rw [List.mem_cons, List.mem_map]
  constructor
  · rintro (h | ⟨x, hx, rfl⟩)
    · exact .inl h
    · exact .inr (of_decide_eq_true (List.mem_filter.1 hx).2)
  · rintro (h | h)
    · exact .inl h
    · obtain ⟨x, hx, _⟩ := setP_iff.1 h
      obtain ⟨h1, rfl⟩ := findO_some hx
      exact .inr ⟨x, List.mem_filter.2 ⟨h1, by simp [h]⟩, rfl⟩
theorem ShOk.rvers {l : List OpD} {S : Sh} (h : ShOk l S) (d : Dt) : Dt.set (versL S.lns d) = Dt.set (rversL l d) :=
  Dt.rises_unique (Dt.set_rises _) (Dt.set_rises _) fun v => by
    rw [Dt.mem_set, Dt.mem_set, mem_versL h.lns.1.keys, mem_rversL, h.set, h.base.tr, h.base.md]
noncomputable def rversV (l : List OpD) (d : Dt) : SV := if addP l (newTr l).at_ (newTr l).made d = true then dots (Dt.set (rversL l d)) else .d .nils
theorem ShOk.versV_eq {l : List OpD} {S : Sh} (h : ShOk l S) (d : Dt) : versV S d = rversV l d := by
  unfold versV rversV
  have ha := h.add d
  rw [h.base.tr, h.base.md] at ha
  rw [h.rvers d, ← ha]
  simp only [decide_eq_true_eq]
section
attribute [local irreducible] SW RW SCd SC CallP Pruned
variable (l : List OpD) (hl : l.length ≤ 80) (hd : ∀ x, x ∈ l → x.roles < 256 ∧ x.lin ∧ x.dot.wf)
include hl hd
set_option maxHeartbeats 4000000 in
theorem good17_ok (d : Dt) : Go.Sl.Pure Tryz.prog ref17_Good.f [ops l, .agg d.cells] (bl (match findO l d with
    | some o => decide (whyL l o = 0)
    | none => false)) := by
  have hf := rfind_at l (by omega) d
  refine ref17_Good.enter (by first | rfl | simp [SV.ok, SV.oks]) (by first | rfl | simp [Hp.ok, Ob.ok, SV.ok, SV.oks, Vec.cells_ok]) (by simp) ?_
  dsimp only [ref17_Good.s, Co.M, Co.G, Co.J, Co.H, Co.N, Co.F, Co.C, Co.Z, Co.B, Co.b8, Co.b32, Co.b64, Co.i6, Co.z8, Co.z29]
  cases hh : findO l d with
  | none =>
    rw [hh] at hf
    (repeat (first | refine SW.seq ?_ | refine SW.block ?_ | refine SW.g1 [0, 1, 3, 4, 5, 6] mixed bq_tt hf ?_ | refine SW.skip ?_ | refine SW.exit ?_ | refine SW.ret ?_ | refine SW.condT rfl ?_ | refine SW.condF rfl ?_))
    exact End.mk [] (h4 := ⟨rfl, rfl⟩)
  | some o =>
    rw [hh, opP_some hh] at hf
    have ho := hd o (findO_some hh).1
    have hw := why17_at l (by omega) (fun x hx => (hd x hx).1) o ho.1 ho.2.1
    dsimp only
    obtain ⟨w, hww⟩ : ∃ w, whyL l o = w := ⟨_, rfl⟩
    rw [hww] at hw ⊢
    have hz : ((w : Int) == 0) = decide (w = 0) := by rw [Bool.eq_iff_iff]; simp
    (repeat (first | refine SW.seq ?_ | refine SW.block ?_ | refine SW.g2 [0, 1, 3, 4, 5, 6] mixed (hz) hf hw ?_ | refine SW.skip ?_ | refine SW.exit ?_ | refine SW.ret ?_ | refine SW.condT rfl ?_ | refine SW.condF rfl ?_))
    exact End.mk [] (h4 := ⟨rfl, rfl⟩)
theorem good17_at (d : Dt) (k : Nat) : SCd Tryz.prog ref17_Good.f [ops l, .agg d.cells] [] k 0 (bl (match findO l d with
    | some o => decide (whyL l o = 0)
    | none => false)) [] := (good17_ok l hl hd d).sc rfl k
set_option maxHeartbeats 8000000 in
theorem vers17V_ok (d : Dt) (hdw : d.wf) : Go.Sl.Pure Tryz.prog ref17_Versions.f [ops l, .agg d.cells] (rversV l d) := by
  have hf := rfind_at l (by omega) d
  unfold rversV
  refine ref17_Versions.enter (by first | rfl | simp [SV.ok, SV.oks]) (by first | rfl | simp [Hp.ok, Ob.ok, SV.ok, SV.oks, Vec.cells_ok]) (by simp) ?_
  dsimp only [ref17_Versions.s, Co.M, Co.G, Co.J, Co.H, Co.N, Co.F, Co.C, Co.Z, Co.B, Co.b8, Co.b32, Co.b64, Co.i6, Co.z8, Co.z29]
  refine SW.seq ?_
  refine SW.g0 [0, 1, 3, 4, 5, 6, 7, 8, 9, 26, 32, 59] mixed bq_tt ?_
  refine SW.seq ?_
  refine SW.g1 [0, 1, 3, 4, 5, 6, 7, 8, 9, 26, 32, 59] mixed bq_tt hf ?_
  refine SW.seq (SW.seq ?_)
  cases hh : findO l d with
  | none =>
    have e : addP l (newTr l).at_ (newTr l).made d = false := by unfold addP; rw [hh]
    rw [e]
    (repeat (first | refine SW.seq ?_ | refine SW.block ?_ | refine SW.g0 [0, 1, 3, 4, 5, 6, 7, 8, 9, 26, 32, 59] mixed bq_tt ?_ | refine SW.skip ?_ | refine SW.exit ?_ | refine SW.ret ?_ | refine SW.condT rfl ?_ | refine SW.condF rfl ?_))
    exact End.mk [] (h4 := ⟨rfl, rfl⟩)
  | some o =>
    have hL := line17_at l (by omega) (fun x hx => (hd x hx).1) d o.cart
    have e : rlineP l d o.cart = addP l (newTr l).at_ (newTr l).made d := by
      unfold rlineP addP
      rw [hh]
      dsimp only
      by_cases h3 : o.kind = 3
      · rw [whyL_add h3]; simp
      · simp [h3]
    rw [e] at hL
    rw [opP_some hh]
    cases ha : addP l (newTr l).at_ (newTr l).made d with
    | false =>
      rw [ha] at hL
      refine SW.g1 [0, 1, 3, 4, 5, 6, 7, 8, 9, 26, 32, 59] mixed bq_tt hL ?_
      (repeat (first | refine SW.seq ?_ | refine SW.block ?_ | refine SW.g0 [0, 1, 3, 4, 5, 6, 7, 8, 9, 26, 32, 59] mixed bq_tt ?_ | refine SW.skip ?_ | refine SW.exit ?_ | refine SW.ret ?_ | refine SW.condT rfl ?_ | refine SW.condF rfl ?_))
      exact End.mk [] (h4 := ⟨rfl, rfl⟩)
    | true =>
      rw [ha] at hL
      refine SW.g1 [0, 1, 3, 4, 5, 6, 7, 8, 9, 26, 32, 59] mixed bq_tt hL ?_
      refine SW.condF rfl (SW.skip ?_)
      refine SW.seq ?_
      (refine SW.regL [0, 1, 3, 4, 5, 6, 7, 8, 9, 26, 32, 59] mixed ?_; (repeat (first | refine litO rfl rfl (h := ?_) | refine RW.ro bq_tt (h := ?_) | refine RW.skip (h := ?_) | refine RW.op bq_tt (h := ?_) | refine RW.opN bq_tt (h := ?_) | refine RW.skip0 (h := ?_))); refine RW.nil ⟨conf_of (by kernel_rfl), Pruned.mk (h := ?_)⟩)
      refine SW.seq (SW.seq ?_)
      refine SW.g0 [0, 1, 3, 4, 5, 6, 7, 8, 9, 26, 32, 59] mixed bq_tt ?_
      refine SW.block ?_
      refine SW.loopA (α := {i : Nat // i ≤ l.length}) (fun i => ⟨[(8, i64 i.1), (7, .gs 2 (rvL l (l.take i.1) d).length), (3, .ptr 0 0), (0, ops l)], [(2, .arr 25 2 (rvL l (l.take i.1) d).length (((rvL l (l.take i.1) d).flatMap Dt.ds).map .d)), (0, .box 25 d.cells)], 3⟩) (fun i => l.length - i.1) ⟨0, by omega⟩ id (And.intro (show rvL l [] d = [d] from rfl) (Dt.map_ds d)) (round := ?_)
      rintro ⟨i, hi⟩
      dsimp only
      by_cases h : i < l.length
      · obtain ⟨x, hx⟩ := get_of_lt h
        have h1 : decide ((i : Int) < l.length) = true := by simp only [decide_eq_true_eq]; omega
        have e2 : IntKind.i64.wrap ((i : Int) + 1) = ((i + 1 : Nat) : Int) := wrap_i64 _ (by omega)
        have hsn := rvL_snoc l (l.take i) x d
        rw [← take_snoc hx] at hsn
        have hsl : (rvL l (l.take i) d).length ≤ 81 := by
          have := rvL_len l (l.take i) d
          rw [List.length_take] at this; omega
        generalize rvL l (l.take i) d = s at hsn hsl ⊢
        obtain ⟨y, hy⟩ := Option.isSome_iff_exists.1 (findO_isSome.2 ⟨x, List.mem_of_getElem? hx, rfl⟩ : (findO l x.dot).isSome = true)
        have hyd := findO_dot hy
        have hfx := rfind_at l (by omega) x.dot
        rw [hy, opP_some hy] at hfx
        have hyl := hd y (findO_some hy).1
        have hstx : setP l (newTr l).at_ (newTr l).made x.dot = if y.kind = 4 ∧ whyL l y = 0 then some y.at_ else none := by
          unfold setP
          rw [hy]
          dsimp only
          by_cases h4 : y.kind = 4
          · rw [whyL_set h4]
          · rw [if_neg (fun h => h4 h.1), if_neg (fun h => h4 h.1)]
        refine SW.seq (SW.seq ?_)
        refine SW.g0 [0, 1, 3, 4, 5, 6, 7, 8, 9, 26, 32, 59] mixed (h1) ?_
        refine SW.condT rfl (SW.skip ?_)
        refine SW.seq (SW.block (SW.seq ?_))
        refine SW.g1 [0, 1, 3, 4, 5, 6, 7, 8, 9, 26, 32, 59] mixed (And.intro (op_load hx) (op_roomd hx)) hfx ?_
        refine SW.seq ?_
        by_cases h4 : y.kind = 4
        rotate_left
        · have z : ((y.kind : Int) == 4) = false := by simp; omega
          have hs0 : setP l (newTr l).at_ (newTr l).made x.dot = none := by rw [hstx]; exact if_neg (fun h => h4 h.1)
          rw [hs0, if_neg (by simp)] at hsn
          refine SW.g0 [0, 1, 3, 4, 5, 6, 7, 8, 9, 26, 32, 59] mixed (z) ?_
          refine SW.condF rfl (SW.skip ?_)
          refine SW.g0 [0, 1, 3, 4, 5, 6, 7, 8, 9, 26, 32, 59] mixed (e2) ?_
          dsimp only
          refine ⟨⟨i + 1, by omega⟩, id, by show l.length - (i + 1) < _; omega, ?_⟩
          dsimp only
          rw [hsn]
          exact Weak.mk bq_tt
        have z : ((y.kind : Int) == 4) = true := by rw [h4]; rfl
        rcases h5 : decide (y.at_ = d) with _ | _
        · rw [hstx, if_neg (by
            split
            · intro e; injection e with e; rw [e] at h5; simp at h5
            · simp)] at hsn
          refine SW.g0 [0, 1, 3, 4, 5, 6, 7, 8, 9, 26, 32, 59] mixed (And.intro (z) (h5)) ?_
          refine SW.condF rfl (SW.skip ?_)
          refine SW.g0 [0, 1, 3, 4, 5, 6, 7, 8, 9, 26, 32, 59] mixed (e2) ?_
          dsimp only
          refine ⟨⟨i + 1, by omega⟩, id, by show l.length - (i + 1) < _; omega, ?_⟩
          dsimp only
          rw [hsn]
          exact Weak.mk bq_tt
        have hw := why17_at l (by omega) (fun x hx => (hd x hx).1) y hyl.1 hyl.2.1
        obtain ⟨w, hww⟩ : ∃ w, whyL l y = w := ⟨_, rfl⟩
        rw [hww] at hw hstx
        by_cases hw0 : w = 0
        rotate_left
        · have zw : ((w : Int) == 0) = false := by simp; exact hw0
          have hs0 : setP l (newTr l).at_ (newTr l).made x.dot = none := by rw [hstx]; exact if_neg (fun h => hw0 h.2)
          rw [hs0, if_neg (by simp)] at hsn
          refine SW.g1 [0, 1, 3, 4, 5, 6, 7, 8, 9, 26, 32, 59] mixed (And.intro (z) (And.intro (h5) (zw))) hw ?_
          refine SW.condF rfl (SW.skip ?_)
          refine SW.g0 [0, 1, 3, 4, 5, 6, 7, 8, 9, 26, 32, 59] mixed (e2) ?_
          dsimp only
          refine ⟨⟨i + 1, by omega⟩, id, by show l.length - (i + 1) < _; omega, ?_⟩
          dsimp only
          rw [hsn]
          exact Weak.mk bq_tt
        have zw : ((w : Int) == 0) = true := by rw [hw0]; rfl
        have hs0 : setP l (newTr l).at_ (newTr l).made x.dot = some d := by rw [hstx, if_pos ⟨h4, hw0⟩, of_decide_eq_true h5]
        rw [hs0, if_pos rfl, ← hyd] at hsn
        refine SW.g1 [0, 1, 3, 4, 5, 6, 7, 8, 9, 26, 32, 59] mixed (And.intro (z) (And.intro (h5) (zw))) hw ?_
        refine SW.condT rfl ?_
        refine SW.g0 [0, 1, 3, 4, 5, 6, 7, 8, 9, 26, 32, 59] mixed bq_tt ?_
        refine SW.g0 [0, 1, 3, 4, 5, 6, 7, 8, 9, 26, 32, 59] mixed (e2) ?_
        dsimp only
        have e5 : (s ++ [y.dot]).length = s.length + [y.dot].length := by simp
        have e6 : List.map SV.d ((s ++ [y.dot]).flatMap Dt.ds) = List.map SV.d (s.flatMap Dt.ds) ++ List.map SV.d ([y.dot].flatMap Dt.ds) := by simp
        refine ⟨⟨i + 1, by omega⟩, fun n => if n = 2 then 4 else n, by show l.length - (i + 1) < _; omega, ?_⟩
        dsimp only
        rw [hsn]
        exact Weak.mk (And.intro e5 e6)
      · have h1 : decide ((i : Int) < l.length) = false := by simp only [decide_eq_false_iff_not]; omega
        have h2 : i = l.length := by omega
        subst h2
        rw [List.take_length]
        refine SW.seq (SW.seq ?_)
        refine SW.g0 [0, 1, 3, 4, 5, 6, 7, 8, 9, 26, 32, 59] mixed (h1) ?_
        refine SW.condF rfl (SW.exit ?_)
        refine SW.freeze 2 ((rvL l l d).flatMap Dt.ds) rfl rfl ?_
        simp only [frzE, SV.frz, List.map_cons, List.map_nil, if_true, if_false, reduceIte, hdel, Nat.reduceEqDiff]
        have hs := rsort_at (rvL l l d) (by have := rvL_len l l d; omega) (fun v hv => by
          rcases mem_rversL.1 hv with rfl | h
          · exact hdw
          · obtain ⟨x, hx, _⟩ := setP_iff.1 h
            obtain ⟨h1, rfl⟩ := findO_some hx
            exact (hd x h1).2.2)
        (repeat (first | refine SW.seq ?_ | refine SW.block ?_ | refine SW.g1 [0, 1, 3, 4, 5, 6, 7, 8, 9, 26, 32, 59] mixed bq_tt hs ?_ | refine SW.skip ?_ | refine SW.exit ?_ | refine SW.ret ?_ | refine SW.condT rfl ?_ | refine SW.condF rfl ?_))
        exact End.mk [] (h4 := ⟨rfl, rfl⟩)
theorem vers17V_at (d : Dt) (hdw : d.wf) (k : Nat) : SCd Tryz.prog ref17_Versions.f [ops l, .agg d.cells] [] k 0 (rversV l d) [] := (vers17V_ok l hl hd d hdw).sc (by unfold rversV; split <;> rfl) k
end
end Go.Proofs.YtlgfknfdfnaedaaGreat
