/-
  Order: what two vectors keep of a row.
-/
import Derived.Test.YtemghnbbmahaaaaDoorUK
import Derived.Test.YtemghnbbmahaaaaDoorUF
set_option linter.unusedSectionVars false
set_option linter.unusedVariables false
set_option linter.unusedSimpArgs false
namespace Go.Proofs.YtemghnbbmahaaaaDoor
open Go.Sl Go.Proofs
attribute [local irreducible] SW RW SCd SC CallP Pruned
def PV (v w : Vec) : List SV := v.cells ++ w.cells
theorem PV.len (v w : Vec) : (PV v w).length = 16 := rfl
theorem PV.one (v w : Vec) : (PV v w).all SV.isOne = true := rfl
theorem PV.t0 (v w : Vec) : List.take 8 (PV v w) = v.cells := rfl
theorem PV.t8 (v w : Vec) : List.take 8 (List.drop 8 (PV v w)) = w.cells := rfl
theorem PV.g0 (v w : Vec) {r : Nat} (h : r < 8) : (PV v w)[r]? = some (u32 (v.get r)) := by
  match r, h with
  | 0, _ | 1, _ | 2, _ | 3, _ | 4, _ | 5, _ | 6, _ | 7, _ => rfl
theorem PV.g8 (v w : Vec) {r : Nat} (h : r < 8) : (PV v w)[8 + r]? = some (u32 (w.get r)) := by
  match r, h with
  | 0, _ | 1, _ | 2, _ | 3, _ | 4, _ | 5, _ | 6, _ | 7, _ => rfl
theorem PV.q (v w : Vec) (k : Nat) : SV.rens id (PV v w) = PV v w ∧ SV.oks (fun n => decide (n < k)) (PV v w) = true := ⟨rfl, rfl⟩
theorem op_load {l : List OpD} {i : Nat} {x : OpD} (h : l[i]? = some x) : List.take 2 (List.drop (i * 29) (List.map SV.d (l.flatMap OpD.ds))) = x.dot.cells := by
  have h1 : List.take 2 (List.take 29 (List.drop (i * 29) (List.map SV.d (l.flatMap OpD.ds)))) = x.dot.cells := by rw [op_at h]; rfl
  rw [← h1, List.take_take]; rfl
theorem op_roomd {l : List OpD} {i : Nat} {x : OpD} (h : l[i]? = some x) : (i * 29 + 2 ≤ (List.map SV.d (l.flatMap OpD.ds)).length) = True := eq_true (by
  have := of_eq_true (op_room0 h); omega)
set_option maxRecDepth 100000 in
set_option maxHeartbeats 16000000 in
theorem law_cuts (l : List OpD) (hl : RowR l) (v w : Vec) : Go.Sl.Pure Tryd.prog law10_OrderCuts.f [ops l, .agg (PV v w)] (bl true) := by
  have hlen := hl.len
  have p0 := PV.one v w
  have p1 := PV.len v w
  have p2 := PV.t0 v w
  have p3 := PV.t8 v w
  refine law10_OrderCuts.enter (by first | rfl | simp [SV.ok, SV.oks]) (by first | rfl | simp [Hp.ok, Ob.ok, SV.ok, SV.oks, Vec.cells_ok]) (by simp) ?_
  dsimp only [law10_OrderCuts.s, Co.M, Co.G, Co.J, Co.H, Co.N, Co.F, Co.C, Co.Z, Co.B, Co.b8, Co.b32, Co.b64, Co.i6, Co.z8, Co.z29]
  have hg := hl.great
  refine SW.seq ?_
  refine SW.g0 [0, 1, 3, 4, 5, 6, 7, 8, 9, 10, 11, 12, 14, 16, 21, 44, 63, 67, 101] mixed (p0) ?_
  refine SW.seq (SW.seq ?_)
  rcases hgv : greatV l with _ | _ <;> rw [hgv] at hg
  case true =>
    refine SW.g1 [0, 1, 3, 4, 5, 6, 7, 8, 9, 10, 11, 12, 14, 16, 21, 44, 63, 67, 101] mixed bq_tt hg ?_
    refine SW.condT rfl (SW.seq ?_)
    refine SW.g1 [0, 1, 3, 4, 5, 6, 7, 8, 9, 10, 11, 12, 14, 16, 21, 44, 63, 67, 101] mixed bq_tt head10_at ?_
    refine SW.ret ?_
    exact End.mk [] (h4 := ⟨rfl, rfl⟩)
  have hl80 := great_len hgv
  refine SW.g1 [0, 1, 3, 4, 5, 6, 7, 8, 9, 10, 11, 12, 14, 16, 21, 44, 63, 67, 101] mixed bq_tt hg ?_
  refine SW.condF rfl (SW.skip (SW.seq ?_))
  refine SW.g0 [0, 1, 3, 4, 5, 6, 7, 8, 9, 10, 11, 12, 14, 16, 21, 44, 63, 67, 101] mixed (And.intro (p1) (p2)) ?_
  refine SW.seq (SW.seq ?_)
  refine SW.g0 [0, 1, 3, 4, 5, 6, 7, 8, 9, 10, 11, 12, 14, 16, 21, 44, 63, 67, 101] mixed bq_tt ?_
  refine SW.block ?_
  refine SW.loopA (α := {i : Nat // i ≤ 8}) (fun i => ⟨[(6, i64 i.1), (5, .ptr 1 0), (3, .ptr 0 0), (0, ops l)], [(1, .box 32 (Vec.upto i.1 (Vec.zip min v w) v).cells), (0, .box 48 (PV v w))], 2⟩) (fun i => 8 - i.1) ⟨0, by omega⟩ id (And.intro (Vec.upto_zero (Vec.zip min v w) v) (PV.q v w 2)) (round := ?_)
  rintro ⟨i, hi⟩
  dsimp only
  refine SW.seq (SW.seq ?_)
  by_cases h : i < 8
  · have h1 : decide ((i : Int) < 8) = true := by simp only [decide_eq_true_eq]; omega
    have e2 : IntKind.i64.wrap ((i : Int) + 1) = ((i + 1 : Nat) : Int) := wrap_i64 _ (by omega)
    have g0 := PV.g0 v w h
    have g8 := PV.g8 v w h
    have e5 : (if (w.get i : Int) < ((v.get i : Nat) : Int) then (w.get i : Int) else ((v.get i : Nat) : Int)) = ((min (v.get i) (w.get i) : Nat) : Int) := by split <;> omega
    have e6 : spl (Vec.upto i (Vec.zip min v w) v).cells i [.d (.int .u32 ((min (v.get i) (w.get i) : Nat) : Int))] = (Vec.upto (i + 1) (Vec.zip min v w) v).cells := by
      rw [Vec.spl_set _ h, Vec.upto_zip_succ _ _ _ h]
    refine SW.g0 [0, 1, 3, 4, 5, 6, 7, 8, 9, 10, 11, 12, 14, 16, 21, 44, 63, 67, 101] mixed (h1) ?_
    refine SW.condT rfl (SW.skip (SW.seq (SW.block ?_)))
    refine SW.g0 [0, 1, 3, 4, 5, 6, 7, 8, 9, 10, 11, 12, 14, 16, 21, 44, 63, 67, 101] mixed (And.intro (h) (And.intro (p1) (And.intro (g0) (And.intro (g8) (And.intro (e5) (e6)))))) ?_
    refine SW.g0 [0, 1, 3, 4, 5, 6, 7, 8, 9, 10, 11, 12, 14, 16, 21, 44, 63, 67, 101] mixed (e2) ?_
    refine ⟨⟨i + 1, by omega⟩, id, by show 8 - (i + 1) < 8 - i; omega, ?_⟩
    exact Weak.mk (PV.q v w 2)
  have h1 : decide ((i : Int) < 8) = false := by simp only [decide_eq_false_iff_not]; omega
  have h2 : i = 8 := by omega
  subst h2
  rw [Vec.upto_all]
  refine SW.g0 [0, 1, 3, 4, 5, 6, 7, 8, 9, 10, 11, 12, 14, 16, 21, 44, 63, 67, 101] mixed (h1) ?_
  refine SW.condF rfl (SW.exit (SW.seq ?_))
  have hc1 := fun k => cut_at l (by omega) v k
  refine SW.g1 [0, 1, 3, 4, 5, 6, 7, 8, 9, 10, 11, 12, 14, 16, 21, 44, 63, 67, 101] mixed (And.intro (p1) (p2)) hc1 ?_
  refine SW.seq ?_
  have hk1 := fun k => known_at (cutV l v) (by have := cutV_len l v; omega) (fun x hx => by have := (hl.op x (cutV_sub l v x hx)).1; exact ⟨this.dr, this.dn⟩) k
  have hk2 := fun k => known_at l (by omega) (fun x hx => by have := (hl.op x hx).1; exact ⟨this.dr, this.dn⟩) k
  refine SW.g2 [0, 1, 3, 4, 5, 6, 7, 8, 9, 10, 11, 12, 14, 16, 21, 44, 63, 67, 101] mixed bq_tt hk1 hk2 ?_
  refine SW.seq (SW.seq ?_)
  refine SW.g0 [0, 1, 3, 4, 5, 6, 7, 8, 9, 10, 11, 12, 14, 16, 21, 44, 63, 67, 101] mixed bq_tt ?_
  refine SW.block ?_
  refine SW.loopA (α := {i : Nat // i ≤ 8}) (fun i => ⟨[(10, i64 i.1), (9, .ptr 3 0), (8, .ptr 2 0), (7, ops (cutV l v)), (5, .ptr 1 0), (3, .ptr 0 0), (0, ops l)], [(3, .box 32 (knownV l).cells), (2, .box 32 (knownV (cutV l v)).cells), (1, .box 32 (Vec.zip min v w).cells), (0, .box 48 (PV v w))], 4⟩) (fun i => 8 - i.1) ⟨0, by omega⟩ id (PV.q v w 4) (round := ?_)
  rintro ⟨i, hi⟩
  dsimp only
  refine SW.seq (SW.seq ?_)
  by_cases h : i < 8
  · have h1 : decide ((i : Int) < 8) = true := by simp only [decide_eq_true_eq]; omega
    have e2 : IntKind.i64.wrap ((i : Int) + 1) = ((i + 1 : Nat) : Int) := wrap_i64 _ (by omega)
    have g0 := PV.g0 v w h
    obtain ⟨u1, u2⟩ := cut_known l v h
    have e3 : decide (((knownV (cutV l v)).get i : Int) > (knownV l).get i) = false := by simp only [decide_eq_false_iff_not]; omega
    have e4 : decide (((knownV (cutV l v)).get i : Int) > v.get i) = false := by simp only [decide_eq_false_iff_not]; omega
    refine SW.g0 [0, 1, 3, 4, 5, 6, 7, 8, 9, 10, 11, 12, 14, 16, 21, 44, 63, 67, 101] mixed (h1) ?_
    refine SW.condT rfl (SW.skip (SW.seq (SW.block (SW.seq ?_))))
    refine SW.g0 [0, 1, 3, 4, 5, 6, 7, 8, 9, 10, 11, 12, 14, 16, 21, 44, 63, 67, 101] mixed (And.intro (h) (And.intro (p1) (And.intro (g0) (And.intro (Vec.cells_get (knownV (cutV l v)) h) (And.intro (Vec.cells_get (knownV l) h) (And.intro (e3) (e4))))))) ?_
    refine SW.condF rfl (SW.skip ?_)
    refine SW.g0 [0, 1, 3, 4, 5, 6, 7, 8, 9, 10, 11, 12, 14, 16, 21, 44, 63, 67, 101] mixed (e2) ?_
    refine ⟨⟨i + 1, by omega⟩, id, by show 8 - (i + 1) < 8 - i; omega, ?_⟩
    exact Weak.mk (PV.q v w 4)
  have h1 : decide ((i : Int) < 8) = false := by simp only [decide_eq_false_iff_not]; omega
  refine SW.g0 [0, 1, 3, 4, 5, 6, 7, 8, 9, 10, 11, 12, 14, 16, 21, 44, 63, 67, 101] mixed (h1) ?_
  refine SW.condF rfl (SW.exit (SW.seq (SW.seq ?_)))
  refine SW.g0 [0, 1, 3, 4, 5, 6, 7, 8, 9, 10, 11, 12, 14, 16, 21, 44, 63, 67, 101] mixed bq_tt ?_
  refine SW.block ?_
  refine SW.loopA (α := {i : Nat // i ≤ l.length}) (fun i => ⟨[(11, i64 i.1), (7, ops (cutV l v)), (5, .ptr 1 0), (3, .ptr 0 0), (0, ops l)], [(1, .box 32 (Vec.zip min v w).cells), (0, .box 48 (PV v w))], 2⟩) (fun i => l.length - i.1) ⟨0, by omega⟩ id (PV.q v w 2) (round := ?_)
  rintro ⟨i, hi⟩
  dsimp only
  refine SW.seq (SW.seq ?_)
  by_cases h : i < l.length
  · have h1 : decide ((i : Int) < l.length) = true := by simp only [decide_eq_true_eq]; omega
    obtain ⟨x, hx⟩ := get_of_lt h
    have hxm := List.mem_of_getElem? hx
    have e2 : IntKind.i64.wrap ((i : Int) + 1) = ((i + 1 : Nat) : Int) := wrap_i64 _ (by omega)
    have hf := fun k => ofind_at (cutV l v) (by have := cutV_len l v; omega) x.dot k
    rw [cut_find hxm] at hf
    refine SW.g0 [0, 1, 3, 4, 5, 6, 7, 8, 9, 10, 11, 12, 14, 16, 21, 44, 63, 67, 101] mixed (h1) ?_
    refine SW.condT rfl (SW.skip (SW.seq (SW.block (SW.seq ?_))))
    refine SW.g0 [0, 1, 3, 4, 5, 6, 7, 8, 9, 10, 11, 12, 14, 16, 21, 44, 63, 67, 101] mixed (And.intro (op_load hx) (op_roomd hx)) ?_
    refine SW.seq ?_
    refine SW.g1 [0, 1, 3, 4, 5, 6, 7, 8, 9, 10, 11, 12, 14, 16, 21, 44, 63, 67, 101] mixed bq_tt hf ?_
    refine SW.seq ?_
    by_cases hr : x.dot.r < 8
    · have e3 : decide ((x.dot.r : Int) < 8) = true := by simp only [decide_eq_true_eq]; omega
      have e8 : IntKind.u8.wrap ((x.dot.r : Int).tmod 8) = x.dot.r := by
        rw [Int.tmod_eq_emod_of_nonneg (by omega), Int.emod_eq_of_lt (by omega) (by omega)]
        exact wrap_u8' _ (by omega)
      have e9 : ((x.dot.r : Int).tmod 8) = x.dot.r := by
        rw [Int.tmod_eq_emod_of_nonneg (by omega), Int.emod_eq_of_lt (by omega) (by omega)]
      have g0 := PV.g0 v w hr
      rcases h4 : decide ((x.dot.n : Int) > 0) with _ | _
      · have e5 : v.covers x.dot = false := by
          rw [Bool.eq_false_iff]; intro hc
          have := covers_iff.1 hc
          simp only [decide_eq_false_iff_not] at h4; omega
        rw [e5]
        refine SW.g0 [0, 1, 3, 4, 5, 6, 7, 8, 9, 10, 11, 12, 14, 16, 21, 44, 63, 67, 101] mixed (And.intro (e3) (h4)) ?_
        refine SW.condF rfl (SW.skip ?_)
        refine SW.g0 [0, 1, 3, 4, 5, 6, 7, 8, 9, 10, 11, 12, 14, 16, 21, 44, 63, 67, 101] mixed (e2) ?_
        refine ⟨⟨i + 1, by omega⟩, id, by show l.length - (i + 1) < l.length - i; omega, ?_⟩
        exact Weak.mk (PV.q v w 2)
      · rcases h5 : decide ((x.dot.n : Int) ≤ (v.get x.dot.r : Int)) with _ | _
        · have e5 : v.covers x.dot = false := by
            rw [Bool.eq_false_iff]; intro hc
            have := covers_iff.1 hc
            simp only [decide_eq_false_iff_not] at h5; omega
          rw [e5]
          refine SW.g0 [0, 1, 3, 4, 5, 6, 7, 8, 9, 10, 11, 12, 14, 16, 21, 44, 63, 67, 101] mixed (And.intro (e3) (And.intro (h4) (And.intro (e8) (And.intro (e9) (And.intro (hr) (And.intro (p1) (And.intro (g0) (h5)))))))) ?_
          refine SW.condF rfl (SW.skip ?_)
          refine SW.g0 [0, 1, 3, 4, 5, 6, 7, 8, 9, 10, 11, 12, 14, 16, 21, 44, 63, 67, 101] mixed (e2) ?_
          refine ⟨⟨i + 1, by omega⟩, id, by show l.length - (i + 1) < l.length - i; omega, ?_⟩
          exact Weak.mk (PV.q v w 2)
        · have e5 : v.covers x.dot = true := by
            rw [covers_iff]
            simp only [decide_eq_true_eq] at h4 h5
            exact ⟨⟨hr, by omega⟩, by omega⟩
          rw [e5]
          refine SW.g0 [0, 1, 3, 4, 5, 6, 7, 8, 9, 10, 11, 12, 14, 16, 21, 44, 63, 67, 101] mixed (And.intro (e3) (And.intro (h4) (And.intro (e8) (And.intro (e9) (And.intro (hr) (And.intro (p1) (And.intro (g0) (h5)))))))) ?_
          refine SW.condF rfl (SW.skip ?_)
          refine SW.g0 [0, 1, 3, 4, 5, 6, 7, 8, 9, 10, 11, 12, 14, 16, 21, 44, 63, 67, 101] mixed (e2) ?_
          refine ⟨⟨i + 1, by omega⟩, id, by show l.length - (i + 1) < l.length - i; omega, ?_⟩
          exact Weak.mk (PV.q v w 2)
    · have e3 : decide ((x.dot.r : Int) < 8) = false := by simp only [decide_eq_false_iff_not]; omega
      have e5 : v.covers x.dot = false := by
        rw [Bool.eq_false_iff]; intro hc
        have := covers_iff.1 hc
        omega
      rw [e5]
      refine SW.g0 [0, 1, 3, 4, 5, 6, 7, 8, 9, 10, 11, 12, 14, 16, 21, 44, 63, 67, 101] mixed (e3) ?_
      refine SW.condF rfl (SW.skip ?_)
      refine SW.g0 [0, 1, 3, 4, 5, 6, 7, 8, 9, 10, 11, 12, 14, 16, 21, 44, 63, 67, 101] mixed (e2) ?_
      refine ⟨⟨i + 1, by omega⟩, id, by show l.length - (i + 1) < l.length - i; omega, ?_⟩
      exact Weak.mk (PV.q v w 2)
  have h1 : decide ((i : Int) < l.length) = false := by simp only [decide_eq_false_iff_not]; omega
  refine SW.g0 [0, 1, 3, 4, 5, 6, 7, 8, 9, 10, 11, 12, 14, 16, 21, 44, 63, 67, 101] mixed (h1) ?_
  refine SW.condF rfl (SW.exit (SW.seq ?_))
  have hlc := cutV_len l v
  have hc2 := fun k => cut_at (cutV l v) (by omega) w k
  rw [cut_cut] at hc2
  have hc3 := fun k => cut_at l (by omega) (Vec.zip min v w) k
  have hsm := fun k => samel_at (cutV l (Vec.zip min v w)) (by have := cutV_len l (Vec.zip min v w); omega) (fun x hx => .inr (hl.op x (cutV_sub l _ x hx)).1.w.lin) k
  refine SW.g4 [0, 1, 3, 4, 5, 6, 7, 8, 9, 10, 11, 12, 14, 16, 21, 44, 63, 67, 101] mixed (And.intro (p1) (p3)) hc2 hc3 hsm head10_at ?_
  refine SW.ret ?_
  exact End.mk [] (h4 := ⟨rfl, rfl⟩)
end Go.Proofs.YtemghnbbmahaaaaDoor
