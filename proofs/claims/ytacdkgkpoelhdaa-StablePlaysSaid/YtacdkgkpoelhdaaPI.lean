/-
  What the references' functions compute, of vectors and dots.
-/
import Derived.Test.YtacdkgkpoelhdaaPV
import Derived.Test.YtacdkgkpoelhdaaP4
import Derived.Test.YtacdkgkpoelhdaaChecked
import Derived.Shelf.SlMaps.Clone
import Derived.Test.YtacdkgkpoelhdaaP6
import Derived.Test.YtacdkgkpoelhdaaPG
set_option linter.unusedSectionVars false
set_option linter.unusedVariables false
set_option linter.unusedSimpArgs false
namespace Go.Proofs.Ytacdkgkpoelhdaa
open Go.Sl Go.Proofs
theorem rmay_ok4 (d : Dt) : Go.Sl.Pure Try.prog ref03_May.f [.agg d.cells] (bl d.may) := by
  refine ref03_May.enter rfl rfl (by simp) ?_
  unfold ref03_May.s
  refine SW.seq ?_
  refine SW.reg [] mixed (by simp only [runs, runOp, goOp, sop, ev, evs, evp, upd, argE, List.lookup, Nat.reduceBEq, Nat.reduceAdd, Nat.reduceMul, Nat.zero_add, SV.cells, if_true, if_false, reduceIte, Bool.false_eq_true, roOf, hmrg, hsets, hdels, hset, hrep, hdel, touchL, lk, List.filter, Nat.reduceBNe, bne_self_eq_false, ldv, ldo, cellsAt, binV, binK, mvp, Vec.cells_one, BEq.rfl, beq_self_eq_true, Bool.true_or, Nat.reduceEqDiff, List.map_cons, List.map_nil, List.nil_append, List.cons_append, List.append_nil, Int.toNat_natCast, Nat.mul_one, Nat.add_zero, findS, keyOk, isAggS, msetS, mdelS, lookS, lookOk, Option.isSome_some, Option.isSome_none, Option.isNone_some, Option.isNone_none, Nat.zero_ne_one, Nat.one_ne_zero, Bool.and_false, Bool.and_true, List.drop_zero, Vec.zero_cells, Vec.take_all, Vec.spl_all, Dt.cells_one, Dt.take_all, Dt.get0, Dt.get1, Dt.spl_all, Dt.zero_cells, Dt.bld, bldS, datas, appB, appX, List.all_cons, List.all_nil, SV.isOne, Int.cast_ofNat_Int, Int.reduceBNe, Int.reduceBEq, Int.reduceLT, Int.reduceLE, Int.reduceGT, Int.reduceGE, one_map, bq_ft, bq_tf, Bool.not_true, Bool.not_false, Bool.or_false, Bool.or_true, Bool.false_or, Bool.or_self, Vec.row0, Vec.row8, Vec.row16, Vec.row24, Vec.datas_app, Vec.datas_one, Dt.row0, Dt.row2, Dt.datas_app, Dt.datas_one, List.all_append, Vec.eqb8, Dt.eqb, Bool.cond_true, Bool.cond_false]; rfl) (by simp [-List.length_flatMap, -Int.natCast_add] <;> omega) (by rfl) ?_
  refine SW.seq ?_
  by_cases h : (d.r : Int) ≤ 7
  · refine SW.reg [] mixed (by simp only [runs, runOp, goOp, sop, ev, evs, evp, upd, argE, List.lookup, Nat.reduceBEq, Nat.reduceAdd, Nat.reduceMul, Nat.zero_add, SV.cells, if_true, if_false, reduceIte, Bool.false_eq_true, roOf, hmrg, hsets, hdels, hset, hrep, hdel, touchL, lk, List.filter, Nat.reduceBNe, bne_self_eq_false, ldv, ldo, cellsAt, binV, binK, mvp, Vec.cells_one, BEq.rfl, beq_self_eq_true, Bool.true_or, Nat.reduceEqDiff, List.map_cons, List.map_nil, List.nil_append, List.cons_append, List.append_nil, Int.toNat_natCast, Nat.mul_one, Nat.add_zero, findS, keyOk, isAggS, msetS, mdelS, lookS, lookOk, Option.isSome_some, Option.isSome_none, Option.isNone_some, Option.isNone_none, Nat.zero_ne_one, Nat.one_ne_zero, Bool.and_false, Bool.and_true, List.drop_zero, Vec.zero_cells, Vec.take_all, Vec.spl_all, Dt.cells_one, Dt.take_all, Dt.get0, Dt.get1, Dt.spl_all, Dt.zero_cells, Dt.bld, bldS, datas, appB, appX, List.all_cons, List.all_nil, SV.isOne, Int.cast_ofNat_Int, Int.reduceBNe, Int.reduceBEq, Int.reduceLT, Int.reduceLE, Int.reduceGT, Int.reduceGE, one_map, bq_ft, bq_tf, Bool.not_true, Bool.not_false, Bool.or_false, Bool.or_true, Bool.false_or, Bool.or_self, Vec.row0, Vec.row8, Vec.row16, Vec.row24, Vec.datas_app, Vec.datas_one, Dt.row0, Dt.row2, Dt.datas_app, Dt.datas_one, List.all_append, Vec.eqb8, Dt.eqb, Bool.cond_true, Bool.cond_false, h, decide_true]; rfl) (by simp [-List.length_flatMap, -Int.natCast_add] <;> omega) (by rfl) ?_
    refine SW.ret ?_
    refine fin_pure (by rfl) (by simp [ldo]) ?_ rfl
    have : d.r < 8 := by omega
    simp [retV, Dt.may, this]
    omega
  · refine SW.reg [] mixed (by simp only [runs, runOp, goOp, sop, ev, evs, evp, upd, argE, List.lookup, Nat.reduceBEq, Nat.reduceAdd, Nat.reduceMul, Nat.zero_add, SV.cells, if_true, if_false, reduceIte, Bool.false_eq_true, roOf, hmrg, hsets, hdels, hset, hrep, hdel, touchL, lk, List.filter, Nat.reduceBNe, bne_self_eq_false, ldv, ldo, cellsAt, binV, binK, mvp, Vec.cells_one, BEq.rfl, beq_self_eq_true, Bool.true_or, Nat.reduceEqDiff, List.map_cons, List.map_nil, List.nil_append, List.cons_append, List.append_nil, Int.toNat_natCast, Nat.mul_one, Nat.add_zero, findS, keyOk, isAggS, msetS, mdelS, lookS, lookOk, Option.isSome_some, Option.isSome_none, Option.isNone_some, Option.isNone_none, Nat.zero_ne_one, Nat.one_ne_zero, Bool.and_false, Bool.and_true, List.drop_zero, Vec.zero_cells, Vec.take_all, Vec.spl_all, Dt.cells_one, Dt.take_all, Dt.get0, Dt.get1, Dt.spl_all, Dt.zero_cells, Dt.bld, bldS, datas, appB, appX, List.all_cons, List.all_nil, SV.isOne, Int.cast_ofNat_Int, Int.reduceBNe, Int.reduceBEq, Int.reduceLT, Int.reduceLE, Int.reduceGT, Int.reduceGE, one_map, bq_ft, bq_tf, Bool.not_true, Bool.not_false, Bool.or_false, Bool.or_true, Bool.false_or, Bool.or_self, Vec.row0, Vec.row8, Vec.row16, Vec.row24, Vec.datas_app, Vec.datas_one, Dt.row0, Dt.row2, Dt.datas_app, Dt.datas_one, List.all_append, Vec.eqb8, Dt.eqb, Bool.cond_true, Bool.cond_false, h, decide_false]; rfl) (by simp [-List.length_flatMap, -Int.natCast_add] <;> omega) (by rfl) ?_
    refine SW.ret ?_
    refine fin_pure (by rfl) (by simp [ldo]) ?_ rfl
    have : ¬ d.r < 8 := by omega
    simp [retV, Dt.may, this]
theorem rabove_ok4 (a b : Vec) : Go.Sl.Pure Try.prog ref04_Above.f [.agg a.cells, .agg b.cells] (bl (a.above b)) := by
  refine ref04_Above.enter rfl rfl (by simp) ?_
  unfold ref04_Above.s
  refine SW.seq ?_
  refine SW.reg [] mixed (by simp only [runs, runOp, goOp, sop, ev, evs, evp, upd, argE, List.lookup, Nat.reduceBEq, Nat.reduceAdd, Nat.reduceMul, Nat.zero_add, SV.cells, if_true, if_false, reduceIte, Bool.false_eq_true, roOf, hmrg, hsets, hdels, hset, hrep, hdel, touchL, lk, List.filter, Nat.reduceBNe, bne_self_eq_false, ldv, ldo, cellsAt, binV, binK, mvp, Vec.cells_one, BEq.rfl, beq_self_eq_true, Bool.true_or, Nat.reduceEqDiff, List.map_cons, List.map_nil, List.nil_append, List.cons_append, List.append_nil, Int.toNat_natCast, Nat.mul_one, Nat.add_zero, findS, keyOk, isAggS, msetS, mdelS, lookS, lookOk, Option.isSome_some, Option.isSome_none, Option.isNone_some, Option.isNone_none, Nat.zero_ne_one, Nat.one_ne_zero, Bool.and_false, Bool.and_true, List.drop_zero, Vec.zero_cells, Vec.take_all, Vec.spl_all, Dt.cells_one, Dt.take_all, Dt.get0, Dt.get1, Dt.spl_all, Dt.zero_cells, Dt.bld, bldS, datas, appB, appX, List.all_cons, List.all_nil, SV.isOne, Int.cast_ofNat_Int, Int.reduceBNe, Int.reduceBEq, Int.reduceLT, Int.reduceLE, Int.reduceGT, Int.reduceGE, one_map, bq_ft, bq_tf, Bool.not_true, Bool.not_false, Bool.or_false, Bool.or_true, Bool.false_or, Bool.or_self, Vec.row0, Vec.row8, Vec.row16, Vec.row24, Vec.datas_app, Vec.datas_one, Dt.row0, Dt.row2, Dt.datas_app, Dt.datas_one, List.all_append, Vec.eqb8, Dt.eqb, Bool.cond_true, Bool.cond_false]; rfl) (by simp [-List.length_flatMap, -Int.natCast_add] <;> omega) (by rfl) ?_
  refine SW.seq ?_
  refine SW.seq ?_
  refine SW.reg [] mixed (by simp only [runs, runOp, goOp, sop, ev, evs, evp, upd, argE, List.lookup, Nat.reduceBEq, Nat.reduceAdd, Nat.reduceMul, Nat.zero_add, SV.cells, if_true, if_false, reduceIte, Bool.false_eq_true, roOf, hmrg, hsets, hdels, hset, hrep, hdel, touchL, lk, List.filter, Nat.reduceBNe, bne_self_eq_false, ldv, ldo, cellsAt, binV, binK, mvp, Vec.cells_one, BEq.rfl, beq_self_eq_true, Bool.true_or, Nat.reduceEqDiff, List.map_cons, List.map_nil, List.nil_append, List.cons_append, List.append_nil, Int.toNat_natCast, Nat.mul_one, Nat.add_zero, findS, keyOk, isAggS, msetS, mdelS, lookS, lookOk, Option.isSome_some, Option.isSome_none, Option.isNone_some, Option.isNone_none, Nat.zero_ne_one, Nat.one_ne_zero, Bool.and_false, Bool.and_true, List.drop_zero, Vec.zero_cells, Vec.take_all, Vec.spl_all, Dt.cells_one, Dt.take_all, Dt.get0, Dt.get1, Dt.spl_all, Dt.zero_cells, Dt.bld, bldS, datas, appB, appX, List.all_cons, List.all_nil, SV.isOne, Int.cast_ofNat_Int, Int.reduceBNe, Int.reduceBEq, Int.reduceLT, Int.reduceLE, Int.reduceGT, Int.reduceGE, one_map, bq_ft, bq_tf, Bool.not_true, Bool.not_false, Bool.or_false, Bool.or_true, Bool.false_or, Bool.or_self, Vec.row0, Vec.row8, Vec.row16, Vec.row24, Vec.datas_app, Vec.datas_one, Dt.row0, Dt.row2, Dt.datas_app, Dt.datas_one, List.all_append, Vec.eqb8, Dt.eqb, Bool.cond_true, Bool.cond_false]; rfl) (by simp [-List.length_flatMap, -Int.natCast_add] <;> omega) (by rfl) ?_
  refine SW.block ?_
  refine SW.loopS (α := {i : Nat // i ≤ 8 ∧ ∀ r, r < i → b.get r ≤ a.get r}) (fun i => ⟨[(5, i64 i.1), (2, .ptr 0 0), (3, .ptr 1 0)], [(0, .box 25 a.cells), (1, .box 25 b.cells)], 2⟩) (fun i => 8 - i.1) ⟨0, by omega, by omega⟩ (by simp [Go.Sl.Sub, EnvS, HpS, SV.ok, Ob.ok, SV.oks, lk, List.lookup, Vec.cells_ok]) ?_
  rintro ⟨i, hi, hs⟩
  refine SW.seq ?_
  refine SW.seq ?_
  refine SW.reg [] mixed (by simp only [runs, runOp, goOp, sop, ev, evs, evp, upd, argE, List.lookup, Nat.reduceBEq, Nat.reduceAdd, Nat.reduceMul, Nat.zero_add, SV.cells, if_true, if_false, reduceIte, Bool.false_eq_true, roOf, hmrg, hsets, hdels, hset, hrep, hdel, touchL, lk, List.filter, Nat.reduceBNe, bne_self_eq_false, ldv, ldo, cellsAt, binV, binK, mvp, Vec.cells_one, BEq.rfl, beq_self_eq_true, Bool.true_or, Nat.reduceEqDiff, List.map_cons, List.map_nil, List.nil_append, List.cons_append, List.append_nil, Int.toNat_natCast, Nat.mul_one, Nat.add_zero, findS, keyOk, isAggS, msetS, mdelS, lookS, lookOk, Option.isSome_some, Option.isSome_none, Option.isNone_some, Option.isNone_none, Nat.zero_ne_one, Nat.one_ne_zero, Bool.and_false, Bool.and_true, List.drop_zero, Vec.zero_cells, Vec.take_all, Vec.spl_all, Dt.cells_one, Dt.take_all, Dt.get0, Dt.get1, Dt.spl_all, Dt.zero_cells, Dt.bld, bldS, datas, appB, appX, List.all_cons, List.all_nil, SV.isOne, Int.cast_ofNat_Int, Int.reduceBNe, Int.reduceBEq, Int.reduceLT, Int.reduceLE, Int.reduceGT, Int.reduceGE, one_map, bq_ft, bq_tf, Bool.not_true, Bool.not_false, Bool.or_false, Bool.or_true, Bool.false_or, Bool.or_self, Vec.row0, Vec.row8, Vec.row16, Vec.row24, Vec.datas_app, Vec.datas_one, Dt.row0, Dt.row2, Dt.datas_app, Dt.datas_one, List.all_append, Vec.eqb8, Dt.eqb, Bool.cond_true, Bool.cond_false]; rfl) (by simp [-List.length_flatMap, -Int.natCast_add] <;> omega) (by rfl) ?_
  refine SW.cond rfl (fun h => SW.skip ?_) (fun h => SW.exit ?_)
  · have h : i < 8 := by simp at h; omega
    refine SW.seq ?_
    refine SW.block ?_
    refine SW.seq ?_
    refine SW.reg [] mixed (by simp only [runs, runOp, goOp, sop, ev, evs, evp, upd, argE, List.lookup, Nat.reduceBEq, Nat.reduceAdd, Nat.reduceMul, Nat.zero_add, SV.cells, if_true, if_false, reduceIte, Bool.false_eq_true, roOf, hmrg, hsets, hdels, hset, hrep, hdel, touchL, lk, List.filter, Nat.reduceBNe, bne_self_eq_false, ldv, ldo, cellsAt, binV, binK, mvp, Vec.cells_one, BEq.rfl, beq_self_eq_true, Bool.true_or, Nat.reduceEqDiff, List.map_cons, List.map_nil, List.nil_append, List.cons_append, List.append_nil, Int.toNat_natCast, Nat.mul_one, Nat.add_zero, findS, keyOk, isAggS, msetS, mdelS, lookS, lookOk, Option.isSome_some, Option.isSome_none, Option.isNone_some, Option.isNone_none, Nat.zero_ne_one, Nat.one_ne_zero, Bool.and_false, Bool.and_true, List.drop_zero, Vec.zero_cells, Vec.take_all, Vec.spl_all, Dt.cells_one, Dt.take_all, Dt.get0, Dt.get1, Dt.spl_all, Dt.zero_cells, Dt.bld, bldS, datas, appB, appX, List.all_cons, List.all_nil, SV.isOne, Int.cast_ofNat_Int, Int.reduceBNe, Int.reduceBEq, Int.reduceLT, Int.reduceLE, Int.reduceGT, Int.reduceGE, one_map, bq_ft, bq_tf, Bool.not_true, Bool.not_false, Bool.or_false, Bool.or_true, Bool.false_or, Bool.or_self, Vec.row0, Vec.row8, Vec.row16, Vec.row24, Vec.datas_app, Vec.datas_one, Dt.row0, Dt.row2, Dt.datas_app, Dt.datas_one, List.all_append, Vec.eqb8, Dt.eqb, Bool.cond_true, Bool.cond_false, a.cells_get h, b.cells_get h]; rfl) (by simp [-List.length_flatMap, -Int.natCast_add] <;> omega) (by rfl) ?_
    refine SW.cond rfl (fun hc => ?_) (fun hc => SW.skip ?_)
    · refine SW.seq ?_
      refine SW.reg [] mixed (by simp only [runs, runOp, goOp, sop, ev, evs, evp, upd, argE, List.lookup, Nat.reduceBEq, Nat.reduceAdd, Nat.reduceMul, Nat.zero_add, SV.cells, if_true, if_false, reduceIte, Bool.false_eq_true, roOf, hmrg, hsets, hdels, hset, hrep, hdel, touchL, lk, List.filter, Nat.reduceBNe, bne_self_eq_false, ldv, ldo, cellsAt, binV, binK, mvp, Vec.cells_one, BEq.rfl, beq_self_eq_true, Bool.true_or, Nat.reduceEqDiff, List.map_cons, List.map_nil, List.nil_append, List.cons_append, List.append_nil, Int.toNat_natCast, Nat.mul_one, Nat.add_zero, findS, keyOk, isAggS, msetS, mdelS, lookS, lookOk, Option.isSome_some, Option.isSome_none, Option.isNone_some, Option.isNone_none, Nat.zero_ne_one, Nat.one_ne_zero, Bool.and_false, Bool.and_true, List.drop_zero, Vec.zero_cells, Vec.take_all, Vec.spl_all, Dt.cells_one, Dt.take_all, Dt.get0, Dt.get1, Dt.spl_all, Dt.zero_cells, Dt.bld, bldS, datas, appB, appX, List.all_cons, List.all_nil, SV.isOne, Int.cast_ofNat_Int, Int.reduceBNe, Int.reduceBEq, Int.reduceLT, Int.reduceLE, Int.reduceGT, Int.reduceGE, one_map, bq_ft, bq_tf, Bool.not_true, Bool.not_false, Bool.or_false, Bool.or_true, Bool.false_or, Bool.or_self, Vec.row0, Vec.row8, Vec.row16, Vec.row24, Vec.datas_app, Vec.datas_one, Dt.row0, Dt.row2, Dt.datas_app, Dt.datas_one, List.all_append, Vec.eqb8, Dt.eqb, Bool.cond_true, Bool.cond_false]; rfl) (by simp [-List.length_flatMap, -Int.natCast_add] <;> omega) (by rfl) ?_
      refine SW.ret ?_
      refine fin_pure (by rfl) (by simp [ldo]) ?_ rfl
      have : a.above b = false := by
        cases hab : a.above b with
        | false => rfl
        | true => have := Vec.above_iff.1 hab i h; simp at hc; omega
      rw [this]; rfl
    · refine SW.reg [] mixed (by simp only [runs, runOp, goOp, sop, ev, evs, evp, upd, argE, List.lookup, Nat.reduceBEq, Nat.reduceAdd, Nat.reduceMul, Nat.zero_add, SV.cells, if_true, if_false, reduceIte, Bool.false_eq_true, roOf, hmrg, hsets, hdels, hset, hrep, hdel, touchL, lk, List.filter, Nat.reduceBNe, bne_self_eq_false, ldv, ldo, cellsAt, binV, binK, mvp, Vec.cells_one, BEq.rfl, beq_self_eq_true, Bool.true_or, Nat.reduceEqDiff, List.map_cons, List.map_nil, List.nil_append, List.cons_append, List.append_nil, Int.toNat_natCast, Nat.mul_one, Nat.add_zero, findS, keyOk, isAggS, msetS, mdelS, lookS, lookOk, Option.isSome_some, Option.isSome_none, Option.isNone_some, Option.isNone_none, Nat.zero_ne_one, Nat.one_ne_zero, Bool.and_false, Bool.and_true, List.drop_zero, Vec.zero_cells, Vec.take_all, Vec.spl_all, Dt.cells_one, Dt.take_all, Dt.get0, Dt.get1, Dt.spl_all, Dt.zero_cells, Dt.bld, bldS, datas, appB, appX, List.all_cons, List.all_nil, SV.isOne, Int.cast_ofNat_Int, Int.reduceBNe, Int.reduceBEq, Int.reduceLT, Int.reduceLE, Int.reduceGT, Int.reduceGE, one_map, bq_ft, bq_tf, Bool.not_true, Bool.not_false, Bool.or_false, Bool.or_true, Bool.false_or, Bool.or_self, Vec.row0, Vec.row8, Vec.row16, Vec.row24, Vec.datas_app, Vec.datas_one, Dt.row0, Dt.row2, Dt.datas_app, Dt.datas_one, List.all_append, Vec.eqb8, Dt.eqb, Bool.cond_true, Bool.cond_false, wrap_succ i (by omega)]; rfl) (by simp [-List.length_flatMap, -Int.natCast_add] <;> omega) (by rfl) ?_
      refine ⟨⟨i + 1, by omega, fun r hr => ?_⟩, by simp; omega, by simp [Go.Sl.Sub, EnvS, HpS, SV.ok, Ob.ok, SV.oks, lk, List.lookup, Vec.cells_ok]⟩
      by_cases hri : r = i
      · subst hri; simp at hc; omega
      · exact hs r (by omega)
  · have h : i = 8 := by simp at h; omega
    subst h
    refine SW.seq ?_
    refine SW.reg [] mixed (by simp only [runs, runOp, goOp, sop, ev, evs, evp, upd, argE, List.lookup, Nat.reduceBEq, Nat.reduceAdd, Nat.reduceMul, Nat.zero_add, SV.cells, if_true, if_false, reduceIte, Bool.false_eq_true, roOf, hmrg, hsets, hdels, hset, hrep, hdel, touchL, lk, List.filter, Nat.reduceBNe, bne_self_eq_false, ldv, ldo, cellsAt, binV, binK, mvp, Vec.cells_one, BEq.rfl, beq_self_eq_true, Bool.true_or, Nat.reduceEqDiff, List.map_cons, List.map_nil, List.nil_append, List.cons_append, List.append_nil, Int.toNat_natCast, Nat.mul_one, Nat.add_zero, findS, keyOk, isAggS, msetS, mdelS, lookS, lookOk, Option.isSome_some, Option.isSome_none, Option.isNone_some, Option.isNone_none, Nat.zero_ne_one, Nat.one_ne_zero, Bool.and_false, Bool.and_true, List.drop_zero, Vec.zero_cells, Vec.take_all, Vec.spl_all, Dt.cells_one, Dt.take_all, Dt.get0, Dt.get1, Dt.spl_all, Dt.zero_cells, Dt.bld, bldS, datas, appB, appX, List.all_cons, List.all_nil, SV.isOne, Int.cast_ofNat_Int, Int.reduceBNe, Int.reduceBEq, Int.reduceLT, Int.reduceLE, Int.reduceGT, Int.reduceGE, one_map, bq_ft, bq_tf, Bool.not_true, Bool.not_false, Bool.or_false, Bool.or_true, Bool.false_or, Bool.or_self, Vec.row0, Vec.row8, Vec.row16, Vec.row24, Vec.datas_app, Vec.datas_one, Dt.row0, Dt.row2, Dt.datas_app, Dt.datas_one, List.all_append, Vec.eqb8, Dt.eqb, Bool.cond_true, Bool.cond_false]; rfl) (by simp [-List.length_flatMap, -Int.natCast_add] <;> omega) (by rfl) ?_
    refine SW.ret ?_
    refine fin_pure (by rfl) (by simp [ldo]) ?_ rfl
    rw [Vec.above_iff.2 hs]; rfl
theorem rabove_at4 (a b : Vec) (k : Nat) : SCd Try.prog ref04_Above.f [.agg a.cells, .agg b.cells] [] k 0 (bl (a.above b)) [] := (rabove_ok4 a b).sc rfl k
theorem rmerge_ok (l : List Vec) (hl : l.length < 1000000000) : Go.Sl.Pure Try.prog ref04_Merge.f [vecs l] (.agg (Vec.all max l).cells) := by
  refine ref04_Merge.enter rfl rfl (by simp) ?_
  unfold ref04_Merge.s
  refine SW.seq ?_
  refine SW.reg [] mixed (by simp only [runs, runOp, goOp, sop, ev, evs, evp, upd, argE, List.lookup, Nat.reduceBEq, Nat.reduceAdd, Nat.reduceMul, Nat.zero_add, SV.cells, if_true, if_false, reduceIte, Bool.false_eq_true, roOf, hmrg, hsets, hdels, hset, hrep, hdel, touchL, lk, List.filter, Nat.reduceBNe, bne_self_eq_false, ldv, ldo, cellsAt, binV, binK, mvp, Vec.cells_one, BEq.rfl, beq_self_eq_true, Bool.true_or, Nat.reduceEqDiff, List.map_cons, List.map_nil, List.nil_append, List.cons_append, List.append_nil, Int.toNat_natCast, Nat.mul_one, Nat.add_zero, findS, keyOk, isAggS, msetS, mdelS, lookS, lookOk, Option.isSome_some, Option.isSome_none, Option.isNone_some, Option.isNone_none, Nat.zero_ne_one, Nat.one_ne_zero, Bool.and_false, Bool.and_true, List.drop_zero, Vec.zero_cells, Vec.take_all, Vec.spl_all, Dt.cells_one, Dt.take_all, Dt.get0, Dt.get1, Dt.spl_all, Dt.zero_cells, Dt.bld, bldS, datas, appB, appX, List.all_cons, List.all_nil, SV.isOne, Int.cast_ofNat_Int, Int.reduceBNe, Int.reduceBEq, Int.reduceLT, Int.reduceLE, Int.reduceGT, Int.reduceGE, one_map, bq_ft, bq_tf, Bool.not_true, Bool.not_false, Bool.or_false, Bool.or_true, Bool.false_or, Bool.or_self, Vec.row0, Vec.row8, Vec.row16, Vec.row24, Vec.datas_app, Vec.datas_one, Dt.row0, Dt.row2, Dt.datas_app, Dt.datas_one, List.all_append, Vec.eqb8, Dt.eqb, Bool.cond_true, Bool.cond_false]; rfl) (by simp [-List.length_flatMap, -Int.natCast_add] <;> omega) (by rfl) ?_
  refine SW.seq ?_
  refine SW.reg [] mixed (by simp only [runs, runOp, goOp, sop, ev, evs, evp, upd, argE, List.lookup, Nat.reduceBEq, Nat.reduceAdd, Nat.reduceMul, Nat.zero_add, SV.cells, if_true, if_false, reduceIte, Bool.false_eq_true, roOf, hmrg, hsets, hdels, hset, hrep, hdel, touchL, lk, List.filter, Nat.reduceBNe, bne_self_eq_false, ldv, ldo, cellsAt, binV, binK, mvp, Vec.cells_one, BEq.rfl, beq_self_eq_true, Bool.true_or, Nat.reduceEqDiff, List.map_cons, List.map_nil, List.nil_append, List.cons_append, List.append_nil, Int.toNat_natCast, Nat.mul_one, Nat.add_zero, findS, keyOk, isAggS, msetS, mdelS, lookS, lookOk, Option.isSome_some, Option.isSome_none, Option.isNone_some, Option.isNone_none, Nat.zero_ne_one, Nat.one_ne_zero, Bool.and_false, Bool.and_true, List.drop_zero, Vec.zero_cells, Vec.take_all, Vec.spl_all, Dt.cells_one, Dt.take_all, Dt.get0, Dt.get1, Dt.spl_all, Dt.zero_cells, Dt.bld, bldS, datas, appB, appX, List.all_cons, List.all_nil, SV.isOne, Int.cast_ofNat_Int, Int.reduceBNe, Int.reduceBEq, Int.reduceLT, Int.reduceLE, Int.reduceGT, Int.reduceGE, one_map, bq_ft, bq_tf, Bool.not_true, Bool.not_false, Bool.or_false, Bool.or_true, Bool.false_or, Bool.or_self, Vec.row0, Vec.row8, Vec.row16, Vec.row24, Vec.datas_app, Vec.datas_one, Dt.row0, Dt.row2, Dt.datas_app, Dt.datas_one, List.all_append, Vec.eqb8, Dt.eqb, Bool.cond_true, Bool.cond_false]; rfl) (by simp [-List.length_flatMap, -Int.natCast_add] <;> omega) (by rfl) ?_
  refine SW.seq ?_
  refine SW.seq ?_
  refine SW.reg [] mixed (by simp only [runs, runOp, goOp, sop, ev, evs, evp, upd, argE, List.lookup, Nat.reduceBEq, Nat.reduceAdd, Nat.reduceMul, Nat.zero_add, SV.cells, if_true, if_false, reduceIte, Bool.false_eq_true, roOf, hmrg, hsets, hdels, hset, hrep, hdel, touchL, lk, List.filter, Nat.reduceBNe, bne_self_eq_false, ldv, ldo, cellsAt, binV, binK, mvp, Vec.cells_one, BEq.rfl, beq_self_eq_true, Bool.true_or, Nat.reduceEqDiff, List.map_cons, List.map_nil, List.nil_append, List.cons_append, List.append_nil, Int.toNat_natCast, Nat.mul_one, Nat.add_zero, findS, keyOk, isAggS, msetS, mdelS, lookS, lookOk, Option.isSome_some, Option.isSome_none, Option.isNone_some, Option.isNone_none, Nat.zero_ne_one, Nat.one_ne_zero, Bool.and_false, Bool.and_true, List.drop_zero, Vec.zero_cells, Vec.take_all, Vec.spl_all, Dt.cells_one, Dt.take_all, Dt.get0, Dt.get1, Dt.spl_all, Dt.zero_cells, Dt.bld, bldS, datas, appB, appX, List.all_cons, List.all_nil, SV.isOne, Int.cast_ofNat_Int, Int.reduceBNe, Int.reduceBEq, Int.reduceLT, Int.reduceLE, Int.reduceGT, Int.reduceGE, one_map, bq_ft, bq_tf, Bool.not_true, Bool.not_false, Bool.or_false, Bool.or_true, Bool.false_or, Bool.or_self, Vec.row0, Vec.row8, Vec.row16, Vec.row24, Vec.datas_app, Vec.datas_one, Dt.row0, Dt.row2, Dt.datas_app, Dt.datas_one, List.all_append, Vec.eqb8, Dt.eqb, Bool.cond_true, Bool.cond_false]; rfl) (by simp [-List.length_flatMap, -Int.natCast_add] <;> omega) (by rfl) ?_
  refine SW.block ?_
  refine SW.loopS (α := {i : Nat // i ≤ l.length}) (fun i => ⟨[(4, i64 i.1), (0, vecs l), (2, .ptr 0 0), (3, .ptr 1 0)], [(0, .box 25 Vec.zero.cells), (1, .box 25 ((l.take i.1).foldl (Vec.zip max) Vec.zero).cells)], 2⟩) (fun i => l.length - i.1) ⟨0, by omega⟩ (by simp; simp [Go.Sl.Sub, EnvS, HpS, SV.ok, Ob.ok, SV.oks, lk, List.lookup, Vec.cells_ok]) ?_
  rintro ⟨i, hi⟩
  refine SW.seq ?_
  refine SW.seq ?_
  refine SW.reg [] mixed (by simp only [runs, runOp, goOp, sop, ev, evs, evp, upd, argE, List.lookup, Nat.reduceBEq, Nat.reduceAdd, Nat.reduceMul, Nat.zero_add, SV.cells, if_true, if_false, reduceIte, Bool.false_eq_true, roOf, hmrg, hsets, hdels, hset, hrep, hdel, touchL, lk, List.filter, Nat.reduceBNe, bne_self_eq_false, ldv, ldo, cellsAt, binV, binK, mvp, Vec.cells_one, BEq.rfl, beq_self_eq_true, Bool.true_or, Nat.reduceEqDiff, List.map_cons, List.map_nil, List.nil_append, List.cons_append, List.append_nil, Int.toNat_natCast, Nat.mul_one, Nat.add_zero, findS, keyOk, isAggS, msetS, mdelS, lookS, lookOk, Option.isSome_some, Option.isSome_none, Option.isNone_some, Option.isNone_none, Nat.zero_ne_one, Nat.one_ne_zero, Bool.and_false, Bool.and_true, List.drop_zero, Vec.zero_cells, Vec.take_all, Vec.spl_all, Dt.cells_one, Dt.take_all, Dt.get0, Dt.get1, Dt.spl_all, Dt.zero_cells, Dt.bld, bldS, datas, appB, appX, List.all_cons, List.all_nil, SV.isOne, Int.cast_ofNat_Int, Int.reduceBNe, Int.reduceBEq, Int.reduceLT, Int.reduceLE, Int.reduceGT, Int.reduceGE, one_map, bq_ft, bq_tf, Bool.not_true, Bool.not_false, Bool.or_false, Bool.or_true, Bool.false_or, Bool.or_self, Vec.row0, Vec.row8, Vec.row16, Vec.row24, Vec.datas_app, Vec.datas_one, Dt.row0, Dt.row2, Dt.datas_app, Dt.datas_one, List.all_append, Vec.eqb8, Dt.eqb, Bool.cond_true, Bool.cond_false]; rfl) (by simp [-List.length_flatMap, -Int.natCast_add] <;> omega) (by rfl) ?_
  refine SW.cond rfl (fun h => SW.skip ?_) (fun h => SW.exit ?_)
  · have hi2 : i < l.length := by simp at h; omega
    obtain ⟨x, hx⟩ := get_of_lt hi2
    generalize ha : (l.take i).foldl (Vec.zip max) Vec.zero = a
    refine SW.seq ?_
    refine SW.block ?_
    refine SW.seq ?_
    refine SW.reg [] mixed (by simp only [runs, runOp, goOp, sop, ev, evs, evp, upd, argE, List.lookup, Nat.reduceBEq, Nat.reduceAdd, Nat.reduceMul, Nat.zero_add, SV.cells, if_true, if_false, reduceIte, Bool.false_eq_true, roOf, hmrg, hsets, hdels, hset, hrep, hdel, touchL, lk, List.filter, Nat.reduceBNe, bne_self_eq_false, ldv, ldo, cellsAt, binV, binK, mvp, Vec.cells_one, BEq.rfl, beq_self_eq_true, Bool.true_or, Nat.reduceEqDiff, List.map_cons, List.map_nil, List.nil_append, List.cons_append, List.append_nil, Int.toNat_natCast, Nat.mul_one, Nat.add_zero, findS, keyOk, isAggS, msetS, mdelS, lookS, lookOk, Option.isSome_some, Option.isSome_none, Option.isNone_some, Option.isNone_none, Nat.zero_ne_one, Nat.one_ne_zero, Bool.and_false, Bool.and_true, List.drop_zero, Vec.zero_cells, Vec.take_all, Vec.spl_all, Dt.cells_one, Dt.take_all, Dt.get0, Dt.get1, Dt.spl_all, Dt.zero_cells, Dt.bld, bldS, datas, appB, appX, List.all_cons, List.all_nil, SV.isOne, Int.cast_ofNat_Int, Int.reduceBNe, Int.reduceBEq, Int.reduceLT, Int.reduceLE, Int.reduceGT, Int.reduceGE, one_map, bq_ft, bq_tf, Bool.not_true, Bool.not_false, Bool.or_false, Bool.or_true, Bool.false_or, Bool.or_self, Vec.row0, Vec.row8, Vec.row16, Vec.row24, Vec.datas_app, Vec.datas_one, Dt.row0, Dt.row2, Dt.datas_app, Dt.datas_one, List.all_append, Vec.eqb8, Dt.eqb, Bool.cond_true, Bool.cond_false]; rfl) (by simp [-List.length_flatMap, -Int.natCast_add] <;> omega) (by rfl) ?_
    refine SW.block ?_
    refine SW.loopS (α := {r : Nat // r ≤ 8}) (fun r => ⟨[(5, i64 r.1), (4, i64 i), (0, vecs l), (2, .ptr 0 0), (3, .ptr 1 0)], [(0, .box 25 Vec.zero.cells), (1, .box 25 (Vec.upto r.1 (Vec.zip max a x) a).cells)], 2⟩) (fun r => 8 - r.1) ⟨0, by omega⟩ (by simp only [Vec.upto_zero]; simp [Go.Sl.Sub, EnvS, HpS, SV.ok, Ob.ok, SV.oks, lk, List.lookup, Vec.cells_ok]) ?_
    rintro ⟨r, hr⟩
    refine SW.seq ?_
    refine SW.seq ?_
    refine SW.reg [] mixed (by simp only [runs, runOp, goOp, sop, ev, evs, evp, upd, argE, List.lookup, Nat.reduceBEq, Nat.reduceAdd, Nat.reduceMul, Nat.zero_add, SV.cells, if_true, if_false, reduceIte, Bool.false_eq_true, roOf, hmrg, hsets, hdels, hset, hrep, hdel, touchL, lk, List.filter, Nat.reduceBNe, bne_self_eq_false, ldv, ldo, cellsAt, binV, binK, mvp, Vec.cells_one, BEq.rfl, beq_self_eq_true, Bool.true_or, Nat.reduceEqDiff, List.map_cons, List.map_nil, List.nil_append, List.cons_append, List.append_nil, Int.toNat_natCast, Nat.mul_one, Nat.add_zero, findS, keyOk, isAggS, msetS, mdelS, lookS, lookOk, Option.isSome_some, Option.isSome_none, Option.isNone_some, Option.isNone_none, Nat.zero_ne_one, Nat.one_ne_zero, Bool.and_false, Bool.and_true, List.drop_zero, Vec.zero_cells, Vec.take_all, Vec.spl_all, Dt.cells_one, Dt.take_all, Dt.get0, Dt.get1, Dt.spl_all, Dt.zero_cells, Dt.bld, bldS, datas, appB, appX, List.all_cons, List.all_nil, SV.isOne, Int.cast_ofNat_Int, Int.reduceBNe, Int.reduceBEq, Int.reduceLT, Int.reduceLE, Int.reduceGT, Int.reduceGE, one_map, bq_ft, bq_tf, Bool.not_true, Bool.not_false, Bool.or_false, Bool.or_true, Bool.false_or, Bool.or_self, Vec.row0, Vec.row8, Vec.row16, Vec.row24, Vec.datas_app, Vec.datas_one, Dt.row0, Dt.row2, Dt.datas_app, Dt.datas_one, List.all_append, Vec.eqb8, Dt.eqb, Bool.cond_true, Bool.cond_false]; rfl) (by simp [-List.length_flatMap, -Int.natCast_add] <;> omega) (by rfl) ?_
    refine SW.cond rfl (fun h => SW.skip ?_) (fun h => SW.exit ?_)
    · have hr2 : r < 8 := by simp at h; omega
      have e : ((if (x.get r : Int) > (a.get r : Int) then (x.get r : Int) else (a.get r : Int))) = ((max (a.get r) (x.get r) : Nat) : Int) := by split <;> omega
      refine SW.seq ?_
      refine SW.block ?_
      refine SW.reg [] mixed (by simp only [runs, runOp, goOp, sop, ev, evs, evp, upd, argE, List.lookup, Nat.reduceBEq, Nat.reduceAdd, Nat.reduceMul, Nat.zero_add, SV.cells, if_true, if_false, reduceIte, Bool.false_eq_true, roOf, hmrg, hsets, hdels, hset, hrep, hdel, touchL, lk, List.filter, Nat.reduceBNe, bne_self_eq_false, ldv, ldo, cellsAt, binV, binK, mvp, Vec.cells_one, BEq.rfl, beq_self_eq_true, Bool.true_or, Nat.reduceEqDiff, List.map_cons, List.map_nil, List.nil_append, List.cons_append, List.append_nil, Int.toNat_natCast, Nat.mul_one, Nat.add_zero, findS, keyOk, isAggS, msetS, mdelS, lookS, lookOk, Option.isSome_some, Option.isSome_none, Option.isNone_some, Option.isNone_none, Nat.zero_ne_one, Nat.one_ne_zero, Bool.and_false, Bool.and_true, List.drop_zero, Vec.zero_cells, Vec.take_all, Vec.spl_all, Dt.cells_one, Dt.take_all, Dt.get0, Dt.get1, Dt.spl_all, Dt.zero_cells, Dt.bld, bldS, datas, appB, appX, List.all_cons, List.all_nil, SV.isOne, Int.cast_ofNat_Int, Int.reduceBNe, Int.reduceBEq, Int.reduceLT, Int.reduceLE, Int.reduceGT, Int.reduceGE, one_map, bq_ft, bq_tf, Bool.not_true, Bool.not_false, Bool.or_false, Bool.or_true, Bool.false_or, Bool.or_self, Vec.row0, Vec.row8, Vec.row16, Vec.row24, Vec.datas_app, Vec.datas_one, Dt.row0, Dt.row2, Dt.datas_app, Dt.datas_one, List.all_append, Vec.eqb8, Dt.eqb, Bool.cond_true, Bool.cond_false, Vec.cells_get _ hr2, vec_cell hx hr2, Vec.upto_here _ _ hr2, e]; rfl) (by simp [-List.length_flatMap, -Int.natCast_add] <;> omega) (by rfl) ?_
      refine SW.reg [] mixed (by simp only [runs, runOp, goOp, sop, ev, evs, evp, upd, argE, List.lookup, Nat.reduceBEq, Nat.reduceAdd, Nat.reduceMul, Nat.zero_add, SV.cells, if_true, if_false, reduceIte, Bool.false_eq_true, roOf, hmrg, hsets, hdels, hset, hrep, hdel, touchL, lk, List.filter, Nat.reduceBNe, bne_self_eq_false, ldv, ldo, cellsAt, binV, binK, mvp, Vec.cells_one, BEq.rfl, beq_self_eq_true, Bool.true_or, Nat.reduceEqDiff, List.map_cons, List.map_nil, List.nil_append, List.cons_append, List.append_nil, Int.toNat_natCast, Nat.mul_one, Nat.add_zero, findS, keyOk, isAggS, msetS, mdelS, lookS, lookOk, Option.isSome_some, Option.isSome_none, Option.isNone_some, Option.isNone_none, Nat.zero_ne_one, Nat.one_ne_zero, Bool.and_false, Bool.and_true, List.drop_zero, Vec.zero_cells, Vec.take_all, Vec.spl_all, Dt.cells_one, Dt.take_all, Dt.get0, Dt.get1, Dt.spl_all, Dt.zero_cells, Dt.bld, bldS, datas, appB, appX, List.all_cons, List.all_nil, SV.isOne, Int.cast_ofNat_Int, Int.reduceBNe, Int.reduceBEq, Int.reduceLT, Int.reduceLE, Int.reduceGT, Int.reduceGE, one_map, bq_ft, bq_tf, Bool.not_true, Bool.not_false, Bool.or_false, Bool.or_true, Bool.false_or, Bool.or_self, Vec.row0, Vec.row8, Vec.row16, Vec.row24, Vec.datas_app, Vec.datas_one, Dt.row0, Dt.row2, Dt.datas_app, Dt.datas_one, List.all_append, Vec.eqb8, Dt.eqb, Bool.cond_true, Bool.cond_false, wrap_succ r (by omega)]; rfl) (by simp [-List.length_flatMap, -Int.natCast_add] <;> omega) (by rfl) ?_
      refine ⟨⟨r + 1, by omega⟩, by simp; omega, ?_⟩
      simp only [Vec.spl_set _ hr2, Vec.upto_zip_succ _ _ _ hr2]
      simp [Go.Sl.Sub, EnvS, HpS, SV.ok, Ob.ok, SV.oks, lk, List.lookup, Vec.cells_ok]
    · have hr2 : r = 8 := by simp at h; omega
      subst hr2
      refine SW.reg [] mixed (by simp only [runs, runOp, goOp, sop, ev, evs, evp, upd, argE, List.lookup, Nat.reduceBEq, Nat.reduceAdd, Nat.reduceMul, Nat.zero_add, SV.cells, if_true, if_false, reduceIte, Bool.false_eq_true, roOf, hmrg, hsets, hdels, hset, hrep, hdel, touchL, lk, List.filter, Nat.reduceBNe, bne_self_eq_false, ldv, ldo, cellsAt, binV, binK, mvp, Vec.cells_one, BEq.rfl, beq_self_eq_true, Bool.true_or, Nat.reduceEqDiff, List.map_cons, List.map_nil, List.nil_append, List.cons_append, List.append_nil, Int.toNat_natCast, Nat.mul_one, Nat.add_zero, findS, keyOk, isAggS, msetS, mdelS, lookS, lookOk, Option.isSome_some, Option.isSome_none, Option.isNone_some, Option.isNone_none, Nat.zero_ne_one, Nat.one_ne_zero, Bool.and_false, Bool.and_true, List.drop_zero, Vec.zero_cells, Vec.take_all, Vec.spl_all, Dt.cells_one, Dt.take_all, Dt.get0, Dt.get1, Dt.spl_all, Dt.zero_cells, Dt.bld, bldS, datas, appB, appX, List.all_cons, List.all_nil, SV.isOne, Int.cast_ofNat_Int, Int.reduceBNe, Int.reduceBEq, Int.reduceLT, Int.reduceLE, Int.reduceGT, Int.reduceGE, one_map, bq_ft, bq_tf, Bool.not_true, Bool.not_false, Bool.or_false, Bool.or_true, Bool.false_or, Bool.or_self, Vec.row0, Vec.row8, Vec.row16, Vec.row24, Vec.datas_app, Vec.datas_one, Dt.row0, Dt.row2, Dt.datas_app, Dt.datas_one, List.all_append, Vec.eqb8, Dt.eqb, Bool.cond_true, Bool.cond_false, wrap_succ i (by omega)]; rfl) (by simp [-List.length_flatMap, -Int.natCast_add] <;> omega) (by rfl) ?_
      refine ⟨⟨i + 1, by omega⟩, by simp; omega, ?_⟩
      simp only [take_snoc hx, foldl_snoc, ha, Vec.upto_all]
      simp [Go.Sl.Sub, EnvS, HpS, SV.ok, Ob.ok, SV.oks, lk, List.lookup, Vec.cells_ok]
  · have hi2 : i = l.length := by simp at h; omega
    subst hi2
    refine SW.seq ?_
    simp only [List.take_length, ← Vec.all_max]
    refine SW.reg [] mixed (by simp only [runs, runOp, goOp, sop, ev, evs, evp, upd, argE, List.lookup, Nat.reduceBEq, Nat.reduceAdd, Nat.reduceMul, Nat.zero_add, SV.cells, if_true, if_false, reduceIte, Bool.false_eq_true, roOf, hmrg, hsets, hdels, hset, hrep, hdel, touchL, lk, List.filter, Nat.reduceBNe, bne_self_eq_false, ldv, ldo, cellsAt, binV, binK, mvp, Vec.cells_one, BEq.rfl, beq_self_eq_true, Bool.true_or, Nat.reduceEqDiff, List.map_cons, List.map_nil, List.nil_append, List.cons_append, List.append_nil, Int.toNat_natCast, Nat.mul_one, Nat.add_zero, findS, keyOk, isAggS, msetS, mdelS, lookS, lookOk, Option.isSome_some, Option.isSome_none, Option.isNone_some, Option.isNone_none, Nat.zero_ne_one, Nat.one_ne_zero, Bool.and_false, Bool.and_true, List.drop_zero, Vec.zero_cells, Vec.take_all, Vec.spl_all, Dt.cells_one, Dt.take_all, Dt.get0, Dt.get1, Dt.spl_all, Dt.zero_cells, Dt.bld, bldS, datas, appB, appX, List.all_cons, List.all_nil, SV.isOne, Int.cast_ofNat_Int, Int.reduceBNe, Int.reduceBEq, Int.reduceLT, Int.reduceLE, Int.reduceGT, Int.reduceGE, one_map, bq_ft, bq_tf, Bool.not_true, Bool.not_false, Bool.or_false, Bool.or_true, Bool.false_or, Bool.or_self, Vec.row0, Vec.row8, Vec.row16, Vec.row24, Vec.datas_app, Vec.datas_one, Dt.row0, Dt.row2, Dt.datas_app, Dt.datas_one, List.all_append, Vec.eqb8, Dt.eqb, Bool.cond_true, Bool.cond_false]; rfl) (by simp [-List.length_flatMap, -Int.natCast_add] <;> omega) (by rfl) ?_
    refine SW.ret ?_
    exact ⟨_, _, [], by rfl, by simp [ldo], by simp, ⟨rfl, rfl⟩, rfl, rfl, by simp⟩
theorem rmeet_ok (l : List Vec) (hl : l.length < 1000000000) : Go.Sl.Pure Try.prog ref04_Meet.f [vecs l] (.agg (Vec.all min l).cells) := by
  refine ref04_Meet.enter rfl rfl (by simp) ?_
  unfold ref04_Meet.s
  refine SW.seq ?_
  refine SW.reg [] mixed (by simp only [runs, runOp, goOp, sop, ev, evs, evp, upd, argE, List.lookup, Nat.reduceBEq, Nat.reduceAdd, Nat.reduceMul, Nat.zero_add, SV.cells, if_true, if_false, reduceIte, Bool.false_eq_true, roOf, hmrg, hsets, hdels, hset, hrep, hdel, touchL, lk, List.filter, Nat.reduceBNe, bne_self_eq_false, ldv, ldo, cellsAt, binV, binK, mvp, Vec.cells_one, BEq.rfl, beq_self_eq_true, Bool.true_or, Nat.reduceEqDiff, List.map_cons, List.map_nil, List.nil_append, List.cons_append, List.append_nil, Int.toNat_natCast, Nat.mul_one, Nat.add_zero, findS, keyOk, isAggS, msetS, mdelS, lookS, lookOk, Option.isSome_some, Option.isSome_none, Option.isNone_some, Option.isNone_none, Nat.zero_ne_one, Nat.one_ne_zero, Bool.and_false, Bool.and_true, List.drop_zero, Vec.zero_cells, Vec.take_all, Vec.spl_all, Dt.cells_one, Dt.take_all, Dt.get0, Dt.get1, Dt.spl_all, Dt.zero_cells, Dt.bld, bldS, datas, appB, appX, List.all_cons, List.all_nil, SV.isOne, Int.cast_ofNat_Int, Int.reduceBNe, Int.reduceBEq, Int.reduceLT, Int.reduceLE, Int.reduceGT, Int.reduceGE, one_map, bq_ft, bq_tf, Bool.not_true, Bool.not_false, Bool.or_false, Bool.or_true, Bool.false_or, Bool.or_self, Vec.row0, Vec.row8, Vec.row16, Vec.row24, Vec.datas_app, Vec.datas_one, Dt.row0, Dt.row2, Dt.datas_app, Dt.datas_one, List.all_append, Vec.eqb8, Dt.eqb, Bool.cond_true, Bool.cond_false]; rfl) (by simp [-List.length_flatMap, -Int.natCast_add] <;> omega) (by rfl) ?_
  refine SW.seq ?_
  refine SW.seq ?_
  refine SW.reg [] mixed (by simp only [runs, runOp, goOp, sop, ev, evs, evp, upd, argE, List.lookup, Nat.reduceBEq, Nat.reduceAdd, Nat.reduceMul, Nat.zero_add, SV.cells, if_true, if_false, reduceIte, Bool.false_eq_true, roOf, hmrg, hsets, hdels, hset, hrep, hdel, touchL, lk, List.filter, Nat.reduceBNe, bne_self_eq_false, ldv, ldo, cellsAt, binV, binK, mvp, Vec.cells_one, BEq.rfl, beq_self_eq_true, Bool.true_or, Nat.reduceEqDiff, List.map_cons, List.map_nil, List.nil_append, List.cons_append, List.append_nil, Int.toNat_natCast, Nat.mul_one, Nat.add_zero, findS, keyOk, isAggS, msetS, mdelS, lookS, lookOk, Option.isSome_some, Option.isSome_none, Option.isNone_some, Option.isNone_none, Nat.zero_ne_one, Nat.one_ne_zero, Bool.and_false, Bool.and_true, List.drop_zero, Vec.zero_cells, Vec.take_all, Vec.spl_all, Dt.cells_one, Dt.take_all, Dt.get0, Dt.get1, Dt.spl_all, Dt.zero_cells, Dt.bld, bldS, datas, appB, appX, List.all_cons, List.all_nil, SV.isOne, Int.cast_ofNat_Int, Int.reduceBNe, Int.reduceBEq, Int.reduceLT, Int.reduceLE, Int.reduceGT, Int.reduceGE, one_map, bq_ft, bq_tf, Bool.not_true, Bool.not_false, Bool.or_false, Bool.or_true, Bool.false_or, Bool.or_self, Vec.row0, Vec.row8, Vec.row16, Vec.row24, Vec.datas_app, Vec.datas_one, Dt.row0, Dt.row2, Dt.datas_app, Dt.datas_one, List.all_append, Vec.eqb8, Dt.eqb, Bool.cond_true, Bool.cond_false]; rfl) (by simp [-List.length_flatMap, -Int.natCast_add] <;> omega) (by rfl) ?_
  refine SW.cond rfl (fun h => ?_) (fun h => SW.skip ?_)
  · have h : l = [] := by simp at h; exact h
    subst h
    refine SW.seq ?_
    refine SW.reg [] mixed (by simp only [runs, runOp, goOp, sop, ev, evs, evp, upd, argE, List.lookup, Nat.reduceBEq, Nat.reduceAdd, Nat.reduceMul, Nat.zero_add, SV.cells, if_true, if_false, reduceIte, Bool.false_eq_true, roOf, hmrg, hsets, hdels, hset, hrep, hdel, touchL, lk, List.filter, Nat.reduceBNe, bne_self_eq_false, ldv, ldo, cellsAt, binV, binK, mvp, Vec.cells_one, BEq.rfl, beq_self_eq_true, Bool.true_or, Nat.reduceEqDiff, List.map_cons, List.map_nil, List.nil_append, List.cons_append, List.append_nil, Int.toNat_natCast, Nat.mul_one, Nat.add_zero, findS, keyOk, isAggS, msetS, mdelS, lookS, lookOk, Option.isSome_some, Option.isSome_none, Option.isNone_some, Option.isNone_none, Nat.zero_ne_one, Nat.one_ne_zero, Bool.and_false, Bool.and_true, List.drop_zero, Vec.zero_cells, Vec.take_all, Vec.spl_all, Dt.cells_one, Dt.take_all, Dt.get0, Dt.get1, Dt.spl_all, Dt.zero_cells, Dt.bld, bldS, datas, appB, appX, List.all_cons, List.all_nil, SV.isOne, Int.cast_ofNat_Int, Int.reduceBNe, Int.reduceBEq, Int.reduceLT, Int.reduceLE, Int.reduceGT, Int.reduceGE, one_map, bq_ft, bq_tf, Bool.not_true, Bool.not_false, Bool.or_false, Bool.or_true, Bool.false_or, Bool.or_self, Vec.row0, Vec.row8, Vec.row16, Vec.row24, Vec.datas_app, Vec.datas_one, Dt.row0, Dt.row2, Dt.datas_app, Dt.datas_one, List.all_append, Vec.eqb8, Dt.eqb, Bool.cond_true, Bool.cond_false]; rfl) (by simp [-List.length_flatMap, -Int.natCast_add] <;> omega) (by rfl) ?_
    refine SW.ret ?_
    exact ⟨_, _, [], by rfl, by simp [ldo], by simp, ⟨rfl, rfl⟩, rfl, rfl, by simp⟩
  cases l with
  | nil => cases h
  | cons y l' =>
  have hy : (y :: l')[0]? = some y := rfl
  rw [Vec.all_min]
  have hpos : 0 < (y :: l').length := by simp
  generalize hg : y :: l' = l at *
  have hv := vec_at hy
  rw [Nat.zero_mul, List.drop_zero] at hv
  refine SW.seq ?_
  refine SW.reg [] mixed (by simp only [runs, runOp, goOp, sop, ev, evs, evp, upd, argE, List.lookup, Nat.reduceBEq, Nat.reduceAdd, Nat.reduceMul, Nat.zero_add, SV.cells, if_true, if_false, reduceIte, Bool.false_eq_true, roOf, hmrg, hsets, hdels, hset, hrep, hdel, touchL, lk, List.filter, Nat.reduceBNe, bne_self_eq_false, ldv, ldo, cellsAt, binV, binK, mvp, Vec.cells_one, BEq.rfl, beq_self_eq_true, Bool.true_or, Nat.reduceEqDiff, List.map_cons, List.map_nil, List.nil_append, List.cons_append, List.append_nil, Int.toNat_natCast, Nat.mul_one, Nat.add_zero, findS, keyOk, isAggS, msetS, mdelS, lookS, lookOk, Option.isSome_some, Option.isSome_none, Option.isNone_some, Option.isNone_none, Nat.zero_ne_one, Nat.one_ne_zero, Bool.and_false, Bool.and_true, List.drop_zero, Vec.zero_cells, Vec.take_all, Vec.spl_all, Dt.cells_one, Dt.take_all, Dt.get0, Dt.get1, Dt.spl_all, Dt.zero_cells, Dt.bld, bldS, datas, appB, appX, List.all_cons, List.all_nil, SV.isOne, Int.cast_ofNat_Int, Int.reduceBNe, Int.reduceBEq, Int.reduceLT, Int.reduceLE, Int.reduceGT, Int.reduceGE, one_map, bq_ft, bq_tf, Bool.not_true, Bool.not_false, Bool.or_false, Bool.or_true, Bool.false_or, Bool.or_self, Vec.row0, Vec.row8, Vec.row16, Vec.row24, Vec.datas_app, Vec.datas_one, Dt.row0, Dt.row2, Dt.datas_app, Dt.datas_one, List.all_append, Vec.eqb8, Dt.eqb, Bool.cond_true, Bool.cond_false, show Int.toNat 0 = 0 from rfl, Nat.zero_mul, hv]; rfl) (by simp [-List.length_flatMap, -Int.natCast_add] <;> omega) (by rfl) ?_
  refine SW.seq ?_
  refine SW.seq ?_
  refine SW.reg [] mixed (by simp only [runs, runOp, goOp, sop, ev, evs, evp, upd, argE, List.lookup, Nat.reduceBEq, Nat.reduceAdd, Nat.reduceMul, Nat.zero_add, SV.cells, if_true, if_false, reduceIte, Bool.false_eq_true, roOf, hmrg, hsets, hdels, hset, hrep, hdel, touchL, lk, List.filter, Nat.reduceBNe, bne_self_eq_false, ldv, ldo, cellsAt, binV, binK, mvp, Vec.cells_one, BEq.rfl, beq_self_eq_true, Bool.true_or, Nat.reduceEqDiff, List.map_cons, List.map_nil, List.nil_append, List.cons_append, List.append_nil, Int.toNat_natCast, Nat.mul_one, Nat.add_zero, findS, keyOk, isAggS, msetS, mdelS, lookS, lookOk, Option.isSome_some, Option.isSome_none, Option.isNone_some, Option.isNone_none, Nat.zero_ne_one, Nat.one_ne_zero, Bool.and_false, Bool.and_true, List.drop_zero, Vec.zero_cells, Vec.take_all, Vec.spl_all, Dt.cells_one, Dt.take_all, Dt.get0, Dt.get1, Dt.spl_all, Dt.zero_cells, Dt.bld, bldS, datas, appB, appX, List.all_cons, List.all_nil, SV.isOne, Int.cast_ofNat_Int, Int.reduceBNe, Int.reduceBEq, Int.reduceLT, Int.reduceLE, Int.reduceGT, Int.reduceGE, one_map, bq_ft, bq_tf, Bool.not_true, Bool.not_false, Bool.or_false, Bool.or_true, Bool.false_or, Bool.or_self, Vec.row0, Vec.row8, Vec.row16, Vec.row24, Vec.datas_app, Vec.datas_one, Dt.row0, Dt.row2, Dt.datas_app, Dt.datas_one, List.all_append, Vec.eqb8, Dt.eqb, Bool.cond_true, Bool.cond_false]; rfl) (by simp [-List.length_flatMap, -Int.natCast_add] <;> omega) (by rfl) ?_
  refine SW.block ?_
  refine SW.loopS (α := {i : Nat // i ≤ l.length}) (fun i => ⟨[(4, i64 i.1), (0, vecs l), (2, .ptr 0 0), (3, .ptr 1 0)], [(0, .box 25 Vec.zero.cells), (1, .box 25 ((l.take i.1).foldl (Vec.zip min) y).cells)], 2⟩) (fun i => l.length - i.1) ⟨0, by omega⟩ (by simp; simp [Go.Sl.Sub, EnvS, HpS, SV.ok, Ob.ok, SV.oks, lk, List.lookup, Vec.cells_ok]) ?_
  rintro ⟨i, hi⟩
  refine SW.seq ?_
  refine SW.seq ?_
  refine SW.reg [] mixed (by simp only [runs, runOp, goOp, sop, ev, evs, evp, upd, argE, List.lookup, Nat.reduceBEq, Nat.reduceAdd, Nat.reduceMul, Nat.zero_add, SV.cells, if_true, if_false, reduceIte, Bool.false_eq_true, roOf, hmrg, hsets, hdels, hset, hrep, hdel, touchL, lk, List.filter, Nat.reduceBNe, bne_self_eq_false, ldv, ldo, cellsAt, binV, binK, mvp, Vec.cells_one, BEq.rfl, beq_self_eq_true, Bool.true_or, Nat.reduceEqDiff, List.map_cons, List.map_nil, List.nil_append, List.cons_append, List.append_nil, Int.toNat_natCast, Nat.mul_one, Nat.add_zero, findS, keyOk, isAggS, msetS, mdelS, lookS, lookOk, Option.isSome_some, Option.isSome_none, Option.isNone_some, Option.isNone_none, Nat.zero_ne_one, Nat.one_ne_zero, Bool.and_false, Bool.and_true, List.drop_zero, Vec.zero_cells, Vec.take_all, Vec.spl_all, Dt.cells_one, Dt.take_all, Dt.get0, Dt.get1, Dt.spl_all, Dt.zero_cells, Dt.bld, bldS, datas, appB, appX, List.all_cons, List.all_nil, SV.isOne, Int.cast_ofNat_Int, Int.reduceBNe, Int.reduceBEq, Int.reduceLT, Int.reduceLE, Int.reduceGT, Int.reduceGE, one_map, bq_ft, bq_tf, Bool.not_true, Bool.not_false, Bool.or_false, Bool.or_true, Bool.false_or, Bool.or_self, Vec.row0, Vec.row8, Vec.row16, Vec.row24, Vec.datas_app, Vec.datas_one, Dt.row0, Dt.row2, Dt.datas_app, Dt.datas_one, List.all_append, Vec.eqb8, Dt.eqb, Bool.cond_true, Bool.cond_false]; rfl) (by simp [-List.length_flatMap, -Int.natCast_add] <;> omega) (by rfl) ?_
  refine SW.cond rfl (fun h => SW.skip ?_) (fun h => SW.exit ?_)
  · have hi2 : i < l.length := by simp at h; omega
    obtain ⟨x, hx⟩ := get_of_lt hi2
    generalize ha : (l.take i).foldl (Vec.zip min) y = a
    refine SW.seq ?_
    refine SW.block ?_
    refine SW.seq ?_
    refine SW.reg [] mixed (by simp only [runs, runOp, goOp, sop, ev, evs, evp, upd, argE, List.lookup, Nat.reduceBEq, Nat.reduceAdd, Nat.reduceMul, Nat.zero_add, SV.cells, if_true, if_false, reduceIte, Bool.false_eq_true, roOf, hmrg, hsets, hdels, hset, hrep, hdel, touchL, lk, List.filter, Nat.reduceBNe, bne_self_eq_false, ldv, ldo, cellsAt, binV, binK, mvp, Vec.cells_one, BEq.rfl, beq_self_eq_true, Bool.true_or, Nat.reduceEqDiff, List.map_cons, List.map_nil, List.nil_append, List.cons_append, List.append_nil, Int.toNat_natCast, Nat.mul_one, Nat.add_zero, findS, keyOk, isAggS, msetS, mdelS, lookS, lookOk, Option.isSome_some, Option.isSome_none, Option.isNone_some, Option.isNone_none, Nat.zero_ne_one, Nat.one_ne_zero, Bool.and_false, Bool.and_true, List.drop_zero, Vec.zero_cells, Vec.take_all, Vec.spl_all, Dt.cells_one, Dt.take_all, Dt.get0, Dt.get1, Dt.spl_all, Dt.zero_cells, Dt.bld, bldS, datas, appB, appX, List.all_cons, List.all_nil, SV.isOne, Int.cast_ofNat_Int, Int.reduceBNe, Int.reduceBEq, Int.reduceLT, Int.reduceLE, Int.reduceGT, Int.reduceGE, one_map, bq_ft, bq_tf, Bool.not_true, Bool.not_false, Bool.or_false, Bool.or_true, Bool.false_or, Bool.or_self, Vec.row0, Vec.row8, Vec.row16, Vec.row24, Vec.datas_app, Vec.datas_one, Dt.row0, Dt.row2, Dt.datas_app, Dt.datas_one, List.all_append, Vec.eqb8, Dt.eqb, Bool.cond_true, Bool.cond_false]; rfl) (by simp [-List.length_flatMap, -Int.natCast_add] <;> omega) (by rfl) ?_
    refine SW.block ?_
    refine SW.loopS (α := {r : Nat // r ≤ 8}) (fun r => ⟨[(5, i64 r.1), (4, i64 i), (0, vecs l), (2, .ptr 0 0), (3, .ptr 1 0)], [(0, .box 25 Vec.zero.cells), (1, .box 25 (Vec.upto r.1 (Vec.zip min a x) a).cells)], 2⟩) (fun r => 8 - r.1) ⟨0, by omega⟩ (by simp only [Vec.upto_zero]; simp [Go.Sl.Sub, EnvS, HpS, SV.ok, Ob.ok, SV.oks, lk, List.lookup, Vec.cells_ok]) ?_
    rintro ⟨r, hr⟩
    refine SW.seq ?_
    refine SW.seq ?_
    refine SW.reg [] mixed (by simp only [runs, runOp, goOp, sop, ev, evs, evp, upd, argE, List.lookup, Nat.reduceBEq, Nat.reduceAdd, Nat.reduceMul, Nat.zero_add, SV.cells, if_true, if_false, reduceIte, Bool.false_eq_true, roOf, hmrg, hsets, hdels, hset, hrep, hdel, touchL, lk, List.filter, Nat.reduceBNe, bne_self_eq_false, ldv, ldo, cellsAt, binV, binK, mvp, Vec.cells_one, BEq.rfl, beq_self_eq_true, Bool.true_or, Nat.reduceEqDiff, List.map_cons, List.map_nil, List.nil_append, List.cons_append, List.append_nil, Int.toNat_natCast, Nat.mul_one, Nat.add_zero, findS, keyOk, isAggS, msetS, mdelS, lookS, lookOk, Option.isSome_some, Option.isSome_none, Option.isNone_some, Option.isNone_none, Nat.zero_ne_one, Nat.one_ne_zero, Bool.and_false, Bool.and_true, List.drop_zero, Vec.zero_cells, Vec.take_all, Vec.spl_all, Dt.cells_one, Dt.take_all, Dt.get0, Dt.get1, Dt.spl_all, Dt.zero_cells, Dt.bld, bldS, datas, appB, appX, List.all_cons, List.all_nil, SV.isOne, Int.cast_ofNat_Int, Int.reduceBNe, Int.reduceBEq, Int.reduceLT, Int.reduceLE, Int.reduceGT, Int.reduceGE, one_map, bq_ft, bq_tf, Bool.not_true, Bool.not_false, Bool.or_false, Bool.or_true, Bool.false_or, Bool.or_self, Vec.row0, Vec.row8, Vec.row16, Vec.row24, Vec.datas_app, Vec.datas_one, Dt.row0, Dt.row2, Dt.datas_app, Dt.datas_one, List.all_append, Vec.eqb8, Dt.eqb, Bool.cond_true, Bool.cond_false]; rfl) (by simp [-List.length_flatMap, -Int.natCast_add] <;> omega) (by rfl) ?_
    refine SW.cond rfl (fun h => SW.skip ?_) (fun h => SW.exit ?_)
    · have hr2 : r < 8 := by simp at h; omega
      have e : ((if (x.get r : Int) < (a.get r : Int) then (x.get r : Int) else (a.get r : Int))) = ((min (a.get r) (x.get r) : Nat) : Int) := by split <;> omega
      refine SW.seq ?_
      refine SW.block ?_
      refine SW.reg [] mixed (by simp only [runs, runOp, goOp, sop, ev, evs, evp, upd, argE, List.lookup, Nat.reduceBEq, Nat.reduceAdd, Nat.reduceMul, Nat.zero_add, SV.cells, if_true, if_false, reduceIte, Bool.false_eq_true, roOf, hmrg, hsets, hdels, hset, hrep, hdel, touchL, lk, List.filter, Nat.reduceBNe, bne_self_eq_false, ldv, ldo, cellsAt, binV, binK, mvp, Vec.cells_one, BEq.rfl, beq_self_eq_true, Bool.true_or, Nat.reduceEqDiff, List.map_cons, List.map_nil, List.nil_append, List.cons_append, List.append_nil, Int.toNat_natCast, Nat.mul_one, Nat.add_zero, findS, keyOk, isAggS, msetS, mdelS, lookS, lookOk, Option.isSome_some, Option.isSome_none, Option.isNone_some, Option.isNone_none, Nat.zero_ne_one, Nat.one_ne_zero, Bool.and_false, Bool.and_true, List.drop_zero, Vec.zero_cells, Vec.take_all, Vec.spl_all, Dt.cells_one, Dt.take_all, Dt.get0, Dt.get1, Dt.spl_all, Dt.zero_cells, Dt.bld, bldS, datas, appB, appX, List.all_cons, List.all_nil, SV.isOne, Int.cast_ofNat_Int, Int.reduceBNe, Int.reduceBEq, Int.reduceLT, Int.reduceLE, Int.reduceGT, Int.reduceGE, one_map, bq_ft, bq_tf, Bool.not_true, Bool.not_false, Bool.or_false, Bool.or_true, Bool.false_or, Bool.or_self, Vec.row0, Vec.row8, Vec.row16, Vec.row24, Vec.datas_app, Vec.datas_one, Dt.row0, Dt.row2, Dt.datas_app, Dt.datas_one, List.all_append, Vec.eqb8, Dt.eqb, Bool.cond_true, Bool.cond_false, Vec.cells_get _ hr2, vec_cell hx hr2, Vec.upto_here _ _ hr2, e]; rfl) (by simp [-List.length_flatMap, -Int.natCast_add] <;> omega) (by rfl) ?_
      refine SW.reg [] mixed (by simp only [runs, runOp, goOp, sop, ev, evs, evp, upd, argE, List.lookup, Nat.reduceBEq, Nat.reduceAdd, Nat.reduceMul, Nat.zero_add, SV.cells, if_true, if_false, reduceIte, Bool.false_eq_true, roOf, hmrg, hsets, hdels, hset, hrep, hdel, touchL, lk, List.filter, Nat.reduceBNe, bne_self_eq_false, ldv, ldo, cellsAt, binV, binK, mvp, Vec.cells_one, BEq.rfl, beq_self_eq_true, Bool.true_or, Nat.reduceEqDiff, List.map_cons, List.map_nil, List.nil_append, List.cons_append, List.append_nil, Int.toNat_natCast, Nat.mul_one, Nat.add_zero, findS, keyOk, isAggS, msetS, mdelS, lookS, lookOk, Option.isSome_some, Option.isSome_none, Option.isNone_some, Option.isNone_none, Nat.zero_ne_one, Nat.one_ne_zero, Bool.and_false, Bool.and_true, List.drop_zero, Vec.zero_cells, Vec.take_all, Vec.spl_all, Dt.cells_one, Dt.take_all, Dt.get0, Dt.get1, Dt.spl_all, Dt.zero_cells, Dt.bld, bldS, datas, appB, appX, List.all_cons, List.all_nil, SV.isOne, Int.cast_ofNat_Int, Int.reduceBNe, Int.reduceBEq, Int.reduceLT, Int.reduceLE, Int.reduceGT, Int.reduceGE, one_map, bq_ft, bq_tf, Bool.not_true, Bool.not_false, Bool.or_false, Bool.or_true, Bool.false_or, Bool.or_self, Vec.row0, Vec.row8, Vec.row16, Vec.row24, Vec.datas_app, Vec.datas_one, Dt.row0, Dt.row2, Dt.datas_app, Dt.datas_one, List.all_append, Vec.eqb8, Dt.eqb, Bool.cond_true, Bool.cond_false, wrap_succ r (by omega)]; rfl) (by simp [-List.length_flatMap, -Int.natCast_add] <;> omega) (by rfl) ?_
      refine ⟨⟨r + 1, by omega⟩, by simp; omega, ?_⟩
      simp only [Vec.spl_set _ hr2, Vec.upto_zip_succ _ _ _ hr2]
      simp [Go.Sl.Sub, EnvS, HpS, SV.ok, Ob.ok, SV.oks, lk, List.lookup, Vec.cells_ok]
    · have hr2 : r = 8 := by simp at h; omega
      subst hr2
      refine SW.reg [] mixed (by simp only [runs, runOp, goOp, sop, ev, evs, evp, upd, argE, List.lookup, Nat.reduceBEq, Nat.reduceAdd, Nat.reduceMul, Nat.zero_add, SV.cells, if_true, if_false, reduceIte, Bool.false_eq_true, roOf, hmrg, hsets, hdels, hset, hrep, hdel, touchL, lk, List.filter, Nat.reduceBNe, bne_self_eq_false, ldv, ldo, cellsAt, binV, binK, mvp, Vec.cells_one, BEq.rfl, beq_self_eq_true, Bool.true_or, Nat.reduceEqDiff, List.map_cons, List.map_nil, List.nil_append, List.cons_append, List.append_nil, Int.toNat_natCast, Nat.mul_one, Nat.add_zero, findS, keyOk, isAggS, msetS, mdelS, lookS, lookOk, Option.isSome_some, Option.isSome_none, Option.isNone_some, Option.isNone_none, Nat.zero_ne_one, Nat.one_ne_zero, Bool.and_false, Bool.and_true, List.drop_zero, Vec.zero_cells, Vec.take_all, Vec.spl_all, Dt.cells_one, Dt.take_all, Dt.get0, Dt.get1, Dt.spl_all, Dt.zero_cells, Dt.bld, bldS, datas, appB, appX, List.all_cons, List.all_nil, SV.isOne, Int.cast_ofNat_Int, Int.reduceBNe, Int.reduceBEq, Int.reduceLT, Int.reduceLE, Int.reduceGT, Int.reduceGE, one_map, bq_ft, bq_tf, Bool.not_true, Bool.not_false, Bool.or_false, Bool.or_true, Bool.false_or, Bool.or_self, Vec.row0, Vec.row8, Vec.row16, Vec.row24, Vec.datas_app, Vec.datas_one, Dt.row0, Dt.row2, Dt.datas_app, Dt.datas_one, List.all_append, Vec.eqb8, Dt.eqb, Bool.cond_true, Bool.cond_false, wrap_succ i (by omega)]; rfl) (by simp [-List.length_flatMap, -Int.natCast_add] <;> omega) (by rfl) ?_
      refine ⟨⟨i + 1, by omega⟩, by simp; omega, ?_⟩
      simp only [take_snoc hx, foldl_snoc, ha, Vec.upto_all]
      simp [Go.Sl.Sub, EnvS, HpS, SV.ok, Ob.ok, SV.oks, lk, List.lookup, Vec.cells_ok]
  · have hi2 : i = l.length := by simp at h; omega
    subst hi2
    refine SW.seq ?_
    simp only [List.take_length]
    refine SW.reg [] mixed (by simp only [runs, runOp, goOp, sop, ev, evs, evp, upd, argE, List.lookup, Nat.reduceBEq, Nat.reduceAdd, Nat.reduceMul, Nat.zero_add, SV.cells, if_true, if_false, reduceIte, Bool.false_eq_true, roOf, hmrg, hsets, hdels, hset, hrep, hdel, touchL, lk, List.filter, Nat.reduceBNe, bne_self_eq_false, ldv, ldo, cellsAt, binV, binK, mvp, Vec.cells_one, BEq.rfl, beq_self_eq_true, Bool.true_or, Nat.reduceEqDiff, List.map_cons, List.map_nil, List.nil_append, List.cons_append, List.append_nil, Int.toNat_natCast, Nat.mul_one, Nat.add_zero, findS, keyOk, isAggS, msetS, mdelS, lookS, lookOk, Option.isSome_some, Option.isSome_none, Option.isNone_some, Option.isNone_none, Nat.zero_ne_one, Nat.one_ne_zero, Bool.and_false, Bool.and_true, List.drop_zero, Vec.zero_cells, Vec.take_all, Vec.spl_all, Dt.cells_one, Dt.take_all, Dt.get0, Dt.get1, Dt.spl_all, Dt.zero_cells, Dt.bld, bldS, datas, appB, appX, List.all_cons, List.all_nil, SV.isOne, Int.cast_ofNat_Int, Int.reduceBNe, Int.reduceBEq, Int.reduceLT, Int.reduceLE, Int.reduceGT, Int.reduceGE, one_map, bq_ft, bq_tf, Bool.not_true, Bool.not_false, Bool.or_false, Bool.or_true, Bool.false_or, Bool.or_self, Vec.row0, Vec.row8, Vec.row16, Vec.row24, Vec.datas_app, Vec.datas_one, Dt.row0, Dt.row2, Dt.datas_app, Dt.datas_one, List.all_append, Vec.eqb8, Dt.eqb, Bool.cond_true, Bool.cond_false]; rfl) (by simp [-List.length_flatMap, -Int.natCast_add] <;> omega) (by rfl) ?_
    refine SW.ret ?_
    exact ⟨_, _, [], by rfl, by simp [ldo], by simp, ⟨rfl, rfl⟩, rfl, rfl, by simp⟩
end Go.Proofs.Ytacdkgkpoelhdaa
namespace Go.Proofs.Ytacdkgkpoelhdaa
open Go.Proofs Go.Shelf
def mclone_ren : Go.Shelf.Ren := ⟨fun | 5 => 58 | 7 => 101 | n => n, fun | 23 => 83 | 25 => 25 | 3 => 3 | 4 => 4 | 20 => 20 | n => n, fun | n => n⟩
theorem mclone : Go.Proofs.SlLaysW.n5 Try.prog mclone_ren where
  mixed := by kernel_rfl
  f5 := ⟨ "maps.Clone[tranter/stable.acks,tranter/api.Vector,int]", by decide, Try.func58.trans (congrArg some (by kernel_rfl))⟩
  f7 := Try.func101.trans (congrArg some (by kernel_rfl))
  t4 := Try.underlying4
  a4 := Try.isAgg4
  z4 := Try.sizeOf4
  v4 := Try.zeroValue4
  t20 := Try.underlying20
  a20 := Try.isAgg20
  z20 := Try.sizeOf20
  v20 := Try.zeroValue20
  t23 := Try.underlying83
  a23 := Try.isAgg83
  z23 := Try.sizeOf83
  v23 := Try.zeroValue83
theorem mapsClone_at (n k : Nat) (hnk : n ≠ k) (ob : Go.Sl.Ob) (hob : ob = .nomap ∨ ∃ es c, ob = .map es c) : Go.Sl.SCd Try.prog 58 [.mp n] [(n, ob)] k 1 (.mp k) [(k, ob), (n, ob)] :=
  Go.Sl.SC.mapsClone (ρ := mclone_ren) mclone (by kernel_rfl) n k hnk ob hob
end Go.Proofs.Ytacdkgkpoelhdaa
namespace Go.Proofs.Ytacdkgkpoelhdaa
open Go.Sl Go.Proofs
def Tk.copy (T : Tk) (k : Nat) : Tk := { T with bx := k, nm := fun r => k + 1 + r }
def Tk.cpi (T : Tk) (k i : Nat) : Tk := { T with bx := k, nm := fun r => if r < i then k + 1 + r else T.nm r }
def cms (T : Tk) (k : Nat) : Nat → Hp
  | 0 => []
  | i + 1 => (k + 1 + i, wob (T.wt i)) :: cms T k i
theorem Tk.cpi0 (T : Tk) (k : Nat) : (T.cpi k 0).cells = T.cells := rfl
theorem Tk.cpi_spl (T : Tk) (k : Nat) {i : Nat} (h : i < 8) : spl (T.cpi k i).cells (74 + i) [.mp (k + 1 + i)] = (T.cpi k (i + 1)).cells := by
  rw [Tk.splw _ h]
  congr 1
  unfold Tk.cpi
  simp only [Tk.mk.injEq, true_and, and_true]
  funext j
  by_cases h1 : j = i
  · rw [if_pos h1, if_pos (by omega), h1]
  · rw [if_neg h1]
    by_cases h2 : j < i
    · rw [if_pos h2, if_pos (by omega)]
    · rw [if_neg h2, if_neg (by omega)]
theorem cms_lk (T : Tk) (k : Nat) (H : Hp) (m : Nat) : ∀ i, lk (cms T k i ++ H) m = if k + 1 ≤ m ∧ m < k + 1 + i then some (wob (T.wt (m - (k + 1)))) else lk H m
  | 0 => by rw [if_neg (by omega)]; rfl
  | i + 1 => by
    simp only [cms, List.cons_append]
    rw [lk_cons, cms_lk T k H m i]
    by_cases h : m = k + 1 + i
    · rw [if_pos h, if_pos (by omega), h, show k + 1 + i - (k + 1) = i by omega]
    · rw [if_neg h]
      by_cases h2 : k + 1 ≤ m ∧ m < k + 1 + i
      · rw [if_pos h2, if_pos (by omega)]
      · rw [if_neg h2, if_neg (by omega)]
def cpH (T : Tk) (k i : Nat) : Hp := (k, .box 86 (T.cpi k i).cells) :: (cms T k i ++ T.hp)
theorem spl_whole {z cs : List SV} (h : z.length = cs.length) (h1 : cs.length ≠ 1) : spl z 0 cs = cs := by
  unfold spl
  split
  · simp at h1
  · rw [List.take_zero, List.nil_append, Nat.zero_add, ← h, List.drop_length, List.append_nil]
section
variable {T : Tk} (hs : T.sep) {k : Nat} (hlt : T.lt k)
theorem cpH_lk (T : Tk) (k i m : Nat) : lk (cpH T k i) m = if m = k then some (.box 86 (T.cpi k i).cells) else if k + 1 ≤ m ∧ m < k + 1 + i then some (wob (T.wt (m - (k + 1)))) else lk T.hp m := by
  unfold cpH
  rw [lk_cons, cms_lk]
include hlt in
theorem cpH_old {i m : Nat} {o : Ob} (h : lk T.hp m = some o) : lk (cpH T k i) m = some o := by
  have hm : m < k := by
    rcases Nat.lt_or_ge m k with h1 | h1
    · exact h1
    · rw [show lk T.hp m = none from Tk.lkk hlt h1] at h; cases h
  rw [cpH_lk, if_neg (by omega), if_neg (by omega), h]
include hlt in
theorem cpH_new {i m : Nat} (h : k + 1 + i ≤ m) : lk (cpH T k i) m = none := by
  rw [cpH_lk, if_neg (by omega), if_neg (by omega)]
  exact Tk.lkk hlt (by omega)
include hlt hs in
theorem cpH_nodup (i : Nat) : ((cpH T k i).map (·.1)).Nodup := by
  have h1 : ∀ i, ((cms T k i ++ T.hp).map (·.1)).Nodup := fun i => by
    induction i with
    | zero => exact Tk.nodup hs
    | succ i ih =>
      simp only [cms, List.cons_append]
      refine nd_cons ?_ ih
      rw [cms_lk, if_neg (by omega)]
      exact Tk.lkk hlt (by omega)
  refine nd_cons ?_ (h1 i)
  rw [cms_lk, if_neg (by omega)]
  exact Tk.lkk hlt (by omega)
include hlt in
theorem cpH_ok (i : Nat) (hi : i ≤ 8) {kx : Nat} (hk : k + 1 + i ≤ kx) : (cpH T k i).ok (fun n => decide (n < kx)) = true := by
  have h1 : ∀ i, k + 1 + i ≤ kx → (cms T k i ++ T.hp).ok (fun n => decide (n < kx)) = true := fun i => by
    induction i with
    | zero => exact fun hk => Hp.ok_less (by omega) (Tk.okk hlt)
    | succ i ih =>
      intro hk
      simp only [cms, List.cons_append]
      have := ih (by omega)
      simp only [Hp.ok, List.all_cons, Bool.and_eq_true, decide_eq_true_eq] at this ⊢
      refine ⟨⟨by omega, ?_⟩, this⟩
      cases T.wt i with
      | none => rfl
      | some y => obtain ⟨L, c⟩ := y; exact vmap_ok _ L
  have h2 : SV.oks (fun n => decide (n < kx)) (T.cpi k i).cells = true := by
    have hn : ∀ r, r < 8 → (decide ((T.cpi k i).nm r < kx)) = true := fun r hr => by
      show decide ((if r < i then k + 1 + r else T.nm r) < kx) = true
      have := hlt.nm r hr
      rw [decide_eq_true_eq]
      split <;> omega
    simp only [Tk.cells, SV.oks, SV.ok, Vec.cells_ok, SV.oks_append, Bool.true_and, Bool.and_true, hn 0 (by omega), hn 1 (by omega), hn 2 (by omega), hn 3 (by omega), hn 4 (by omega), hn 5 (by omega), hn 6 (by omega), hn 7 (by omega)]
  have := h1 i hk
  unfold cpH
  simp only [Hp.ok, List.all_cons, Bool.and_eq_true, decide_eq_true_eq, Ob.ok] at this ⊢
  exact ⟨⟨by omega, h2⟩, this⟩
def cpS (T : Tk) (k i : Nat) : Hp := (k, .box 86 (T.cpi k (i + 1)).cells) :: (cms T k i ++ T.hp)
theorem cpS_lk (T : Tk) (k i m : Nat) : lk (cpS T k i) m = if m = k then some (.box 86 (T.cpi k (i + 1)).cells) else if k + 1 ≤ m ∧ m < k + 1 + i then some (wob (T.wt (m - (k + 1)))) else lk T.hp m := by
  unfold cpS
  rw [lk_cons, cms_lk]
theorem cpH_set (T : Tk) (k i : Nat) : hrep (cpH T k i) k (.box 86 (T.cpi k (i + 1)).cells) = cpS T k i := by simp [cpH, cpS, hrep]
theorem cpH_sub (T : Tk) {k : Nat} (hlt : T.lt k) : HSub ((T.copy k).hp ++ T.hp) (cpH T k 8) := fun m o h => by
  rw [lk_app] at h
  rw [cpH_lk]
  by_cases h1 : m = k
  · rw [if_pos h1]
    rw [show lk (T.copy k).hp m = some (.box 86 (T.copy k).cells) by rw [h1]; exact Tk.lkb (T := T.copy k)] at h
    rw [← h]; rfl
  · rw [if_neg h1]
    by_cases h2 : k + 1 ≤ m ∧ m < k + 1 + 8
    · rw [if_pos h2]
      have := Tk.lkm (T := T.copy k) ⟨fun r _ => by show k + 1 + r ≠ k; omega, fun r s _ _ h => by have h : k + 1 + r = k + 1 + s := h; omega⟩ (r := m - (k + 1)) (by omega)
      rw [show (T.copy k).nm (m - (k + 1)) = m by show k + 1 + (m - (k + 1)) = m; omega] at this
      rw [show lk (T.copy k).hp m = _ from this] at h
      exact h
    · rw [if_neg h2]
      rw [show lk (T.copy k).hp m = none from Tk.lko (T := T.copy k) h1 (fun r hr => by show k + 1 + r ≠ m; omega)] at h
      simpa using h
theorem Tk.copy_good {T : Tk} {k k' kx : Nat} (h : T.good k') (hk : k + 9 ≤ kx) : (T.copy k).good kx :=
  ⟨⟨fun r _ => by show k + 1 + r ≠ k; omega, fun r s _ _ h => by have h : k + 1 + r = k + 1 + s := h; omega⟩, ⟨by show k < kx; omega, fun r hr => by show k + 1 + r < kx; omega⟩, h.ww, h.n0, h.n8, h.own⟩
theorem Tk.copy_is {T : Tk} {k : Nat} {H : Vec} {S : Nat → Vec → Prop} (h : T.Is H S) : (T.copy k).Is H S := ⟨h.has, h.own, h.cle, h.wts, h.wno⟩
attribute [local irreducible] SW RW SCd SC CallP Pruned Tk.cells Tk.hp Tk.up cpH cpS
include hs hlt in
set_option maxHeartbeats 4000000 in
theorem copy_sb (hn0 : T.n ≠ 0) : SB Try.prog stable_Tracker_Copy.f [.ptr T.bx 0] T.hp k 9 fun x F => x = .ptr k 0 ∧ F = (T.copy k).hp ++ T.hp := by
  have hbx := hlt.bx
  refine stable_Tracker_Copy.enter (by simp [SV.ok, SV.oks]; omega) (Tk.okk hlt) (by simp) ?_
  unfold stable_Tracker_Copy.s
  have uB : List.lookup T.bx T.hp = some (.box 86 T.cells) := Tk.lkb
  have uK : List.lookup k T.hp = none := Tk.lkk hlt (Nat.le_refl _)
  have uL : T.cells.length = 82 := Tk.cells_len T
  have uT : List.take 82 T.cells = T.cells := by rw [← uL]; exact List.take_length
  have uP : List.take 8 (List.drop 74 T.cells) = T.mps := by unfold Tk.mps; rfl
  have uA : T.cells.all SV.isOne = true := Tk.cells_one T
  have uS : ∀ z : List SV, z.length = 82 → spl z 0 T.cells = T.cells := fun z hz => spl_whole (by rw [hz, uL]) (by rw [uL]; decide)
  have m0 : hsets (hdels T.hp T.hp T.hp) T.hp = T.hp := Tk.mrg0 hs rfl rfl
  have f1 := ne4 (show k ≠ T.bx by omega)
  have hm : ∀ {kx}, k ≤ kx → SV.oks (fun n => decide (n < kx)) T.mps = true := fun h => T.mps_ok (q := fun n => decide (n < _)) fun r hr => by have := hlt.nm r hr; simp; omega
  refine SW.seq ?_
  (refine SW.regL [0, 2, 3, 4, 5, 7, 14, 15, 16] mixed ?_; (repeat (first | refine RW.ro bq_tt (h := ?_) | refine RW.skip (h := ?_) | refine RW.op bq_tt (h := ?_) | refine RW.opN bq_tt (h := ?_) | refine RW.skip0 (h := ?_) | (refine RW.callC (h := ?_); (first | refine CallP.mk bq_tt (hs := (fun _ _ h => h)) (hc := none_at4 hs hlt hn0) (h := ?_))))); refine RW.nil ⟨conf_of (by kernel_rfl), Pruned.mk (h := ?_)⟩)
  refine SW.seq (SW.seq ?_)
  (refine SW.regL [0, 2, 3, 4, 5, 7, 14, 15, 16] mixed ?_; (repeat (first | refine RW.ro (m0) (h := ?_) | refine RW.skip (h := ?_) | refine RW.op (m0) (h := ?_) | refine RW.opN (m0) (h := ?_) | refine RW.skip0 (h := ?_) | (refine RW.callC (h := ?_); (first | refine CallP.mk (m0) (hs := (fun _ _ h => h)) (hc := none_at4 hs hlt hn0) (h := ?_))))); refine RW.nil ⟨conf_of (by kernel_rfl), Pruned.mk (h := ?_)⟩)
  refine SW.condF rfl (SW.skip ?_)
  refine SW.seq ?_
  (have fx := (And.intro (uB) (And.intro (uL) (And.intro (uT) (And.intro (uK) (uA))))); refine SW.regL [0, 2, 3, 4, 5, 7, 14, 15, 16] mixed ?_; (repeat (first | refine RW.ro fx (h := ?_) | refine RW.skip (h := ?_) | refine RW.op fx (h := ?_) | refine RW.opN fx (h := ?_) | refine RW.skip0 (h := ?_) | (refine RW.callC (h := ?_); (first | refine CallP.mk fx (hs := (fun _ _ h => h)) (hc := none_at4 hs hlt hn0) (h := ?_))))); refine RW.nil ⟨conf_of (by kernel_rfl), Pruned.mk (h := ?_)⟩)
  rw [uS _ rfl]
  refine SW.seq ?_
  refine SW.weak id (st1 := ⟨[(0, .ptr T.bx 0), (3, .ptr k 0)], cpH T k 0, k + 1⟩) (Weak.same (by simp) (by simp [EnvW, List.lookup, SV.ren, SV.ok]; omega) (cpH_ok hlt 0 (by omega) (Nat.le_refl (k + 1))) (fun x hx => by
    have h0 : cpH T k 0 = (k, .box 86 T.cells) :: T.hp := by unfold cpH; rw [Tk.cpi0]; rfl
    have := lk_of_nodup (cpH_nodup hs hlt 0) x hx
    rw [h0] at this; exact this)) ?_
  refine SW.seq ?_
  have uB2 : ∀ i, List.lookup T.bx (cpH T k i) = some (.box 86 T.cells) := fun i => cpH_old hlt uB
  (have fx := (And.intro (uB2) (And.intro (uP) (uL))); refine SW.regL [0, 2, 3, 4, 5, 7, 14, 15, 16] mixed ?_; (repeat (first | refine RW.ro fx (h := ?_) | refine RW.skip (h := ?_) | refine RW.op fx (h := ?_) | refine RW.opN fx (h := ?_) | refine RW.skip0 (h := ?_))); refine RW.nil ⟨conf_of (by kernel_rfl), Pruned.mk (h := ?_)⟩)
  refine SW.block (SW.loop (α := {i : Nat // i ≤ 8}) (fun i => ⟨[(15, i64 i.1), (3, .ptr k 0), (14, .agg T.mps)], cpH T k i.1, k + 1 + i.1⟩) (fun i => 8 - i.1) ⟨0, by omega⟩ id ?_ ?_)
  · exact Weak.same (by simp) (by simp [EnvW, List.lookup, SV.ren, SV.rens_id, SV.ok, hm]) (cpH_ok hlt 0 (by omega) (Nat.le_refl (k + 1))) (lk_of_nodup (cpH_nodup hs hlt 0))
  rintro ⟨i, hi⟩
  dsimp only
  by_cases h : i < 8
  · have h1 : decide ((i : Int) < 8) = true := by simp only [decide_eq_true_eq]; omega
    have e2 : IntKind.i64.wrap ((i : Int) + 1) = ((i + 1 : Nat) : Int) := wrap_i64 _ (by omega)
    have hg := T.mps_get h
    have uM : lk T.hp (T.nm i) = some (wob (T.wt i)) := Tk.lkm hs h
    have hsub : HSub [(T.nm i, wob (T.wt i))] (cpH T k i) := HSub.cons (cpH_old hlt uM) (HSub.nil _)
    have hc := mapsClone_at (T.nm i) (k + 1 + i) (by have := hlt.nm i h; omega) (wob (T.wt i)) (by
      cases T.wt i with
      | none => exact .inl rfl
      | some y => exact .inr ⟨_, _, rfl⟩)
    have m2 := ne4 (show T.nm i ≠ k + 1 + i by have := hlt.nm i h; omega)
    have uM2 : List.lookup (T.nm i) (cpH T k i) = some (wob (T.wt i)) := cpH_old hlt uM
    have uM3 : hrep (cpH T k i) (T.nm i) (wob (T.wt i)) = cpH T k i := hrep_same uM2
    have uM4 : List.lookup (k + 1 + i) (cpH T k i) = none := cpH_new hlt (Nat.le_refl _)
    have uC : List.lookup k (cpH T k i) = some (.box 86 (T.cpi k i).cells) := by rw [show List.lookup k (cpH T k i) = _ from cpH_lk T k i k, if_pos rfl]
    have f2 := ne4 (show k + 1 + i ≠ k by omega)
    have uR := T.cpi_spl k h
    have uL2 : (74 + i < (T.cpi k i).cells.length) = True := eq_true (by rw [Tk.cells_len]; omega)
    have uL3 : (74 + i + 1 ≤ (T.cpi k i).cells.length) = True := eq_true (by rw [Tk.cells_len]; omega)
    have uH := cpH_set T k i
    refine SW.seq ?_
    (refine SW.regL [0, 2, 3, 4, 5, 7, 14, 15, 16] mixed ?_; (repeat (first | refine RW.ro (h1) (h := ?_) | refine RW.skip (h := ?_) | refine RW.op (h1) (h := ?_) | refine RW.opN (h1) (h := ?_) | refine RW.skip0 (h := ?_))); refine RW.nil ⟨conf_of (by kernel_rfl), Pruned.mk (h := ?_)⟩)
    refine SW.seq (SW.condT rfl (SW.skip ?_))
    refine SW.seq (SW.block (SW.seq ?_))
    (refine SW.regL [0, 2, 3, 4, 5, 7, 14, 15, 16] mixed ?_; (repeat (first | refine RW.ro (hg) (h := ?_) | refine RW.skip (h := ?_) | refine RW.op (hg) (h := ?_) | refine RW.opN (hg) (h := ?_) | refine RW.skip0 (h := ?_))); refine RW.nil ⟨conf_of (by kernel_rfl), Pruned.mk (h := ?_)⟩)
    (have fx := (And.intro (m2) (And.intro (uM2) (And.intro (uM3) (And.intro (uM4) (And.intro (uC) (And.intro (f2) (And.intro (uR) (And.intro (uL2) (And.intro (uL3) (And.intro (uH) (h1))))))))))); refine SW.regL [0, 2, 3, 4, 5, 7, 14, 15, 16] mixed ?_; (repeat (first | refine RW.ro fx (h := ?_) | refine RW.skip (h := ?_) | refine RW.op fx (h := ?_) | refine RW.opN fx (h := ?_) | refine RW.skip0 (h := ?_) | (refine RW.callC (h := ?_); (first | refine CallP.mk fx (hs := hsub) (hc := hc) (h := ?_))))); refine RW.nil ⟨conf_of (by kernel_rfl), Pruned.mk (h := ?_)⟩)
    (refine SW.regL [0, 2, 3, 4, 5, 7, 14, 15, 16] mixed ?_; (repeat (first | refine RW.ro (e2) (h := ?_) | refine RW.skip (h := ?_) | refine RW.op (e2) (h := ?_) | refine RW.opN (e2) (h := ?_) | refine RW.skip0 (h := ?_))); refine RW.nil ⟨conf_of (by kernel_rfl), Pruned.mk (h := ?_)⟩)
    exact ⟨⟨i + 1, by omega⟩, id, by simp; omega, Weak.same (by simp; omega) (by simp [EnvW, List.lookup, SV.ren, SV.rens_id, SV.ok, hm (show k ≤ k + 1 + (i + 1) by omega)]; omega) (cpH_ok hlt (i + 1) (by omega) (Nat.le_refl _)) (fun x hx => by
      have h2 := lk_of_nodup (cpH_nodup hs hlt (i + 1)) x hx
      rw [cpH_lk] at h2
      show lk ((k + 1 + i, wob (T.wt i)) :: cpS T k i) x.1 = some x.2
      rw [lk_cons, cpS_lk, ← h2]
      by_cases q1 : x.1 = k + 1 + i
      · rw [if_pos q1, if_neg (by omega), if_pos (by omega), q1, show k + 1 + i - (k + 1) = i by omega]
      · rw [if_neg q1]
        by_cases q2 : x.1 = k
        · rw [if_pos q2, if_pos q2]
        · rw [if_neg q2, if_neg q2]
          by_cases q3 : k + 1 ≤ x.1 ∧ x.1 < k + 1 + i
          · rw [if_pos q3, if_pos (by omega)]
          · rw [if_neg q3, if_neg (by omega)])⟩
  · have h1 : decide ((i : Int) < 8) = false := by simp only [decide_eq_false_iff_not]; omega
    have e : i = 8 := by omega
    subst e
    refine SW.seq ?_
    (refine SW.regL [0, 2, 3, 4, 5, 7, 14, 15, 16] mixed ?_; (repeat (first | refine RW.ro (h1) (h := ?_) | refine RW.skip (h := ?_) | refine RW.op (h1) (h := ?_) | refine RW.opN (h1) (h := ?_) | refine RW.skip0 (h := ?_))); refine RW.nil ⟨conf_of (by kernel_rfl), Pruned.mk (h := ?_)⟩)
    refine SW.seq (SW.condF rfl (SW.exit ?_))
    refine (?_ : Sl.SW _ _ _ _ _ _)
    refine SW.seq ?_
    (refine SW.regL [0, 2, 3, 4, 5, 7, 14, 15, 16] mixed ?_; (repeat (first | refine RW.ro bq_tt (h := ?_) | refine RW.skip (h := ?_) | refine RW.op bq_tt (h := ?_) | refine RW.opN bq_tt (h := ?_) | refine RW.skip0 (h := ?_))); refine RW.nil ⟨conf_of (by kernel_rfl), Pruned.mk (h := ?_)⟩)
    refine SW.ret ?_
    exact End.mk ((T.copy k).hp ++ T.hp) (h3 := cpH_sub T hlt) (h4 := ⟨rfl, rfl⟩) (h6 := by
      have h1 := Tk.okk (T := T.copy k) (k := k + 9) ⟨by show k < k + 9; omega, fun r hr => by show k + 1 + r < k + 9; omega⟩
      have h2 := Hp.ok_less (show k ≤ k + 9 by omega) (Tk.okk hlt)
      simp only [Hp.ok, List.all_append, Bool.and_eq_true] at h1 h2 ⊢
      exact ⟨h1, h2⟩)
include hs hlt in
theorem copy_at (hn0 : T.n ≠ 0) : SCd Try.prog stable_Tracker_Copy.f [.ptr T.bx 0] T.hp k 9 (.ptr k 0) ((T.copy k).hp ++ T.hp) := by
  unfold SCd
  have a2 : (lk T.hp T.bx).isSome = true := by rw [show lk T.hp T.bx = _ from Tk.lkb]; rfl
  have a3 : ∀ r, r < 8 → (lk T.hp (T.nm r)).isSome = true := fun r hr => by rw [show lk T.hp (T.nm r) = _ from Tk.lkm hs hr]; rfl
  refine (copy_sb hs hlt hn0).here (fun n => (lk T.hp n).isSome) (fun n h e => by rw [e] at h; cases h) (by simp [SV.oks, SV.ok, a2]) (Tk.ok a2 a3) ?_
  rintro x F ⟨rfl, rfl⟩ _ _
  refine ⟨by simp [SV.ok], ?_⟩
  have h1 : (T.copy k).hp.ok (fun n => (lk T.hp n).isSome || (decide (k ≤ n) && decide (n < k + 9))) = true := Tk.ok (by simp [Tk.copy]) fun r hr => by
    have q1 : k ≤ k + 1 + r := by omega
    have q2 : k + 1 + r < k + 9 := by omega
    simp [Tk.copy, q1, q2]
  have h2 : T.hp.ok (fun n => (lk T.hp n).isSome || (decide (k ≤ n) && decide (n < k + 9))) = true := Tk.ok (by simp [a2]) fun r hr => by simp [a3 r hr]
  simp only [Hp.ok, List.all_append, Bool.and_eq_true] at h1 h2 ⊢
  exact ⟨h1, h2⟩
end
end Go.Proofs.Ytacdkgkpoelhdaa
namespace Go.Proofs.Ytacdkgkpoelhdaa
open Go.Sl Go.Proofs
theorem Tk.hasV_err {T : Tk} {v : Vec} (h : (T.hasV v).2 ≠ 0) : (T.hasV v).1 = T := by
  unfold Tk.hasV at h ⊢
  split
  · rfl
  rename_i h1
  rw [if_neg h1] at h
  split
  · rfl
  rename_i h2
  rw [if_neg h2] at h
  exact absurd rfl h
theorem Tk.hearV_err {T : Tk} {r k : Nat} {v : Vec} (h : (T.hearV r v k).2 ≠ 0) : (T.hearV r v k).1 = T := by
  unfold Tk.hearV at h ⊢
  split
  · rfl
  rename_i h1
  rw [if_neg h1] at h
  split
  · rfl
  rename_i h2
  rw [if_neg h2] at h
  split
  · split <;> rfl
  rename_i h3
  rw [if_neg h3] at h
  exact absurd rfl h
theorem Tk.hasV_above {T : Tk} {v : Vec} (h : (T.hasV v).2 = 0) : v.above T.has = true := by
  unfold Tk.hasV at h
  split at h
  · cases h
  split at h
  · cases h
  · rename_i h2; simpa using h2
theorem Vec.above_refl (v : Vec) : v.above v = true := Vec.above_iff.2 fun _ _ => Nat.le_refl _
theorem Tk.Is.cnt_above {T U : Tk} {H H' : Vec} {S S' : Nat → Vec → Prop} (h : T.Is H S) (g : U.Is H' S') (hn : U.n = T.n) (ho : U.own = T.own) (hn8 : T.n ≤ 8) (hH : H'.above H = true) (hS : ∀ r v, S r v → S' r v) {r : Nat} (hr : r < T.n) : (U.cnt r).above (T.cnt r) = true := by
  rw [Vec.above_iff] at hH ⊢
  intro q hq
  by_cases e : r = T.own
  · rw [e, h.own, ← ho, g.own]; exact hH q hq
  · refine (h.cle r hr e q hq _).2 fun v hv hle => ?_
    exact (g.cle r (hn ▸ hr) (ho ▸ e) q hq _).1 (Nat.le_refl _) v (hS r v hv) (Nat.le_trans hle (hH r (by omega)))
theorem zmin_ge {q b : Nat} (hq : q < 8) : ∀ (l : List Vec) (x : Vec), b ≤ x.get q → (∀ v, v ∈ l → b ≤ v.get q) → b ≤ (l.foldl (Vec.zip min) x).get q
  | [], x, h, _ => h
  | y :: l, x, h, hl => by
    refine zmin_ge hq l (Vec.zip min x y) ?_ fun v hv => hl v (List.mem_cons_of_mem _ hv)
    rw [Vec.zip_get _ _ _ hq]
    have := hl y (by simp)
    omega
theorem zmin_le' {q : Nat} (hq : q < 8) : ∀ (l : List Vec) (x : Vec), (l.foldl (Vec.zip min) x).get q ≤ x.get q ∧ ∀ v, v ∈ l → (l.foldl (Vec.zip min) x).get q ≤ v.get q
  | [], x => ⟨Nat.le_refl _, fun v h => by cases h⟩
  | y :: l, x => by
    obtain ⟨h1, h2⟩ := zmin_le' hq l (Vec.zip min x y)
    rw [Vec.zip_get _ _ _ hq] at h1
    refine ⟨by show (l.foldl (Vec.zip min) (Vec.zip min x y)).get q ≤ _; omega, fun v hv => ?_⟩
    show (l.foldl (Vec.zip min) (Vec.zip min x y)).get q ≤ _
    rcases List.mem_cons.1 hv with rfl | hv
    · omega
    · exact h2 v hv
theorem le_all_min {q b : Nat} (hq : q < 8) {l : List Vec} (h0 : l ≠ []) (h : ∀ v, v ∈ l → b ≤ v.get q) : b ≤ (Vec.all min l).get q := by
  cases l with
  | nil => exact absurd rfl h0
  | cons x l => rw [Vec.all_min]; exact zmin_ge hq (x :: l) x (h x (by simp)) h
theorem all_min_le' {q : Nat} (hq : q < 8) {l : List Vec} {v : Vec} (hv : v ∈ l) : (Vec.all min l).get q ≤ v.get q := by
  cases l with
  | nil => cases hv
  | cons x l => rw [Vec.all_min]; exact (zmin_le' hq (x :: l) x).2 v hv
theorem Tk.stab_above {T U : Tk} (hn0 : T.n ≠ 0) (hn : U.n = T.n) (h : ∀ r, r < T.n → (U.cnt r).above (T.cnt r) = true) : U.stab.above T.stab = true := by
  refine Vec.above_iff.2 fun q hq => ?_
  unfold Tk.stab
  refine le_all_min hq (by simp; omega) fun v hv => ?_
  obtain ⟨r, hr, rfl⟩ := List.mem_map.1 hv
  have hr' : r < T.n := by simpa [hn] using hr
  exact Nat.le_trans (all_min_le' hq (List.mem_map.2 ⟨r, by simpa using hr', rfl⟩)) (Vec.above_iff.1 (h r hr') q hq)
structure Grown (T U : Tk) (f : Nat) : Prop where
  cnt : ∀ r, r < T.n → (U.cnt r).above (T.cnt r) = true ∧ (f ≠ 0 → U.cnt r = T.cnt r)
  stab : U.stab.above T.stab = true
  same : f ≠ 0 → U.stab = T.stab ∧ U.wsum 8 = T.wsum 8
theorem Grown.same_of {T U : Tk} {f : Nat} (h1 : U.n = T.n) (h2 : U.cnt = T.cnt) (h3 : U.wt = T.wt) : Grown T U f := by
  have hs : U.stab = T.stab := by unfold Tk.stab; rw [h1, h2]
  have hw : ∀ i, U.wsum i = T.wsum i := fun i => by
    induction i with
    | zero => rfl
    | succ i ih => simp only [Tk.wsum]; rw [ih, h3]
  exact ⟨fun r _ => by rw [h2]; exact ⟨Vec.above_refl _, fun _ => rfl⟩, by rw [hs]; exact Vec.above_refl _, fun _ => ⟨hs, hw 8⟩⟩
theorem Grown.of_is {T U : Tk} {H H' : Vec} {S S' : Nat → Vec → Prop} (h : T.Is H S) (g : U.Is H' S') (hn : U.n = T.n) (ho : U.own = T.own) (hn8 : T.n ≤ 8) (hn0 : T.n ≠ 0) (hH : H'.above H = true) (hS : ∀ r v, S r v → S' r v) : Grown T U 0 :=
  have hc : ∀ r, r < T.n → (U.cnt r).above (T.cnt r) = true := fun r hr => h.cnt_above g hn ho hn8 hH hS hr
  ⟨fun r hr => ⟨hc r hr, fun h => absurd rfl h⟩, Tk.stab_above hn0 hn hc, fun h => absurd rfl h⟩
theorem Grown.hasV {T : Tk} {H : Vec} {S : Nat → Vec → Prop} (h : T.Is H S) (hn8 : T.n ≤ 8) (hn0 : T.n ≠ 0) (ho : T.own < T.n) (k : Nat) (v : Vec) : Grown T ((T.copy k).hasV v).1 ((T.copy k).hasV v).2 := by
  by_cases h0 : ((T.copy k).hasV v).2 = 0
  · rw [h0]
    obtain ⟨e1, e2⟩ := (T.copy k).has_n v
    exact Grown.of_is h ((Tk.copy_is h).hasV hn8 ho h0) e1 e2 hn8 hn0 (by rw [← h.has]; exact Tk.hasV_above (T := T.copy k) h0) fun _ _ h => h
  · rw [Tk.hasV_err h0]; exact Grown.same_of rfl rfl rfl
theorem Grown.hearV {T : Tk} {H : Vec} {S : Nat → Vec → Prop} (h : T.Is H S) (hn8 : T.n ≤ 8) (hn0 : T.n ≠ 0) (ho : T.own < T.n) (k r k' : Nat) (v : Vec) : Grown T ((T.copy k).hearV r v k').1 ((T.copy k).hearV r v k').2 := by
  by_cases h0 : ((T.copy k).hearV r v k').2 = 0
  · rw [h0]
    obtain ⟨e1, e2⟩ := (T.copy k).hear_n r k' v
    exact Grown.of_is h ((Tk.copy_is h).hearV hn8 ho r v k') e1 e2 hn8 hn0 (Vec.above_refl _) fun _ _ h => .inl h
  · rw [Tk.hearV_err h0]; exact Grown.same_of rfl rfl rfl
end Go.Proofs.Ytacdkgkpoelhdaa
namespace Go.Proofs.Ytacdkgkpoelhdaa
open Go.Sl Go.Proofs
theorem headG_at (k : Nat) : SCd Try.prog law12_head.f [] [] k 0 (bl true) [] := head12_ok.sc rfl k
theorem newG_at (n own : Nat) (hn : 1 ≤ n ∧ n ≤ 8) (ho : own < n) (k : Nat) (x : SV) (hx : x = u8 own) : SCd Try.prog stable_New.f [i64 n, x] [] k 9 (.tup [.ptr k 0, .d (.int .i64 0)]) (newT n own k).hp := by rw [hx]; exact new_at4 n own hn ho k
theorem newG0_at (n : Int) (own : Nat) (hn : -9223372036854775808 ≤ n ∧ n < 9223372036854775808) (ho : own < 256) (hbad : ¬ (1 ≤ n ∧ n ≤ 8 ∧ (own : Int) < n)) (k : Nat) (x : SV) (hx : x = u8 own) :
    SCd Try.prog stable_New.f [.d (.int .i64 n), x] [] k 0 (.tup [.d .nilp, .d (.int .i64 2)]) [] := by rw [hx]; exact (new0_sb n own hn ho hbad).sc rfl k
def Ac.cells (a : Ac) : List SV := bl a.own :: u8 a.r :: a.v.cells
theorem Ac.c0 (a : Ac) : a.cells[0]? = some (bl a.own) := rfl
theorem Ac.c1 (a : Ac) : a.cells[1]? = some (u8 a.r) := rfl
theorem Ac.c2 (a : Ac) : List.take 8 (List.drop 2 a.cells) = a.v.cells := rfl
theorem Ac.cl (a : Ac) : a.cells.length = 10 := rfl
@[simp] theorem Ac.cells_ok (a : Ac) (q : Nat → Bool) : SV.oks q a.cells = true := rfl
@[simp] theorem Ac.one (a : Ac) : a.cells.all SV.isOne = true := rfl
abbrev acts (l : List Ac) : SV := .d (.sl l.length (l.flatMap Ac.ds))
section
attribute [local irreducible] SW RW SCd SC CallP Pruned Tk.hp Tk.cells newT Tk.hasV Tk.hearV Tk.stab Tk.wsum Ac.cells Tk.copy
end
end Go.Proofs.Ytacdkgkpoelhdaa
