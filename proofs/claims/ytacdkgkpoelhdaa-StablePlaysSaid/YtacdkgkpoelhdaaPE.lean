/-
  What the vectors' functions compute: merged, met.
-/
import Derived.Test.YtacdkgkpoelhdaaPV
import Derived.Test.YtacdkgkpoelhdaaP4
import Derived.Test.YtacdkgkpoelhdaaP6
import Derived.Test.YtacdkgkpoelhdaaP5
set_option linter.unusedSectionVars false
set_option linter.unusedVariables false
set_option linter.unusedSimpArgs false
namespace Go.Proofs.Ytacdkgkpoelhdaa
open Go.Sl Go.Proofs
theorem max_ok (a b : Nat) : Pure Try.prog vector_Merge_1.f [u32 a, u32 b] (u32 (max a b)) := by
  refine vector_Merge_1.enter rfl rfl (by simp) ?_
  unfold vector_Merge_1.s
  refine SW.seq ?_
  refine SW.reg [] mixed (by simp only [runs, runOp, goOp, sop, ev, evs, evp, upd, argE, List.lookup, Nat.reduceBEq, Nat.reduceAdd, Nat.reduceMul, Nat.zero_add, SV.cells, if_true, if_false, reduceIte, Bool.false_eq_true, roOf, hmrg, hsets, hdels, hset, hrep, hdel, touchL, lk, List.filter, Nat.reduceBNe, bne_self_eq_false, ldv, ldo, cellsAt, binV, binK, mvp, Vec.cells_one, BEq.rfl, beq_self_eq_true, Bool.true_or, Nat.reduceEqDiff, List.map_cons, List.map_nil, List.nil_append, List.cons_append, List.append_nil, Int.toNat_natCast, Nat.mul_one, Nat.add_zero, findS, keyOk, isAggS, msetS, mdelS, lookS, lookOk, Option.isSome_some, Option.isSome_none, Option.isNone_some, Option.isNone_none, Nat.zero_ne_one, Nat.one_ne_zero, Bool.and_false, Bool.and_true, List.drop_zero, Vec.zero_cells, Vec.take_all, Vec.spl_all, Dt.cells_one, Dt.take_all, Dt.get0, Dt.get1, Dt.spl_all, Dt.zero_cells, Dt.bld, bldS, datas, appB, appX, List.all_cons, List.all_nil, SV.isOne, Int.cast_ofNat_Int, Int.reduceBNe, Int.reduceBEq, Int.reduceLT, Int.reduceLE, Int.reduceGT, Int.reduceGE, one_map, bq_ft, bq_tf, Bool.not_true, Bool.not_false, Bool.or_false, Bool.or_true, Bool.false_or, Bool.or_self, Vec.row0, Vec.row8, Vec.row16, Vec.row24, Vec.datas_app, Vec.datas_one, Dt.row0, Dt.row2, Dt.datas_app, Dt.datas_one, List.all_append, Vec.eqb8, Dt.eqb, Bool.cond_true, Bool.cond_false]; rfl) (by simp [-List.length_flatMap, -Int.natCast_add] <;> omega) (by rfl) ?_
  refine SW.seq ?_
  refine SW.reg [] mixed (by simp only [runs, runOp, goOp, sop, ev, evs, evp, upd, argE, List.lookup, Nat.reduceBEq, Nat.reduceAdd, Nat.reduceMul, Nat.zero_add, SV.cells, if_true, if_false, reduceIte, Bool.false_eq_true, roOf, hmrg, hsets, hdels, hset, hrep, hdel, touchL, lk, List.filter, Nat.reduceBNe, bne_self_eq_false, ldv, ldo, cellsAt, binV, binK, mvp, Vec.cells_one, BEq.rfl, beq_self_eq_true, Bool.true_or, Nat.reduceEqDiff, List.map_cons, List.map_nil, List.nil_append, List.cons_append, List.append_nil, Int.toNat_natCast, Nat.mul_one, Nat.add_zero, findS, keyOk, isAggS, msetS, mdelS, lookS, lookOk, Option.isSome_some, Option.isSome_none, Option.isNone_some, Option.isNone_none, Nat.zero_ne_one, Nat.one_ne_zero, Bool.and_false, Bool.and_true, List.drop_zero, Vec.zero_cells, Vec.take_all, Vec.spl_all, Dt.cells_one, Dt.take_all, Dt.get0, Dt.get1, Dt.spl_all, Dt.zero_cells, Dt.bld, bldS, datas, appB, appX, List.all_cons, List.all_nil, SV.isOne, Int.cast_ofNat_Int, Int.reduceBNe, Int.reduceBEq, Int.reduceLT, Int.reduceLE, Int.reduceGT, Int.reduceGE, one_map, bq_ft, bq_tf, Bool.not_true, Bool.not_false, Bool.or_false, Bool.or_true, Bool.false_or, Bool.or_self, Vec.row0, Vec.row8, Vec.row16, Vec.row24, Vec.datas_app, Vec.datas_one, Dt.row0, Dt.row2, Dt.datas_app, Dt.datas_one, List.all_append, Vec.eqb8, Dt.eqb, Bool.cond_true, Bool.cond_false]; rfl) (by simp [-List.length_flatMap, -Int.natCast_add] <;> omega) (by rfl) ?_
  refine SW.ret ?_
  refine fin_pure (by rfl) trivial ?_ rfl
  simp only [retV, u32]
  congr 2
  split <;> omega
theorem min_ok (a b : Nat) : Pure Try.prog vector_Meet_1.f [u32 a, u32 b] (u32 (min a b)) := by
  refine vector_Meet_1.enter rfl rfl (by simp) ?_
  unfold vector_Meet_1.s
  refine SW.seq ?_
  refine SW.reg [] mixed (by simp only [runs, runOp, goOp, sop, ev, evs, evp, upd, argE, List.lookup, Nat.reduceBEq, Nat.reduceAdd, Nat.reduceMul, Nat.zero_add, SV.cells, if_true, if_false, reduceIte, Bool.false_eq_true, roOf, hmrg, hsets, hdels, hset, hrep, hdel, touchL, lk, List.filter, Nat.reduceBNe, bne_self_eq_false, ldv, ldo, cellsAt, binV, binK, mvp, Vec.cells_one, BEq.rfl, beq_self_eq_true, Bool.true_or, Nat.reduceEqDiff, List.map_cons, List.map_nil, List.nil_append, List.cons_append, List.append_nil, Int.toNat_natCast, Nat.mul_one, Nat.add_zero, findS, keyOk, isAggS, msetS, mdelS, lookS, lookOk, Option.isSome_some, Option.isSome_none, Option.isNone_some, Option.isNone_none, Nat.zero_ne_one, Nat.one_ne_zero, Bool.and_false, Bool.and_true, List.drop_zero, Vec.zero_cells, Vec.take_all, Vec.spl_all, Dt.cells_one, Dt.take_all, Dt.get0, Dt.get1, Dt.spl_all, Dt.zero_cells, Dt.bld, bldS, datas, appB, appX, List.all_cons, List.all_nil, SV.isOne, Int.cast_ofNat_Int, Int.reduceBNe, Int.reduceBEq, Int.reduceLT, Int.reduceLE, Int.reduceGT, Int.reduceGE, one_map, bq_ft, bq_tf, Bool.not_true, Bool.not_false, Bool.or_false, Bool.or_true, Bool.false_or, Bool.or_self, Vec.row0, Vec.row8, Vec.row16, Vec.row24, Vec.datas_app, Vec.datas_one, Dt.row0, Dt.row2, Dt.datas_app, Dt.datas_one, List.all_append, Vec.eqb8, Dt.eqb, Bool.cond_true, Bool.cond_false]; rfl) (by simp [-List.length_flatMap, -Int.natCast_add] <;> omega) (by rfl) ?_
  refine SW.seq ?_
  refine SW.reg [] mixed (by simp only [runs, runOp, goOp, sop, ev, evs, evp, upd, argE, List.lookup, Nat.reduceBEq, Nat.reduceAdd, Nat.reduceMul, Nat.zero_add, SV.cells, if_true, if_false, reduceIte, Bool.false_eq_true, roOf, hmrg, hsets, hdels, hset, hrep, hdel, touchL, lk, List.filter, Nat.reduceBNe, bne_self_eq_false, ldv, ldo, cellsAt, binV, binK, mvp, Vec.cells_one, BEq.rfl, beq_self_eq_true, Bool.true_or, Nat.reduceEqDiff, List.map_cons, List.map_nil, List.nil_append, List.cons_append, List.append_nil, Int.toNat_natCast, Nat.mul_one, Nat.add_zero, findS, keyOk, isAggS, msetS, mdelS, lookS, lookOk, Option.isSome_some, Option.isSome_none, Option.isNone_some, Option.isNone_none, Nat.zero_ne_one, Nat.one_ne_zero, Bool.and_false, Bool.and_true, List.drop_zero, Vec.zero_cells, Vec.take_all, Vec.spl_all, Dt.cells_one, Dt.take_all, Dt.get0, Dt.get1, Dt.spl_all, Dt.zero_cells, Dt.bld, bldS, datas, appB, appX, List.all_cons, List.all_nil, SV.isOne, Int.cast_ofNat_Int, Int.reduceBNe, Int.reduceBEq, Int.reduceLT, Int.reduceLE, Int.reduceGT, Int.reduceGE, one_map, bq_ft, bq_tf, Bool.not_true, Bool.not_false, Bool.or_false, Bool.or_true, Bool.false_or, Bool.or_self, Vec.row0, Vec.row8, Vec.row16, Vec.row24, Vec.datas_app, Vec.datas_one, Dt.row0, Dt.row2, Dt.datas_app, Dt.datas_one, List.all_append, Vec.eqb8, Dt.eqb, Bool.cond_true, Bool.cond_false]; rfl) (by simp [-List.length_flatMap, -Int.natCast_add] <;> omega) (by rfl) ?_
  refine SW.ret ?_
  refine fin_pure (by rfl) trivial ?_ rfl
  simp only [retV, u32]
  congr 2
  split <;> omega
def Two (g : Nat) (op : Nat → Nat → Nat) : Prop := ∀ a b k : Nat, SCd Try.prog g [.d (.int .u32 (a : Int)), .d (.int .u32 (b : Int))] [] k 0 (.d (.int .u32 ((op a b : Nat) : Int))) []
theorem two_max : Two vector_Merge_1.f max := fun a b k => (max_ok a b).sc rfl k
theorem two_min : Two vector_Meet_1.f min := fun a b k => (min_ok a b).sc rfl k
abbrev fnOb (g : Nat) : Ob := .box T_func_uint32_uint32_uint32 [.fn (.func g) [] []]
theorem each1_ok {g : Nat} {op : Nat → Nat → Nat} (hg : Two g op) (a b : Vec) : SB Try.prog vector_each_1.f [.agg a.cells, .agg b.cells, .ptr 0 0] [(0, fnOb g)] 1 0 fun r F => r = .agg (Vec.zip op a b).cells ∧ F = [(0, fnOb g)] := by
  refine vector_each_1.enter rfl rfl (by simp) ?_
  unfold vector_each_1.s
  refine SW.seq ?_
  refine SW.reg [] mixed (by simp only [runs, runOp, goOp, sop, ev, evs, evp, upd, argE, List.lookup, Nat.reduceBEq, Nat.reduceAdd, Nat.reduceMul, Nat.zero_add, SV.cells, if_true, if_false, reduceIte, Bool.false_eq_true, roOf, hmrg, hsets, hdels, hset, hrep, hdel, touchL, lk, List.filter, Nat.reduceBNe, bne_self_eq_false, ldv, ldo, cellsAt, binV, binK, mvp, Vec.cells_one, BEq.rfl, beq_self_eq_true, Bool.true_or, Nat.reduceEqDiff, List.map_cons, List.map_nil, List.nil_append, List.cons_append, List.append_nil, Int.toNat_natCast, Nat.mul_one, Nat.add_zero, findS, keyOk, isAggS, msetS, mdelS, lookS, lookOk, Option.isSome_some, Option.isSome_none, Option.isNone_some, Option.isNone_none, Nat.zero_ne_one, Nat.one_ne_zero, Bool.and_false, Bool.and_true, List.drop_zero, Vec.zero_cells, Vec.take_all, Vec.spl_all, Dt.cells_one, Dt.take_all, Dt.get0, Dt.get1, Dt.spl_all, Dt.zero_cells, Dt.bld, bldS, datas, appB, appX, List.all_cons, List.all_nil, SV.isOne, Int.cast_ofNat_Int, Int.reduceBNe, Int.reduceBEq, Int.reduceLT, Int.reduceLE, Int.reduceGT, Int.reduceGE, one_map, bq_ft, bq_tf, Bool.not_true, Bool.not_false, Bool.or_false, Bool.or_true, Bool.false_or, Bool.or_self, Vec.row0, Vec.row8, Vec.row16, Vec.row24, Vec.datas_app, Vec.datas_one, Dt.row0, Dt.row2, Dt.datas_app, Dt.datas_one, List.all_append, Vec.eqb8, Dt.eqb, Bool.cond_true, Bool.cond_false]; rfl) (by simp [-List.length_flatMap, -Int.natCast_add] <;> omega) (by rfl) ?_
  refine SW.seq ?_
  refine SW.seq ?_
  refine SW.reg [] mixed (by simp only [runs, runOp, goOp, sop, ev, evs, evp, upd, argE, List.lookup, Nat.reduceBEq, Nat.reduceAdd, Nat.reduceMul, Nat.zero_add, SV.cells, if_true, if_false, reduceIte, Bool.false_eq_true, roOf, hmrg, hsets, hdels, hset, hrep, hdel, touchL, lk, List.filter, Nat.reduceBNe, bne_self_eq_false, ldv, ldo, cellsAt, binV, binK, mvp, Vec.cells_one, BEq.rfl, beq_self_eq_true, Bool.true_or, Nat.reduceEqDiff, List.map_cons, List.map_nil, List.nil_append, List.cons_append, List.append_nil, Int.toNat_natCast, Nat.mul_one, Nat.add_zero, findS, keyOk, isAggS, msetS, mdelS, lookS, lookOk, Option.isSome_some, Option.isSome_none, Option.isNone_some, Option.isNone_none, Nat.zero_ne_one, Nat.one_ne_zero, Bool.and_false, Bool.and_true, List.drop_zero, Vec.zero_cells, Vec.take_all, Vec.spl_all, Dt.cells_one, Dt.take_all, Dt.get0, Dt.get1, Dt.spl_all, Dt.zero_cells, Dt.bld, bldS, datas, appB, appX, List.all_cons, List.all_nil, SV.isOne, Int.cast_ofNat_Int, Int.reduceBNe, Int.reduceBEq, Int.reduceLT, Int.reduceLE, Int.reduceGT, Int.reduceGE, one_map, bq_ft, bq_tf, Bool.not_true, Bool.not_false, Bool.or_false, Bool.or_true, Bool.false_or, Bool.or_self, Vec.row0, Vec.row8, Vec.row16, Vec.row24, Vec.datas_app, Vec.datas_one, Dt.row0, Dt.row2, Dt.datas_app, Dt.datas_one, List.all_append, Vec.eqb8, Dt.eqb, Bool.cond_true, Bool.cond_false]; rfl) (by simp [-List.length_flatMap, -Int.natCast_add] <;> omega) (by rfl) ?_
  refine SW.block ?_
  refine SW.loopS (α := {i : Nat // i ≤ 8}) (fun i => ⟨[(7, i64 i.1), (2, .ptr 0 0), (3, .ptr 1 0), (4, .ptr 2 0), (5, .ptr 3 0)], [(0, fnOb g), (1, .box 25 a.cells), (2, .box 25 b.cells), (3, .box 25 (Vec.upto i.1 (Vec.zip op a b) Vec.zero).cells)], 4⟩) (fun i => 8 - i.1) ⟨0, by omega⟩ (by simp only [Vec.upto_zero]; simp [Go.Sl.Sub, EnvS, HpS, SV.ok, Ob.ok, SV.oks, lk, List.lookup, Vec.cells_ok]) ?_
  rintro ⟨i, hi⟩
  refine SW.seq ?_
  refine SW.reg [] mixed (by simp only [runs, runOp, goOp, sop, ev, evs, evp, upd, argE, List.lookup, Nat.reduceBEq, Nat.reduceAdd, Nat.reduceMul, Nat.zero_add, SV.cells, if_true, if_false, reduceIte, Bool.false_eq_true, roOf, hmrg, hsets, hdels, hset, hrep, hdel, touchL, lk, List.filter, Nat.reduceBNe, bne_self_eq_false, ldv, ldo, cellsAt, binV, binK, mvp, Vec.cells_one, BEq.rfl, beq_self_eq_true, Bool.true_or, Nat.reduceEqDiff, List.map_cons, List.map_nil, List.nil_append, List.cons_append, List.append_nil, Int.toNat_natCast, Nat.mul_one, Nat.add_zero, findS, keyOk, isAggS, msetS, mdelS, lookS, lookOk, Option.isSome_some, Option.isSome_none, Option.isNone_some, Option.isNone_none, Nat.zero_ne_one, Nat.one_ne_zero, Bool.and_false, Bool.and_true, List.drop_zero, Vec.zero_cells, Vec.take_all, Vec.spl_all, Dt.cells_one, Dt.take_all, Dt.get0, Dt.get1, Dt.spl_all, Dt.zero_cells, Dt.bld, bldS, datas, appB, appX, List.all_cons, List.all_nil, SV.isOne, Int.cast_ofNat_Int, Int.reduceBNe, Int.reduceBEq, Int.reduceLT, Int.reduceLE, Int.reduceGT, Int.reduceGE, one_map, bq_ft, bq_tf, Bool.not_true, Bool.not_false, Bool.or_false, Bool.or_true, Bool.false_or, Bool.or_self, Vec.row0, Vec.row8, Vec.row16, Vec.row24, Vec.datas_app, Vec.datas_one, Dt.row0, Dt.row2, Dt.datas_app, Dt.datas_one, List.all_append, Vec.eqb8, Dt.eqb, Bool.cond_true, Bool.cond_false]; rfl) (by simp [-List.length_flatMap, -Int.natCast_add] <;> omega) (by rfl) ?_
  refine SW.seq ?_
  refine SW.cond rfl (fun h => SW.skip ?_) (fun h => SW.exit ?_)
  · have h : i < 8 := by simp at h; omega
    refine SW.seq ?_
    refine SW.block ?_
    refine SW.seq ?_
    refine SW.reg [] mixed (by simp only [runs, runOp, goOp, sop, ev, evs, evp, upd, argE, List.lookup, Nat.reduceBEq, Nat.reduceAdd, Nat.reduceMul, Nat.zero_add, SV.cells, if_true, if_false, reduceIte, Bool.false_eq_true, roOf, hmrg, hsets, hdels, hset, hrep, hdel, touchL, lk, List.filter, Nat.reduceBNe, bne_self_eq_false, ldv, ldo, cellsAt, binV, binK, mvp, Vec.cells_one, BEq.rfl, beq_self_eq_true, Bool.true_or, Nat.reduceEqDiff, List.map_cons, List.map_nil, List.nil_append, List.cons_append, List.append_nil, Int.toNat_natCast, Nat.mul_one, Nat.add_zero, findS, keyOk, isAggS, msetS, mdelS, lookS, lookOk, Option.isSome_some, Option.isSome_none, Option.isNone_some, Option.isNone_none, Nat.zero_ne_one, Nat.one_ne_zero, Bool.and_false, Bool.and_true, List.drop_zero, Vec.zero_cells, Vec.take_all, Vec.spl_all, Dt.cells_one, Dt.take_all, Dt.get0, Dt.get1, Dt.spl_all, Dt.zero_cells, Dt.bld, bldS, datas, appB, appX, List.all_cons, List.all_nil, SV.isOne, Int.cast_ofNat_Int, Int.reduceBNe, Int.reduceBEq, Int.reduceLT, Int.reduceLE, Int.reduceGT, Int.reduceGE, one_map, bq_ft, bq_tf, Bool.not_true, Bool.not_false, Bool.or_false, Bool.or_true, Bool.false_or, Bool.or_self, Vec.row0, Vec.row8, Vec.row16, Vec.row24, Vec.datas_app, Vec.datas_one, Dt.row0, Dt.row2, Dt.datas_app, Dt.datas_one, List.all_append, Vec.eqb8, Dt.eqb, Bool.cond_true, Bool.cond_false]; rfl) (by simp [-List.length_flatMap, -Int.natCast_add] <;> omega) (by rfl) ?_
    refine SW.reg [.call [] (u32 (op (a.get i) (b.get i))) [] 0] mixed (by simp only [runs, runOp, goOp, sop, ev, evs, evp, upd, argE, List.lookup, Nat.reduceBEq, Nat.reduceAdd, Nat.reduceMul, Nat.zero_add, SV.cells, if_true, if_false, reduceIte, Bool.false_eq_true, roOf, hmrg, hsets, hdels, hset, hrep, hdel, touchL, lk, List.filter, Nat.reduceBNe, bne_self_eq_false, ldv, ldo, cellsAt, binV, binK, mvp, Vec.cells_one, BEq.rfl, beq_self_eq_true, Bool.true_or, Nat.reduceEqDiff, List.map_cons, List.map_nil, List.nil_append, List.cons_append, List.append_nil, Int.toNat_natCast, Nat.mul_one, Nat.add_zero, findS, keyOk, isAggS, msetS, mdelS, lookS, lookOk, Option.isSome_some, Option.isSome_none, Option.isNone_some, Option.isNone_none, Nat.zero_ne_one, Nat.one_ne_zero, Bool.and_false, Bool.and_true, List.drop_zero, Vec.zero_cells, Vec.take_all, Vec.spl_all, Dt.cells_one, Dt.take_all, Dt.get0, Dt.get1, Dt.spl_all, Dt.zero_cells, Dt.bld, bldS, datas, appB, appX, List.all_cons, List.all_nil, SV.isOne, Int.cast_ofNat_Int, Int.reduceBNe, Int.reduceBEq, Int.reduceLT, Int.reduceLE, Int.reduceGT, Int.reduceGE, one_map, bq_ft, bq_tf, Bool.not_true, Bool.not_false, Bool.or_false, Bool.or_true, Bool.false_or, Bool.or_self, Vec.row0, Vec.row8, Vec.row16, Vec.row24, Vec.datas_app, Vec.datas_one, Dt.row0, Dt.row2, Dt.datas_app, Dt.datas_one, List.all_append, Vec.eqb8, Dt.eqb, Bool.cond_true, Bool.cond_false, a.cells_get h, b.cells_get h]; rfl) (by simp [-List.length_flatMap, -Int.natCast_add, lk, List.lookup, hg (a.get i) (b.get i)] <;> omega) (by rfl) ?_
    have e : (Vec.upto i (Vec.zip op a b) Vec.zero).set i (op (a.get i) (b.get i)) = Vec.upto (i + 1) (Vec.zip op a b) Vec.zero := by
      rw [← Vec.upto_succ _ _ h]; congr 1; simp [Vec.zip, Vec.get_of _ h]
    simp only [Vec.spl_set _ h, e]
    refine SW.reg [] mixed (by simp only [runs, runOp, goOp, sop, ev, evs, evp, upd, argE, List.lookup, Nat.reduceBEq, Nat.reduceAdd, Nat.reduceMul, Nat.zero_add, SV.cells, if_true, if_false, reduceIte, Bool.false_eq_true, roOf, hmrg, hsets, hdels, hset, hrep, hdel, touchL, lk, List.filter, Nat.reduceBNe, bne_self_eq_false, ldv, ldo, cellsAt, binV, binK, mvp, Vec.cells_one, BEq.rfl, beq_self_eq_true, Bool.true_or, Nat.reduceEqDiff, List.map_cons, List.map_nil, List.nil_append, List.cons_append, List.append_nil, Int.toNat_natCast, Nat.mul_one, Nat.add_zero, findS, keyOk, isAggS, msetS, mdelS, lookS, lookOk, Option.isSome_some, Option.isSome_none, Option.isNone_some, Option.isNone_none, Nat.zero_ne_one, Nat.one_ne_zero, Bool.and_false, Bool.and_true, List.drop_zero, Vec.zero_cells, Vec.take_all, Vec.spl_all, Dt.cells_one, Dt.take_all, Dt.get0, Dt.get1, Dt.spl_all, Dt.zero_cells, Dt.bld, bldS, datas, appB, appX, List.all_cons, List.all_nil, SV.isOne, Int.cast_ofNat_Int, Int.reduceBNe, Int.reduceBEq, Int.reduceLT, Int.reduceLE, Int.reduceGT, Int.reduceGE, one_map, bq_ft, bq_tf, Bool.not_true, Bool.not_false, Bool.or_false, Bool.or_true, Bool.false_or, Bool.or_self, Vec.row0, Vec.row8, Vec.row16, Vec.row24, Vec.datas_app, Vec.datas_one, Dt.row0, Dt.row2, Dt.datas_app, Dt.datas_one, List.all_append, Vec.eqb8, Dt.eqb, Bool.cond_true, Bool.cond_false, wrap_succ i (by omega)]; rfl) (by simp [-List.length_flatMap, -Int.natCast_add] <;> omega) (by rfl) ?_
    exact ⟨⟨i + 1, by omega⟩, by simp; omega, by simp [Go.Sl.Sub, EnvS, HpS, SV.ok, Ob.ok, SV.oks, lk, List.lookup, Vec.cells_ok]⟩
  · have h : i = 8 := by simp at h; omega
    subst h
    refine SW.seq ?_
    simp only [Vec.upto_all]
    refine SW.reg [] mixed (by simp only [runs, runOp, goOp, sop, ev, evs, evp, upd, argE, List.lookup, Nat.reduceBEq, Nat.reduceAdd, Nat.reduceMul, Nat.zero_add, SV.cells, if_true, if_false, reduceIte, Bool.false_eq_true, roOf, hmrg, hsets, hdels, hset, hrep, hdel, touchL, lk, List.filter, Nat.reduceBNe, bne_self_eq_false, ldv, ldo, cellsAt, binV, binK, mvp, Vec.cells_one, BEq.rfl, beq_self_eq_true, Bool.true_or, Nat.reduceEqDiff, List.map_cons, List.map_nil, List.nil_append, List.cons_append, List.append_nil, Int.toNat_natCast, Nat.mul_one, Nat.add_zero, findS, keyOk, isAggS, msetS, mdelS, lookS, lookOk, Option.isSome_some, Option.isSome_none, Option.isNone_some, Option.isNone_none, Nat.zero_ne_one, Nat.one_ne_zero, Bool.and_false, Bool.and_true, List.drop_zero, Vec.zero_cells, Vec.take_all, Vec.spl_all, Dt.cells_one, Dt.take_all, Dt.get0, Dt.get1, Dt.spl_all, Dt.zero_cells, Dt.bld, bldS, datas, appB, appX, List.all_cons, List.all_nil, SV.isOne, Int.cast_ofNat_Int, Int.reduceBNe, Int.reduceBEq, Int.reduceLT, Int.reduceLE, Int.reduceGT, Int.reduceGE, one_map, bq_ft, bq_tf, Bool.not_true, Bool.not_false, Bool.or_false, Bool.or_true, Bool.false_or, Bool.or_self, Vec.row0, Vec.row8, Vec.row16, Vec.row24, Vec.datas_app, Vec.datas_one, Dt.row0, Dt.row2, Dt.datas_app, Dt.datas_one, List.all_append, Vec.eqb8, Dt.eqb, Bool.cond_true, Bool.cond_false]; rfl) (by simp [-List.length_flatMap, -Int.natCast_add] <;> omega) (by rfl) ?_
    refine SW.ret ?_
    exact ⟨_, _, [(0, fnOb g)], by rfl, by simp [ldo], by simp [lk], ⟨rfl, rfl⟩, rfl, rfl, by simp⟩
theorem each1_at {g : Nat} {op : Nat → Nat → Nat} (hg : Two g op) (a b : Vec) (n k : Nat) : SCd Try.prog vector_each_1.f [.agg a.cells, .agg b.cells, .ptr n 0] [(n, fnOb g)] k 0 (.agg (Vec.zip op a b).cells) [(n, fnOb g)] :=
  SB.atL [n] (each1_ok hg a b) (by simp) (by simp [lk]) k
theorem each_ok (g : Nat) : SB Try.prog vector_each.f [.fn (.func g) [] []] [] 0 1 fun r F => r = .fn (.func vector_each_1.f) [] [.ptr 0 0] ∧ F = [(0, fnOb g)] := by
  refine vector_each.enter rfl rfl (by simp) ?_
  unfold vector_each.s
  refine SW.seq ?_
  refine SW.reg [] mixed (by simp only [runs, runOp, goOp, sop, ev, evs, evp, upd, argE, List.lookup, Nat.reduceBEq, Nat.reduceAdd, Nat.reduceMul, Nat.zero_add, SV.cells, if_true, if_false, reduceIte, Bool.false_eq_true, roOf, hmrg, hsets, hdels, hset, hrep, hdel, touchL, lk, List.filter, Nat.reduceBNe, bne_self_eq_false, ldv, ldo, cellsAt, binV, binK, mvp, Vec.cells_one, BEq.rfl, beq_self_eq_true, Bool.true_or, Nat.reduceEqDiff, List.map_cons, List.map_nil, List.nil_append, List.cons_append, List.append_nil, Int.toNat_natCast, Nat.mul_one, Nat.add_zero, findS, keyOk, isAggS, msetS, mdelS, lookS, lookOk, Option.isSome_some, Option.isSome_none, Option.isNone_some, Option.isNone_none, Nat.zero_ne_one, Nat.one_ne_zero, Bool.and_false, Bool.and_true, List.drop_zero, Vec.zero_cells, Vec.take_all, Vec.spl_all, Dt.cells_one, Dt.take_all, Dt.get0, Dt.get1, Dt.spl_all, Dt.zero_cells, Dt.bld, bldS, datas, appB, appX, List.all_cons, List.all_nil, SV.isOne, Int.cast_ofNat_Int, Int.reduceBNe, Int.reduceBEq, Int.reduceLT, Int.reduceLE, Int.reduceGT, Int.reduceGE, one_map, bq_ft, bq_tf, Bool.not_true, Bool.not_false, Bool.or_false, Bool.or_true, Bool.false_or, Bool.or_self, Vec.row0, Vec.row8, Vec.row16, Vec.row24, Vec.datas_app, Vec.datas_one, Dt.row0, Dt.row2, Dt.datas_app, Dt.datas_one, List.all_append, Vec.eqb8, Dt.eqb, Bool.cond_true, Bool.cond_false]; rfl) (by simp [-List.length_flatMap, -Int.natCast_add] <;> omega) (by rfl) ?_
  refine SW.seq ?_
  refine SW.reg [] mixed (by simp only [runs, runOp, goOp, sop, ev, evs, evp, upd, argE, List.lookup, Nat.reduceBEq, Nat.reduceAdd, Nat.reduceMul, Nat.zero_add, SV.cells, if_true, if_false, reduceIte, Bool.false_eq_true, roOf, hmrg, hsets, hdels, hset, hrep, hdel, touchL, lk, List.filter, Nat.reduceBNe, bne_self_eq_false, ldv, ldo, cellsAt, binV, binK, mvp, Vec.cells_one, BEq.rfl, beq_self_eq_true, Bool.true_or, Nat.reduceEqDiff, List.map_cons, List.map_nil, List.nil_append, List.cons_append, List.append_nil, Int.toNat_natCast, Nat.mul_one, Nat.add_zero, findS, keyOk, isAggS, msetS, mdelS, lookS, lookOk, Option.isSome_some, Option.isSome_none, Option.isNone_some, Option.isNone_none, Nat.zero_ne_one, Nat.one_ne_zero, Bool.and_false, Bool.and_true, List.drop_zero, Vec.zero_cells, Vec.take_all, Vec.spl_all, Dt.cells_one, Dt.take_all, Dt.get0, Dt.get1, Dt.spl_all, Dt.zero_cells, Dt.bld, bldS, datas, appB, appX, List.all_cons, List.all_nil, SV.isOne, Int.cast_ofNat_Int, Int.reduceBNe, Int.reduceBEq, Int.reduceLT, Int.reduceLE, Int.reduceGT, Int.reduceGE, one_map, bq_ft, bq_tf, Bool.not_true, Bool.not_false, Bool.or_false, Bool.or_true, Bool.false_or, Bool.or_self, Vec.row0, Vec.row8, Vec.row16, Vec.row24, Vec.datas_app, Vec.datas_one, Dt.row0, Dt.row2, Dt.datas_app, Dt.datas_one, List.all_append, Vec.eqb8, Dt.eqb, Bool.cond_true, Bool.cond_false]; rfl) (by simp [-List.length_flatMap, -Int.natCast_add] <;> omega) (by rfl) ?_
  refine SW.ret ?_
  exact ⟨_, _, [(0, fnOb g)], by rfl, by simp [ldo], by simp [lk], ⟨rfl, rfl⟩, rfl, rfl, by simp⟩
theorem each_at (g k : Nat) : SCd Try.prog vector_each.f [.fn (.func g) [] []] [] k 1 (.fn (.func vector_each_1.f) [] [.ptr k 0]) [(k, fnOb g)] := by
  have := SB.new (each_ok g) k
  simpa [SV.ren, SV.rens, Hp.ren, Ob.ren, atN] using this
theorem all_ok {g : Nat} {op : Nat → Nat → Nat} (hg : Two g op) (l : List Vec) (hl : l.length < 1000000000) : SB Try.prog vector_all_api_Vector.f [.fn (.func vector_each_1.f) [] [.ptr 0 0], vecs l] [(0, fnOb g)] 1 0
    fun r F => r = .agg (Vec.all op l).cells ∧ F = [(0, fnOb g)] := by
  refine vector_all_api_Vector.enter rfl rfl (by simp) ?_
  unfold vector_all_api_Vector.s
  refine SW.seq ?_
  refine SW.reg [] mixed (by simp only [runs, runOp, goOp, sop, ev, evs, evp, upd, argE, List.lookup, Nat.reduceBEq, Nat.reduceAdd, Nat.reduceMul, Nat.zero_add, SV.cells, if_true, if_false, reduceIte, Bool.false_eq_true, roOf, hmrg, hsets, hdels, hset, hrep, hdel, touchL, lk, List.filter, Nat.reduceBNe, bne_self_eq_false, ldv, ldo, cellsAt, binV, binK, mvp, Vec.cells_one, BEq.rfl, beq_self_eq_true, Bool.true_or, Nat.reduceEqDiff, List.map_cons, List.map_nil, List.nil_append, List.cons_append, List.append_nil, Int.toNat_natCast, Nat.mul_one, Nat.add_zero, findS, keyOk, isAggS, msetS, mdelS, lookS, lookOk, Option.isSome_some, Option.isSome_none, Option.isNone_some, Option.isNone_none, Nat.zero_ne_one, Nat.one_ne_zero, Bool.and_false, Bool.and_true, List.drop_zero, Vec.zero_cells, Vec.take_all, Vec.spl_all, Dt.cells_one, Dt.take_all, Dt.get0, Dt.get1, Dt.spl_all, Dt.zero_cells, Dt.bld, bldS, datas, appB, appX, List.all_cons, List.all_nil, SV.isOne, Int.cast_ofNat_Int, Int.reduceBNe, Int.reduceBEq, Int.reduceLT, Int.reduceLE, Int.reduceGT, Int.reduceGE, one_map, bq_ft, bq_tf, Bool.not_true, Bool.not_false, Bool.or_false, Bool.or_true, Bool.false_or, Bool.or_self, Vec.row0, Vec.row8, Vec.row16, Vec.row24, Vec.datas_app, Vec.datas_one, Dt.row0, Dt.row2, Dt.datas_app, Dt.datas_one, List.all_append, Vec.eqb8, Dt.eqb, Bool.cond_true, Bool.cond_false]; rfl) (by simp [-List.length_flatMap, -Int.natCast_add] <;> omega) (by rfl) ?_
  refine SW.seq ?_
  refine SW.seq ?_
  refine SW.reg [] mixed (by simp only [runs, runOp, goOp, sop, ev, evs, evp, upd, argE, List.lookup, Nat.reduceBEq, Nat.reduceAdd, Nat.reduceMul, Nat.zero_add, SV.cells, if_true, if_false, reduceIte, Bool.false_eq_true, roOf, hmrg, hsets, hdels, hset, hrep, hdel, touchL, lk, List.filter, Nat.reduceBNe, bne_self_eq_false, ldv, ldo, cellsAt, binV, binK, mvp, Vec.cells_one, BEq.rfl, beq_self_eq_true, Bool.true_or, Nat.reduceEqDiff, List.map_cons, List.map_nil, List.nil_append, List.cons_append, List.append_nil, Int.toNat_natCast, Nat.mul_one, Nat.add_zero, findS, keyOk, isAggS, msetS, mdelS, lookS, lookOk, Option.isSome_some, Option.isSome_none, Option.isNone_some, Option.isNone_none, Nat.zero_ne_one, Nat.one_ne_zero, Bool.and_false, Bool.and_true, List.drop_zero, Vec.zero_cells, Vec.take_all, Vec.spl_all, Dt.cells_one, Dt.take_all, Dt.get0, Dt.get1, Dt.spl_all, Dt.zero_cells, Dt.bld, bldS, datas, appB, appX, List.all_cons, List.all_nil, SV.isOne, Int.cast_ofNat_Int, Int.reduceBNe, Int.reduceBEq, Int.reduceLT, Int.reduceLE, Int.reduceGT, Int.reduceGE, one_map, bq_ft, bq_tf, Bool.not_true, Bool.not_false, Bool.or_false, Bool.or_true, Bool.false_or, Bool.or_self, Vec.row0, Vec.row8, Vec.row16, Vec.row24, Vec.datas_app, Vec.datas_one, Dt.row0, Dt.row2, Dt.datas_app, Dt.datas_one, List.all_append, Vec.eqb8, Dt.eqb, Bool.cond_true, Bool.cond_false]; rfl) (by simp [-List.length_flatMap, -Int.natCast_add] <;> omega) (by rfl) ?_
  refine SW.block ?_
  refine SW.loopS (α := {i : Nat // i ≤ l.length}) (fun i => ⟨[(9, i64 i.1), (8, i64 l.length), (7, vecs l), (4, .ptr 1 0), (0, .fn (.func vector_each_1.f) [] [.ptr 0 0])], [(0, fnOb g), (1, .box 25 (Vec.all op (l.take i.1)).cells)], 2⟩) (fun i => l.length - i.1) ⟨0, by omega⟩ (by simp [Vec.all]; simp [Go.Sl.Sub, EnvS, HpS, SV.ok, Ob.ok, SV.oks, lk, List.lookup, Vec.cells_ok]) ?_
  rintro ⟨i, hi⟩
  refine SW.seq ?_
  refine SW.reg [] mixed (by simp only [runs, runOp, goOp, sop, ev, evs, evp, upd, argE, List.lookup, Nat.reduceBEq, Nat.reduceAdd, Nat.reduceMul, Nat.zero_add, SV.cells, if_true, if_false, reduceIte, Bool.false_eq_true, roOf, hmrg, hsets, hdels, hset, hrep, hdel, touchL, lk, List.filter, Nat.reduceBNe, bne_self_eq_false, ldv, ldo, cellsAt, binV, binK, mvp, Vec.cells_one, BEq.rfl, beq_self_eq_true, Bool.true_or, Nat.reduceEqDiff, List.map_cons, List.map_nil, List.nil_append, List.cons_append, List.append_nil, Int.toNat_natCast, Nat.mul_one, Nat.add_zero, findS, keyOk, isAggS, msetS, mdelS, lookS, lookOk, Option.isSome_some, Option.isSome_none, Option.isNone_some, Option.isNone_none, Nat.zero_ne_one, Nat.one_ne_zero, Bool.and_false, Bool.and_true, List.drop_zero, Vec.zero_cells, Vec.take_all, Vec.spl_all, Dt.cells_one, Dt.take_all, Dt.get0, Dt.get1, Dt.spl_all, Dt.zero_cells, Dt.bld, bldS, datas, appB, appX, List.all_cons, List.all_nil, SV.isOne, Int.cast_ofNat_Int, Int.reduceBNe, Int.reduceBEq, Int.reduceLT, Int.reduceLE, Int.reduceGT, Int.reduceGE, one_map, bq_ft, bq_tf, Bool.not_true, Bool.not_false, Bool.or_false, Bool.or_true, Bool.false_or, Bool.or_self, Vec.row0, Vec.row8, Vec.row16, Vec.row24, Vec.datas_app, Vec.datas_one, Dt.row0, Dt.row2, Dt.datas_app, Dt.datas_one, List.all_append, Vec.eqb8, Dt.eqb, Bool.cond_true, Bool.cond_false]; rfl) (by simp [-List.length_flatMap, -Int.natCast_add] <;> omega) (by rfl) ?_
  refine SW.seq ?_
  refine SW.cond rfl (fun h => SW.skip ?_) (fun h => SW.exit ?_)
  · have h : i < l.length := by simp at h; omega
    obtain ⟨x, hx⟩ := get_of_lt h
    refine SW.seq ?_
    refine SW.block ?_
    refine SW.seq ?_
    refine SW.reg [] mixed (by simp only [runs, runOp, goOp, sop, ev, evs, evp, upd, argE, List.lookup, Nat.reduceBEq, Nat.reduceAdd, Nat.reduceMul, Nat.zero_add, SV.cells, if_true, if_false, reduceIte, Bool.false_eq_true, roOf, hmrg, hsets, hdels, hset, hrep, hdel, touchL, lk, List.filter, Nat.reduceBNe, bne_self_eq_false, ldv, ldo, cellsAt, binV, binK, mvp, Vec.cells_one, BEq.rfl, beq_self_eq_true, Bool.true_or, Nat.reduceEqDiff, List.map_cons, List.map_nil, List.nil_append, List.cons_append, List.append_nil, Int.toNat_natCast, Nat.mul_one, Nat.add_zero, findS, keyOk, isAggS, msetS, mdelS, lookS, lookOk, Option.isSome_some, Option.isSome_none, Option.isNone_some, Option.isNone_none, Nat.zero_ne_one, Nat.one_ne_zero, Bool.and_false, Bool.and_true, List.drop_zero, Vec.zero_cells, Vec.take_all, Vec.spl_all, Dt.cells_one, Dt.take_all, Dt.get0, Dt.get1, Dt.spl_all, Dt.zero_cells, Dt.bld, bldS, datas, appB, appX, List.all_cons, List.all_nil, SV.isOne, Int.cast_ofNat_Int, Int.reduceBNe, Int.reduceBEq, Int.reduceLT, Int.reduceLE, Int.reduceGT, Int.reduceGE, one_map, bq_ft, bq_tf, Bool.not_true, Bool.not_false, Bool.or_false, Bool.or_true, Bool.false_or, Bool.or_self, Vec.row0, Vec.row8, Vec.row16, Vec.row24, Vec.datas_app, Vec.datas_one, Dt.row0, Dt.row2, Dt.datas_app, Dt.datas_one, List.all_append, Vec.eqb8, Dt.eqb, Bool.cond_true, Bool.cond_false, vec_at hx]; rfl) (by simp [-List.length_flatMap, -Int.natCast_add] <;> omega) (by rfl) ?_
    refine SW.seq ?_
    refine SW.reg [.call [(0, fnOb g)] (.agg (Vec.zip op (Vec.all op (l.take i)) x).cells) [(0, fnOb g)] 0] mixed (by simp only [runs, runOp, goOp, sop, ev, evs, evp, upd, argE, List.lookup, Nat.reduceBEq, Nat.reduceAdd, Nat.reduceMul, Nat.zero_add, SV.cells, if_true, if_false, reduceIte, Bool.false_eq_true, roOf, hmrg, hsets, hdels, hset, hrep, hdel, touchL, lk, List.filter, Nat.reduceBNe, bne_self_eq_false, ldv, ldo, cellsAt, binV, binK, mvp, Vec.cells_one, BEq.rfl, beq_self_eq_true, Bool.true_or, Nat.reduceEqDiff, List.map_cons, List.map_nil, List.nil_append, List.cons_append, List.append_nil, Int.toNat_natCast, Nat.mul_one, Nat.add_zero, findS, keyOk, isAggS, msetS, mdelS, lookS, lookOk, Option.isSome_some, Option.isSome_none, Option.isNone_some, Option.isNone_none, Nat.zero_ne_one, Nat.one_ne_zero, Bool.and_false, Bool.and_true, List.drop_zero, Vec.zero_cells, Vec.take_all, Vec.spl_all, Dt.cells_one, Dt.take_all, Dt.get0, Dt.get1, Dt.spl_all, Dt.zero_cells, Dt.bld, bldS, datas, appB, appX, List.all_cons, List.all_nil, SV.isOne, Int.cast_ofNat_Int, Int.reduceBNe, Int.reduceBEq, Int.reduceLT, Int.reduceLE, Int.reduceGT, Int.reduceGE, one_map, bq_ft, bq_tf, Bool.not_true, Bool.not_false, Bool.or_false, Bool.or_true, Bool.false_or, Bool.or_self, Vec.row0, Vec.row8, Vec.row16, Vec.row24, Vec.datas_app, Vec.datas_one, Dt.row0, Dt.row2, Dt.datas_app, Dt.datas_one, List.all_append, Vec.eqb8, Dt.eqb, Bool.cond_true, Bool.cond_false]; rfl) (by simp [-List.length_flatMap, -Int.natCast_add, lk, List.lookup, each1_at hg, lk] <;> omega) (by rfl) ?_
    refine SW.seq ?_
    refine SW.reg [] mixed (by simp only [runs, runOp, goOp, sop, ev, evs, evp, upd, argE, List.lookup, Nat.reduceBEq, Nat.reduceAdd, Nat.reduceMul, Nat.zero_add, SV.cells, if_true, if_false, reduceIte, Bool.false_eq_true, roOf, hmrg, hsets, hdels, hset, hrep, hdel, touchL, lk, List.filter, Nat.reduceBNe, bne_self_eq_false, ldv, ldo, cellsAt, binV, binK, mvp, Vec.cells_one, BEq.rfl, beq_self_eq_true, Bool.true_or, Nat.reduceEqDiff, List.map_cons, List.map_nil, List.nil_append, List.cons_append, List.append_nil, Int.toNat_natCast, Nat.mul_one, Nat.add_zero, findS, keyOk, isAggS, msetS, mdelS, lookS, lookOk, Option.isSome_some, Option.isSome_none, Option.isNone_some, Option.isNone_none, Nat.zero_ne_one, Nat.one_ne_zero, Bool.and_false, Bool.and_true, List.drop_zero, Vec.zero_cells, Vec.take_all, Vec.spl_all, Dt.cells_one, Dt.take_all, Dt.get0, Dt.get1, Dt.spl_all, Dt.zero_cells, Dt.bld, bldS, datas, appB, appX, List.all_cons, List.all_nil, SV.isOne, Int.cast_ofNat_Int, Int.reduceBNe, Int.reduceBEq, Int.reduceLT, Int.reduceLE, Int.reduceGT, Int.reduceGE, one_map, bq_ft, bq_tf, Bool.not_true, Bool.not_false, Bool.or_false, Bool.or_true, Bool.false_or, Bool.or_self, Vec.row0, Vec.row8, Vec.row16, Vec.row24, Vec.datas_app, Vec.datas_one, Dt.row0, Dt.row2, Dt.datas_app, Dt.datas_one, List.all_append, Vec.eqb8, Dt.eqb, Bool.cond_true, Bool.cond_false]; rfl) (by simp [-List.length_flatMap, -Int.natCast_add] <;> omega) (by rfl) ?_
    refine SW.cond rfl (fun hc => ?_) (fun hc => SW.skip ?_)
    · have hc : i = 0 := by simp at hc; omega
      subst hc
      refine SW.reg [] mixed (by simp only [runs, runOp, goOp, sop, ev, evs, evp, upd, argE, List.lookup, Nat.reduceBEq, Nat.reduceAdd, Nat.reduceMul, Nat.zero_add, SV.cells, if_true, if_false, reduceIte, Bool.false_eq_true, roOf, hmrg, hsets, hdels, hset, hrep, hdel, touchL, lk, List.filter, Nat.reduceBNe, bne_self_eq_false, ldv, ldo, cellsAt, binV, binK, mvp, Vec.cells_one, BEq.rfl, beq_self_eq_true, Bool.true_or, Nat.reduceEqDiff, List.map_cons, List.map_nil, List.nil_append, List.cons_append, List.append_nil, Int.toNat_natCast, Nat.mul_one, Nat.add_zero, findS, keyOk, isAggS, msetS, mdelS, lookS, lookOk, Option.isSome_some, Option.isSome_none, Option.isNone_some, Option.isNone_none, Nat.zero_ne_one, Nat.one_ne_zero, Bool.and_false, Bool.and_true, List.drop_zero, Vec.zero_cells, Vec.take_all, Vec.spl_all, Dt.cells_one, Dt.take_all, Dt.get0, Dt.get1, Dt.spl_all, Dt.zero_cells, Dt.bld, bldS, datas, appB, appX, List.all_cons, List.all_nil, SV.isOne, Int.cast_ofNat_Int, Int.reduceBNe, Int.reduceBEq, Int.reduceLT, Int.reduceLE, Int.reduceGT, Int.reduceGE, one_map, bq_ft, bq_tf, Bool.not_true, Bool.not_false, Bool.or_false, Bool.or_true, Bool.false_or, Bool.or_self, Vec.row0, Vec.row8, Vec.row16, Vec.row24, Vec.datas_app, Vec.datas_one, Dt.row0, Dt.row2, Dt.datas_app, Dt.datas_one, List.all_append, Vec.eqb8, Dt.eqb, Bool.cond_true, Bool.cond_false]; rfl) (by simp [-List.length_flatMap, -Int.natCast_add] <;> omega) (by rfl) ?_
      refine SW.reg [] mixed (by simp only [runs, runOp, goOp, sop, ev, evs, evp, upd, argE, List.lookup, Nat.reduceBEq, Nat.reduceAdd, Nat.reduceMul, Nat.zero_add, SV.cells, if_true, if_false, reduceIte, Bool.false_eq_true, roOf, hmrg, hsets, hdels, hset, hrep, hdel, touchL, lk, List.filter, Nat.reduceBNe, bne_self_eq_false, ldv, ldo, cellsAt, binV, binK, mvp, Vec.cells_one, BEq.rfl, beq_self_eq_true, Bool.true_or, Nat.reduceEqDiff, List.map_cons, List.map_nil, List.nil_append, List.cons_append, List.append_nil, Int.toNat_natCast, Nat.mul_one, Nat.add_zero, findS, keyOk, isAggS, msetS, mdelS, lookS, lookOk, Option.isSome_some, Option.isSome_none, Option.isNone_some, Option.isNone_none, Nat.zero_ne_one, Nat.one_ne_zero, Bool.and_false, Bool.and_true, List.drop_zero, Vec.zero_cells, Vec.take_all, Vec.spl_all, Dt.cells_one, Dt.take_all, Dt.get0, Dt.get1, Dt.spl_all, Dt.zero_cells, Dt.bld, bldS, datas, appB, appX, List.all_cons, List.all_nil, SV.isOne, Int.cast_ofNat_Int, Int.reduceBNe, Int.reduceBEq, Int.reduceLT, Int.reduceLE, Int.reduceGT, Int.reduceGE, one_map, bq_ft, bq_tf, Bool.not_true, Bool.not_false, Bool.or_false, Bool.or_true, Bool.false_or, Bool.or_self, Vec.row0, Vec.row8, Vec.row16, Vec.row24, Vec.datas_app, Vec.datas_one, Dt.row0, Dt.row2, Dt.datas_app, Dt.datas_one, List.all_append, Vec.eqb8, Dt.eqb, Bool.cond_true, Bool.cond_false, show IntKind.i64.wrap (0 + 1) = 1 from rfl]; rfl) (by simp [-List.length_flatMap, -Int.natCast_add] <;> omega) (by rfl) ?_
      refine ⟨⟨0 + 1, by omega⟩, by simp; omega, ?_⟩
      simp only [take_snoc hx, Vec.all_snoc]
      simp [Go.Sl.Sub, EnvS, HpS, SV.ok, Ob.ok, SV.oks, lk, List.lookup, Vec.cells_ok]
    · have hc : i ≠ 0 := by simp at hc; omega
      refine SW.reg [] mixed (by simp only [runs, runOp, goOp, sop, ev, evs, evp, upd, argE, List.lookup, Nat.reduceBEq, Nat.reduceAdd, Nat.reduceMul, Nat.zero_add, SV.cells, if_true, if_false, reduceIte, Bool.false_eq_true, roOf, hmrg, hsets, hdels, hset, hrep, hdel, touchL, lk, List.filter, Nat.reduceBNe, bne_self_eq_false, ldv, ldo, cellsAt, binV, binK, mvp, Vec.cells_one, BEq.rfl, beq_self_eq_true, Bool.true_or, Nat.reduceEqDiff, List.map_cons, List.map_nil, List.nil_append, List.cons_append, List.append_nil, Int.toNat_natCast, Nat.mul_one, Nat.add_zero, findS, keyOk, isAggS, msetS, mdelS, lookS, lookOk, Option.isSome_some, Option.isSome_none, Option.isNone_some, Option.isNone_none, Nat.zero_ne_one, Nat.one_ne_zero, Bool.and_false, Bool.and_true, List.drop_zero, Vec.zero_cells, Vec.take_all, Vec.spl_all, Dt.cells_one, Dt.take_all, Dt.get0, Dt.get1, Dt.spl_all, Dt.zero_cells, Dt.bld, bldS, datas, appB, appX, List.all_cons, List.all_nil, SV.isOne, Int.cast_ofNat_Int, Int.reduceBNe, Int.reduceBEq, Int.reduceLT, Int.reduceLE, Int.reduceGT, Int.reduceGE, one_map, bq_ft, bq_tf, Bool.not_true, Bool.not_false, Bool.or_false, Bool.or_true, Bool.false_or, Bool.or_self, Vec.row0, Vec.row8, Vec.row16, Vec.row24, Vec.datas_app, Vec.datas_one, Dt.row0, Dt.row2, Dt.datas_app, Dt.datas_one, List.all_append, Vec.eqb8, Dt.eqb, Bool.cond_true, Bool.cond_false, wrap_succ i (by omega)]; rfl) (by simp [-List.length_flatMap, -Int.natCast_add] <;> omega) (by rfl) ?_
      refine ⟨⟨i + 1, by omega⟩, by simp; omega, ?_⟩
      simp only [take_snoc hx, Vec.all_snoc, List.length_take, show ¬ (min i l.length = 0) by omega, if_false]
      simp [Go.Sl.Sub, EnvS, HpS, SV.ok, Ob.ok, SV.oks, lk, List.lookup, Vec.cells_ok]
  · have h : i = l.length := by simp at h; omega
    subst h
    refine SW.seq ?_
    simp only [List.take_length]
    refine SW.reg [] mixed (by simp only [runs, runOp, goOp, sop, ev, evs, evp, upd, argE, List.lookup, Nat.reduceBEq, Nat.reduceAdd, Nat.reduceMul, Nat.zero_add, SV.cells, if_true, if_false, reduceIte, Bool.false_eq_true, roOf, hmrg, hsets, hdels, hset, hrep, hdel, touchL, lk, List.filter, Nat.reduceBNe, bne_self_eq_false, ldv, ldo, cellsAt, binV, binK, mvp, Vec.cells_one, BEq.rfl, beq_self_eq_true, Bool.true_or, Nat.reduceEqDiff, List.map_cons, List.map_nil, List.nil_append, List.cons_append, List.append_nil, Int.toNat_natCast, Nat.mul_one, Nat.add_zero, findS, keyOk, isAggS, msetS, mdelS, lookS, lookOk, Option.isSome_some, Option.isSome_none, Option.isNone_some, Option.isNone_none, Nat.zero_ne_one, Nat.one_ne_zero, Bool.and_false, Bool.and_true, List.drop_zero, Vec.zero_cells, Vec.take_all, Vec.spl_all, Dt.cells_one, Dt.take_all, Dt.get0, Dt.get1, Dt.spl_all, Dt.zero_cells, Dt.bld, bldS, datas, appB, appX, List.all_cons, List.all_nil, SV.isOne, Int.cast_ofNat_Int, Int.reduceBNe, Int.reduceBEq, Int.reduceLT, Int.reduceLE, Int.reduceGT, Int.reduceGE, one_map, bq_ft, bq_tf, Bool.not_true, Bool.not_false, Bool.or_false, Bool.or_true, Bool.false_or, Bool.or_self, Vec.row0, Vec.row8, Vec.row16, Vec.row24, Vec.datas_app, Vec.datas_one, Dt.row0, Dt.row2, Dt.datas_app, Dt.datas_one, List.all_append, Vec.eqb8, Dt.eqb, Bool.cond_true, Bool.cond_false]; rfl) (by simp [-List.length_flatMap, -Int.natCast_add] <;> omega) (by rfl) ?_
    refine SW.ret ?_
    exact ⟨_, _, [(0, fnOb g)], by rfl, by simp [ldo], by simp [lk], ⟨rfl, rfl⟩, rfl, rfl, by simp⟩
theorem all_at {g : Nat} {op : Nat → Nat → Nat} (hg : Two g op) (l : List Vec) (hl : l.length < 1000000000) (n k : Nat) : SCd Try.prog vector_all_api_Vector.f [.fn (.func vector_each_1.f) [] [.ptr n 0], vecs l] [(n, fnOb g)] k 0 (.agg (Vec.all op l).cells) [(n, fnOb g)] :=
  SB.atL [n] (all_ok hg l hl) (by simp) (by simp [lk]) k
theorem merge_ok (l : List Vec) (hl : l.length < 1000000000) : Pure Try.prog vector_Merge.f [vecs l] (.agg (Vec.all max l).cells) := by
  refine vector_Merge.enter rfl rfl (by simp) ?_
  unfold vector_Merge.s
  refine SW.seq ?_
  refine SW.reg [] mixed (by simp only [runs, runOp, goOp, sop, ev, evs, evp, upd, argE, List.lookup, Nat.reduceBEq, Nat.reduceAdd, Nat.reduceMul, Nat.zero_add, SV.cells, if_true, if_false, reduceIte, Bool.false_eq_true, roOf, hmrg, hsets, hdels, hset, hrep, hdel, touchL, lk, List.filter, Nat.reduceBNe, bne_self_eq_false, ldv, ldo, cellsAt, binV, binK, mvp, Vec.cells_one, BEq.rfl, beq_self_eq_true, Bool.true_or, Nat.reduceEqDiff, List.map_cons, List.map_nil, List.nil_append, List.cons_append, List.append_nil, Int.toNat_natCast, Nat.mul_one, Nat.add_zero, findS, keyOk, isAggS, msetS, mdelS, lookS, lookOk, Option.isSome_some, Option.isSome_none, Option.isNone_some, Option.isNone_none, Nat.zero_ne_one, Nat.one_ne_zero, Bool.and_false, Bool.and_true, List.drop_zero, Vec.zero_cells, Vec.take_all, Vec.spl_all, Dt.cells_one, Dt.take_all, Dt.get0, Dt.get1, Dt.spl_all, Dt.zero_cells, Dt.bld, bldS, datas, appB, appX, List.all_cons, List.all_nil, SV.isOne, Int.cast_ofNat_Int, Int.reduceBNe, Int.reduceBEq, Int.reduceLT, Int.reduceLE, Int.reduceGT, Int.reduceGE, one_map, bq_ft, bq_tf, Bool.not_true, Bool.not_false, Bool.or_false, Bool.or_true, Bool.false_or, Bool.or_self, Vec.row0, Vec.row8, Vec.row16, Vec.row24, Vec.datas_app, Vec.datas_one, Dt.row0, Dt.row2, Dt.datas_app, Dt.datas_one, List.all_append, Vec.eqb8, Dt.eqb, Bool.cond_true, Bool.cond_false]; rfl) (by simp [-List.length_flatMap, -Int.natCast_add] <;> omega) (by rfl) ?_
  refine SW.seq ?_
  refine SW.reg [.call [] (.fn (.func vector_each_1.f) [] [.ptr 1 0]) [(1, fnOb vector_Merge_1.f)] 1, .call [(1, fnOb vector_Merge_1.f)] (.agg (Vec.all max l).cells) [(1, fnOb vector_Merge_1.f)] 0] mixed (by simp only [runs, runOp, goOp, sop, ev, evs, evp, upd, argE, List.lookup, Nat.reduceBEq, Nat.reduceAdd, Nat.reduceMul, Nat.zero_add, SV.cells, if_true, if_false, reduceIte, Bool.false_eq_true, roOf, hmrg, hsets, hdels, hset, hrep, hdel, touchL, lk, List.filter, Nat.reduceBNe, bne_self_eq_false, ldv, ldo, cellsAt, binV, binK, mvp, Vec.cells_one, BEq.rfl, beq_self_eq_true, Bool.true_or, Nat.reduceEqDiff, List.map_cons, List.map_nil, List.nil_append, List.cons_append, List.append_nil, Int.toNat_natCast, Nat.mul_one, Nat.add_zero, findS, keyOk, isAggS, msetS, mdelS, lookS, lookOk, Option.isSome_some, Option.isSome_none, Option.isNone_some, Option.isNone_none, Nat.zero_ne_one, Nat.one_ne_zero, Bool.and_false, Bool.and_true, List.drop_zero, Vec.zero_cells, Vec.take_all, Vec.spl_all, Dt.cells_one, Dt.take_all, Dt.get0, Dt.get1, Dt.spl_all, Dt.zero_cells, Dt.bld, bldS, datas, appB, appX, List.all_cons, List.all_nil, SV.isOne, Int.cast_ofNat_Int, Int.reduceBNe, Int.reduceBEq, Int.reduceLT, Int.reduceLE, Int.reduceGT, Int.reduceGE, one_map, bq_ft, bq_tf, Bool.not_true, Bool.not_false, Bool.or_false, Bool.or_true, Bool.false_or, Bool.or_self, Vec.row0, Vec.row8, Vec.row16, Vec.row24, Vec.datas_app, Vec.datas_one, Dt.row0, Dt.row2, Dt.datas_app, Dt.datas_one, List.all_append, Vec.eqb8, Dt.eqb, Bool.cond_true, Bool.cond_false]; rfl) (by simp [-List.length_flatMap, -Int.natCast_add, lk, List.lookup, each_at, all_at two_max l hl, lk] <;> omega) (by rfl) ?_
  refine SW.ret ?_
  exact ⟨_, _, [], by rfl, by simp [ldo], by simp, ⟨rfl, rfl⟩, rfl, rfl, by simp⟩
theorem meet_ok (l : List Vec) (hl : l.length < 1000000000) : Pure Try.prog vector_Meet.f [vecs l] (.agg (Vec.all min l).cells) := by
  refine vector_Meet.enter rfl rfl (by simp) ?_
  unfold vector_Meet.s
  refine SW.seq ?_
  refine SW.reg [] mixed (by simp only [runs, runOp, goOp, sop, ev, evs, evp, upd, argE, List.lookup, Nat.reduceBEq, Nat.reduceAdd, Nat.reduceMul, Nat.zero_add, SV.cells, if_true, if_false, reduceIte, Bool.false_eq_true, roOf, hmrg, hsets, hdels, hset, hrep, hdel, touchL, lk, List.filter, Nat.reduceBNe, bne_self_eq_false, ldv, ldo, cellsAt, binV, binK, mvp, Vec.cells_one, BEq.rfl, beq_self_eq_true, Bool.true_or, Nat.reduceEqDiff, List.map_cons, List.map_nil, List.nil_append, List.cons_append, List.append_nil, Int.toNat_natCast, Nat.mul_one, Nat.add_zero, findS, keyOk, isAggS, msetS, mdelS, lookS, lookOk, Option.isSome_some, Option.isSome_none, Option.isNone_some, Option.isNone_none, Nat.zero_ne_one, Nat.one_ne_zero, Bool.and_false, Bool.and_true, List.drop_zero, Vec.zero_cells, Vec.take_all, Vec.spl_all, Dt.cells_one, Dt.take_all, Dt.get0, Dt.get1, Dt.spl_all, Dt.zero_cells, Dt.bld, bldS, datas, appB, appX, List.all_cons, List.all_nil, SV.isOne, Int.cast_ofNat_Int, Int.reduceBNe, Int.reduceBEq, Int.reduceLT, Int.reduceLE, Int.reduceGT, Int.reduceGE, one_map, bq_ft, bq_tf, Bool.not_true, Bool.not_false, Bool.or_false, Bool.or_true, Bool.false_or, Bool.or_self, Vec.row0, Vec.row8, Vec.row16, Vec.row24, Vec.datas_app, Vec.datas_one, Dt.row0, Dt.row2, Dt.datas_app, Dt.datas_one, List.all_append, Vec.eqb8, Dt.eqb, Bool.cond_true, Bool.cond_false]; rfl) (by simp [-List.length_flatMap, -Int.natCast_add] <;> omega) (by rfl) ?_
  refine SW.seq ?_
  refine SW.reg [.call [] (.fn (.func vector_each_1.f) [] [.ptr 1 0]) [(1, fnOb vector_Meet_1.f)] 1, .call [(1, fnOb vector_Meet_1.f)] (.agg (Vec.all min l).cells) [(1, fnOb vector_Meet_1.f)] 0] mixed (by simp only [runs, runOp, goOp, sop, ev, evs, evp, upd, argE, List.lookup, Nat.reduceBEq, Nat.reduceAdd, Nat.reduceMul, Nat.zero_add, SV.cells, if_true, if_false, reduceIte, Bool.false_eq_true, roOf, hmrg, hsets, hdels, hset, hrep, hdel, touchL, lk, List.filter, Nat.reduceBNe, bne_self_eq_false, ldv, ldo, cellsAt, binV, binK, mvp, Vec.cells_one, BEq.rfl, beq_self_eq_true, Bool.true_or, Nat.reduceEqDiff, List.map_cons, List.map_nil, List.nil_append, List.cons_append, List.append_nil, Int.toNat_natCast, Nat.mul_one, Nat.add_zero, findS, keyOk, isAggS, msetS, mdelS, lookS, lookOk, Option.isSome_some, Option.isSome_none, Option.isNone_some, Option.isNone_none, Nat.zero_ne_one, Nat.one_ne_zero, Bool.and_false, Bool.and_true, List.drop_zero, Vec.zero_cells, Vec.take_all, Vec.spl_all, Dt.cells_one, Dt.take_all, Dt.get0, Dt.get1, Dt.spl_all, Dt.zero_cells, Dt.bld, bldS, datas, appB, appX, List.all_cons, List.all_nil, SV.isOne, Int.cast_ofNat_Int, Int.reduceBNe, Int.reduceBEq, Int.reduceLT, Int.reduceLE, Int.reduceGT, Int.reduceGE, one_map, bq_ft, bq_tf, Bool.not_true, Bool.not_false, Bool.or_false, Bool.or_true, Bool.false_or, Bool.or_self, Vec.row0, Vec.row8, Vec.row16, Vec.row24, Vec.datas_app, Vec.datas_one, Dt.row0, Dt.row2, Dt.datas_app, Dt.datas_one, List.all_append, Vec.eqb8, Dt.eqb, Bool.cond_true, Bool.cond_false]; rfl) (by simp [-List.length_flatMap, -Int.natCast_add, lk, List.lookup, each_at, all_at two_min l hl, lk] <;> omega) (by rfl) ?_
  refine SW.ret ?_
  exact ⟨_, _, [], by rfl, by simp [ldo], by simp, ⟨rfl, rfl⟩, rfl, rfl, by simp⟩
end Go.Proofs.Ytacdkgkpoelhdaa
namespace Go.Proofs.Ytacdkgkpoelhdaa
open Go.Sl Go.Proofs
theorem may_ok4 (d : Dt) : Go.Sl.Pure Try.prog dot_May.f [.agg d.cells] (bl d.may) := by
  obtain ⟨r, n⟩ := d
  refine dot_May.enter rfl rfl (by simp) ?_
  unfold dot_May.s
  refine SW.seq ?_
  refine SW.reg [] mixed (by simp only [runs, runOp, goOp, sop, ev, evs, evp, upd, argE, List.lookup, Nat.reduceBEq, Nat.reduceAdd, Nat.reduceMul, Nat.zero_add, SV.cells, if_true, if_false, reduceIte, Bool.false_eq_true, roOf, hmrg, hsets, hdels, hset, hrep, hdel, touchL, lk, List.filter, Nat.reduceBNe, bne_self_eq_false, ldv, ldo, cellsAt, binV, binK, mvp, Vec.cells_one, BEq.rfl, beq_self_eq_true, Bool.true_or, Nat.reduceEqDiff, List.map_cons, List.map_nil, List.nil_append, List.cons_append, List.append_nil, Int.toNat_natCast, Nat.mul_one, Nat.add_zero, findS, keyOk, isAggS, msetS, mdelS, lookS, lookOk, Option.isSome_some, Option.isSome_none, Option.isNone_some, Option.isNone_none, Nat.zero_ne_one, Nat.one_ne_zero, Bool.and_false, Bool.and_true, List.drop_zero, Vec.zero_cells, Vec.take_all, Vec.spl_all, Dt.cells_one, Dt.take_all, Dt.get0, Dt.get1, Dt.spl_all, Dt.zero_cells, Dt.bld, bldS, datas, appB, appX, List.all_cons, List.all_nil, SV.isOne, Int.cast_ofNat_Int, Int.reduceBNe, Int.reduceBEq, Int.reduceLT, Int.reduceLE, Int.reduceGT, Int.reduceGE, one_map, bq_ft, bq_tf, Bool.not_true, Bool.not_false, Bool.or_false, Bool.or_true, Bool.false_or, Bool.or_self, Vec.row0, Vec.row8, Vec.row16, Vec.row24, Vec.datas_app, Vec.datas_one, Dt.row0, Dt.row2, Dt.datas_app, Dt.datas_one, List.all_append, Vec.eqb8, Dt.eqb, Bool.cond_true, Bool.cond_false]; rfl) (by simp [-List.length_flatMap, -Int.natCast_add] <;> omega) (by rfl) ?_
  refine SW.seq ?_
  by_cases h : (r : Int) < 8
  · refine SW.reg [] mixed (by simp only [runs, runOp, goOp, sop, ev, evs, evp, upd, argE, List.lookup, Nat.reduceBEq, Nat.reduceAdd, Nat.reduceMul, Nat.zero_add, SV.cells, if_true, if_false, reduceIte, Bool.false_eq_true, roOf, hmrg, hsets, hdels, hset, hrep, hdel, touchL, lk, List.filter, Nat.reduceBNe, bne_self_eq_false, ldv, ldo, cellsAt, binV, binK, mvp, Vec.cells_one, BEq.rfl, beq_self_eq_true, Bool.true_or, Nat.reduceEqDiff, List.map_cons, List.map_nil, List.nil_append, List.cons_append, List.append_nil, Int.toNat_natCast, Nat.mul_one, Nat.add_zero, findS, keyOk, isAggS, msetS, mdelS, lookS, lookOk, Option.isSome_some, Option.isSome_none, Option.isNone_some, Option.isNone_none, Nat.zero_ne_one, Nat.one_ne_zero, Bool.and_false, Bool.and_true, List.drop_zero, Vec.zero_cells, Vec.take_all, Vec.spl_all, Dt.cells_one, Dt.take_all, Dt.get0, Dt.get1, Dt.spl_all, Dt.zero_cells, Dt.bld, bldS, datas, appB, appX, List.all_cons, List.all_nil, SV.isOne, Int.cast_ofNat_Int, Int.reduceBNe, Int.reduceBEq, Int.reduceLT, Int.reduceLE, Int.reduceGT, Int.reduceGE, one_map, bq_ft, bq_tf, Bool.not_true, Bool.not_false, Bool.or_false, Bool.or_true, Bool.false_or, Bool.or_self, Vec.row0, Vec.row8, Vec.row16, Vec.row24, Vec.datas_app, Vec.datas_one, Dt.row0, Dt.row2, Dt.datas_app, Dt.datas_one, List.all_append, Vec.eqb8, Dt.eqb, Bool.cond_true, Bool.cond_false, Dt.cells, h, decide_true, List.getElem?_cons_zero, List.getElem?_cons_succ]; rfl) (by simp [-List.length_flatMap, -Int.natCast_add] <;> omega) (by rfl) ?_
    refine SW.ret ?_
    refine fin_pure (by rfl) (by simp [ldo]) ?_ rfl
    have : r < 8 := by omega
    simp [retV, Dt.may, this]
  · refine SW.reg [] mixed (by simp only [runs, runOp, goOp, sop, ev, evs, evp, upd, argE, List.lookup, Nat.reduceBEq, Nat.reduceAdd, Nat.reduceMul, Nat.zero_add, SV.cells, if_true, if_false, reduceIte, Bool.false_eq_true, roOf, hmrg, hsets, hdels, hset, hrep, hdel, touchL, lk, List.filter, Nat.reduceBNe, bne_self_eq_false, ldv, ldo, cellsAt, binV, binK, mvp, Vec.cells_one, BEq.rfl, beq_self_eq_true, Bool.true_or, Nat.reduceEqDiff, List.map_cons, List.map_nil, List.nil_append, List.cons_append, List.append_nil, Int.toNat_natCast, Nat.mul_one, Nat.add_zero, findS, keyOk, isAggS, msetS, mdelS, lookS, lookOk, Option.isSome_some, Option.isSome_none, Option.isNone_some, Option.isNone_none, Nat.zero_ne_one, Nat.one_ne_zero, Bool.and_false, Bool.and_true, List.drop_zero, Vec.zero_cells, Vec.take_all, Vec.spl_all, Dt.cells_one, Dt.take_all, Dt.get0, Dt.get1, Dt.spl_all, Dt.zero_cells, Dt.bld, bldS, datas, appB, appX, List.all_cons, List.all_nil, SV.isOne, Int.cast_ofNat_Int, Int.reduceBNe, Int.reduceBEq, Int.reduceLT, Int.reduceLE, Int.reduceGT, Int.reduceGE, one_map, bq_ft, bq_tf, Bool.not_true, Bool.not_false, Bool.or_false, Bool.or_true, Bool.false_or, Bool.or_self, Vec.row0, Vec.row8, Vec.row16, Vec.row24, Vec.datas_app, Vec.datas_one, Dt.row0, Dt.row2, Dt.datas_app, Dt.datas_one, List.all_append, Vec.eqb8, Dt.eqb, Bool.cond_true, Bool.cond_false, Dt.cells, h, decide_false, List.getElem?_cons_zero, List.getElem?_cons_succ]; rfl) (by simp [-List.length_flatMap, -Int.natCast_add] <;> omega) (by rfl) ?_
    refine SW.ret ?_
    refine fin_pure (by rfl) (by simp [ldo]) ?_ rfl
    have : ¬ r < 8 := by omega
    simp [retV, Dt.may, this]
theorem merge2_at (a b : Vec) (k : Nat) : SCd Try.prog vector_Merge.f [.d (.sl 2 (a.ds ++ b.ds))] [] k 0 (.agg (Vec.zip max a b).cells) [] := (merge_ok [a, b] (by simp)).sc rfl k
theorem above_ok (a b : Vec) : Go.Sl.Pure Try.prog vector_Above.f [.agg a.cells, .agg b.cells] (bl (a.above b)) := by
  refine vector_Above.enter rfl rfl (by simp) ?_
  unfold vector_Above.s
  refine SW.seq ?_
  refine SW.reg [] mixed (by simp only [runs, runOp, goOp, sop, ev, evs, evp, upd, argE, List.lookup, Nat.reduceBEq, Nat.reduceAdd, Nat.reduceMul, Nat.zero_add, SV.cells, if_true, if_false, reduceIte, Bool.false_eq_true, roOf, hmrg, hsets, hdels, hset, hrep, hdel, touchL, lk, List.filter, Nat.reduceBNe, bne_self_eq_false, ldv, ldo, cellsAt, binV, binK, mvp, Vec.cells_one, BEq.rfl, beq_self_eq_true, Bool.true_or, Nat.reduceEqDiff, List.map_cons, List.map_nil, List.nil_append, List.cons_append, List.append_nil, Int.toNat_natCast, Nat.mul_one, Nat.add_zero, findS, keyOk, isAggS, msetS, mdelS, lookS, lookOk, Option.isSome_some, Option.isSome_none, Option.isNone_some, Option.isNone_none, Nat.zero_ne_one, Nat.one_ne_zero, Bool.and_false, Bool.and_true, List.drop_zero, Vec.zero_cells, Vec.take_all, Vec.spl_all, Dt.cells_one, Dt.take_all, Dt.get0, Dt.get1, Dt.spl_all, Dt.zero_cells, Dt.bld, bldS, datas, appB, appX, List.all_cons, List.all_nil, SV.isOne, Int.cast_ofNat_Int, Int.reduceBNe, Int.reduceBEq, Int.reduceLT, Int.reduceLE, Int.reduceGT, Int.reduceGE, one_map, bq_ft, bq_tf, Bool.not_true, Bool.not_false, Bool.or_false, Bool.or_true, Bool.false_or, Bool.or_self, Vec.row0, Vec.row8, Vec.row16, Vec.row24, Vec.datas_app, Vec.datas_one, Dt.row0, Dt.row2, Dt.datas_app, Dt.datas_one, List.all_append, Vec.eqb8, Dt.eqb, Bool.cond_true, Bool.cond_false]; rfl) (by simp [-List.length_flatMap, -Int.natCast_add] <;> omega) (by rfl) ?_
  refine SW.seq ?_
  refine SW.reg [.call [] (.agg (Vec.zip max a b).cells) [] 0] mixed (by simp only [runs, runOp, goOp, sop, ev, evs, evp, upd, argE, List.lookup, Nat.reduceBEq, Nat.reduceAdd, Nat.reduceMul, Nat.zero_add, SV.cells, if_true, if_false, reduceIte, Bool.false_eq_true, roOf, hmrg, hsets, hdels, hset, hrep, hdel, touchL, lk, List.filter, Nat.reduceBNe, bne_self_eq_false, ldv, ldo, cellsAt, binV, binK, mvp, Vec.cells_one, BEq.rfl, beq_self_eq_true, Bool.true_or, Nat.reduceEqDiff, List.map_cons, List.map_nil, List.nil_append, List.cons_append, List.append_nil, Int.toNat_natCast, Nat.mul_one, Nat.add_zero, findS, keyOk, isAggS, msetS, mdelS, lookS, lookOk, Option.isSome_some, Option.isSome_none, Option.isNone_some, Option.isNone_none, Nat.zero_ne_one, Nat.one_ne_zero, Bool.and_false, Bool.and_true, List.drop_zero, Vec.zero_cells, Vec.take_all, Vec.spl_all, Dt.cells_one, Dt.take_all, Dt.get0, Dt.get1, Dt.spl_all, Dt.zero_cells, Dt.bld, bldS, datas, appB, appX, List.all_cons, List.all_nil, SV.isOne, Int.cast_ofNat_Int, Int.reduceBNe, Int.reduceBEq, Int.reduceLT, Int.reduceLE, Int.reduceGT, Int.reduceGE, one_map, bq_ft, bq_tf, Bool.not_true, Bool.not_false, Bool.or_false, Bool.or_true, Bool.false_or, Bool.or_self, Vec.row0, Vec.row8, Vec.row16, Vec.row24, Vec.datas_app, Vec.datas_one, Dt.row0, Dt.row2, Dt.datas_app, Dt.datas_one, List.all_append, Vec.eqb8, Dt.eqb, Bool.cond_true, Bool.cond_false]; rfl) (by simp [-List.length_flatMap, -Int.natCast_add, lk, List.lookup, merge2_at] <;> omega) (by rfl) ?_
  refine SW.ret ?_
  refine fin_pure (by rfl) (by simp [ldo]) ?_ rfl
  simp [retV, Vec.above_merge]
theorem above_at4 (a b : Vec) (k : Nat) : SCd Try.prog vector_Above.f [.agg a.cells, .agg b.cells] [] k 0 (bl (a.above b)) [] := (above_ok a b).sc rfl k
end Go.Proofs.Ytacdkgkpoelhdaa
namespace Go.Proofs.Ytacdkgkpoelhdaa
open Go.Sl Go.Proofs
abbrev VMap := MM Vec Int
structure Tk where
  bx : Nat
  nm : Nat → Nat
  n : Nat
  own : Nat
  has : Vec
  cnt : Nat → Vec
  wt : Nat → Option (VMap × Nat)
def wob : Option (VMap × Nat) → Ob
  | none => .nomap
  | some (L, c) => .map (mapE Vec.cells iv L) c
def wlen : Option (VMap × Nat) → Nat
  | none => 0
  | some (L, _) => L.length
def Tk.cells (T : Tk) : List SV :=
  i64 T.n :: u8 T.own :: (T.has.cells ++ ((T.cnt 0).cells ++ ((T.cnt 1).cells ++ ((T.cnt 2).cells ++ ((T.cnt 3).cells ++ ((T.cnt 4).cells ++ ((T.cnt 5).cells ++ ((T.cnt 6).cells ++ ((T.cnt 7).cells ++
    [.mp (T.nm 0), .mp (T.nm 1), .mp (T.nm 2), .mp (T.nm 3), .mp (T.nm 4), .mp (T.nm 5), .mp (T.nm 6), .mp (T.nm 7)])))))))))
def Tk.maps (T : Tk) : Hp := (List.range 8).map fun r => (T.nm r, wob (T.wt r))
def Tk.hp (T : Tk) : Hp := (T.bx, .box 86 T.cells) :: T.maps
structure Tk.sep (T : Tk) : Prop where
  bx : ∀ r, r < 8 → T.nm r ≠ T.bx
  inj : ∀ r s, r < 8 → s < 8 → T.nm r = T.nm s → r = s
def Tk.setC (T : Tk) (r : Nat) (v : Vec) : Tk := { T with cnt := fun i => if i = r then v else T.cnt i }
def Tk.setW (T : Tk) (r : Nat) (x : Option (VMap × Nat)) : Tk := { T with wt := fun i => if i = r then x else T.wt i }
def Tk.setH (T : Tk) (v : Vec) : Tk := { T with has := v }
section
variable (T : Tk)
theorem Tk.ldn : ldv T.cells 0 none = some (i64 T.n) := rfl
theorem Tk.ldown : ldv T.cells 1 none = some (u8 T.own) := rfl
theorem Tk.ldhas : (T.cells.drop 2).take 8 = T.has.cells := rfl
theorem Tk.ldhas1 {r : Nat} (h : r < 8) : T.cells[2 + r]? = some (u32 (T.has.get r)) := by
  match r, h with
  | 0, _ | 1, _ | 2, _ | 3, _ | 4, _ | 5, _ | 6, _ | 7, _ => rfl
theorem Tk.ldcnt {r : Nat} (h : r < 8) : (T.cells.drop (10 + r * 8)).take 8 = (T.cnt r).cells := by
  match r, h with
  | 0, _ | 1, _ | 2, _ | 3, _ | 4, _ | 5, _ | 6, _ | 7, _ => rfl
theorem Tk.ldw {r : Nat} (h : r < 8) : T.cells[74 + r]? = some (.mp (T.nm r)) := by
  match r, h with
  | 0, _ | 1, _ | 2, _ | 3, _ | 4, _ | 5, _ | 6, _ | 7, _ => rfl
theorem Tk.cells_len : T.cells.length = 82 := rfl
theorem Tk.cells_one : T.cells.all SV.isOne = true := rfl
theorem Tk.splcnt {r : Nat} (h : r < 8) (v : Vec) : spl T.cells (10 + r * 8) v.cells = (T.setC r v).cells := by
  match r, h with
  | 0, _ | 1, _ | 2, _ | 3, _ | 4, _ | 5, _ | 6, _ | 7, _ => rfl
theorem Tk.splhas (v : Vec) : spl T.cells 2 v.cells = (T.setH v).cells := rfl
theorem Tk.splw {r : Nat} (h : r < 8) (k : Nat) : spl T.cells (74 + r) [.mp k] = ({ T with nm := fun i => if i = r then k else T.nm i } : Tk).cells := by
  match r, h with
  | 0, _ | 1, _ | 2, _ | 3, _ | 4, _ | 5, _ | 6, _ | 7, _ => rfl
@[simp] theorem Tk.cellsW (r : Nat) (x : Option (VMap × Nat)) : (T.setW r x).cells = T.cells := rfl
@[simp] theorem Tk.mapsC (r : Nat) (v : Vec) : (T.setC r v).maps = T.maps := rfl
@[simp] theorem Tk.mapsH (v : Vec) : (T.setH v).maps = T.maps := rfl
theorem lookup_fam {nm : Nat → Nat} {f : Nat → Ob} : ∀ {l : List Nat} {r : Nat}, (∀ s, s ∈ l → nm s = nm r → s = r) → r ∈ l → List.lookup (nm r) (l.map fun i => (nm i, f i)) = some (f r)
  | [], r, _, h => by cases h
  | a :: l, r, hi, h => by
    simp only [List.map_cons, List.lookup]
    by_cases e : nm r = nm a
    · have := hi a (by simp) e.symm
      subst this
      simp
    · rw [show (nm r == nm a) = false by simpa using e]
      exact lookup_fam (fun s hs => hi s (by simp [hs])) ((List.mem_cons.1 h).resolve_left fun h => e (by rw [h]))
theorem lookup_fam0 {nm : Nat → Nat} {f : Nat → Ob} {k : Nat} : ∀ {l : List Nat}, (∀ s, s ∈ l → nm s ≠ k) → List.lookup k (l.map fun i => (nm i, f i)) = none
  | [], _ => rfl
  | a :: l, hi => by
    simp only [List.map_cons, List.lookup]
    rw [show (k == nm a) = false by simpa using fun h => hi a (by simp) h.symm]
    exact lookup_fam0 fun s hs => hi s (by simp [hs])
theorem hrep_fam {nm : Nat → Nat} {f : Nat → Ob} {o : Ob} : ∀ {l : List Nat} {r : Nat}, l.Nodup → (∀ s, s ∈ l → nm s = nm r → s = r) → r ∈ l → hrep (l.map fun i => (nm i, f i)) (nm r) o = l.map fun i => (nm i, if i = r then o else f i)
  | [], r, _, _, h => by cases h
  | a :: l, r, hn, hi, h => by
    simp only [List.map_cons, hrep]
    rw [List.nodup_cons] at hn
    by_cases e : nm a = nm r
    · have := hi a (by simp) e
      subst this
      simp only [if_true]
      congr 1
      refine List.map_congr_left fun s hs => ?_
      rw [if_neg fun h : s = a => hn.1 (by rw [← h]; exact hs)]
    · rw [if_neg e]
      have hr : r ∈ l := (List.mem_cons.1 h).resolve_left fun h => e (by rw [h])
      rw [hrep_fam hn.2 (fun s hs => hi s (by simp [hs])) hr, if_neg fun h => e (by rw [h])]
variable {T}
theorem Tk.lkb : List.lookup T.bx T.hp = some (.box 86 T.cells) := by simp [Tk.hp]
theorem Tk.lkm (hs : T.sep) {r : Nat} (h : r < 8) : List.lookup (T.nm r) T.hp = some (wob (T.wt r)) := by
  simp only [Tk.hp, List.lookup]
  rw [show (T.nm r == T.bx) = false by simpa using hs.bx r h]
  exact lookup_fam (f := fun r => wob (T.wt r)) (fun s h1 h2 => hs.inj s r (by simpa using h1) h h2) (by simpa using h)
theorem Tk.lko {k : Nat} (hb : k ≠ T.bx) (hm : ∀ r, r < 8 → T.nm r ≠ k) : List.lookup k T.hp = none := by
  simp only [Tk.hp, List.lookup]
  rw [show (k == T.bx) = false by simpa using hb]
  exact lookup_fam0 fun s h => hm s (by simpa using h)
theorem Tk.hrepb {o : List SV} : hrep T.hp T.bx (.box 86 o) = (T.bx, .box 86 o) :: T.maps := by simp [Tk.hp, hrep]
theorem Tk.hrepc {r : Nat} {v : Vec} : hrep T.hp T.bx (.box 86 (T.setC r v).cells) = (T.setC r v).hp := by rw [Tk.hrepb]; rfl
theorem Tk.hreph {v : Vec} : hrep T.hp T.bx (.box 86 (T.setH v).cells) = (T.setH v).hp := by rw [Tk.hrepb]; rfl
theorem Tk.hrepm (hs : T.sep) {r : Nat} (h : r < 8) (x : Option (VMap × Nat)) : hrep T.hp (T.nm r) (wob x) = (T.setW r x).hp := by
  simp only [Tk.hp, hrep]
  rw [if_neg fun e => hs.bx r h e.symm]
  unfold Tk.maps
  rw [hrep_fam List.nodup_range (fun s h1 h2 => hs.inj s r (by simpa using h1) h h2) (by simpa using h)]
  congr 1
  refine List.map_congr_left fun s _ => ?_
  show (T.nm s, if s = r then wob x else wob (T.wt s)) = (T.nm s, wob (if s = r then x else T.wt s))
  split <;> rfl
structure Tk.lt (T : Tk) (k : Nat) : Prop where
  bx : T.bx < k
  nm : ∀ r, r < 8 → T.nm r < k
theorem Tk.ok {q : Nat → Bool} (hb : q T.bx = true) (hm : ∀ r, r < 8 → q (T.nm r) = true) : T.hp.ok q = true := by
  simp only [Tk.hp, Hp.ok, List.all_cons, Bool.and_eq_true, hb, true_and, List.all_eq_true, Tk.maps, List.mem_map, List.mem_range]
  constructor
  · simp only [Ob.ok, Tk.cells, SV.oks, SV.ok, Vec.cells_ok, SV.oks_append, Bool.true_and, Bool.and_true, hm 0 (by omega), hm 1 (by omega), hm 2 (by omega), hm 3 (by omega), hm 4 (by omega), hm 5 (by omega), hm 6 (by omega), hm 7 (by omega)]
  · rintro x ⟨r, hr, rfl⟩
    refine ⟨hm r hr, ?_⟩
    show (wob (T.wt r)).ok q = true
    cases T.wt r with
    | none => rfl
    | some y => obtain ⟨L, c⟩ := y; exact vmap_ok q L
theorem Tk.okk {k : Nat} (h : T.lt k) : T.hp.ok (fun n => decide (n < k)) = true := Tk.ok (by simpa using h.bx) fun r hr => by simpa using h.nm r hr
theorem Tk.lkk {k n : Nat} (h : T.lt k) (hn : k ≤ n) : List.lookup n T.hp = none := Tk.lko (by have := h.bx; omega) fun r hr => by have := h.nm r hr; omega
end
end Go.Proofs.Ytacdkgkpoelhdaa
namespace Go.Proofs.Ytacdkgkpoelhdaa
open Go.Sl Go.Proofs
theorem Vec.ext_le {x y : Vec} (h : ∀ q, q < 8 → ∀ b, x.get q ≤ b ↔ y.get q ≤ b) : x = y := Vec.ext' fun q hq => by
  have h1 := (h q hq (y.get q)).2 (Nat.le_refl _)
  have h2 := (h q hq (x.get q)).1 (Nat.le_refl _)
  omega
def joinL (c : Vec) (l : List Vec) : Vec := l.foldl (Vec.zip max) c
theorem joinL_le {q b : Nat} (hq : q < 8) : ∀ {l : List Vec} {c : Vec}, (joinL c l).get q ≤ b ↔ c.get q ≤ b ∧ ∀ v, v ∈ l → v.get q ≤ b
  | [], c => by simp [joinL]
  | x :: l, c => by
    have := joinL_le (b := b) hq (l := l) (c := Vec.zip max c x)
    simp only [joinL, List.foldl_cons, List.mem_cons, forall_eq_or_imp] at this ⊢
    rw [this, Vec.zip_get _ _ _ hq, Nat.max_le, and_assoc]
theorem joinL_above (c : Vec) (l : List Vec) : (joinL c l).above c = true := Vec.above_iff.2 fun q hq => ((joinL_le hq).1 (Nat.le_refl _)).1
theorem Vec.above_trans {a b c : Vec} (h1 : a.above b = true) (h2 : b.above c = true) : a.above c = true := by
  rw [Vec.above_iff] at *
  exact fun r hr => Nat.le_trans (h2 r hr) (h1 r hr)
theorem mem_keys_del {L : VMap} (h : (MM.keys L).Nodup) {v u : Vec} : u ∈ MM.keys (MM.del L v) ↔ u ∈ MM.keys L ∧ u ≠ v := by
  rw [MM.del_filter h]
  simp only [MM.keys, List.mem_map, List.mem_filter, decide_eq_true_eq]
  constructor
  · rintro ⟨x, ⟨hx, hn⟩, rfl⟩
    exact ⟨⟨x, hx, rfl⟩, fun e => hn e.symm⟩
  · rintro ⟨⟨x, hx, rfl⟩, hn⟩
    exact ⟨x, ⟨hx, fun e => hn e.symm⟩, rfl⟩
theorem del_len {L : VMap} (h : (MM.keys L).Nodup) {v : Vec} (hv : v ∈ MM.keys L) : (MM.del L v).length < L.length := by
  obtain ⟨x, hx, rfl⟩ := List.mem_map.1 hv
  rw [MM.del_filter h]
  exact List.length_filter_lt_length_iff_exists.2 ⟨x, hx, by simp⟩
theorem del_wf {L : VMap} {c : Nat} (h : MM.wf L c) (v : Vec) : MM.wf (MM.del L v) c := by
  rw [MM.del_filter h.keys]; exact MM.wf_filter h _
def due (h : Vec) (r : Nat) (v : Vec) : Bool := decide (v.get r ≤ h.get r)
def settC (h : Vec) (r : Nat) (c : Vec) (L : VMap) : Vec := joinL c ((MM.keys L).filter (due h r))
def settW (h : Vec) (r : Nat) (c : Vec) (L : VMap) : VMap := L.filter fun x => !due h r x.2.1 && !(settC h r c L).above x.2.1
theorem settC_above (h : Vec) (r : Nat) (c : Vec) (L : VMap) : (settC h r c L).above c = true := joinL_above _ _
theorem settC_due {h : Vec} {r : Nat} {c v : Vec} {L : VMap} (hk : (MM.keys L).Nodup) (hv : v ∈ MM.keys L) (hd : due h r v = true) : settC h r (Vec.zip max c v) (MM.del L v) = settC h r c L := Vec.ext_le fun q hq b => by
  unfold settC
  rw [joinL_le hq, joinL_le hq, Vec.zip_get _ _ _ hq, Nat.max_le]
  simp only [List.mem_filter, mem_keys_del hk]
  constructor
  · rintro ⟨⟨h1, h2⟩, h3⟩
    refine ⟨h1, fun u hu => ?_⟩
    by_cases e : u = v
    · rw [e]; exact h2
    · exact h3 u ⟨⟨hu.1, e⟩, hu.2⟩
  · rintro ⟨h1, h2⟩
    exact ⟨⟨h1, h2 v ⟨hv, hd⟩⟩, fun u hu => h2 u ⟨hu.1.1, hu.2⟩⟩
theorem settC_nd {h : Vec} {r : Nat} {c v : Vec} {L : VMap} (hk : (MM.keys L).Nodup) (hd : due h r v = false) : settC h r c (MM.del L v) = settC h r c L := Vec.ext_le fun q hq b => by
  unfold settC
  rw [joinL_le hq, joinL_le hq]
  simp only [List.mem_filter, mem_keys_del hk]
  constructor
  · rintro ⟨h1, h2⟩
    refine ⟨h1, fun u hu => h2 u ⟨⟨hu.1, fun e => ?_⟩, hu.2⟩⟩
    rw [e, hd] at hu; cases hu.2
  · rintro ⟨h1, h2⟩
    exact ⟨h1, fun u hu => h2 u ⟨hu.1.1, hu.2⟩⟩
theorem settW_del {h : Vec} {r : Nat} {c c' v : Vec} {L : VMap} (hk : (MM.keys L).Nodup) (he : settC h r c' (MM.del L v) = settC h r c L) (hv : due h r v = true ∨ (settC h r c L).above v = true) : settW h r c' (MM.del L v) = settW h r c L := by
  unfold settW
  rw [he, MM.del_filter hk, List.filter_filter]
  refine List.filter_congr fun x _ => ?_
  by_cases e : v = x.2.1
  · subst e
    rcases hv with hv | hv <;> simp [hv]
  · simp [e]
theorem sett_end {h : Vec} {r : Nat} {c : Vec} {L : VMap} (ha : ∀ v, v ∈ MM.keys L → due h r v = false ∧ c.above v = false) : settC h r c L = c ∧ settW h r c L = L := by
  have h1 : settC h r c L = c := by
    unfold settC
    rw [List.filter_eq_nil_iff.2 fun v hv => by simp [(ha v hv).1]]
    rfl
  refine ⟨h1, ?_⟩
  unfold settW
  rw [h1, List.filter_eq_self]
  intro x hx
  have := ha x.2.1 (List.mem_map.2 ⟨x, hx, rfl⟩)
  simp [this.1, this.2]
def Tk.up (T : Tk) (r : Nat) (v : Vec) (L : VMap) (cl : Nat) : Tk := { T with cnt := fun i => if i = r then v else T.cnt i, wt := fun i => if i = r then some (L, cl) else T.wt i }
section
variable {T : Tk} {r : Nat} {v : Vec} {L : VMap} {cl : Nat}
theorem Tk.up_same (hw : T.wt r = some (L, cl)) : T.up r (T.cnt r) L cl = T := by
  obtain ⟨bx, nm, n, own, has, cnt, wt⟩ := T
  simp only [Tk.up, Tk.mk.injEq, true_and]
  dsimp only at hw
  refine ⟨funext fun i => ?_, funext fun i => ?_⟩
  · split
    · rename_i e; subst e; rfl
    · rfl
  · split
    · rename_i e; subst e; exact hw.symm
    · rfl
theorem Tk.sepU (hs : T.sep) : (T.up r v L cl).sep := ⟨hs.bx, hs.inj⟩
theorem Tk.u_b : List.lookup T.bx (T.up r v L cl).hp = some (.box 86 (T.up r v L cl).cells) := Tk.lkb (T := T.up r v L cl)
theorem Tk.u_m (hs : T.sep) (h : r < 8) : List.lookup (T.nm r) (T.up r v L cl).hp = some (.map (mapE Vec.cells iv L) cl) := by
  have := Tk.lkm (T := T.up r v L cl) (Tk.sepU hs) h
  simp only [Tk.up, if_true] at this
  exact this
theorem Tk.u_w (h : r < 8) : (T.up r v L cl).cells[74 + r]? = some (.mp (T.nm r)) := Tk.ldw (T.up r v L cl) h
theorem Tk.u_h (h : r < 8) : (T.up r v L cl).cells[2 + r]? = some (.d (.int .u32 (T.has.get r))) := Tk.ldhas1 (T.up r v L cl) h
theorem Tk.u_c (h : r < 8) : ((T.up r v L cl).cells.drop (10 + r * 8)).take 8 = v.cells := by
  have := Tk.ldcnt (T.up r v L cl) h
  simp only [Tk.up, if_true] at this
  exact this
theorem Tk.u_sc (h : r < 8) {v' : Vec} : spl (T.up r v L cl).cells (10 + r * 8) v'.cells = (T.up r v' L cl).cells := by
  rw [Tk.splcnt _ h]
  congr 1
  simp only [Tk.up, Tk.setC, Tk.mk.injEq, true_and, and_true]
  funext i
  split <;> rfl
theorem Tk.u_rb {v' : Vec} : hrep (T.up r v L cl).hp T.bx (.box 86 (T.up r v' L cl).cells) = (T.up r v' L cl).hp := by
  have := Tk.hrepb (T := T.up r v L cl) (o := (T.up r v' L cl).cells)
  rw [show (T.up r v L cl).bx = T.bx from rfl] at this
  rw [this]; rfl
theorem Tk.u_rm (hs : T.sep) (h : r < 8) {L' : VMap} : hrep (T.up r v L cl).hp (T.nm r) (.map (mapE Vec.cells iv L') cl) = (T.up r v L' cl).hp := by
  have := Tk.hrepm (T := T.up r v L cl) (Tk.sepU hs) h (some (L', cl))
  rw [show (T.up r v L cl).nm r = T.nm r from rfl] at this
  rw [show Ob.map (mapE Vec.cells iv L') cl = wob (some (L', cl)) from rfl, this]
  congr 1
  simp only [Tk.up, Tk.setW, Tk.mk.injEq, true_and]
  funext i
  split <;> rfl
theorem Tk.u_lt {k : Nat} (h : T.lt k) : (T.up r v L cl).lt k := ⟨h.bx, h.nm⟩
theorem lk_of_nodup {h : Hp} (hn : (h.map (·.1)).Nodup) : ∀ x, x ∈ h → lk h x.1 = some x.2 := by
  induction h with
  | nil => intro x hx; cases hx
  | cons y h ih =>
    intro x hx
    rw [List.map_cons, List.nodup_cons] at hn
    obtain ⟨a, o⟩ := y
    rw [lk_cons]
    rcases List.mem_cons.1 hx with rfl | hx
    · simp
    · have : x.1 ≠ a := fun e => hn.1 (by rw [← e]; exact List.mem_map.2 ⟨x, hx, rfl⟩)
      rw [if_neg this]
      exact ih hn.2 x hx
theorem Tk.names {T : Tk} {n : Nat} (h : n ∈ T.hp.map (·.1)) : n = T.bx ∨ ∃ r, r < 8 ∧ n = T.nm r := by
  simp only [Tk.hp, Tk.maps, List.map_cons, List.mem_cons, List.map_map, List.mem_map, List.mem_range, Function.comp_def] at h
  rcases h with h | ⟨r, hr, h⟩
  · exact .inl h
  · exact .inr ⟨r, hr, h.symm⟩
theorem Tk.nodup {T : Tk} (hs : T.sep) : (T.hp.map (·.1)).Nodup := by
  simp only [Tk.hp, Tk.maps, List.map_cons, List.map_map, Function.comp_def, List.nodup_cons, List.mem_map, List.mem_range, not_exists, not_and]
  refine ⟨fun r hr => hs.bx r hr, ?_⟩
  rw [List.nodup_iff_pairwise_ne, List.pairwise_map]
  exact List.Pairwise.imp_of_mem (fun {a b} ha hb hab e => hab (hs.inj a b (by simpa using ha) (by simpa using hb) e)) List.nodup_range
theorem Tk.out {T : Tk} {k n : Nat} (h : T.lt k) (hn : k ≤ n) : n ∉ T.hp.map (·.1) := fun hm => by
  rcases Tk.names hm with e | ⟨r, hr, e⟩
  · have := h.bx; omega
  · have := h.nm r hr; omega
theorem Tk.u_bx : (T.up r v L cl).bx = T.bx := rfl
theorem Tk.u_nm : (T.up r v L cl).nm = T.nm := rfl
theorem Tk.u_len : (T.up r v L cl).cells.length = 82 := rfl
end
end Go.Proofs.Ytacdkgkpoelhdaa
namespace Go.Proofs.Ytacdkgkpoelhdaa
open Go.Sl Go.Proofs
attribute [local irreducible] SW RW SCd SC CallP Pruned Tk.cells Tk.hp Tk.up
structure SInv (h : Vec) (r : Nat) (v : Vec) (L : VMap) (cl : Nat) (v' : Vec) (L' : VMap) (seen : List Nat) (ch : Bool) : Prop where
  wf : MM.wf L' cl
  c : settC h r v' L' = settC h r v L
  w : settW h r v' L' = settW h r v L
  len : ch = true → L'.length < L.length
  le : L'.length ≤ L.length
  no : ch = false → v' = v ∧ L' = L ∧ ∀ x, x ∈ L → x.1 ∈ seen → due h r x.2.1 = false ∧ v.above x.2.1 = false
section
variable {T : Tk} (hs : T.sep) {r : Nat} (hr : r < 8) {v : Vec} {L : VMap} {cl : Nat} {t1 k : Nat}
def PassQ (T : Tk) (r : Nat) (v : Vec) (L : VMap) (cl t1 : Nat) : SV → Hp → Prop := fun x F => ∃ (v' : Vec) (L' : VMap) (ch : Bool), x = bl ch ∧ F = (t1, .box 27 [.ptr T.bx 0]) :: (T.up r v' L' cl).hp ∧ MM.wf L' cl ∧ settC T.has r v' L' = settC T.has r v L ∧ settW T.has r v' L' = settW T.has r v L ∧
  (ch = true → L'.length < L.length) ∧ (ch = false → settC T.has r v L = v' ∧ settW T.has r v L = L')
include hs hr in
set_option maxHeartbeats 4000000 in
theorem pass_sb (hwf : MM.wf L cl) (hlt : T.lt k) (ht1 : t1 < k) (htb : t1 ≠ T.bx) (htm : ∀ r, r < 8 → t1 ≠ T.nm r) :
    SB Try.prog stable_Tracker_settle_1.f [i64 r, .ptr t1 0] ((t1, .box 27 [.ptr T.bx 0]) :: (T.up r v L cl).hp) k 2 (PassQ T r v L cl t1) := by
  have hbx := hlt.bx
  have hnm := hlt.nm r hr
  have hok : ∀ v L kx, k ≤ kx → (T.up r v L cl).hp.ok (fun n => decide (n < kx)) = true := fun v L kx h => Hp.ok_less h (Tk.okk (Tk.u_lt hlt))
  have hok1 : ∀ v L kx, k ≤ kx → Hp.ok (fun n => decide (n < kx)) ((t1, .box 27 [.ptr T.bx 0]) :: (T.up r v L cl).hp) = true := fun v L kx h => by
    have := hok v L kx h
    simp only [Hp.ok, List.all_cons, Ob.ok, SV.oks, SV.ok, Bool.and_true, Bool.and_eq_true, decide_eq_true_eq] at this ⊢
    exact ⟨⟨by omega, by omega⟩, this⟩
  have hok2 : ∀ v L se kx, k + 1 ≤ kx → Hp.ok (fun n => decide (n < kx)) ((k, .iter (some (T.nm r)) cl se cl) :: (t1, .box 27 [.ptr T.bx 0]) :: (T.up r v L cl).hp) = true := fun v L se kx h => by
    have := hok1 v L kx (by omega)
    simp only [Hp.ok, List.all_cons, Ob.ok, Bool.and_eq_true, decide_eq_true_eq] at this ⊢
    exact ⟨⟨by omega, by omega⟩, this⟩
  have hn1 : ∀ v L, (((t1, .box 27 [.ptr T.bx 0]) :: (T.up r v L cl).hp : Hp).map (·.1)).Nodup := fun v L => by
    rw [List.map_cons, List.nodup_cons]
    refine ⟨fun hm => ?_, Tk.nodup (Tk.sepU hs)⟩
    rcases Tk.names hm with e | ⟨r', hr', e⟩
    · exact htb (e.trans Tk.u_bx)
    · exact htm r' hr' (by rw [Tk.u_nm] at e; exact e)
  have hn2 : ∀ v L se, (((k, .iter (some (T.nm r)) cl se cl) :: (t1, .box 27 [.ptr T.bx 0]) :: (T.up r v L cl).hp : Hp).map (·.1)).Nodup := fun v L se => by
    rw [List.map_cons, List.nodup_cons]
    refine ⟨fun hm => ?_, hn1 v L⟩
    rcases List.mem_cons.1 hm with e | hm
    · dsimp only at e; omega
    · exact Tk.out (Tk.u_lt hlt) (Nat.le_refl _) hm
  have hn3 : ∀ v L se o, (((k + 1, o) :: (k, .iter (some (T.nm r)) cl se cl) :: (t1, .box 27 [.ptr T.bx 0]) :: (T.up r v L cl).hp : Hp).map (·.1)).Nodup := fun v L se o => by
    rw [List.map_cons, List.nodup_cons]
    refine ⟨fun hm => ?_, hn2 v L se⟩
    rcases List.mem_cons.1 hm with e | hm
    · dsimp only at e; omega
    · rcases List.mem_cons.1 hm with e | hm
      · dsimp only at e; omega
      · exact Tk.out (Tk.u_lt hlt) (Nat.le_succ _) hm
  refine stable_Tracker_settle_1.enter (by simp [SV.ok, SV.oks]; omega) (hok1 v L k (Nat.le_refl _)) (by simp) ?_
  unfold stable_Tracker_settle_1.s
  have uB : ∀ v L, List.lookup T.bx (T.up r v L cl).hp = some (.box 86 (T.up r v L cl).cells) := fun _ _ => Tk.u_b
  have uM : ∀ v L, List.lookup (T.nm r) (T.up r v L cl).hp = some (.map (mapE Vec.cells iv L) cl) := fun _ _ => Tk.u_m hs hr
  have uW : ∀ v L, (T.up r v L cl).cells[74 + r]? = some (.mp (T.nm r)) := fun _ _ => Tk.u_w hr
  have uH : ∀ v L, (T.up r v L cl).cells[2 + r]? = some (.d (.int .u32 (T.has.get r))) := fun _ _ => Tk.u_h hr
  have uC : ∀ v L, ((T.up r v L cl).cells.drop (10 + r * 8)).take 8 = v.cells := fun _ _ => Tk.u_c hr
  have uS : ∀ (v L) (v' : Vec), spl (T.up r v L cl).cells (10 + r * 8) v'.cells = (T.up r v' L cl).cells := fun _ _ _ => Tk.u_sc hr
  have uRb : ∀ v L v', hrep (T.up r v L cl).hp T.bx (.box 86 (T.up r v' L cl).cells) = (T.up r v' L cl).hp := fun _ _ _ => Tk.u_rb
  have uRm : ∀ v L L', hrep (T.up r v L cl).hp (T.nm r) (.map (mapE Vec.cells iv L') cl) = (T.up r v L' cl).hp := fun _ _ _ => Tk.u_rm hs hr
  have uK : ∀ v L, List.lookup k (T.up r v L cl).hp = none := fun _ _ => Tk.lkk (Tk.u_lt hlt) (Nat.le_refl _)
  have uK1 : ∀ v L, List.lookup (k + 1) (T.up r v L cl).hp = none := fun _ _ => Tk.lkk (Tk.u_lt hlt) (Nat.le_succ _)
  have uO : ∀ v L, (10 + r * 8 + 8 ≤ (T.up r v L cl).cells.length) = True := fun _ _ => eq_true (by rw [Tk.u_len]; omega)
  have f1 := ne4 (Ne.symm htb)
  have f2 := ne4 (Ne.symm (htm r hr))
  have f3 := ne4 (show k ≠ t1 by omega)
  have f4 := ne4 (show k ≠ T.bx by omega)
  have f5 := ne4 (show k ≠ T.nm r by omega)
  have f6 := ne4 (hs.bx r hr)
  have g1 := ne4 (show k + 1 ≠ t1 by omega)
  have g2 := ne4 (show k + 1 ≠ T.bx by omega)
  have g3 := ne4 (show k + 1 ≠ T.nm r by omega)
  have g4 := ne4 (show k + 1 ≠ k by omega)
  refine SW.seq ?_
  (refine SW.regL [0, 1, 3, 4, 5, 12, 14, 17, 42] mixed ?_; (repeat (first | refine RW.ro bq_tt (h := ?_) | refine RW.skip (h := ?_) | refine RW.op bq_tt (h := ?_) | refine RW.opN bq_tt (h := ?_) | refine RW.skip0 (h := ?_) | (refine RW.callC (h := ?_); (first | refine CallP.mk bq_tt (hc := merge2_at _ _ _) (h := ?_) | refine CallP.mk bq_tt (hc := above_at4 _ _ _) (h := ?_))))); refine RW.nil ⟨conf_of (by kernel_rfl), Pruned.mk (h := ?_)⟩)
  refine SW.seq ?_
  (refine SW.regL [0, 1, 3, 4, 5, 12, 14, 17, 42] mixed ?_; (repeat (first | refine RW.ro bq_tt (h := ?_) | refine RW.skip (h := ?_) | refine RW.op bq_tt (h := ?_) | refine RW.opN bq_tt (h := ?_) | refine RW.skip0 (h := ?_) | (refine RW.callC (h := ?_); (first | refine CallP.mk bq_tt (hc := merge2_at _ _ _) (h := ?_) | refine CallP.mk bq_tt (hc := above_at4 _ _ _) (h := ?_))))); refine RW.nil ⟨conf_of (by kernel_rfl), Pruned.mk (h := ?_)⟩)
  refine SW.seq (SW.seq ?_)
  (have fx := (And.intro (uB) (And.intro (uM) (And.intro (uW) (And.intro (uK) (And.intro (uRm) (And.intro (f1) (And.intro (f2) (And.intro (f3) (And.intro (f4) (And.intro (f5) (f6))))))))))); refine SW.regL [0, 1, 3, 4, 5, 12, 14, 17, 42] mixed ?_; (repeat (first | refine RW.ro fx (h := ?_) | refine RW.skip (h := ?_) | refine RW.op fx (h := ?_) | refine RW.opN fx (h := ?_) | refine RW.skip0 (h := ?_) | (refine RW.callC (h := ?_); (first | refine CallP.mk fx (hc := merge2_at _ _ _) (h := ?_) | refine CallP.mk fx (hc := above_at4 _ _ _) (h := ?_))))); refine RW.nil ⟨conf_of (by kernel_rfl), Pruned.mk (h := ?_)⟩)
  refine SW.block (SW.mapLoop (es := fun i => mapE Vec.cells iv i.1.2.1) (c := fun _ => cl) (nit := fun _ => k) (nm := fun _ => T.nm r) (since := fun _ => cl) (sst := fun _ => cl) (seen := fun i => i.1.2.2.1)
    (α := {i : Vec × VMap × List Nat × Bool // SInv T.has r v L cl i.1 i.2.1 i.2.2.1 i.2.2.2})
    (fun i => ⟨[(4, bl i.1.2.2.2), (12, .it k), (0, i64 r), (1, .ptr t1 0)], (k, .iter (some (T.nm r)) cl i.1.2.2.1 cl) :: (t1, .box 27 [.ptr T.bx 0]) :: (T.up r i.1.1 i.1.2.1 cl).hp, k + 1⟩)
    (fun i => unseen (mapE Vec.cells iv i.1.2.1) i.1.2.2.1) ⟨(v, L, [], false), hwf, rfl, rfl, by simp, Nat.le_refl _, by simp⟩ id ?_ (fun i => by simp [List.lookup]) (fun i => by simp [lk_cons]) (fun i => by simp only [lk, List.lookup, f2, f5]; exact uM _ _) (fun i => by simp [f5]) (fun i e he => ?_) (fun i => Nat.le_refl _) (fun i hall => ?_) (fun i e he hs => ?_))
  · exact Weak.same (by simp) (by simp [EnvW, List.lookup, SV.ren, SV.rens, SV.ok, SV.oks]; omega) (hok2 v L [] _ (Nat.le_refl _)) (lk_of_nodup (hn2 v L []))
  · obtain ⟨x, hx, rfl⟩ := mapE_mem he
    exact i.2.wf.old x hx
  · obtain ⟨⟨v', L', seen, ch⟩, hi⟩ := i
    have hi : SInv T.has r v L cl v' L' seen ch := hi
    dsimp only at hall ⊢
    refine ⟨⟨[(4, bl ch)], (t1, .box 27 [.ptr T.bx 0]) :: (T.up r v' L' cl).hp, k + 2⟩, id, Weak.same (by simp) (by simp [EnvW, List.lookup, SV.ren, SV.ok]) (hok1 v' L' _ (by simp)) (fun x hx => lk_of_nodup (hn2 v' L' seen) x (List.mem_cons_of_mem _ hx)), ?_⟩
    rw [if_pos rfl]
    refine SW.seq ?_
    (refine SW.regL [0, 1, 3, 4, 5, 12, 14, 17, 42] mixed ?_; (repeat (first | refine RW.ro bq_tt (h := ?_) | refine RW.skip (h := ?_) | refine RW.op bq_tt (h := ?_) | refine RW.opN bq_tt (h := ?_) | refine RW.skip0 (h := ?_) | (refine RW.callC (h := ?_); (first | refine CallP.mk bq_tt (hc := merge2_at _ _ _) (h := ?_) | refine CallP.mk bq_tt (hc := above_at4 _ _ _) (h := ?_))))); refine RW.nil ⟨conf_of (by kernel_rfl), Pruned.mk (h := ?_)⟩)
    refine SW.ret ?_
    refine End.mk _ (h3 := fun _ _ h => h) (h4 := ⟨v', L', ch, rfl, rfl, hi.wf, hi.c, hi.w, hi.len, fun hc => ?_⟩) (h6 := hok1 v' L' _ (by omega))
    obtain ⟨rfl, rfl, hno⟩ := hi.no hc
    refine sett_end fun u hu => ?_
    obtain ⟨x, hx, rfl⟩ := List.mem_map.1 hu
    refine hno x hx ?_
    have := hall _ (List.mem_map.2 ⟨x, hx, rfl⟩)
    simpa only [List.contains_iff_mem] using this
  · obtain ⟨⟨v', L', seen, ch⟩, hi⟩ := i
    have hi : SInv T.has r v L cl v' L' seen ch := hi
    dsimp only at he hs ⊢
    obtain ⟨x, hx, rfl⟩ := mapE_mem he
    have g5 : (seen ++ [x.1]).getLast? = some x.1 := by simp
    have g6 := mapE_find (kc := Vec.cells) (vs := iv) hi.wf.times hx
    have g7 : ∀ n : Int, iv n = .d (.int .i64 n) := fun _ => rfl
    have hm := unseen_lt he hs
    have hu : ∀ u, unseen (mapE Vec.cells iv (MM.del L' u)) (seen ++ [x.1]) < unseen (mapE Vec.cells iv L') seen := fun u => by
      refine Nat.lt_of_le_of_lt (unseen_sub ?_ _) hm
      rw [MM.del_filter hi.wf.keys]
      exact List.filter_sublist.map _
    rw [hset_head]
    dsimp only
    refine SW.block (SW.seq ?_)
    (have fx := (And.intro (uB) (And.intro (uM) (And.intro (uW) (And.intro (uK1) (And.intro (f1) (And.intro (f2) (And.intro (f3) (And.intro (f4) (And.intro (f5) (And.intro (f6) (And.intro (g1) (And.intro (g2) (And.intro (g3) (And.intro (g4) (And.intro (g5) (g6)))))))))))))))); refine SW.regL [0, 1, 3, 4, 5, 12, 14, 17, 42] mixed ?_; (repeat (first | refine RW.ro fx (h := ?_) | refine RW.skip (h := ?_) | refine RW.op fx (h := ?_) | refine RW.opN fx (h := ?_) | refine RW.skip0 (h := ?_) | (refine RW.callC (h := ?_); (first | refine CallP.mk fx (hc := merge2_at _ _ _) (h := ?_) | refine CallP.mk fx (hc := above_at4 _ _ _) (h := ?_))))); refine RW.nil ⟨conf_of (by kernel_rfl), Pruned.mk (h := ?_)⟩)
    refine SW.seq (SW.block (SW.seq ?_))
    have g8 := Vec.cells_get x.2.1 hr
    rcases hd : decide ((x.2.1.get r : Int) ≤ T.has.get r) with _ | _
    · (have fx := (And.intro (uB) (And.intro (uM) (And.intro (uW) (And.intro (uK1) (And.intro (uH) (And.intro (hd) (And.intro (f1) (And.intro (f2) (And.intro (f3) (And.intro (f4) (And.intro (f5) (And.intro (f6) (And.intro (g1) (And.intro (g2) (And.intro (g3) (And.intro (g4) (g8))))))))))))))))); refine SW.regL [0, 1, 3, 4, 5, 12, 14, 17, 42] mixed ?_; (repeat (first | refine RW.ro fx (h := ?_) | refine RW.skip (h := ?_) | refine RW.op fx (h := ?_) | refine RW.opN fx (h := ?_) | refine RW.skip0 (h := ?_) | (refine RW.callC (h := ?_); (first | refine CallP.mk fx (hc := merge2_at _ _ _) (h := ?_) | refine CallP.mk fx (hc := above_at4 _ _ _) (h := ?_))))); refine RW.nil ⟨conf_of (by kernel_rfl), Pruned.mk (h := ?_)⟩)
      refine SW.condF rfl (SW.seq ?_)
      rcases ha : v'.above x.2.1 with _ | _
      · (have fx := (And.intro (uB) (And.intro (uM) (And.intro (uW) (And.intro (uK1) (And.intro (uH) (And.intro (uC) (And.intro (uO) (And.intro (uS) (And.intro (uRb) (And.intro (uRm) (And.intro (hd) (And.intro (ha) (And.intro (f1) (And.intro (f2) (And.intro (f3) (And.intro (f4) (And.intro (f5) (And.intro (f6) (And.intro (g1) (And.intro (g2) (And.intro (g3) (And.intro (g4) (g8))))))))))))))))))))))); refine SW.regL [0, 1, 3, 4, 5, 12, 14, 17, 42] mixed ?_; (repeat (first | refine RW.ro fx (h := ?_) | refine RW.skip (h := ?_) | refine RW.op fx (h := ?_) | refine RW.opN fx (h := ?_) | refine RW.skip0 (h := ?_) | (refine RW.callC (h := ?_); (first | refine CallP.mk fx (hc := merge2_at _ _ _) (h := ?_) | refine CallP.mk fx (hc := above_at4 _ _ _) (h := ?_))))); refine RW.nil ⟨conf_of (by kernel_rfl), Pruned.mk (h := ?_)⟩)
        refine SW.condT rfl (SW.exit ?_)
        have hd' : due T.has r x.2.1 = false := by unfold due; simpa using hd
        refine (?_ : ∃ j ρ, (_ : Nat) < _ ∧ Weak k _ _ ρ)
        refine ⟨⟨(v', L', seen ++ [x.1], ch), hi.wf, hi.c, hi.w, hi.len, hi.le, fun hc => ?_⟩, id, hm, Weak.same (by simp) (by simp [EnvW, List.lookup, SV.ren, SV.rens, SV.ok, SV.oks]; omega) (hok2 v' L' _ _ (Nat.le_refl _)) (fun y hy => lk_of_nodup (hn3 v' L' _ _) y (List.mem_cons_of_mem _ hy))⟩
        obtain ⟨rfl, rfl, hno⟩ := hi.no hc
        refine ⟨rfl, rfl, fun y hy hys => ?_⟩
        rcases List.mem_append.1 hys with hys | hys
        · exact hno y hy hys
        · have : y = x := MM.time_inj hi.wf.times hy hx (by simpa using hys)
          rw [this]; exact ⟨hd', ha⟩
      · (have fx := (And.intro (uB) (And.intro (uM) (And.intro (uW) (And.intro (uK1) (And.intro (uH) (And.intro (uC) (And.intro (uO) (And.intro (uS) (And.intro (uRb) (And.intro (uRm) (And.intro (hd) (And.intro (ha) (And.intro (f1) (And.intro (f2) (And.intro (f3) (And.intro (f4) (And.intro (f5) (And.intro (f6) (And.intro (g1) (And.intro (g2) (And.intro (g3) (And.intro (g4) (g8))))))))))))))))))))))); refine SW.regL [0, 1, 3, 4, 5, 12, 14, 17, 42] mixed ?_; (repeat (first | refine RW.ro fx (h := ?_) | refine RW.skip (h := ?_) | refine RW.op fx (h := ?_) | refine RW.opN fx (h := ?_) | refine RW.skip0 (h := ?_) | (refine RW.callC (h := ?_); (first | refine CallP.mk fx (hc := merge2_at _ _ _) (h := ?_) | refine CallP.mk fx (hc := above_at4 _ _ _) (h := ?_))))); refine RW.nil ⟨conf_of (by kernel_rfl), Pruned.mk (h := ?_)⟩)
        refine SW.condF rfl (SW.skip (SW.seq ?_))
        (have fx := (And.intro (uB) (And.intro (uM) (And.intro (uW) (And.intro (uK1) (And.intro (uH) (And.intro (uC) (And.intro (uO) (And.intro (uS) (And.intro (uRb) (And.intro (uRm) (And.intro (hd) (And.intro (ha) (And.intro (f1) (And.intro (f2) (And.intro (f3) (And.intro (f4) (And.intro (f5) (And.intro (f6) (And.intro (g1) (And.intro (g2) (And.intro (g3) (And.intro (g4) (g8))))))))))))))))))))))); refine SW.regL [0, 1, 3, 4, 5, 12, 14, 17, 42] mixed ?_; (repeat (first | refine RW.ro fx (h := ?_) | refine RW.skip (h := ?_) | refine RW.op fx (h := ?_) | refine RW.opN fx (h := ?_) | refine RW.skip0 (h := ?_) | (refine RW.callC (h := ?_); (first | refine CallP.mk fx (hc := merge2_at _ _ _) (h := ?_) | refine CallP.mk fx (hc := above_at4 _ _ _) (h := ?_))))); refine RW.nil ⟨conf_of (by kernel_rfl), Pruned.mk (h := ?_)⟩)
        (refine SW.regL [0, 1, 3, 4, 5, 12, 14, 17, 42] mixed ?_; (repeat (first | refine RW.ro bq_tt (h := ?_) | refine RW.skip (h := ?_) | refine RW.op bq_tt (h := ?_) | refine RW.opN bq_tt (h := ?_) | refine RW.skip0 (h := ?_) | (refine RW.callC (h := ?_); (first | refine CallP.mk bq_tt (hc := merge2_at _ _ _) (h := ?_) | refine CallP.mk bq_tt (hc := above_at4 _ _ _) (h := ?_))))); refine RW.nil ⟨conf_of (by kernel_rfl), Pruned.mk (h := ?_)⟩)
        have hd' : due T.has r x.2.1 = false := by unfold due; simpa using hd
        have hk : x.2.1 ∈ MM.keys L' := List.mem_map.2 ⟨x, hx, rfl⟩
        have e1 := settC_nd (c := v') hi.wf.keys hd'
        have e2 := settW_del hi.wf.keys e1 (.inr (Vec.above_trans (settC_above _ _ _ _) ha))
        have hl := del_len hi.wf.keys hk
        have hl2 := hi.le
        refine (?_ : ∃ j ρ, (_ : Nat) < _ ∧ Weak k _ _ ρ)
        refine ⟨⟨(v', MM.del L' x.2.1, seen ++ [x.1], true), del_wf hi.wf _, e1.trans hi.c, e2.trans hi.w, fun _ => Nat.lt_of_lt_of_le hl hl2, Nat.le_trans (Nat.le_of_lt hl) hl2, fun h => by cases h⟩, id, hu x.2.1, Weak.same (by simp) (by simp [EnvW, List.lookup, SV.ren, SV.rens, SV.ok, SV.oks]; omega) (hok2 v' _ _ _ (Nat.le_refl _)) (fun y hy => lk_of_nodup (hn3 v' _ _ _) y (List.mem_cons_of_mem _ hy))⟩
    · (have fx := (And.intro (uB) (And.intro (uM) (And.intro (uW) (And.intro (uK1) (And.intro (uH) (And.intro (hd) (And.intro (f1) (And.intro (f2) (And.intro (f3) (And.intro (f4) (And.intro (f5) (And.intro (f6) (And.intro (g1) (And.intro (g2) (And.intro (g3) (And.intro (g4) (g8))))))))))))))))); refine SW.regL [0, 1, 3, 4, 5, 12, 14, 17, 42] mixed ?_; (repeat (first | refine RW.ro fx (h := ?_) | refine RW.skip (h := ?_) | refine RW.op fx (h := ?_) | refine RW.opN fx (h := ?_) | refine RW.skip0 (h := ?_) | (refine RW.callC (h := ?_); (first | refine CallP.mk fx (hc := merge2_at _ _ _) (h := ?_) | refine CallP.mk fx (hc := above_at4 _ _ _) (h := ?_))))); refine RW.nil ⟨conf_of (by kernel_rfl), Pruned.mk (h := ?_)⟩)
      refine SW.condT rfl ?_
      (have fx := (And.intro (uB) (And.intro (uM) (And.intro (uW) (And.intro (uK1) (And.intro (uH) (And.intro (uC) (And.intro (uO) (And.intro (uS) (And.intro (uRb) (And.intro (uRm) (And.intro (hd) (And.intro (f1) (And.intro (f2) (And.intro (f3) (And.intro (f4) (And.intro (f5) (And.intro (f6) (And.intro (g1) (And.intro (g2) (And.intro (g3) (And.intro (g4) (g8)))))))))))))))))))))); refine SW.regL [0, 1, 3, 4, 5, 12, 14, 17, 42] mixed ?_; (repeat (first | refine RW.ro fx (h := ?_) | refine RW.skip (h := ?_) | refine RW.op fx (h := ?_) | refine RW.opN fx (h := ?_) | refine RW.skip0 (h := ?_) | (refine RW.callC (h := ?_); (first | refine CallP.mk fx (hc := merge2_at _ _ _) (h := ?_) | refine CallP.mk fx (hc := above_at4 _ _ _) (h := ?_))))); refine RW.nil ⟨conf_of (by kernel_rfl), Pruned.mk (h := ?_)⟩)
      refine SW.seq ?_
      (have fx := (And.intro (uB) (And.intro (uM) (And.intro (uW) (And.intro (uK1) (And.intro (uH) (And.intro (uC) (And.intro (uO) (And.intro (uS) (And.intro (uRb) (And.intro (uRm) (And.intro (hd) (And.intro (f1) (And.intro (f2) (And.intro (f3) (And.intro (f4) (And.intro (f5) (And.intro (f6) (And.intro (g1) (And.intro (g2) (And.intro (g3) (And.intro (g4) (g8)))))))))))))))))))))); refine SW.regL [0, 1, 3, 4, 5, 12, 14, 17, 42] mixed ?_; (repeat (first | refine RW.ro fx (h := ?_) | refine RW.skip (h := ?_) | refine RW.op fx (h := ?_) | refine RW.opN fx (h := ?_) | refine RW.skip0 (h := ?_) | (refine RW.callC (h := ?_); (first | refine CallP.mk fx (hc := merge2_at _ _ _) (h := ?_) | refine CallP.mk fx (hc := above_at4 _ _ _) (h := ?_))))); refine RW.nil ⟨conf_of (by kernel_rfl), Pruned.mk (h := ?_)⟩)
      (refine SW.regL [0, 1, 3, 4, 5, 12, 14, 17, 42] mixed ?_; (repeat (first | refine RW.ro bq_tt (h := ?_) | refine RW.skip (h := ?_) | refine RW.op bq_tt (h := ?_) | refine RW.opN bq_tt (h := ?_) | refine RW.skip0 (h := ?_) | (refine RW.callC (h := ?_); (first | refine CallP.mk bq_tt (hc := merge2_at _ _ _) (h := ?_) | refine CallP.mk bq_tt (hc := above_at4 _ _ _) (h := ?_))))); refine RW.nil ⟨conf_of (by kernel_rfl), Pruned.mk (h := ?_)⟩)
      have hd' : due T.has r x.2.1 = true := by unfold due; simpa using hd
      have hk : x.2.1 ∈ MM.keys L' := List.mem_map.2 ⟨x, hx, rfl⟩
      have e1 := settC_due (c := v') hi.wf.keys hk hd'
      have e2 := settW_del hi.wf.keys e1 (.inl hd')
      have hl := del_len hi.wf.keys hk
      have hl2 := hi.le
      refine (?_ : ∃ j ρ, (_ : Nat) < _ ∧ Weak k _ _ ρ)
      refine ⟨⟨(Vec.zip max v' x.2.1, MM.del L' x.2.1, seen ++ [x.1], true), del_wf hi.wf _, e1.trans hi.c, e2.trans hi.w, fun _ => Nat.lt_of_lt_of_le hl hl2, Nat.le_trans (Nat.le_of_lt hl) hl2, fun h => by cases h⟩, id, hu x.2.1, Weak.same (by simp) (by simp [EnvW, List.lookup, SV.ren, SV.rens, SV.ok, SV.oks]; omega) (hok2 _ _ _ _ (Nat.le_refl _)) (fun y hy => lk_of_nodup (hn3 _ _ _ _) y (List.mem_cons_of_mem _ hy))⟩
end
end Go.Proofs.Ytacdkgkpoelhdaa
namespace Go.Proofs.Ytacdkgkpoelhdaa
open Go.Sl Go.Proofs
def Tk.sett (T : Tk) (r : Nat) : Tk := match T.wt r with
  | none => T
  | some (L, cl) => T.up r (settC T.has r (T.cnt r) L) (settW T.has r (T.cnt r) L) cl
def Tk.ww (T : Tk) : Prop := ∀ r, r < 8 → ∀ L cl, T.wt r = some (L, cl) → MM.wf L cl
theorem Tk.up_up {T : Tk} {r : Nat} {v v' : Vec} {L L' : VMap} {cl cl' : Nat} : (T.up r v L cl).up r v' L' cl' = T.up r v' L' cl' := by
  simp only [Tk.up, Tk.mk.injEq, true_and]
  exact ⟨funext fun i => by split <;> rfl, funext fun i => by split <;> rfl⟩
theorem Tk.sett_up {T : Tk} {r : Nat} {v : Vec} {L : VMap} {cl : Nat} : (T.up r v L cl).sett r = T.up r (settC T.has r v L) (settW T.has r v L) cl := by
  have h1 : (T.up r v L cl).wt r = some (L, cl) := by simp [Tk.up]
  have h2 : (T.up r v L cl).cnt r = v := by simp [Tk.up]
  unfold Tk.sett
  rw [h1]
  dsimp only
  rw [h2, Tk.up_up]
  rfl
theorem Tk.sett_bx (T : Tk) (r : Nat) : (T.sett r).bx = T.bx ∧ (T.sett r).nm = T.nm ∧ (T.sett r).n = T.n ∧ (T.sett r).own = T.own ∧ (T.sett r).has = T.has := by
  unfold Tk.sett; split <;> exact ⟨rfl, rfl, rfl, rfl, rfl⟩
structure PassR (T T' : Tk) (r : Nat) (ch : Bool) : Prop where
  ww : T'.ww
  s : T'.sett r = T.sett r
  bx : T'.bx = T.bx
  nm : T'.nm = T.nm
  yes : ch = true → wlen (T'.wt r) < wlen (T.wt r)
  no : ch = false → T' = T.sett r
theorem Tk.sep_of {T T' : Tk} (hs : T.sep) (h1 : T'.bx = T.bx) (h2 : T'.nm = T.nm) : T'.sep := ⟨by rw [h1, h2]; exact hs.bx, by rw [h2]; exact hs.inj⟩
theorem Tk.lt_of {T T' : Tk} {k : Nat} (hs : T.lt k) (h1 : T'.bx = T.bx) (h2 : T'.nm = T.nm) : T'.lt k := ⟨by rw [h1]; exact hs.bx, by rw [h2]; exact hs.nm⟩
section
attribute [local irreducible] SW RW SCd SC CallP Pruned Tk.cells Tk.hp Tk.up
variable {T : Tk} (hs : T.sep) {r : Nat} (hr : r < 8) {t1 k : Nat}
def PassA (T : Tk) (r t1 : Nat) : SV → Hp → Prop := fun x F => ∃ (T' : Tk) (ch : Bool), x = bl ch ∧ F = (t1, .box 27 [.ptr T'.bx 0]) :: T'.hp ∧ PassR T T' r ch
include hs hr in
set_option maxHeartbeats 1000000 in
theorem pass0_sb (hw : T.wt r = none) (hww : T.ww) (hlt : T.lt k) (ht1 : t1 < k) (htb : t1 ≠ T.bx) (htm : ∀ r, r < 8 → t1 ≠ T.nm r) :
    SB Try.prog stable_Tracker_settle_1.f [i64 r, .ptr t1 0] ((t1, .box 27 [.ptr T.bx 0]) :: T.hp) k 2 (PassA T r t1) := by
  have hbx := hlt.bx
  have hnm := hlt.nm r hr
  have hok1 : ∀ kx, k ≤ kx → Hp.ok (fun n => decide (n < kx)) ((t1, .box 27 [.ptr T.bx 0]) :: T.hp) = true := fun kx h => by
    have := Hp.ok_less h (Tk.okk hlt)
    simp only [Hp.ok, List.all_cons, Ob.ok, SV.oks, SV.ok, Bool.and_true, Bool.and_eq_true, decide_eq_true_eq] at this ⊢
    exact ⟨⟨by omega, by omega⟩, this⟩
  refine stable_Tracker_settle_1.enter (by simp [SV.ok, SV.oks]; omega) (hok1 k (Nat.le_refl _)) (by simp) ?_
  unfold stable_Tracker_settle_1.s
  have uB : List.lookup T.bx T.hp = some (.box 86 T.cells) := Tk.lkb
  have uM : List.lookup (T.nm r) T.hp = some .nomap := by rw [Tk.lkm hs hr, hw]; rfl
  have uW : T.cells[74 + r]? = some (.mp (T.nm r)) := Tk.ldw T hr
  have uK : List.lookup k T.hp = none := Tk.lkk hlt (Nat.le_refl _)
  have uRm : hrep T.hp (T.nm r) .nomap = T.hp := hrep_same uM
  have f1 := ne4 (Ne.symm htb)
  have f2 := ne4 (Ne.symm (htm r hr))
  have f3 := ne4 (show k ≠ t1 by omega)
  have f4 := ne4 (show k ≠ T.bx by omega)
  have f5 := ne4 (show k ≠ T.nm r by omega)
  have f6 := ne4 (hs.bx r hr)
  have hn1 : (((t1, .box 27 [.ptr T.bx 0]) :: T.hp : Hp).map (·.1)).Nodup := by
    rw [List.map_cons, List.nodup_cons]
    refine ⟨fun hm => ?_, Tk.nodup hs⟩
    rcases Tk.names hm with e | ⟨r', hr', e⟩
    · exact htb e
    · exact htm r' hr' e
  have hn2 : ∀ o, (((k, o) :: (t1, .box 27 [.ptr T.bx 0]) :: T.hp : Hp).map (·.1)).Nodup := fun o => by
    rw [List.map_cons, List.nodup_cons]
    refine ⟨fun hm => ?_, hn1⟩
    rcases List.mem_cons.1 hm with e | hm
    · dsimp only at e; omega
    · exact Tk.out hlt (Nat.le_refl _) hm
  have hok2 : Hp.ok (fun n => decide (n < k + 1)) ((k, .iter none 0 [] 0) :: (t1, .box 27 [.ptr T.bx 0]) :: T.hp) = true := by
    have := hok1 (k + 1) (by omega)
    simp only [Hp.ok, List.all_cons, Ob.ok, Bool.and_eq_true, decide_eq_true_eq] at this ⊢
    exact ⟨⟨by omega, by first | rfl | trivial⟩, this⟩
  refine SW.seq ?_
  (refine SW.regL [0, 1, 3, 4, 5, 12, 14, 17, 42] mixed ?_; (repeat (first | refine RW.ro bq_tt (h := ?_) | refine RW.skip (h := ?_) | refine RW.op bq_tt (h := ?_) | refine RW.opN bq_tt (h := ?_) | refine RW.skip0 (h := ?_))); refine RW.nil ⟨conf_of (by kernel_rfl), Pruned.mk (h := ?_)⟩)
  refine SW.seq ?_
  (refine SW.regL [0, 1, 3, 4, 5, 12, 14, 17, 42] mixed ?_; (repeat (first | refine RW.ro bq_tt (h := ?_) | refine RW.skip (h := ?_) | refine RW.op bq_tt (h := ?_) | refine RW.opN bq_tt (h := ?_) | refine RW.skip0 (h := ?_))); refine RW.nil ⟨conf_of (by kernel_rfl), Pruned.mk (h := ?_)⟩)
  refine SW.seq (SW.seq ?_)
  (have fx := (And.intro (uB) (And.intro (uM) (And.intro (uW) (And.intro (uK) (And.intro (uRm) (And.intro (f1) (And.intro (f2) (And.intro (f3) (And.intro (f4) (And.intro (f5) (f6))))))))))); refine SW.regL [0, 1, 3, 4, 5, 12, 14, 17, 42] mixed ?_; (repeat (first | refine RW.ro fx (h := ?_) | refine RW.skip (h := ?_) | refine RW.op fx (h := ?_) | refine RW.opN fx (h := ?_) | refine RW.skip0 (h := ?_))); refine RW.nil ⟨conf_of (by kernel_rfl), Pruned.mk (h := ?_)⟩)
  refine SW.block (SW.mapLoop0 (n := k) (since := 0) (seen := []) (s := 0) id ⟨[(4, bl false), (12, .it k)], (k, .iter none 0 [] 0) :: (t1, .box 27 [.ptr T.bx 0]) :: T.hp, k + 1⟩ ?_ (by simp [List.lookup]) (by simp [lk_cons]) ?_)
  · exact Weak.same (by simp) (by simp [EnvW, List.lookup, SV.ren, SV.rens, SV.ok, SV.oks]) hok2 (lk_of_nodup (hn2 _))
  · refine ⟨⟨[(4, bl false)], (t1, .box 27 [.ptr T.bx 0]) :: T.hp, k + 2⟩, id, Weak.same (by simp) (by simp [EnvW, List.lookup, SV.ren, SV.ok]) (hok1 _ (by simp)) (fun x hx => lk_of_nodup (hn2 _) x (List.mem_cons_of_mem _ hx)), ?_⟩
    refine (?_ : Sl.SW _ _ _ _ _ _)
    refine SW.seq ?_
    (refine SW.regL [0, 1, 3, 4, 5, 12, 14, 17, 42] mixed ?_; (repeat (first | refine RW.ro bq_tt (h := ?_) | refine RW.skip (h := ?_) | refine RW.op bq_tt (h := ?_) | refine RW.opN bq_tt (h := ?_) | refine RW.skip0 (h := ?_))); refine RW.nil ⟨conf_of (by kernel_rfl), Pruned.mk (h := ?_)⟩)
    refine SW.ret ?_
    refine End.mk _ (h3 := fun _ _ h => h) (h4 := ⟨T, false, rfl, rfl, hww, rfl, rfl, rfl, (fun h => by cases h), fun _ => ?_⟩) (h6 := hok1 _ (by omega))
    unfold Tk.sett
    rw [hw]
include hs hr in
theorem pass_any (hww : T.ww) (hlt : T.lt k) (ht1 : t1 < k) (htb : t1 ≠ T.bx) (htm : ∀ r, r < 8 → t1 ≠ T.nm r) :
    SB Try.prog stable_Tracker_settle_1.f [i64 r, .ptr t1 0] ((t1, .box 27 [.ptr T.bx 0]) :: T.hp) k 2 (PassA T r t1) := by
  cases hw : T.wt r with
  | none => exact pass0_sb hs hr hw hww hlt ht1 htb htm
  | some y =>
    obtain ⟨L, cl⟩ := y
    have h := pass_sb hs hr (v := T.cnt r) (hww r hr L cl hw) hlt ht1 htb htm
    rw [Tk.up_same hw] at h
    refine h.mono ?_
    rintro x F ⟨v', L', ch, rfl, rfl, h1, h2, h3, h4, h5⟩
    refine ⟨T.up r v' L' cl, ch, rfl, by rw [Tk.u_bx], ?_, ?_, Tk.u_bx, Tk.u_nm, fun hc => ?_, fun hc => ?_⟩
    · intro i hi L2 cl2 hw2
      unfold Tk.up at hw2
      dsimp only at hw2
      split at hw2
      · injection hw2 with e; injection e with e1 e2; rw [← e1, ← e2]; exact h1
      · exact hww i hi L2 cl2 hw2
    · rw [Tk.sett_up, h2, h3]
      unfold Tk.sett
      rw [hw]
    · have := h4 hc
      rw [hw]
      unfold Tk.up
      simpa [wlen] using this
    · obtain ⟨e1, e2⟩ := h5 hc
      unfold Tk.sett
      rw [hw]
      dsimp only
      rw [e1, e2]
include hs hr in
theorem pass_at (hww : T.ww) (hlt : T.lt k) (ht1 : t1 < k) (htb : t1 ≠ T.bx) (htm : ∀ r, r < 8 → t1 ≠ T.nm r) :
    SC Try.prog stable_Tracker_settle_1.f [i64 r, .ptr t1 0] ((t1, .box 27 [.ptr T.bx 0]) :: T.hp) k 2 (PassA T r t1) := by
  have q0 : ∀ (T' : Tk) (q : Nat → Bool), T'.bx = T.bx → T'.nm = T.nm → q t1 = true → q T.bx = true → (∀ r, r < 8 → q (T.nm r) = true) → Hp.ok q ((t1, .box 27 [.ptr T'.bx 0]) :: T'.hp) = true := fun T' q e1 e2 q1 q2 q3 => by
    have := Tk.ok (T := T') (q := q) (by rw [e1]; exact q2) (by rw [e2]; exact q3)
    simp only [Hp.ok, List.all_cons, Ob.ok, SV.oks, SV.ok, Bool.and_true, Bool.and_eq_true] at this ⊢
    exact ⟨⟨q1, by rw [e1]; exact q2⟩, this⟩
  have a1 : (lk ((t1, .box 27 [.ptr T.bx 0]) :: T.hp) t1).isSome = true := by simp [lk_cons]
  have a2 : (lk ((t1, .box 27 [.ptr T.bx 0]) :: T.hp) T.bx).isSome = true := by rw [lk_cons]; split; rfl; rw [show lk T.hp T.bx = _ from Tk.lkb]; rfl
  have a3 : ∀ r, r < 8 → (lk ((t1, .box 27 [.ptr T.bx 0]) :: T.hp) (T.nm r)).isSome = true := fun r hr => by rw [lk_cons]; split; rfl; rw [show lk T.hp (T.nm r) = _ from Tk.lkm hs hr]; rfl
  refine (pass_any hs hr hww hlt ht1 htb htm).here (fun n => (lk ((t1, .box 27 [.ptr T.bx 0]) :: T.hp) n).isSome) (fun n h e => by rw [e] at h; cases h) (by simp only [SV.oks, SV.ok, a1, Bool.and_true]) (q0 T _ rfl rfl a1 a2 a3) ?_
  rintro x F ⟨T', ch, rfl, rfl, hp⟩ _ _
  refine ⟨rfl, q0 T' _ hp.bx hp.nm (by simp only [a1, Bool.true_or]) (by simp only [a2, Bool.true_or]) fun r hr => by simp only [a3 r hr, Bool.true_or]⟩
end
end Go.Proofs.Ytacdkgkpoelhdaa
