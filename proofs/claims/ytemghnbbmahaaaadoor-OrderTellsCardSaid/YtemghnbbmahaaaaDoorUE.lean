/-
  Order: what is before what; rows: found, kept, known.
-/
import Derived.Test.YtemghnbbmahaaaaDoorUK
import Derived.Test.YtemghnbbmahaaaaDoorUC
import Derived.Test.YtemghnbbmahaaaaDoorUA
import Derived.Test.YtemghnbbmahaaaaDoorUV
import Derived.Test.YtemghnbbmahaaaaDoorU7
import Derived.Test.YtemghnbbmahaaaaDoorUD
set_option linter.unusedSectionVars false
set_option linter.unusedVariables false
set_option linter.unusedSimpArgs false
namespace Go.Proofs.YtemghnbbmahaaaaDoor
open Go.Sl Go.Proofs
attribute [local irreducible] SW RW SCd SC CallP Pruned
theorem before_ok (a b : OpD) : Go.Sl.Pure Tryd.prog order_Before.f [.agg a.cells, .agg b.cells] (bl (a.before b)) := by
  refine order_Before.enter (by first | rfl | simp [SV.ok, SV.oks]) (by first | rfl | simp [Hp.ok, Ob.ok, SV.ok, SV.oks, Vec.cells_ok]) (by simp) ?_
  dsimp only [order_Before.s, Co.M, Co.G, Co.J, Co.H, Co.N, Co.F, Co.C, Co.Z, Co.B, Co.b8, Co.b32, Co.b64, Co.i6, Co.z8, Co.z29]
  refine SW.seq ?_
  (refine SW.regL [0, 1, 2, 3, 4] mixed ?_; (repeat (first | refine RW.ro bq_tt (h := ?_) | refine RW.skip (h := ?_) | refine RW.op bq_tt (h := ?_) | refine RW.opN bq_tt (h := ?_) | refine RW.skip0 (h := ?_) | (refine RW.callC (h := ?_); (first | refine CallP.mk bq_tt (hc := covers_at _ _ _) (h := ?_))))); refine RW.nil ⟨by kernel_rfl, Pruned.mk (h := ?_)⟩)
  refine SW.seq ?_
  (have fx := (And.intro (a.gDot) (b.gDep)); refine SW.regL [0, 1, 2, 3, 4] mixed ?_; (repeat (first | refine RW.ro fx (h := ?_) | refine RW.skip (h := ?_) | refine RW.op fx (h := ?_) | refine RW.opN fx (h := ?_) | refine RW.skip0 (h := ?_) | (refine RW.callC (h := ?_); (first | refine CallP.mk fx (hc := covers_at _ _ _) (h := ?_))))); refine RW.nil ⟨by kernel_rfl, Pruned.mk (h := ?_)⟩)
  refine SW.ret ?_
  exact End.mk [] (h4 := ⟨rfl, rfl⟩)
theorem before_at (a b : OpD) (k : Nat) : SCd Tryd.prog order_Before.f [.agg a.cells, .agg b.cells] [] k 0 (bl (a.before b)) [] := (before_ok a b).sc rfl k
def besideV (a b : OpD) : Bool := !decide (a.dot = b.dot) && (!a.before b && !b.before a)
theorem beside_ok (a b : OpD) : Go.Sl.Pure Tryd.prog order_Beside.f [.agg a.cells, .agg b.cells] (bl (besideV a b)) := by
  refine order_Beside.enter (by first | rfl | simp [SV.ok, SV.oks]) (by first | rfl | simp [Hp.ok, Ob.ok, SV.ok, SV.oks, Vec.cells_ok]) (by simp) ?_
  dsimp only [order_Beside.s, Co.M, Co.G, Co.J, Co.H, Co.N, Co.F, Co.C, Co.Z, Co.B, Co.b8, Co.b32, Co.b64, Co.i6, Co.z8, Co.z29]
  have q1 := Dt.eqb a.dot b.dot
  have hA := fun k => before_at a b k
  have hB := fun k => before_at b a k
  unfold besideV
  refine SW.seq ?_
  refine SW.g0 [0, 1, 2, 3, 4] mixed bq_tt ?_
  refine SW.seq ?_
  rcases he : decide (a.dot = b.dot) with _ | _ <;> rw [he] at q1
  · rcases h1 : a.before b with _ | _ <;> rw [h1] at hA
    · refine SW.g2 [0, 1, 2, 3, 4] mixed (And.intro (q1) (And.intro (a.gDot) (b.gDot))) hA hB ?_
      refine SW.ret ?_
      exact End.mk [] (h4 := ⟨rfl, rfl⟩)
    · refine SW.g2 [0, 1, 2, 3, 4] mixed (And.intro (q1) (And.intro (a.gDot) (b.gDot))) hA hB ?_
      refine SW.ret ?_
      exact End.mk [] (h4 := ⟨rfl, rfl⟩)
  · refine SW.g2 [0, 1, 2, 3, 4] mixed (And.intro (q1) (And.intro (a.gDot) (b.gDot))) hA hB ?_
    refine SW.ret ?_
    exact End.mk [] (h4 := ⟨rfl, rfl⟩)
theorem beside_at (a b : OpD) (k : Nat) : SCd Tryd.prog order_Beside.f [.agg a.cells, .agg b.cells] [] k 0 (bl (besideV a b)) [] := (beside_ok a b).sc rfl k
set_option maxHeartbeats 1000000 in
theorem known_ok (l : List OpD) (hl : l.length < 4611686018427387904) (hw : ∀ x, x ∈ l → x.dot.wf) : Go.Sl.Pure Tryd.prog order_Known.f [ops l] (.agg (knownV l).cells) := by
  refine order_Known.enter (by first | rfl | simp [SV.ok, SV.oks]) (by first | rfl | simp [Hp.ok, Ob.ok, SV.ok, SV.oks, Vec.cells_ok]) (by simp) ?_
  dsimp only [order_Known.s, Co.M, Co.G, Co.J, Co.H, Co.N, Co.F, Co.C, Co.Z, Co.B, Co.b8, Co.b32, Co.b64, Co.i6, Co.z8, Co.z29]
  (repeat (first | refine SW.seq ?_ | refine SW.block ?_ | refine SW.g0 [0, 2, 3, 5, 6, 7, 8, 9, 16] mixed bq_tt ?_ | refine SW.skip ?_ | refine SW.exit ?_ | refine SW.ret ?_ | refine SW.condT rfl ?_ | refine SW.condF rfl ?_))
  refine SW.loopA (α := {i : Nat // i ≤ l.length}) (fun i => ⟨[(8, i64 i.1), (6, ops l), (7, i64 l.length), (2, .ptr 0 0), (3, .ptr 1 0)], [(1, .box 32 (knownV (l.take i.1)).cells), (0, .box 32 Vec.zero.cells)], 2⟩) (fun i => l.length - i.1) ⟨0, by omega⟩ id (And.intro (show knownV [] = Vec.zero from rfl) bq_tt) (round := ?_)
  rintro ⟨i, hi⟩
  dsimp only
  by_cases h : i < l.length
  · have h1 : decide ((i : Int) < l.length) = true := by simp only [decide_eq_true_eq]; omega
    obtain ⟨x, hx⟩ := get_of_lt h
    have hxw := hw x (List.mem_of_getElem? hx)
    have e2 : IntKind.i64.wrap ((i : Int) + 1) = ((i + 1 : Nat) : Int) := wrap_i64 _ (by omega)
    have e3 : IntKind.i64.wrap (x.dot.r : Int) = (x.dot.r : Int) := wrap_i64 _ (by have := hxw.1; omega)
    have e1 : l.take (i + 1) = l.take i ++ [x] := take_snoc hx
    have hsn := knownV_snoc (l.take i) x
    rw [← e1] at hsn
    unfold knStep at hsn
    generalize knownV (l.take i) = v at hsn ⊢
    by_cases hr : x.dot.r < 8
    · have e4 : decide ((x.dot.r : Int) < 8) = true := by simp; omega
      rw [if_pos hr] at hsn
      have e5 : (if (x.dot.n : Int) > ((v.get x.dot.r : Nat) : Int) then (x.dot.n : Int) else ((v.get x.dot.r : Nat) : Int)) = ((max (v.get x.dot.r) x.dot.n : Nat) : Int) := by split <;> omega
      have e6 : spl v.cells x.dot.r [.d (.int .u32 ((max (v.get x.dot.r) x.dot.n : Nat) : Int))] = (v.set x.dot.r (max (v.get x.dot.r) x.dot.n)).cells := by rw [spl_one]; exact Vec.cells_set v hr _
      (repeat (first | refine SW.seq ?_ | refine SW.block ?_ | refine SW.g0 [0, 2, 3, 5, 6, 7, 8, 9, 16] mixed (And.intro (h1) (And.intro (op_at hx) (And.intro (op_room0 hx) (And.intro (e2) (And.intro (e3) (And.intro (e4) (And.intro (Vec.cells_get v hr) (And.intro (e5) (e6))))))))) ?_ | refine SW.skip ?_ | refine SW.exit ?_ | refine SW.ret ?_ | refine SW.condT rfl ?_ | refine SW.condF rfl ?_))
      dsimp only
      exact ⟨⟨i + 1, by omega⟩, id, by show l.length - (i + 1) < _; omega, Weak.mk (And.intro hsn bq_tt)⟩
    · have e4 : decide ((x.dot.r : Int) < 8) = false := by simp; omega
      rw [if_neg hr] at hsn
      (repeat (first | refine SW.seq ?_ | refine SW.block ?_ | refine SW.g0 [0, 2, 3, 5, 6, 7, 8, 9, 16] mixed (And.intro (h1) (And.intro (op_at hx) (And.intro (op_room0 hx) (And.intro (e2) (And.intro (e3) (e4)))))) ?_ | refine SW.skip ?_ | refine SW.exit ?_ | refine SW.ret ?_ | refine SW.condT rfl ?_ | refine SW.condF rfl ?_))
      dsimp only
      exact ⟨⟨i + 1, by omega⟩, id, by show l.length - (i + 1) < _; omega, Weak.mk (And.intro hsn bq_tt)⟩
  · have h1 : decide ((i : Int) < l.length) = false := by simp only [decide_eq_false_iff_not]; omega
    have h2 : i = l.length := by omega
    subst h2
    rw [List.take_length]
    (repeat (first | refine SW.seq ?_ | refine SW.block ?_ | refine SW.g0 [0, 2, 3, 5, 6, 7, 8, 9, 16] mixed (h1) ?_ | refine SW.skip ?_ | refine SW.exit ?_ | refine SW.ret ?_ | refine SW.condT rfl ?_ | refine SW.condF rfl ?_))
    exact End.mk [] (h4 := ⟨rfl, rfl⟩)
theorem known_at (l : List OpD) (hl : l.length < 4611686018427387904) (hw : ∀ x, x ∈ l → x.dot.wf) (k : Nat) : SCd Tryd.prog order_Known.f [ops l] [] k 0 (.agg (knownV l).cells) [] := (known_ok l hl hw).sc rfl k
def idxP (p : OpD → Bool) (l : List OpD) : Int := match l.findIdx? p with
  | some i => (i : Int)
  | none => -1
theorem idxP_any (p : OpD → Bool) (l : List OpD) : decide (idxP p l ≥ 0) = l.any p := by
  unfold idxP
  cases h : l.findIdx? p with
  | none =>
    rw [List.findIdx?_eq_none_iff] at h
    have : l.any p = false := by rw [List.any_eq_false]; exact fun x hx => by rw [h x hx]; decide
    rw [this]; rfl
  | some i =>
    rw [List.findIdx?_eq_some_iff_getElem] at h
    obtain ⟨h1, h2, _⟩ := h
    have : l.any p = true := by rw [List.any_eq_true]; exact ⟨_, List.getElem_mem h1, h2⟩
    rw [this]
    simp
def TellsP (g t : Nat) (ds : List DV) (p : OpD → Bool) (l : List OpD) : Prop := ∀ x, x ∈ l → ∀ q k, SCd Tryd.prog g [.agg x.cells, .ptr q 0] [(q, .box t (ds.map .d))] k 0 (bl (p x)) [(q, .box t (ds.map .d))]
set_option maxHeartbeats 2000000 in
theorem indexP_sb {g t : Nat} {ds : List DV} {p : OpD → Bool} {l : List OpD} (hp : TellsP g t ds p l) (hl : l.length < 4611686018427387904) :
    SB Tryd.prog slices_IndexFunc_Lapi_Op_api_Op.f [ops l, .fn (.func g) [] [.ptr 0 0]] [(0, .box t (ds.map .d))] 1 0 fun r F => r = i64 (idxP p l) ∧ F = [(0, .box t (ds.map .d))] := by
  have ok1 : ∀ q : Nat → Bool, SV.oks q (ds.map SV.d) = true := fun q => SV.oks_d _
  have rn1 : ∀ ρ : Nat → Nat, SV.rens ρ (ds.map SV.d) = ds.map SV.d := fun ρ => SV.rens_d _
  refine slices_IndexFunc_Lapi_Op_api_Op.enter (by simp [SV.ok, SV.oks]) (by simp [Hp.ok, Ob.ok, ok1]) (by simp) ?_
  dsimp only [slices_IndexFunc_Lapi_Op_api_Op.s, Co.M, Co.G, Co.J, Co.H, Co.N, Co.F, Co.C, Co.Z, Co.B, Co.b8, Co.b32, Co.b64, Co.i6, Co.z8, Co.z29]
  refine SW.seq ?_
  refine SW.g0 [0, 1, 4, 5, 7, 8, 9, 16] mixed bq_tt ?_
  refine SW.seq (SW.seq ?_)
  refine SW.g0 [0, 1, 4, 5, 7, 8, 9, 16] mixed bq_tt ?_
  refine SW.block ?_
  refine SW.loopA (α := {i : Nat // i ≤ l.length ∧ ∀ j x, j < i → l[j]? = some x → p x = false}) (fun i => ⟨[(8, i64 i.1), (7, i64 l.length), (0, ops l), (1, .fn (.func g) [] [.ptr 0 0])], [(0, .box t (ds.map .d))], 1⟩) (fun i => l.length - i.1) ⟨0, by omega, by omega⟩ id (And.intro (ok1 (fun n => decide (n < 1))) (rn1 id)) (round := ?_)
  rintro ⟨i, hi, hs⟩
  dsimp only
  by_cases h : i < l.length
  · have h1 : decide ((i : Int) < l.length) = true := by simp only [decide_eq_true_eq]; omega
    obtain ⟨x, hx⟩ := get_of_lt h
    have e2 : IntKind.i64.wrap ((i : Int) + 1) = ((i + 1 : Nat) : Int) := wrap_i64 _ (by omega)
    have hc := hp x (List.mem_of_getElem? hx) 0
    refine SW.seq ?_
    refine SW.g0 [0, 1, 4, 5, 7, 8, 9, 16] mixed (h1) ?_
    refine SW.seq (SW.condT rfl (SW.skip ?_))
    refine SW.seq (SW.block (SW.seq ?_))
    refine SW.g0 [0, 1, 4, 5, 7, 8, 9, 16] mixed bq_tt ?_
    refine SW.seq ?_
    rcases hg : p x with _ | _ <;> rw [hg] at hc
    · refine SW.g1 [0, 1, 4, 5, 7, 8, 9, 16] mixed (And.intro (op_at hx) (op_room0 hx)) hc ?_
      refine SW.condF rfl (SW.skip ?_)
      refine SW.g0 [0, 1, 4, 5, 7, 8, 9, 16] mixed (e2) ?_
      refine ⟨⟨i + 1, by omega, fun j y hj hy => ?_⟩, id, by show l.length - (i + 1) < l.length - i; omega, ?_⟩
      · rcases Nat.lt_or_ge j i with h2 | h2
        · exact hs j y h2 hy
        · have : j = i := by omega
          subst this
          rw [hx] at hy; injection hy with hy; rw [← hy]; exact hg
      · exact Weak.mk (And.intro (ok1 (fun n => decide (n < 1))) (rn1 id))
    · have e : idxP p l = (i : Int) := by
        unfold idxP
        have : l.findIdx? p = some i := by
          rw [List.findIdx?_eq_some_iff_getElem]
          refine ⟨h, ?_, fun j hj => ?_⟩
          · rw [List.getElem?_eq_getElem h] at hx; injection hx with hx; rw [hx, hg]
          · have := hs j l[j] hj (List.getElem?_eq_getElem _); simp [this]
        rw [this]
      rw [e]
      refine SW.g1 [0, 1, 4, 5, 7, 8, 9, 16] mixed (And.intro (op_at hx) (op_room0 hx)) hc ?_
      refine SW.condT rfl (SW.seq ?_)
      refine SW.g0 [0, 1, 4, 5, 7, 8, 9, 16] mixed bq_tt ?_
      refine SW.ret ?_
      exact End.mk [(0, .box t (ds.map .d))] (h4 := ⟨rfl, rfl⟩) (h6 := by simp [Hp.ok, Ob.ok, ok1])
  · have h1 : decide ((i : Int) < l.length) = false := by simp only [decide_eq_false_iff_not]; omega
    have e : idxP p l = -1 := by
      unfold idxP
      have : l.findIdx? p = none := by
        rw [List.findIdx?_eq_none_iff]
        intro x hx
        obtain ⟨j, hj⟩ := List.mem_iff_getElem?.1 hx
        exact hs j x (by have := lt_of_get hj; omega) hj
      rw [this]
    rw [e]
    refine SW.seq ?_
    refine SW.g0 [0, 1, 4, 5, 7, 8, 9, 16] mixed (h1) ?_
    refine SW.seq (SW.condF rfl (SW.exit ?_))
    refine SW.seq ?_
    refine SW.g0 [0, 1, 4, 5, 7, 8, 9, 16] mixed bq_tt ?_
    refine SW.ret ?_
    exact End.mk [(0, .box t (ds.map .d))] (h4 := ⟨rfl, rfl⟩) (h6 := by simp [Hp.ok, Ob.ok, ok1])
theorem indexP_at {g t : Nat} {ds : List DV} {p : OpD → Bool} {l : List OpD} (hp : TellsP g t ds p l) (hl : l.length < 4611686018427387904) (q k : Nat) :
    SCd Tryd.prog slices_IndexFunc_Lapi_Op_api_Op.f [ops l, .fn (.func g) [] [.ptr q 0]] [(q, .box t (ds.map .d))] k 0 (i64 (idxP p l)) [(q, .box t (ds.map .d))] := by
  have := SB.atL [q] (indexP_sb hp hl) (by simp) (by simp [lk]) k
  simpa [SV.ren, SV.rens, Hp.ren, Ob.ren, atN, SV.rens_d] using this
theorem containsP_sb {g t : Nat} {ds : List DV} {p : OpD → Bool} {l : List OpD} (hp : TellsP g t ds p l) (hl : l.length < 4611686018427387904) :
    SB Tryd.prog slices_ContainsFunc_Lapi_Op_api_Op.f [ops l, .fn (.func g) [] [.ptr 0 0]] [(0, .box t (ds.map .d))] 1 0 fun r F => r = bl (l.any p) ∧ F = [(0, .box t (ds.map .d))] := by
  have ok1 : ∀ q : Nat → Bool, SV.oks q (ds.map SV.d) = true := fun q => SV.oks_d _
  refine slices_ContainsFunc_Lapi_Op_api_Op.enter (by simp [SV.ok, SV.oks]) (by simp [Hp.ok, Ob.ok, ok1]) (by simp) ?_
  dsimp only [slices_ContainsFunc_Lapi_Op_api_Op.s, Co.M, Co.G, Co.J, Co.H, Co.N, Co.F, Co.C, Co.Z, Co.B, Co.b8, Co.b32, Co.b64, Co.i6, Co.z8, Co.z29]
  rw [← idxP_any]
  have hi := indexP_at hp hl 0
  refine SW.seq ?_
  refine SW.g0 [0, 1, 4] mixed bq_tt ?_
  refine SW.seq ?_
  refine SW.g1 [0, 1, 4] mixed bq_tt hi ?_
  refine SW.ret ?_
  exact End.mk [(0, .box t (ds.map .d))] (h4 := ⟨rfl, rfl⟩) (h6 := by simp [Hp.ok, Ob.ok, ok1])
theorem containsP_at {g t : Nat} {ds : List DV} {p : OpD → Bool} {l : List OpD} (hp : TellsP g t ds p l) (hl : l.length < 4611686018427387904) (q k : Nat) :
    SCd Tryd.prog slices_ContainsFunc_Lapi_Op_api_Op.f [ops l, .fn (.func g) [] [.ptr q 0]] [(q, .box t (ds.map .d))] k 0 (bl (l.any p)) [(q, .box t (ds.map .d))] := by
  have := SB.atL [q] (containsP_sb hp hl) (by simp) (by simp [lk]) k
  simpa [SV.ren, SV.rens, Hp.ren, Ob.ren, atN, SV.rens_d] using this
end Go.Proofs.YtemghnbbmahaaaaDoor
namespace Go.Proofs.YtemghnbbmahaaaaDoor
open Go.Sl Go.Proofs
theorem max_ok (a b : Nat) : Pure Tryd.prog vector_Merge_1.f [u32 a, u32 b] (u32 (max a b)) := by
  refine vector_Merge_1.enter rfl rfl (by simp) ?_
  dsimp only [vector_Merge_1.s, Co.M, Co.G, Co.J, Co.H, Co.N, Co.F, Co.C, Co.Z, Co.B, Co.b8, Co.b32, Co.b64, Co.i6, Co.z8, Co.z29]
  refine SW.seq ?_
  refine SW.reg [] mixed (by simp only [runs, runOp, goOp, sop, ev, evs, evp, upd, argE, List.lookup, Nat.reduceBEq, Nat.reduceAdd, Nat.reduceMul, Nat.zero_add, SV.cells, if_true, if_false, reduceIte, Bool.false_eq_true, roOf, hmrg, hsets, hdels, hset, hrep, hdel, touchL, lk, List.filter, Nat.reduceBNe, bne_self_eq_false, ldv, ldo, cellsAt, binV, binK, mvp, Vec.cells_one, BEq.rfl, beq_self_eq_true, Bool.true_or, Nat.reduceEqDiff, List.map_cons, List.map_nil, List.nil_append, List.cons_append, List.append_nil, Int.toNat_natCast, Nat.mul_one, Nat.add_zero, findS, keyOk, isAggS, msetS, mdelS, lookS, lookOk, Option.isSome_some, Option.isSome_none, Option.isNone_some, Option.isNone_none, Nat.zero_ne_one, Nat.one_ne_zero, Bool.and_false, Bool.and_true, List.drop_zero, Vec.zero_cells, Vec.take_all, Vec.spl_all, Dt.cells_one, Dt.take_all, Dt.get0, Dt.get1, Dt.spl_all, Dt.zero_cells, Dt.bld, bldS, datas, appB, appX, List.all_cons, List.all_nil, SV.isOne, Int.cast_ofNat_Int, Int.reduceBNe, Int.reduceBEq, Int.reduceLT, Int.reduceLE, Int.reduceGT, Int.reduceGE, one_map, bq_ft, bq_tf, Bool.not_true, Bool.not_false, Bool.or_false, Bool.or_true, Bool.false_or, Bool.or_self, Vec.row0, Vec.row8, Vec.row16, Vec.row24, Vec.datas_app, Vec.datas_one, Dt.row0, Dt.row2, Dt.datas_app, Dt.datas_one, List.all_append, Vec.eqb8, Dt.eqb, Bool.cond_true, Bool.cond_false]; rfl) (by simp [-List.length_flatMap, -Int.natCast_add] <;> omega) (by rfl) ?_
  refine SW.seq ?_
  refine SW.reg [] mixed (by simp only [runs, runOp, goOp, sop, ev, evs, evp, upd, argE, List.lookup, Nat.reduceBEq, Nat.reduceAdd, Nat.reduceMul, Nat.zero_add, SV.cells, if_true, if_false, reduceIte, Bool.false_eq_true, roOf, hmrg, hsets, hdels, hset, hrep, hdel, touchL, lk, List.filter, Nat.reduceBNe, bne_self_eq_false, ldv, ldo, cellsAt, binV, binK, mvp, Vec.cells_one, BEq.rfl, beq_self_eq_true, Bool.true_or, Nat.reduceEqDiff, List.map_cons, List.map_nil, List.nil_append, List.cons_append, List.append_nil, Int.toNat_natCast, Nat.mul_one, Nat.add_zero, findS, keyOk, isAggS, msetS, mdelS, lookS, lookOk, Option.isSome_some, Option.isSome_none, Option.isNone_some, Option.isNone_none, Nat.zero_ne_one, Nat.one_ne_zero, Bool.and_false, Bool.and_true, List.drop_zero, Vec.zero_cells, Vec.take_all, Vec.spl_all, Dt.cells_one, Dt.take_all, Dt.get0, Dt.get1, Dt.spl_all, Dt.zero_cells, Dt.bld, bldS, datas, appB, appX, List.all_cons, List.all_nil, SV.isOne, Int.cast_ofNat_Int, Int.reduceBNe, Int.reduceBEq, Int.reduceLT, Int.reduceLE, Int.reduceGT, Int.reduceGE, one_map, bq_ft, bq_tf, Bool.not_true, Bool.not_false, Bool.or_false, Bool.or_true, Bool.false_or, Bool.or_self, Vec.row0, Vec.row8, Vec.row16, Vec.row24, Vec.datas_app, Vec.datas_one, Dt.row0, Dt.row2, Dt.datas_app, Dt.datas_one, List.all_append, Vec.eqb8, Dt.eqb, Bool.cond_true, Bool.cond_false]; rfl) (by simp [-List.length_flatMap, -Int.natCast_add] <;> omega) (by rfl) ?_
  refine SW.ret ?_
  refine fin_pure (by rfl) trivial ?_ rfl
  simp only [retV, u32]
  congr 2
  split <;> omega
def Two (g : Nat) (op : Nat → Nat → Nat) : Prop := ∀ a b k : Nat, SCd Tryd.prog g [.d (.int .u32 (a : Int)), .d (.int .u32 (b : Int))] [] k 0 (.d (.int .u32 ((op a b : Nat) : Int))) []
theorem two_max : Two vector_Merge_1.f max := fun a b k => (max_ok a b).sc rfl k
abbrev fnOb (g : Nat) : Ob := .box T_func_uint32_uint32_uint32 [.fn (.func g) [] []]
theorem each1_ok {g : Nat} {op : Nat → Nat → Nat} (hg : Two g op) (a b : Vec) : SB Tryd.prog vector_each_1.f [.agg a.cells, .agg b.cells, .ptr 0 0] [(0, fnOb g)] 1 0 fun r F => r = .agg (Vec.zip op a b).cells ∧ F = [(0, fnOb g)] := by
  refine vector_each_1.enter rfl rfl (by simp) ?_
  dsimp only [vector_each_1.s, Co.M, Co.G, Co.J, Co.H, Co.N, Co.F, Co.C, Co.Z, Co.B, Co.b8, Co.b32, Co.b64, Co.i6, Co.z8, Co.z29]
  refine SW.seq ?_
  refine SW.reg [] mixed (by simp only [runs, runOp, goOp, sop, ev, evs, evp, upd, argE, List.lookup, Nat.reduceBEq, Nat.reduceAdd, Nat.reduceMul, Nat.zero_add, SV.cells, if_true, if_false, reduceIte, Bool.false_eq_true, roOf, hmrg, hsets, hdels, hset, hrep, hdel, touchL, lk, List.filter, Nat.reduceBNe, bne_self_eq_false, ldv, ldo, cellsAt, binV, binK, mvp, Vec.cells_one, BEq.rfl, beq_self_eq_true, Bool.true_or, Nat.reduceEqDiff, List.map_cons, List.map_nil, List.nil_append, List.cons_append, List.append_nil, Int.toNat_natCast, Nat.mul_one, Nat.add_zero, findS, keyOk, isAggS, msetS, mdelS, lookS, lookOk, Option.isSome_some, Option.isSome_none, Option.isNone_some, Option.isNone_none, Nat.zero_ne_one, Nat.one_ne_zero, Bool.and_false, Bool.and_true, List.drop_zero, Vec.zero_cells, Vec.take_all, Vec.spl_all, Dt.cells_one, Dt.take_all, Dt.get0, Dt.get1, Dt.spl_all, Dt.zero_cells, Dt.bld, bldS, datas, appB, appX, List.all_cons, List.all_nil, SV.isOne, Int.cast_ofNat_Int, Int.reduceBNe, Int.reduceBEq, Int.reduceLT, Int.reduceLE, Int.reduceGT, Int.reduceGE, one_map, bq_ft, bq_tf, Bool.not_true, Bool.not_false, Bool.or_false, Bool.or_true, Bool.false_or, Bool.or_self, Vec.row0, Vec.row8, Vec.row16, Vec.row24, Vec.datas_app, Vec.datas_one, Dt.row0, Dt.row2, Dt.datas_app, Dt.datas_one, List.all_append, Vec.eqb8, Dt.eqb, Bool.cond_true, Bool.cond_false]; rfl) (by simp [-List.length_flatMap, -Int.natCast_add] <;> omega) (by rfl) ?_
  refine SW.seq ?_
  refine SW.seq ?_
  refine SW.reg [] mixed (by simp only [runs, runOp, goOp, sop, ev, evs, evp, upd, argE, List.lookup, Nat.reduceBEq, Nat.reduceAdd, Nat.reduceMul, Nat.zero_add, SV.cells, if_true, if_false, reduceIte, Bool.false_eq_true, roOf, hmrg, hsets, hdels, hset, hrep, hdel, touchL, lk, List.filter, Nat.reduceBNe, bne_self_eq_false, ldv, ldo, cellsAt, binV, binK, mvp, Vec.cells_one, BEq.rfl, beq_self_eq_true, Bool.true_or, Nat.reduceEqDiff, List.map_cons, List.map_nil, List.nil_append, List.cons_append, List.append_nil, Int.toNat_natCast, Nat.mul_one, Nat.add_zero, findS, keyOk, isAggS, msetS, mdelS, lookS, lookOk, Option.isSome_some, Option.isSome_none, Option.isNone_some, Option.isNone_none, Nat.zero_ne_one, Nat.one_ne_zero, Bool.and_false, Bool.and_true, List.drop_zero, Vec.zero_cells, Vec.take_all, Vec.spl_all, Dt.cells_one, Dt.take_all, Dt.get0, Dt.get1, Dt.spl_all, Dt.zero_cells, Dt.bld, bldS, datas, appB, appX, List.all_cons, List.all_nil, SV.isOne, Int.cast_ofNat_Int, Int.reduceBNe, Int.reduceBEq, Int.reduceLT, Int.reduceLE, Int.reduceGT, Int.reduceGE, one_map, bq_ft, bq_tf, Bool.not_true, Bool.not_false, Bool.or_false, Bool.or_true, Bool.false_or, Bool.or_self, Vec.row0, Vec.row8, Vec.row16, Vec.row24, Vec.datas_app, Vec.datas_one, Dt.row0, Dt.row2, Dt.datas_app, Dt.datas_one, List.all_append, Vec.eqb8, Dt.eqb, Bool.cond_true, Bool.cond_false]; rfl) (by simp [-List.length_flatMap, -Int.natCast_add] <;> omega) (by rfl) ?_
  refine SW.block ?_
  refine SW.loopS (α := {i : Nat // i ≤ 8}) (fun i => ⟨[(7, i64 i.1), (2, .ptr 0 0), (3, .ptr 1 0), (4, .ptr 2 0), (5, .ptr 3 0)], [(0, fnOb g), (1, .box 32 a.cells), (2, .box 32 b.cells), (3, .box 32 (Vec.upto i.1 (Vec.zip op a b) Vec.zero).cells)], 4⟩) (fun i => 8 - i.1) ⟨0, by omega⟩ (by simp only [Vec.upto_zero]; simp [Go.Sl.Sub, EnvS, HpS, SV.ok, Ob.ok, SV.oks, lk, List.lookup, Vec.cells_ok]) ?_
  rintro ⟨i, hi⟩
  refine SW.seq ?_
  refine SW.reg [] mixed (by simp only [runs, runOp, goOp, sop, ev, evs, evp, upd, argE, List.lookup, Nat.reduceBEq, Nat.reduceAdd, Nat.reduceMul, Nat.zero_add, SV.cells, if_true, if_false, reduceIte, Bool.false_eq_true, roOf, hmrg, hsets, hdels, hset, hrep, hdel, touchL, lk, List.filter, Nat.reduceBNe, bne_self_eq_false, ldv, ldo, cellsAt, binV, binK, mvp, Vec.cells_one, BEq.rfl, beq_self_eq_true, Bool.true_or, Nat.reduceEqDiff, List.map_cons, List.map_nil, List.nil_append, List.cons_append, List.append_nil, Int.toNat_natCast, Nat.mul_one, Nat.add_zero, findS, keyOk, isAggS, msetS, mdelS, lookS, lookOk, Option.isSome_some, Option.isSome_none, Option.isNone_some, Option.isNone_none, Nat.zero_ne_one, Nat.one_ne_zero, Bool.and_false, Bool.and_true, List.drop_zero, Vec.zero_cells, Vec.take_all, Vec.spl_all, Dt.cells_one, Dt.take_all, Dt.get0, Dt.get1, Dt.spl_all, Dt.zero_cells, Dt.bld, bldS, datas, appB, appX, List.all_cons, List.all_nil, SV.isOne, Int.cast_ofNat_Int, Int.reduceBNe, Int.reduceBEq, Int.reduceLT, Int.reduceLE, Int.reduceGT, Int.reduceGE, one_map, bq_ft, bq_tf, Bool.not_true, Bool.not_false, Bool.or_false, Bool.or_true, Bool.false_or, Bool.or_self, Vec.row0, Vec.row8, Vec.row16, Vec.row24, Vec.datas_app, Vec.datas_one, Dt.row0, Dt.row2, Dt.datas_app, Dt.datas_one, List.all_append, Vec.eqb8, Dt.eqb, Bool.cond_true, Bool.cond_false]; rfl) (by simp [-List.length_flatMap, -Int.natCast_add] <;> omega) (by rfl) ?_
  refine SW.seq ?_
  refine SW.cond rfl (fun h => SW.skip ?_) (fun h => SW.exit ?_)
  · have h : i < 8 := by simp at h; omega
    refine SW.seq ?_
    refine SW.block ?_
    refine SW.seq ?_
    refine SW.reg [] mixed (by simp only [runs, runOp, goOp, sop, ev, evs, evp, upd, argE, List.lookup, Nat.reduceBEq, Nat.reduceAdd, Nat.reduceMul, Nat.zero_add, SV.cells, if_true, if_false, reduceIte, Bool.false_eq_true, roOf, hmrg, hsets, hdels, hset, hrep, hdel, touchL, lk, List.filter, Nat.reduceBNe, bne_self_eq_false, ldv, ldo, cellsAt, binV, binK, mvp, Vec.cells_one, BEq.rfl, beq_self_eq_true, Bool.true_or, Nat.reduceEqDiff, List.map_cons, List.map_nil, List.nil_append, List.cons_append, List.append_nil, Int.toNat_natCast, Nat.mul_one, Nat.add_zero, findS, keyOk, isAggS, msetS, mdelS, lookS, lookOk, Option.isSome_some, Option.isSome_none, Option.isNone_some, Option.isNone_none, Nat.zero_ne_one, Nat.one_ne_zero, Bool.and_false, Bool.and_true, List.drop_zero, Vec.zero_cells, Vec.take_all, Vec.spl_all, Dt.cells_one, Dt.take_all, Dt.get0, Dt.get1, Dt.spl_all, Dt.zero_cells, Dt.bld, bldS, datas, appB, appX, List.all_cons, List.all_nil, SV.isOne, Int.cast_ofNat_Int, Int.reduceBNe, Int.reduceBEq, Int.reduceLT, Int.reduceLE, Int.reduceGT, Int.reduceGE, one_map, bq_ft, bq_tf, Bool.not_true, Bool.not_false, Bool.or_false, Bool.or_true, Bool.false_or, Bool.or_self, Vec.row0, Vec.row8, Vec.row16, Vec.row24, Vec.datas_app, Vec.datas_one, Dt.row0, Dt.row2, Dt.datas_app, Dt.datas_one, List.all_append, Vec.eqb8, Dt.eqb, Bool.cond_true, Bool.cond_false]; rfl) (by simp [-List.length_flatMap, -Int.natCast_add] <;> omega) (by rfl) ?_
    refine SW.reg [.call [] (u32 (op (a.get i) (b.get i))) [] 0] mixed (by simp only [runs, runOp, goOp, sop, ev, evs, evp, upd, argE, List.lookup, Nat.reduceBEq, Nat.reduceAdd, Nat.reduceMul, Nat.zero_add, SV.cells, if_true, if_false, reduceIte, Bool.false_eq_true, roOf, hmrg, hsets, hdels, hset, hrep, hdel, touchL, lk, List.filter, Nat.reduceBNe, bne_self_eq_false, ldv, ldo, cellsAt, binV, binK, mvp, Vec.cells_one, BEq.rfl, beq_self_eq_true, Bool.true_or, Nat.reduceEqDiff, List.map_cons, List.map_nil, List.nil_append, List.cons_append, List.append_nil, Int.toNat_natCast, Nat.mul_one, Nat.add_zero, findS, keyOk, isAggS, msetS, mdelS, lookS, lookOk, Option.isSome_some, Option.isSome_none, Option.isNone_some, Option.isNone_none, Nat.zero_ne_one, Nat.one_ne_zero, Bool.and_false, Bool.and_true, List.drop_zero, Vec.zero_cells, Vec.take_all, Vec.spl_all, Dt.cells_one, Dt.take_all, Dt.get0, Dt.get1, Dt.spl_all, Dt.zero_cells, Dt.bld, bldS, datas, appB, appX, List.all_cons, List.all_nil, SV.isOne, Int.cast_ofNat_Int, Int.reduceBNe, Int.reduceBEq, Int.reduceLT, Int.reduceLE, Int.reduceGT, Int.reduceGE, one_map, bq_ft, bq_tf, Bool.not_true, Bool.not_false, Bool.or_false, Bool.or_true, Bool.false_or, Bool.or_self, Vec.row0, Vec.row8, Vec.row16, Vec.row24, Vec.datas_app, Vec.datas_one, Dt.row0, Dt.row2, Dt.datas_app, Dt.datas_one, List.all_append, Vec.eqb8, Dt.eqb, Bool.cond_true, Bool.cond_false, a.cells_get h, b.cells_get h]; rfl) (by simp [-List.length_flatMap, -Int.natCast_add, lk, List.lookup, hg (a.get i) (b.get i)] <;> omega) (by rfl) ?_
    have e : (Vec.upto i (Vec.zip op a b) Vec.zero).set i (op (a.get i) (b.get i)) = Vec.upto (i + 1) (Vec.zip op a b) Vec.zero := by
      rw [← Vec.upto_succ _ _ h]; congr 1; simp [Vec.zip, Vec.get_of _ h]
    simp only [Vec.spl_set _ h, e]
    refine SW.reg [] mixed (by simp only [runs, runOp, goOp, sop, ev, evs, evp, upd, argE, List.lookup, Nat.reduceBEq, Nat.reduceAdd, Nat.reduceMul, Nat.zero_add, SV.cells, if_true, if_false, reduceIte, Bool.false_eq_true, roOf, hmrg, hsets, hdels, hset, hrep, hdel, touchL, lk, List.filter, Nat.reduceBNe, bne_self_eq_false, ldv, ldo, cellsAt, binV, binK, mvp, Vec.cells_one, BEq.rfl, beq_self_eq_true, Bool.true_or, Nat.reduceEqDiff, List.map_cons, List.map_nil, List.nil_append, List.cons_append, List.append_nil, Int.toNat_natCast, Nat.mul_one, Nat.add_zero, findS, keyOk, isAggS, msetS, mdelS, lookS, lookOk, Option.isSome_some, Option.isSome_none, Option.isNone_some, Option.isNone_none, Nat.zero_ne_one, Nat.one_ne_zero, Bool.and_false, Bool.and_true, List.drop_zero, Vec.zero_cells, Vec.take_all, Vec.spl_all, Dt.cells_one, Dt.take_all, Dt.get0, Dt.get1, Dt.spl_all, Dt.zero_cells, Dt.bld, bldS, datas, appB, appX, List.all_cons, List.all_nil, SV.isOne, Int.cast_ofNat_Int, Int.reduceBNe, Int.reduceBEq, Int.reduceLT, Int.reduceLE, Int.reduceGT, Int.reduceGE, one_map, bq_ft, bq_tf, Bool.not_true, Bool.not_false, Bool.or_false, Bool.or_true, Bool.false_or, Bool.or_self, Vec.row0, Vec.row8, Vec.row16, Vec.row24, Vec.datas_app, Vec.datas_one, Dt.row0, Dt.row2, Dt.datas_app, Dt.datas_one, List.all_append, Vec.eqb8, Dt.eqb, Bool.cond_true, Bool.cond_false, wrap_succ i (by omega)]; rfl) (by simp [-List.length_flatMap, -Int.natCast_add] <;> omega) (by rfl) ?_
    exact ⟨⟨i + 1, by omega⟩, by simp; omega, by simp [Go.Sl.Sub, EnvS, HpS, SV.ok, Ob.ok, SV.oks, lk, List.lookup, Vec.cells_ok]⟩
  · have h : i = 8 := by simp at h; omega
    subst h
    refine SW.seq ?_
    simp only [Vec.upto_all]
    refine SW.reg [] mixed (by simp only [runs, runOp, goOp, sop, ev, evs, evp, upd, argE, List.lookup, Nat.reduceBEq, Nat.reduceAdd, Nat.reduceMul, Nat.zero_add, SV.cells, if_true, if_false, reduceIte, Bool.false_eq_true, roOf, hmrg, hsets, hdels, hset, hrep, hdel, touchL, lk, List.filter, Nat.reduceBNe, bne_self_eq_false, ldv, ldo, cellsAt, binV, binK, mvp, Vec.cells_one, BEq.rfl, beq_self_eq_true, Bool.true_or, Nat.reduceEqDiff, List.map_cons, List.map_nil, List.nil_append, List.cons_append, List.append_nil, Int.toNat_natCast, Nat.mul_one, Nat.add_zero, findS, keyOk, isAggS, msetS, mdelS, lookS, lookOk, Option.isSome_some, Option.isSome_none, Option.isNone_some, Option.isNone_none, Nat.zero_ne_one, Nat.one_ne_zero, Bool.and_false, Bool.and_true, List.drop_zero, Vec.zero_cells, Vec.take_all, Vec.spl_all, Dt.cells_one, Dt.take_all, Dt.get0, Dt.get1, Dt.spl_all, Dt.zero_cells, Dt.bld, bldS, datas, appB, appX, List.all_cons, List.all_nil, SV.isOne, Int.cast_ofNat_Int, Int.reduceBNe, Int.reduceBEq, Int.reduceLT, Int.reduceLE, Int.reduceGT, Int.reduceGE, one_map, bq_ft, bq_tf, Bool.not_true, Bool.not_false, Bool.or_false, Bool.or_true, Bool.false_or, Bool.or_self, Vec.row0, Vec.row8, Vec.row16, Vec.row24, Vec.datas_app, Vec.datas_one, Dt.row0, Dt.row2, Dt.datas_app, Dt.datas_one, List.all_append, Vec.eqb8, Dt.eqb, Bool.cond_true, Bool.cond_false]; rfl) (by simp [-List.length_flatMap, -Int.natCast_add] <;> omega) (by rfl) ?_
    refine SW.ret ?_
    exact ⟨_, _, [(0, fnOb g)], by rfl, by simp [ldo], by simp [lk], ⟨rfl, rfl⟩, rfl, rfl, by simp⟩
theorem each1_at {g : Nat} {op : Nat → Nat → Nat} (hg : Two g op) (a b : Vec) (n k : Nat) : SCd Tryd.prog vector_each_1.f [.agg a.cells, .agg b.cells, .ptr n 0] [(n, fnOb g)] k 0 (.agg (Vec.zip op a b).cells) [(n, fnOb g)] :=
  SB.atL [n] (each1_ok hg a b) (by simp) (by simp [lk]) k
theorem each_ok (g : Nat) : SB Tryd.prog vector_each.f [.fn (.func g) [] []] [] 0 1 fun r F => r = .fn (.func vector_each_1.f) [] [.ptr 0 0] ∧ F = [(0, fnOb g)] := by
  refine vector_each.enter rfl rfl (by simp) ?_
  dsimp only [vector_each.s, Co.M, Co.G, Co.J, Co.H, Co.N, Co.F, Co.C, Co.Z, Co.B, Co.b8, Co.b32, Co.b64, Co.i6, Co.z8, Co.z29]
  refine SW.seq ?_
  refine SW.reg [] mixed (by simp only [runs, runOp, goOp, sop, ev, evs, evp, upd, argE, List.lookup, Nat.reduceBEq, Nat.reduceAdd, Nat.reduceMul, Nat.zero_add, SV.cells, if_true, if_false, reduceIte, Bool.false_eq_true, roOf, hmrg, hsets, hdels, hset, hrep, hdel, touchL, lk, List.filter, Nat.reduceBNe, bne_self_eq_false, ldv, ldo, cellsAt, binV, binK, mvp, Vec.cells_one, BEq.rfl, beq_self_eq_true, Bool.true_or, Nat.reduceEqDiff, List.map_cons, List.map_nil, List.nil_append, List.cons_append, List.append_nil, Int.toNat_natCast, Nat.mul_one, Nat.add_zero, findS, keyOk, isAggS, msetS, mdelS, lookS, lookOk, Option.isSome_some, Option.isSome_none, Option.isNone_some, Option.isNone_none, Nat.zero_ne_one, Nat.one_ne_zero, Bool.and_false, Bool.and_true, List.drop_zero, Vec.zero_cells, Vec.take_all, Vec.spl_all, Dt.cells_one, Dt.take_all, Dt.get0, Dt.get1, Dt.spl_all, Dt.zero_cells, Dt.bld, bldS, datas, appB, appX, List.all_cons, List.all_nil, SV.isOne, Int.cast_ofNat_Int, Int.reduceBNe, Int.reduceBEq, Int.reduceLT, Int.reduceLE, Int.reduceGT, Int.reduceGE, one_map, bq_ft, bq_tf, Bool.not_true, Bool.not_false, Bool.or_false, Bool.or_true, Bool.false_or, Bool.or_self, Vec.row0, Vec.row8, Vec.row16, Vec.row24, Vec.datas_app, Vec.datas_one, Dt.row0, Dt.row2, Dt.datas_app, Dt.datas_one, List.all_append, Vec.eqb8, Dt.eqb, Bool.cond_true, Bool.cond_false]; rfl) (by simp [-List.length_flatMap, -Int.natCast_add] <;> omega) (by rfl) ?_
  refine SW.seq ?_
  refine SW.reg [] mixed (by simp only [runs, runOp, goOp, sop, ev, evs, evp, upd, argE, List.lookup, Nat.reduceBEq, Nat.reduceAdd, Nat.reduceMul, Nat.zero_add, SV.cells, if_true, if_false, reduceIte, Bool.false_eq_true, roOf, hmrg, hsets, hdels, hset, hrep, hdel, touchL, lk, List.filter, Nat.reduceBNe, bne_self_eq_false, ldv, ldo, cellsAt, binV, binK, mvp, Vec.cells_one, BEq.rfl, beq_self_eq_true, Bool.true_or, Nat.reduceEqDiff, List.map_cons, List.map_nil, List.nil_append, List.cons_append, List.append_nil, Int.toNat_natCast, Nat.mul_one, Nat.add_zero, findS, keyOk, isAggS, msetS, mdelS, lookS, lookOk, Option.isSome_some, Option.isSome_none, Option.isNone_some, Option.isNone_none, Nat.zero_ne_one, Nat.one_ne_zero, Bool.and_false, Bool.and_true, List.drop_zero, Vec.zero_cells, Vec.take_all, Vec.spl_all, Dt.cells_one, Dt.take_all, Dt.get0, Dt.get1, Dt.spl_all, Dt.zero_cells, Dt.bld, bldS, datas, appB, appX, List.all_cons, List.all_nil, SV.isOne, Int.cast_ofNat_Int, Int.reduceBNe, Int.reduceBEq, Int.reduceLT, Int.reduceLE, Int.reduceGT, Int.reduceGE, one_map, bq_ft, bq_tf, Bool.not_true, Bool.not_false, Bool.or_false, Bool.or_true, Bool.false_or, Bool.or_self, Vec.row0, Vec.row8, Vec.row16, Vec.row24, Vec.datas_app, Vec.datas_one, Dt.row0, Dt.row2, Dt.datas_app, Dt.datas_one, List.all_append, Vec.eqb8, Dt.eqb, Bool.cond_true, Bool.cond_false]; rfl) (by simp [-List.length_flatMap, -Int.natCast_add] <;> omega) (by rfl) ?_
  refine SW.ret ?_
  exact ⟨_, _, [(0, fnOb g)], by rfl, by simp [ldo], by simp [lk], ⟨rfl, rfl⟩, rfl, rfl, by simp⟩
theorem each_at (g k : Nat) : SCd Tryd.prog vector_each.f [.fn (.func g) [] []] [] k 1 (.fn (.func vector_each_1.f) [] [.ptr k 0]) [(k, fnOb g)] := by
  have := SB.new (each_ok g) k
  simpa [SV.ren, SV.rens, Hp.ren, Ob.ren, atN] using this
theorem all_ok {g : Nat} {op : Nat → Nat → Nat} (hg : Two g op) (l : List Vec) (hl : l.length < 1000000000) : SB Tryd.prog vector_all_api_Vector.f [.fn (.func vector_each_1.f) [] [.ptr 0 0], vecs l] [(0, fnOb g)] 1 0
    fun r F => r = .agg (Vec.all op l).cells ∧ F = [(0, fnOb g)] := by
  refine vector_all_api_Vector.enter rfl rfl (by simp) ?_
  dsimp only [vector_all_api_Vector.s, Co.M, Co.G, Co.J, Co.H, Co.N, Co.F, Co.C, Co.Z, Co.B, Co.b8, Co.b32, Co.b64, Co.i6, Co.z8, Co.z29]
  refine SW.seq ?_
  refine SW.reg [] mixed (by simp only [runs, runOp, goOp, sop, ev, evs, evp, upd, argE, List.lookup, Nat.reduceBEq, Nat.reduceAdd, Nat.reduceMul, Nat.zero_add, SV.cells, if_true, if_false, reduceIte, Bool.false_eq_true, roOf, hmrg, hsets, hdels, hset, hrep, hdel, touchL, lk, List.filter, Nat.reduceBNe, bne_self_eq_false, ldv, ldo, cellsAt, binV, binK, mvp, Vec.cells_one, BEq.rfl, beq_self_eq_true, Bool.true_or, Nat.reduceEqDiff, List.map_cons, List.map_nil, List.nil_append, List.cons_append, List.append_nil, Int.toNat_natCast, Nat.mul_one, Nat.add_zero, findS, keyOk, isAggS, msetS, mdelS, lookS, lookOk, Option.isSome_some, Option.isSome_none, Option.isNone_some, Option.isNone_none, Nat.zero_ne_one, Nat.one_ne_zero, Bool.and_false, Bool.and_true, List.drop_zero, Vec.zero_cells, Vec.take_all, Vec.spl_all, Dt.cells_one, Dt.take_all, Dt.get0, Dt.get1, Dt.spl_all, Dt.zero_cells, Dt.bld, bldS, datas, appB, appX, List.all_cons, List.all_nil, SV.isOne, Int.cast_ofNat_Int, Int.reduceBNe, Int.reduceBEq, Int.reduceLT, Int.reduceLE, Int.reduceGT, Int.reduceGE, one_map, bq_ft, bq_tf, Bool.not_true, Bool.not_false, Bool.or_false, Bool.or_true, Bool.false_or, Bool.or_self, Vec.row0, Vec.row8, Vec.row16, Vec.row24, Vec.datas_app, Vec.datas_one, Dt.row0, Dt.row2, Dt.datas_app, Dt.datas_one, List.all_append, Vec.eqb8, Dt.eqb, Bool.cond_true, Bool.cond_false]; rfl) (by simp [-List.length_flatMap, -Int.natCast_add] <;> omega) (by rfl) ?_
  refine SW.seq ?_
  refine SW.seq ?_
  refine SW.reg [] mixed (by simp only [runs, runOp, goOp, sop, ev, evs, evp, upd, argE, List.lookup, Nat.reduceBEq, Nat.reduceAdd, Nat.reduceMul, Nat.zero_add, SV.cells, if_true, if_false, reduceIte, Bool.false_eq_true, roOf, hmrg, hsets, hdels, hset, hrep, hdel, touchL, lk, List.filter, Nat.reduceBNe, bne_self_eq_false, ldv, ldo, cellsAt, binV, binK, mvp, Vec.cells_one, BEq.rfl, beq_self_eq_true, Bool.true_or, Nat.reduceEqDiff, List.map_cons, List.map_nil, List.nil_append, List.cons_append, List.append_nil, Int.toNat_natCast, Nat.mul_one, Nat.add_zero, findS, keyOk, isAggS, msetS, mdelS, lookS, lookOk, Option.isSome_some, Option.isSome_none, Option.isNone_some, Option.isNone_none, Nat.zero_ne_one, Nat.one_ne_zero, Bool.and_false, Bool.and_true, List.drop_zero, Vec.zero_cells, Vec.take_all, Vec.spl_all, Dt.cells_one, Dt.take_all, Dt.get0, Dt.get1, Dt.spl_all, Dt.zero_cells, Dt.bld, bldS, datas, appB, appX, List.all_cons, List.all_nil, SV.isOne, Int.cast_ofNat_Int, Int.reduceBNe, Int.reduceBEq, Int.reduceLT, Int.reduceLE, Int.reduceGT, Int.reduceGE, one_map, bq_ft, bq_tf, Bool.not_true, Bool.not_false, Bool.or_false, Bool.or_true, Bool.false_or, Bool.or_self, Vec.row0, Vec.row8, Vec.row16, Vec.row24, Vec.datas_app, Vec.datas_one, Dt.row0, Dt.row2, Dt.datas_app, Dt.datas_one, List.all_append, Vec.eqb8, Dt.eqb, Bool.cond_true, Bool.cond_false]; rfl) (by simp [-List.length_flatMap, -Int.natCast_add] <;> omega) (by rfl) ?_
  refine SW.block ?_
  refine SW.loopS (α := {i : Nat // i ≤ l.length}) (fun i => ⟨[(9, i64 i.1), (8, i64 l.length), (7, vecs l), (4, .ptr 1 0), (0, .fn (.func vector_each_1.f) [] [.ptr 0 0])], [(0, fnOb g), (1, .box 32 (Vec.all op (l.take i.1)).cells)], 2⟩) (fun i => l.length - i.1) ⟨0, by omega⟩ (by simp [Vec.all]; simp [Go.Sl.Sub, EnvS, HpS, SV.ok, Ob.ok, SV.oks, lk, List.lookup, Vec.cells_ok]) ?_
  rintro ⟨i, hi⟩
  refine SW.seq ?_
  refine SW.reg [] mixed (by simp only [runs, runOp, goOp, sop, ev, evs, evp, upd, argE, List.lookup, Nat.reduceBEq, Nat.reduceAdd, Nat.reduceMul, Nat.zero_add, SV.cells, if_true, if_false, reduceIte, Bool.false_eq_true, roOf, hmrg, hsets, hdels, hset, hrep, hdel, touchL, lk, List.filter, Nat.reduceBNe, bne_self_eq_false, ldv, ldo, cellsAt, binV, binK, mvp, Vec.cells_one, BEq.rfl, beq_self_eq_true, Bool.true_or, Nat.reduceEqDiff, List.map_cons, List.map_nil, List.nil_append, List.cons_append, List.append_nil, Int.toNat_natCast, Nat.mul_one, Nat.add_zero, findS, keyOk, isAggS, msetS, mdelS, lookS, lookOk, Option.isSome_some, Option.isSome_none, Option.isNone_some, Option.isNone_none, Nat.zero_ne_one, Nat.one_ne_zero, Bool.and_false, Bool.and_true, List.drop_zero, Vec.zero_cells, Vec.take_all, Vec.spl_all, Dt.cells_one, Dt.take_all, Dt.get0, Dt.get1, Dt.spl_all, Dt.zero_cells, Dt.bld, bldS, datas, appB, appX, List.all_cons, List.all_nil, SV.isOne, Int.cast_ofNat_Int, Int.reduceBNe, Int.reduceBEq, Int.reduceLT, Int.reduceLE, Int.reduceGT, Int.reduceGE, one_map, bq_ft, bq_tf, Bool.not_true, Bool.not_false, Bool.or_false, Bool.or_true, Bool.false_or, Bool.or_self, Vec.row0, Vec.row8, Vec.row16, Vec.row24, Vec.datas_app, Vec.datas_one, Dt.row0, Dt.row2, Dt.datas_app, Dt.datas_one, List.all_append, Vec.eqb8, Dt.eqb, Bool.cond_true, Bool.cond_false]; rfl) (by simp [-List.length_flatMap, -Int.natCast_add] <;> omega) (by rfl) ?_
  refine SW.seq ?_
  refine SW.cond rfl (fun h => SW.skip ?_) (fun h => SW.exit ?_)
  · have h : i < l.length := by simp at h; omega
    obtain ⟨x, hx⟩ := get_of_lt h
    refine SW.seq ?_
    refine SW.block ?_
    refine SW.seq ?_
    refine SW.reg [] mixed (by simp only [runs, runOp, goOp, sop, ev, evs, evp, upd, argE, List.lookup, Nat.reduceBEq, Nat.reduceAdd, Nat.reduceMul, Nat.zero_add, SV.cells, if_true, if_false, reduceIte, Bool.false_eq_true, roOf, hmrg, hsets, hdels, hset, hrep, hdel, touchL, lk, List.filter, Nat.reduceBNe, bne_self_eq_false, ldv, ldo, cellsAt, binV, binK, mvp, Vec.cells_one, BEq.rfl, beq_self_eq_true, Bool.true_or, Nat.reduceEqDiff, List.map_cons, List.map_nil, List.nil_append, List.cons_append, List.append_nil, Int.toNat_natCast, Nat.mul_one, Nat.add_zero, findS, keyOk, isAggS, msetS, mdelS, lookS, lookOk, Option.isSome_some, Option.isSome_none, Option.isNone_some, Option.isNone_none, Nat.zero_ne_one, Nat.one_ne_zero, Bool.and_false, Bool.and_true, List.drop_zero, Vec.zero_cells, Vec.take_all, Vec.spl_all, Dt.cells_one, Dt.take_all, Dt.get0, Dt.get1, Dt.spl_all, Dt.zero_cells, Dt.bld, bldS, datas, appB, appX, List.all_cons, List.all_nil, SV.isOne, Int.cast_ofNat_Int, Int.reduceBNe, Int.reduceBEq, Int.reduceLT, Int.reduceLE, Int.reduceGT, Int.reduceGE, one_map, bq_ft, bq_tf, Bool.not_true, Bool.not_false, Bool.or_false, Bool.or_true, Bool.false_or, Bool.or_self, Vec.row0, Vec.row8, Vec.row16, Vec.row24, Vec.datas_app, Vec.datas_one, Dt.row0, Dt.row2, Dt.datas_app, Dt.datas_one, List.all_append, Vec.eqb8, Dt.eqb, Bool.cond_true, Bool.cond_false, vec_at hx]; rfl) (by simp [-List.length_flatMap, -Int.natCast_add] <;> omega) (by rfl) ?_
    refine SW.seq ?_
    refine SW.reg [.call [(0, fnOb g)] (.agg (Vec.zip op (Vec.all op (l.take i)) x).cells) [(0, fnOb g)] 0] mixed (by simp only [runs, runOp, goOp, sop, ev, evs, evp, upd, argE, List.lookup, Nat.reduceBEq, Nat.reduceAdd, Nat.reduceMul, Nat.zero_add, SV.cells, if_true, if_false, reduceIte, Bool.false_eq_true, roOf, hmrg, hsets, hdels, hset, hrep, hdel, touchL, lk, List.filter, Nat.reduceBNe, bne_self_eq_false, ldv, ldo, cellsAt, binV, binK, mvp, Vec.cells_one, BEq.rfl, beq_self_eq_true, Bool.true_or, Nat.reduceEqDiff, List.map_cons, List.map_nil, List.nil_append, List.cons_append, List.append_nil, Int.toNat_natCast, Nat.mul_one, Nat.add_zero, findS, keyOk, isAggS, msetS, mdelS, lookS, lookOk, Option.isSome_some, Option.isSome_none, Option.isNone_some, Option.isNone_none, Nat.zero_ne_one, Nat.one_ne_zero, Bool.and_false, Bool.and_true, List.drop_zero, Vec.zero_cells, Vec.take_all, Vec.spl_all, Dt.cells_one, Dt.take_all, Dt.get0, Dt.get1, Dt.spl_all, Dt.zero_cells, Dt.bld, bldS, datas, appB, appX, List.all_cons, List.all_nil, SV.isOne, Int.cast_ofNat_Int, Int.reduceBNe, Int.reduceBEq, Int.reduceLT, Int.reduceLE, Int.reduceGT, Int.reduceGE, one_map, bq_ft, bq_tf, Bool.not_true, Bool.not_false, Bool.or_false, Bool.or_true, Bool.false_or, Bool.or_self, Vec.row0, Vec.row8, Vec.row16, Vec.row24, Vec.datas_app, Vec.datas_one, Dt.row0, Dt.row2, Dt.datas_app, Dt.datas_one, List.all_append, Vec.eqb8, Dt.eqb, Bool.cond_true, Bool.cond_false]; rfl) (by simp [-List.length_flatMap, -Int.natCast_add, lk, List.lookup, each1_at hg, lk] <;> omega) (by rfl) ?_
    refine SW.seq ?_
    refine SW.reg [] mixed (by simp only [runs, runOp, goOp, sop, ev, evs, evp, upd, argE, List.lookup, Nat.reduceBEq, Nat.reduceAdd, Nat.reduceMul, Nat.zero_add, SV.cells, if_true, if_false, reduceIte, Bool.false_eq_true, roOf, hmrg, hsets, hdels, hset, hrep, hdel, touchL, lk, List.filter, Nat.reduceBNe, bne_self_eq_false, ldv, ldo, cellsAt, binV, binK, mvp, Vec.cells_one, BEq.rfl, beq_self_eq_true, Bool.true_or, Nat.reduceEqDiff, List.map_cons, List.map_nil, List.nil_append, List.cons_append, List.append_nil, Int.toNat_natCast, Nat.mul_one, Nat.add_zero, findS, keyOk, isAggS, msetS, mdelS, lookS, lookOk, Option.isSome_some, Option.isSome_none, Option.isNone_some, Option.isNone_none, Nat.zero_ne_one, Nat.one_ne_zero, Bool.and_false, Bool.and_true, List.drop_zero, Vec.zero_cells, Vec.take_all, Vec.spl_all, Dt.cells_one, Dt.take_all, Dt.get0, Dt.get1, Dt.spl_all, Dt.zero_cells, Dt.bld, bldS, datas, appB, appX, List.all_cons, List.all_nil, SV.isOne, Int.cast_ofNat_Int, Int.reduceBNe, Int.reduceBEq, Int.reduceLT, Int.reduceLE, Int.reduceGT, Int.reduceGE, one_map, bq_ft, bq_tf, Bool.not_true, Bool.not_false, Bool.or_false, Bool.or_true, Bool.false_or, Bool.or_self, Vec.row0, Vec.row8, Vec.row16, Vec.row24, Vec.datas_app, Vec.datas_one, Dt.row0, Dt.row2, Dt.datas_app, Dt.datas_one, List.all_append, Vec.eqb8, Dt.eqb, Bool.cond_true, Bool.cond_false]; rfl) (by simp [-List.length_flatMap, -Int.natCast_add] <;> omega) (by rfl) ?_
    refine SW.cond rfl (fun hc => ?_) (fun hc => SW.skip ?_)
    · have hc : i = 0 := by simp at hc; omega
      subst hc
      refine SW.reg [] mixed (by simp only [runs, runOp, goOp, sop, ev, evs, evp, upd, argE, List.lookup, Nat.reduceBEq, Nat.reduceAdd, Nat.reduceMul, Nat.zero_add, SV.cells, if_true, if_false, reduceIte, Bool.false_eq_true, roOf, hmrg, hsets, hdels, hset, hrep, hdel, touchL, lk, List.filter, Nat.reduceBNe, bne_self_eq_false, ldv, ldo, cellsAt, binV, binK, mvp, Vec.cells_one, BEq.rfl, beq_self_eq_true, Bool.true_or, Nat.reduceEqDiff, List.map_cons, List.map_nil, List.nil_append, List.cons_append, List.append_nil, Int.toNat_natCast, Nat.mul_one, Nat.add_zero, findS, keyOk, isAggS, msetS, mdelS, lookS, lookOk, Option.isSome_some, Option.isSome_none, Option.isNone_some, Option.isNone_none, Nat.zero_ne_one, Nat.one_ne_zero, Bool.and_false, Bool.and_true, List.drop_zero, Vec.zero_cells, Vec.take_all, Vec.spl_all, Dt.cells_one, Dt.take_all, Dt.get0, Dt.get1, Dt.spl_all, Dt.zero_cells, Dt.bld, bldS, datas, appB, appX, List.all_cons, List.all_nil, SV.isOne, Int.cast_ofNat_Int, Int.reduceBNe, Int.reduceBEq, Int.reduceLT, Int.reduceLE, Int.reduceGT, Int.reduceGE, one_map, bq_ft, bq_tf, Bool.not_true, Bool.not_false, Bool.or_false, Bool.or_true, Bool.false_or, Bool.or_self, Vec.row0, Vec.row8, Vec.row16, Vec.row24, Vec.datas_app, Vec.datas_one, Dt.row0, Dt.row2, Dt.datas_app, Dt.datas_one, List.all_append, Vec.eqb8, Dt.eqb, Bool.cond_true, Bool.cond_false]; rfl) (by simp [-List.length_flatMap, -Int.natCast_add] <;> omega) (by rfl) ?_
      refine SW.reg [] mixed (by simp only [runs, runOp, goOp, sop, ev, evs, evp, upd, argE, List.lookup, Nat.reduceBEq, Nat.reduceAdd, Nat.reduceMul, Nat.zero_add, SV.cells, if_true, if_false, reduceIte, Bool.false_eq_true, roOf, hmrg, hsets, hdels, hset, hrep, hdel, touchL, lk, List.filter, Nat.reduceBNe, bne_self_eq_false, ldv, ldo, cellsAt, binV, binK, mvp, Vec.cells_one, BEq.rfl, beq_self_eq_true, Bool.true_or, Nat.reduceEqDiff, List.map_cons, List.map_nil, List.nil_append, List.cons_append, List.append_nil, Int.toNat_natCast, Nat.mul_one, Nat.add_zero, findS, keyOk, isAggS, msetS, mdelS, lookS, lookOk, Option.isSome_some, Option.isSome_none, Option.isNone_some, Option.isNone_none, Nat.zero_ne_one, Nat.one_ne_zero, Bool.and_false, Bool.and_true, List.drop_zero, Vec.zero_cells, Vec.take_all, Vec.spl_all, Dt.cells_one, Dt.take_all, Dt.get0, Dt.get1, Dt.spl_all, Dt.zero_cells, Dt.bld, bldS, datas, appB, appX, List.all_cons, List.all_nil, SV.isOne, Int.cast_ofNat_Int, Int.reduceBNe, Int.reduceBEq, Int.reduceLT, Int.reduceLE, Int.reduceGT, Int.reduceGE, one_map, bq_ft, bq_tf, Bool.not_true, Bool.not_false, Bool.or_false, Bool.or_true, Bool.false_or, Bool.or_self, Vec.row0, Vec.row8, Vec.row16, Vec.row24, Vec.datas_app, Vec.datas_one, Dt.row0, Dt.row2, Dt.datas_app, Dt.datas_one, List.all_append, Vec.eqb8, Dt.eqb, Bool.cond_true, Bool.cond_false, show IntKind.i64.wrap (0 + 1) = 1 from rfl]; rfl) (by simp [-List.length_flatMap, -Int.natCast_add] <;> omega) (by rfl) ?_
      refine ⟨⟨0 + 1, by omega⟩, by simp; omega, ?_⟩
      simp only [take_snoc hx, Vec.all_snoc]
      simp [Go.Sl.Sub, EnvS, HpS, SV.ok, Ob.ok, SV.oks, lk, List.lookup, Vec.cells_ok]
    · have hc : i ≠ 0 := by simp at hc; omega
      refine SW.reg [] mixed (by simp only [runs, runOp, goOp, sop, ev, evs, evp, upd, argE, List.lookup, Nat.reduceBEq, Nat.reduceAdd, Nat.reduceMul, Nat.zero_add, SV.cells, if_true, if_false, reduceIte, Bool.false_eq_true, roOf, hmrg, hsets, hdels, hset, hrep, hdel, touchL, lk, List.filter, Nat.reduceBNe, bne_self_eq_false, ldv, ldo, cellsAt, binV, binK, mvp, Vec.cells_one, BEq.rfl, beq_self_eq_true, Bool.true_or, Nat.reduceEqDiff, List.map_cons, List.map_nil, List.nil_append, List.cons_append, List.append_nil, Int.toNat_natCast, Nat.mul_one, Nat.add_zero, findS, keyOk, isAggS, msetS, mdelS, lookS, lookOk, Option.isSome_some, Option.isSome_none, Option.isNone_some, Option.isNone_none, Nat.zero_ne_one, Nat.one_ne_zero, Bool.and_false, Bool.and_true, List.drop_zero, Vec.zero_cells, Vec.take_all, Vec.spl_all, Dt.cells_one, Dt.take_all, Dt.get0, Dt.get1, Dt.spl_all, Dt.zero_cells, Dt.bld, bldS, datas, appB, appX, List.all_cons, List.all_nil, SV.isOne, Int.cast_ofNat_Int, Int.reduceBNe, Int.reduceBEq, Int.reduceLT, Int.reduceLE, Int.reduceGT, Int.reduceGE, one_map, bq_ft, bq_tf, Bool.not_true, Bool.not_false, Bool.or_false, Bool.or_true, Bool.false_or, Bool.or_self, Vec.row0, Vec.row8, Vec.row16, Vec.row24, Vec.datas_app, Vec.datas_one, Dt.row0, Dt.row2, Dt.datas_app, Dt.datas_one, List.all_append, Vec.eqb8, Dt.eqb, Bool.cond_true, Bool.cond_false, wrap_succ i (by omega)]; rfl) (by simp [-List.length_flatMap, -Int.natCast_add] <;> omega) (by rfl) ?_
      refine ⟨⟨i + 1, by omega⟩, by simp; omega, ?_⟩
      simp only [take_snoc hx, Vec.all_snoc, List.length_take, show ¬ (min i l.length = 0) by omega, if_false]
      simp [Go.Sl.Sub, EnvS, HpS, SV.ok, Ob.ok, SV.oks, lk, List.lookup, Vec.cells_ok]
  · have h : i = l.length := by simp at h; omega
    subst h
    refine SW.seq ?_
    simp only [List.take_length]
    refine SW.reg [] mixed (by simp only [runs, runOp, goOp, sop, ev, evs, evp, upd, argE, List.lookup, Nat.reduceBEq, Nat.reduceAdd, Nat.reduceMul, Nat.zero_add, SV.cells, if_true, if_false, reduceIte, Bool.false_eq_true, roOf, hmrg, hsets, hdels, hset, hrep, hdel, touchL, lk, List.filter, Nat.reduceBNe, bne_self_eq_false, ldv, ldo, cellsAt, binV, binK, mvp, Vec.cells_one, BEq.rfl, beq_self_eq_true, Bool.true_or, Nat.reduceEqDiff, List.map_cons, List.map_nil, List.nil_append, List.cons_append, List.append_nil, Int.toNat_natCast, Nat.mul_one, Nat.add_zero, findS, keyOk, isAggS, msetS, mdelS, lookS, lookOk, Option.isSome_some, Option.isSome_none, Option.isNone_some, Option.isNone_none, Nat.zero_ne_one, Nat.one_ne_zero, Bool.and_false, Bool.and_true, List.drop_zero, Vec.zero_cells, Vec.take_all, Vec.spl_all, Dt.cells_one, Dt.take_all, Dt.get0, Dt.get1, Dt.spl_all, Dt.zero_cells, Dt.bld, bldS, datas, appB, appX, List.all_cons, List.all_nil, SV.isOne, Int.cast_ofNat_Int, Int.reduceBNe, Int.reduceBEq, Int.reduceLT, Int.reduceLE, Int.reduceGT, Int.reduceGE, one_map, bq_ft, bq_tf, Bool.not_true, Bool.not_false, Bool.or_false, Bool.or_true, Bool.false_or, Bool.or_self, Vec.row0, Vec.row8, Vec.row16, Vec.row24, Vec.datas_app, Vec.datas_one, Dt.row0, Dt.row2, Dt.datas_app, Dt.datas_one, List.all_append, Vec.eqb8, Dt.eqb, Bool.cond_true, Bool.cond_false]; rfl) (by simp [-List.length_flatMap, -Int.natCast_add] <;> omega) (by rfl) ?_
    refine SW.ret ?_
    exact ⟨_, _, [(0, fnOb g)], by rfl, by simp [ldo], by simp [lk], ⟨rfl, rfl⟩, rfl, rfl, by simp⟩
theorem all_at {g : Nat} {op : Nat → Nat → Nat} (hg : Two g op) (l : List Vec) (hl : l.length < 1000000000) (n k : Nat) : SCd Tryd.prog vector_all_api_Vector.f [.fn (.func vector_each_1.f) [] [.ptr n 0], vecs l] [(n, fnOb g)] k 0 (.agg (Vec.all op l).cells) [(n, fnOb g)] :=
  SB.atL [n] (all_ok hg l hl) (by simp) (by simp [lk]) k
theorem merge_ok (l : List Vec) (hl : l.length < 1000000000) : Pure Tryd.prog vector_Merge.f [vecs l] (.agg (Vec.all max l).cells) := by
  refine vector_Merge.enter rfl rfl (by simp) ?_
  dsimp only [vector_Merge.s, Co.M, Co.G, Co.J, Co.H, Co.N, Co.F, Co.C, Co.Z, Co.B, Co.b8, Co.b32, Co.b64, Co.i6, Co.z8, Co.z29]
  refine SW.seq ?_
  refine SW.reg [] mixed (by simp only [runs, runOp, goOp, sop, ev, evs, evp, upd, argE, List.lookup, Nat.reduceBEq, Nat.reduceAdd, Nat.reduceMul, Nat.zero_add, SV.cells, if_true, if_false, reduceIte, Bool.false_eq_true, roOf, hmrg, hsets, hdels, hset, hrep, hdel, touchL, lk, List.filter, Nat.reduceBNe, bne_self_eq_false, ldv, ldo, cellsAt, binV, binK, mvp, Vec.cells_one, BEq.rfl, beq_self_eq_true, Bool.true_or, Nat.reduceEqDiff, List.map_cons, List.map_nil, List.nil_append, List.cons_append, List.append_nil, Int.toNat_natCast, Nat.mul_one, Nat.add_zero, findS, keyOk, isAggS, msetS, mdelS, lookS, lookOk, Option.isSome_some, Option.isSome_none, Option.isNone_some, Option.isNone_none, Nat.zero_ne_one, Nat.one_ne_zero, Bool.and_false, Bool.and_true, List.drop_zero, Vec.zero_cells, Vec.take_all, Vec.spl_all, Dt.cells_one, Dt.take_all, Dt.get0, Dt.get1, Dt.spl_all, Dt.zero_cells, Dt.bld, bldS, datas, appB, appX, List.all_cons, List.all_nil, SV.isOne, Int.cast_ofNat_Int, Int.reduceBNe, Int.reduceBEq, Int.reduceLT, Int.reduceLE, Int.reduceGT, Int.reduceGE, one_map, bq_ft, bq_tf, Bool.not_true, Bool.not_false, Bool.or_false, Bool.or_true, Bool.false_or, Bool.or_self, Vec.row0, Vec.row8, Vec.row16, Vec.row24, Vec.datas_app, Vec.datas_one, Dt.row0, Dt.row2, Dt.datas_app, Dt.datas_one, List.all_append, Vec.eqb8, Dt.eqb, Bool.cond_true, Bool.cond_false]; rfl) (by simp [-List.length_flatMap, -Int.natCast_add] <;> omega) (by rfl) ?_
  refine SW.seq ?_
  refine SW.reg [.call [] (.fn (.func vector_each_1.f) [] [.ptr 1 0]) [(1, fnOb vector_Merge_1.f)] 1, .call [(1, fnOb vector_Merge_1.f)] (.agg (Vec.all max l).cells) [(1, fnOb vector_Merge_1.f)] 0] mixed (by simp only [runs, runOp, goOp, sop, ev, evs, evp, upd, argE, List.lookup, Nat.reduceBEq, Nat.reduceAdd, Nat.reduceMul, Nat.zero_add, SV.cells, if_true, if_false, reduceIte, Bool.false_eq_true, roOf, hmrg, hsets, hdels, hset, hrep, hdel, touchL, lk, List.filter, Nat.reduceBNe, bne_self_eq_false, ldv, ldo, cellsAt, binV, binK, mvp, Vec.cells_one, BEq.rfl, beq_self_eq_true, Bool.true_or, Nat.reduceEqDiff, List.map_cons, List.map_nil, List.nil_append, List.cons_append, List.append_nil, Int.toNat_natCast, Nat.mul_one, Nat.add_zero, findS, keyOk, isAggS, msetS, mdelS, lookS, lookOk, Option.isSome_some, Option.isSome_none, Option.isNone_some, Option.isNone_none, Nat.zero_ne_one, Nat.one_ne_zero, Bool.and_false, Bool.and_true, List.drop_zero, Vec.zero_cells, Vec.take_all, Vec.spl_all, Dt.cells_one, Dt.take_all, Dt.get0, Dt.get1, Dt.spl_all, Dt.zero_cells, Dt.bld, bldS, datas, appB, appX, List.all_cons, List.all_nil, SV.isOne, Int.cast_ofNat_Int, Int.reduceBNe, Int.reduceBEq, Int.reduceLT, Int.reduceLE, Int.reduceGT, Int.reduceGE, one_map, bq_ft, bq_tf, Bool.not_true, Bool.not_false, Bool.or_false, Bool.or_true, Bool.false_or, Bool.or_self, Vec.row0, Vec.row8, Vec.row16, Vec.row24, Vec.datas_app, Vec.datas_one, Dt.row0, Dt.row2, Dt.datas_app, Dt.datas_one, List.all_append, Vec.eqb8, Dt.eqb, Bool.cond_true, Bool.cond_false]; rfl) (by simp [-List.length_flatMap, -Int.natCast_add, lk, List.lookup, each_at, all_at two_max l hl, lk] <;> omega) (by rfl) ?_
  refine SW.ret ?_
  exact ⟨_, _, [], by rfl, by simp [ldo], by simp, ⟨rfl, rfl⟩, rfl, rfl, by simp⟩
end Go.Proofs.YtemghnbbmahaaaaDoor
namespace Go.Proofs.YtemghnbbmahaaaaDoor
open Go.Sl Go.Proofs
theorem may_ok4 (d : Dt) : Go.Sl.Pure Tryd.prog dot_May.f [.agg d.cells] (bl d.may) := by
  obtain ⟨r, n⟩ := d
  refine dot_May.enter rfl rfl (by simp) ?_
  dsimp only [dot_May.s, Co.M, Co.G, Co.J, Co.H, Co.N, Co.F, Co.C, Co.Z, Co.B, Co.b8, Co.b32, Co.b64, Co.i6, Co.z8, Co.z29]
  refine SW.seq ?_
  refine SW.reg [] mixed (by simp only [runs, runOp, goOp, sop, ev, evs, evp, upd, argE, List.lookup, Nat.reduceBEq, Nat.reduceAdd, Nat.reduceMul, Nat.zero_add, SV.cells, if_true, if_false, reduceIte, Bool.false_eq_true, roOf, hmrg, hsets, hdels, hset, hrep, hdel, touchL, lk, List.filter, Nat.reduceBNe, bne_self_eq_false, ldv, ldo, cellsAt, binV, binK, mvp, Vec.cells_one, BEq.rfl, beq_self_eq_true, Bool.true_or, Nat.reduceEqDiff, List.map_cons, List.map_nil, List.nil_append, List.cons_append, List.append_nil, Int.toNat_natCast, Nat.mul_one, Nat.add_zero, findS, keyOk, isAggS, msetS, mdelS, lookS, lookOk, Option.isSome_some, Option.isSome_none, Option.isNone_some, Option.isNone_none, Nat.zero_ne_one, Nat.one_ne_zero, Bool.and_false, Bool.and_true, List.drop_zero, Vec.zero_cells, Vec.take_all, Vec.spl_all, Dt.cells_one, Dt.take_all, Dt.get0, Dt.get1, Dt.spl_all, Dt.zero_cells, Dt.bld, bldS, datas, appB, appX, List.all_cons, List.all_nil, SV.isOne, Int.cast_ofNat_Int, Int.reduceBNe, Int.reduceBEq, Int.reduceLT, Int.reduceLE, Int.reduceGT, Int.reduceGE, one_map, bq_ft, bq_tf, Bool.not_true, Bool.not_false, Bool.or_false, Bool.or_true, Bool.false_or, Bool.or_self, Vec.row0, Vec.row8, Vec.row16, Vec.row24, Vec.datas_app, Vec.datas_one, Dt.row0, Dt.row2, Dt.datas_app, Dt.datas_one, List.all_append, Vec.eqb8, Dt.eqb, Bool.cond_true, Bool.cond_false]; rfl) (by simp [-List.length_flatMap, -Int.natCast_add] <;> omega) (by rfl) ?_
  refine SW.seq ?_
  by_cases h : (r : Int) < 8
  · refine SW.reg [] mixed (by simp only [runs, runOp, goOp, sop, ev, evs, evp, upd, argE, List.lookup, Nat.reduceBEq, Nat.reduceAdd, Nat.reduceMul, Nat.zero_add, SV.cells, if_true, if_false, reduceIte, Bool.false_eq_true, roOf, hmrg, hsets, hdels, hset, hrep, hdel, touchL, lk, List.filter, Nat.reduceBNe, bne_self_eq_false, ldv, ldo, cellsAt, binV, binK, mvp, Vec.cells_one, BEq.rfl, beq_self_eq_true, Bool.true_or, Nat.reduceEqDiff, List.map_cons, List.map_nil, List.nil_append, List.cons_append, List.append_nil, Int.toNat_natCast, Nat.mul_one, Nat.add_zero, findS, keyOk, isAggS, msetS, mdelS, lookS, lookOk, Option.isSome_some, Option.isSome_none, Option.isNone_some, Option.isNone_none, Nat.zero_ne_one, Nat.one_ne_zero, Bool.and_false, Bool.and_true, List.drop_zero, Vec.zero_cells, Vec.take_all, Vec.spl_all, Dt.cells_one, Dt.take_all, Dt.get0, Dt.get1, Dt.spl_all, Dt.zero_cells, Dt.bld, bldS, datas, appB, appX, List.all_cons, List.all_nil, SV.isOne, Int.cast_ofNat_Int, Int.reduceBNe, Int.reduceBEq, Int.reduceLT, Int.reduceLE, Int.reduceGT, Int.reduceGE, one_map, bq_ft, bq_tf, Bool.not_true, Bool.not_false, Bool.or_false, Bool.or_true, Bool.false_or, Bool.or_self, Vec.row0, Vec.row8, Vec.row16, Vec.row24, Vec.datas_app, Vec.datas_one, Dt.row0, Dt.row2, Dt.datas_app, Dt.datas_one, List.all_append, Vec.eqb8, Dt.eqb, Bool.cond_true, Bool.cond_false, Dt.cells, h, decide_true, List.getElem?_cons_zero, List.getElem?_cons_succ]; rfl) (by simp [-List.length_flatMap, -Int.natCast_add] <;> omega) (by rfl) ?_
    refine SW.ret ?_
    refine fin_pure (by rfl) (by simp [ldo]) ?_ rfl
    have : r < 8 := by omega
    simp [retV, Dt.may, this]
  · refine SW.reg [] mixed (by simp only [runs, runOp, goOp, sop, ev, evs, evp, upd, argE, List.lookup, Nat.reduceBEq, Nat.reduceAdd, Nat.reduceMul, Nat.zero_add, SV.cells, if_true, if_false, reduceIte, Bool.false_eq_true, roOf, hmrg, hsets, hdels, hset, hrep, hdel, touchL, lk, List.filter, Nat.reduceBNe, bne_self_eq_false, ldv, ldo, cellsAt, binV, binK, mvp, Vec.cells_one, BEq.rfl, beq_self_eq_true, Bool.true_or, Nat.reduceEqDiff, List.map_cons, List.map_nil, List.nil_append, List.cons_append, List.append_nil, Int.toNat_natCast, Nat.mul_one, Nat.add_zero, findS, keyOk, isAggS, msetS, mdelS, lookS, lookOk, Option.isSome_some, Option.isSome_none, Option.isNone_some, Option.isNone_none, Nat.zero_ne_one, Nat.one_ne_zero, Bool.and_false, Bool.and_true, List.drop_zero, Vec.zero_cells, Vec.take_all, Vec.spl_all, Dt.cells_one, Dt.take_all, Dt.get0, Dt.get1, Dt.spl_all, Dt.zero_cells, Dt.bld, bldS, datas, appB, appX, List.all_cons, List.all_nil, SV.isOne, Int.cast_ofNat_Int, Int.reduceBNe, Int.reduceBEq, Int.reduceLT, Int.reduceLE, Int.reduceGT, Int.reduceGE, one_map, bq_ft, bq_tf, Bool.not_true, Bool.not_false, Bool.or_false, Bool.or_true, Bool.false_or, Bool.or_self, Vec.row0, Vec.row8, Vec.row16, Vec.row24, Vec.datas_app, Vec.datas_one, Dt.row0, Dt.row2, Dt.datas_app, Dt.datas_one, List.all_append, Vec.eqb8, Dt.eqb, Bool.cond_true, Bool.cond_false, Dt.cells, h, decide_false, List.getElem?_cons_zero, List.getElem?_cons_succ]; rfl) (by simp [-List.length_flatMap, -Int.natCast_add] <;> omega) (by rfl) ?_
    refine SW.ret ?_
    refine fin_pure (by rfl) (by simp [ldo]) ?_ rfl
    have : ¬ r < 8 := by omega
    simp [retV, Dt.may, this]
theorem merge2_at (a b : Vec) (k : Nat) : SCd Tryd.prog vector_Merge.f [.d (.sl 2 (a.ds ++ b.ds))] [] k 0 (.agg (Vec.zip max a b).cells) [] := (merge_ok [a, b] (by simp)).sc rfl k
theorem above_ok (a b : Vec) : Go.Sl.Pure Tryd.prog vector_Above.f [.agg a.cells, .agg b.cells] (bl (a.above b)) := by
  refine vector_Above.enter rfl rfl (by simp) ?_
  dsimp only [vector_Above.s, Co.M, Co.G, Co.J, Co.H, Co.N, Co.F, Co.C, Co.Z, Co.B, Co.b8, Co.b32, Co.b64, Co.i6, Co.z8, Co.z29]
  refine SW.seq ?_
  refine SW.reg [] mixed (by simp only [runs, runOp, goOp, sop, ev, evs, evp, upd, argE, List.lookup, Nat.reduceBEq, Nat.reduceAdd, Nat.reduceMul, Nat.zero_add, SV.cells, if_true, if_false, reduceIte, Bool.false_eq_true, roOf, hmrg, hsets, hdels, hset, hrep, hdel, touchL, lk, List.filter, Nat.reduceBNe, bne_self_eq_false, ldv, ldo, cellsAt, binV, binK, mvp, Vec.cells_one, BEq.rfl, beq_self_eq_true, Bool.true_or, Nat.reduceEqDiff, List.map_cons, List.map_nil, List.nil_append, List.cons_append, List.append_nil, Int.toNat_natCast, Nat.mul_one, Nat.add_zero, findS, keyOk, isAggS, msetS, mdelS, lookS, lookOk, Option.isSome_some, Option.isSome_none, Option.isNone_some, Option.isNone_none, Nat.zero_ne_one, Nat.one_ne_zero, Bool.and_false, Bool.and_true, List.drop_zero, Vec.zero_cells, Vec.take_all, Vec.spl_all, Dt.cells_one, Dt.take_all, Dt.get0, Dt.get1, Dt.spl_all, Dt.zero_cells, Dt.bld, bldS, datas, appB, appX, List.all_cons, List.all_nil, SV.isOne, Int.cast_ofNat_Int, Int.reduceBNe, Int.reduceBEq, Int.reduceLT, Int.reduceLE, Int.reduceGT, Int.reduceGE, one_map, bq_ft, bq_tf, Bool.not_true, Bool.not_false, Bool.or_false, Bool.or_true, Bool.false_or, Bool.or_self, Vec.row0, Vec.row8, Vec.row16, Vec.row24, Vec.datas_app, Vec.datas_one, Dt.row0, Dt.row2, Dt.datas_app, Dt.datas_one, List.all_append, Vec.eqb8, Dt.eqb, Bool.cond_true, Bool.cond_false]; rfl) (by simp [-List.length_flatMap, -Int.natCast_add] <;> omega) (by rfl) ?_
  refine SW.seq ?_
  refine SW.reg [.call [] (.agg (Vec.zip max a b).cells) [] 0] mixed (by simp only [runs, runOp, goOp, sop, ev, evs, evp, upd, argE, List.lookup, Nat.reduceBEq, Nat.reduceAdd, Nat.reduceMul, Nat.zero_add, SV.cells, if_true, if_false, reduceIte, Bool.false_eq_true, roOf, hmrg, hsets, hdels, hset, hrep, hdel, touchL, lk, List.filter, Nat.reduceBNe, bne_self_eq_false, ldv, ldo, cellsAt, binV, binK, mvp, Vec.cells_one, BEq.rfl, beq_self_eq_true, Bool.true_or, Nat.reduceEqDiff, List.map_cons, List.map_nil, List.nil_append, List.cons_append, List.append_nil, Int.toNat_natCast, Nat.mul_one, Nat.add_zero, findS, keyOk, isAggS, msetS, mdelS, lookS, lookOk, Option.isSome_some, Option.isSome_none, Option.isNone_some, Option.isNone_none, Nat.zero_ne_one, Nat.one_ne_zero, Bool.and_false, Bool.and_true, List.drop_zero, Vec.zero_cells, Vec.take_all, Vec.spl_all, Dt.cells_one, Dt.take_all, Dt.get0, Dt.get1, Dt.spl_all, Dt.zero_cells, Dt.bld, bldS, datas, appB, appX, List.all_cons, List.all_nil, SV.isOne, Int.cast_ofNat_Int, Int.reduceBNe, Int.reduceBEq, Int.reduceLT, Int.reduceLE, Int.reduceGT, Int.reduceGE, one_map, bq_ft, bq_tf, Bool.not_true, Bool.not_false, Bool.or_false, Bool.or_true, Bool.false_or, Bool.or_self, Vec.row0, Vec.row8, Vec.row16, Vec.row24, Vec.datas_app, Vec.datas_one, Dt.row0, Dt.row2, Dt.datas_app, Dt.datas_one, List.all_append, Vec.eqb8, Dt.eqb, Bool.cond_true, Bool.cond_false]; rfl) (by simp [-List.length_flatMap, -Int.natCast_add, lk, List.lookup, merge2_at] <;> omega) (by rfl) ?_
  refine SW.ret ?_
  refine fin_pure (by rfl) (by simp [ldo]) ?_ rfl
  simp [retV, Vec.above_merge]
theorem above_at4 (a b : Vec) (k : Nat) : SCd Tryd.prog vector_Above.f [.agg a.cells, .agg b.cells] [] k 0 (bl (a.above b)) [] := (above_ok a b).sc rfl k
theorem count_ok (v : Vec) (hv : v.wf) : Go.Sl.Pure Tryd.prog vector_Count.f [.agg v.cells] (u64 v.count) := by
  refine vector_Count.enter rfl rfl (by simp) ?_
  dsimp only [vector_Count.s, Co.M, Co.G, Co.J, Co.H, Co.N, Co.F, Co.C, Co.Z, Co.B, Co.b8, Co.b32, Co.b64, Co.i6, Co.z8, Co.z29]
  refine SW.seq ?_
  refine SW.reg [] mixed (by simp only [runs, runOp, goOp, sop, ev, evs, evp, upd, argE, List.lookup, Nat.reduceBEq, Nat.reduceAdd, Nat.reduceMul, Nat.zero_add, SV.cells, if_true, if_false, reduceIte, Bool.false_eq_true, roOf, hmrg, hsets, hdels, hset, hrep, hdel, touchL, lk, List.filter, Nat.reduceBNe, bne_self_eq_false, ldv, ldo, cellsAt, binV, binK, mvp, Vec.cells_one, BEq.rfl, beq_self_eq_true, Bool.true_or, Nat.reduceEqDiff, List.map_cons, List.map_nil, List.nil_append, List.cons_append, List.append_nil, Int.toNat_natCast, Nat.mul_one, Nat.add_zero, findS, keyOk, isAggS, msetS, mdelS, lookS, lookOk, Option.isSome_some, Option.isSome_none, Option.isNone_some, Option.isNone_none, Nat.zero_ne_one, Nat.one_ne_zero, Bool.and_false, Bool.and_true, List.drop_zero, Vec.zero_cells, Vec.take_all, Vec.spl_all, Dt.cells_one, Dt.take_all, Dt.get0, Dt.get1, Dt.spl_all, Dt.zero_cells, Dt.bld, bldS, datas, appB, appX, List.all_cons, List.all_nil, SV.isOne, Int.cast_ofNat_Int, Int.reduceBNe, Int.reduceBEq, Int.reduceLT, Int.reduceLE, Int.reduceGT, Int.reduceGE, one_map, bq_ft, bq_tf, Bool.not_true, Bool.not_false, Bool.or_false, Bool.or_true, Bool.false_or, Bool.or_self, Vec.row0, Vec.row8, Vec.row16, Vec.row24, Vec.datas_app, Vec.datas_one, Dt.row0, Dt.row2, Dt.datas_app, Dt.datas_one, List.all_append, Vec.eqb8, Dt.eqb, Bool.cond_true, Bool.cond_false]; rfl) (by simp [-List.length_flatMap, -Int.natCast_add] <;> omega) (by rfl) ?_
  refine SW.seq ?_
  refine SW.reg [] mixed (by simp only [runs, runOp, goOp, sop, ev, evs, evp, upd, argE, List.lookup, Nat.reduceBEq, Nat.reduceAdd, Nat.reduceMul, Nat.zero_add, SV.cells, if_true, if_false, reduceIte, Bool.false_eq_true, roOf, hmrg, hsets, hdels, hset, hrep, hdel, touchL, lk, List.filter, Nat.reduceBNe, bne_self_eq_false, ldv, ldo, cellsAt, binV, binK, mvp, Vec.cells_one, BEq.rfl, beq_self_eq_true, Bool.true_or, Nat.reduceEqDiff, List.map_cons, List.map_nil, List.nil_append, List.cons_append, List.append_nil, Int.toNat_natCast, Nat.mul_one, Nat.add_zero, findS, keyOk, isAggS, msetS, mdelS, lookS, lookOk, Option.isSome_some, Option.isSome_none, Option.isNone_some, Option.isNone_none, Nat.zero_ne_one, Nat.one_ne_zero, Bool.and_false, Bool.and_true, List.drop_zero, Vec.zero_cells, Vec.take_all, Vec.spl_all, Dt.cells_one, Dt.take_all, Dt.get0, Dt.get1, Dt.spl_all, Dt.zero_cells, Dt.bld, bldS, datas, appB, appX, List.all_cons, List.all_nil, SV.isOne, Int.cast_ofNat_Int, Int.reduceBNe, Int.reduceBEq, Int.reduceLT, Int.reduceLE, Int.reduceGT, Int.reduceGE, one_map, bq_ft, bq_tf, Bool.not_true, Bool.not_false, Bool.or_false, Bool.or_true, Bool.false_or, Bool.or_self, Vec.row0, Vec.row8, Vec.row16, Vec.row24, Vec.datas_app, Vec.datas_one, Dt.row0, Dt.row2, Dt.datas_app, Dt.datas_one, List.all_append, Vec.eqb8, Dt.eqb, Bool.cond_true, Bool.cond_false]; rfl) (by simp [-List.length_flatMap, -Int.natCast_add] <;> omega) (by rfl) ?_
  refine SW.seq ?_
  refine SW.seq ?_
  refine SW.reg [] mixed (by simp only [runs, runOp, goOp, sop, ev, evs, evp, upd, argE, List.lookup, Nat.reduceBEq, Nat.reduceAdd, Nat.reduceMul, Nat.zero_add, SV.cells, if_true, if_false, reduceIte, Bool.false_eq_true, roOf, hmrg, hsets, hdels, hset, hrep, hdel, touchL, lk, List.filter, Nat.reduceBNe, bne_self_eq_false, ldv, ldo, cellsAt, binV, binK, mvp, Vec.cells_one, BEq.rfl, beq_self_eq_true, Bool.true_or, Nat.reduceEqDiff, List.map_cons, List.map_nil, List.nil_append, List.cons_append, List.append_nil, Int.toNat_natCast, Nat.mul_one, Nat.add_zero, findS, keyOk, isAggS, msetS, mdelS, lookS, lookOk, Option.isSome_some, Option.isSome_none, Option.isNone_some, Option.isNone_none, Nat.zero_ne_one, Nat.one_ne_zero, Bool.and_false, Bool.and_true, List.drop_zero, Vec.zero_cells, Vec.take_all, Vec.spl_all, Dt.cells_one, Dt.take_all, Dt.get0, Dt.get1, Dt.spl_all, Dt.zero_cells, Dt.bld, bldS, datas, appB, appX, List.all_cons, List.all_nil, SV.isOne, Int.cast_ofNat_Int, Int.reduceBNe, Int.reduceBEq, Int.reduceLT, Int.reduceLE, Int.reduceGT, Int.reduceGE, one_map, bq_ft, bq_tf, Bool.not_true, Bool.not_false, Bool.or_false, Bool.or_true, Bool.false_or, Bool.or_self, Vec.row0, Vec.row8, Vec.row16, Vec.row24, Vec.datas_app, Vec.datas_one, Dt.row0, Dt.row2, Dt.datas_app, Dt.datas_one, List.all_append, Vec.eqb8, Dt.eqb, Bool.cond_true, Bool.cond_false]; rfl) (by simp [-List.length_flatMap, -Int.natCast_add] <;> omega) (by rfl) ?_
  refine SW.block ?_
  refine SW.loopS (α := {i : Nat // i ≤ 8}) (fun i => ⟨[(7, i64 i.1), (6, .agg v.cells), (3, u64 (v.sum i.1))], [], 1⟩) (fun i => 8 - i.1) ⟨0, by omega⟩ (by simp only [Vec.sum]; simp [Go.Sl.Sub, EnvS, HpS, SV.ok, Ob.ok, SV.oks, lk, List.lookup, Vec.cells_ok]) ?_
  rintro ⟨i, hi⟩
  refine SW.seq ?_
  refine SW.reg [] mixed (by simp only [runs, runOp, goOp, sop, ev, evs, evp, upd, argE, List.lookup, Nat.reduceBEq, Nat.reduceAdd, Nat.reduceMul, Nat.zero_add, SV.cells, if_true, if_false, reduceIte, Bool.false_eq_true, roOf, hmrg, hsets, hdels, hset, hrep, hdel, touchL, lk, List.filter, Nat.reduceBNe, bne_self_eq_false, ldv, ldo, cellsAt, binV, binK, mvp, Vec.cells_one, BEq.rfl, beq_self_eq_true, Bool.true_or, Nat.reduceEqDiff, List.map_cons, List.map_nil, List.nil_append, List.cons_append, List.append_nil, Int.toNat_natCast, Nat.mul_one, Nat.add_zero, findS, keyOk, isAggS, msetS, mdelS, lookS, lookOk, Option.isSome_some, Option.isSome_none, Option.isNone_some, Option.isNone_none, Nat.zero_ne_one, Nat.one_ne_zero, Bool.and_false, Bool.and_true, List.drop_zero, Vec.zero_cells, Vec.take_all, Vec.spl_all, Dt.cells_one, Dt.take_all, Dt.get0, Dt.get1, Dt.spl_all, Dt.zero_cells, Dt.bld, bldS, datas, appB, appX, List.all_cons, List.all_nil, SV.isOne, Int.cast_ofNat_Int, Int.reduceBNe, Int.reduceBEq, Int.reduceLT, Int.reduceLE, Int.reduceGT, Int.reduceGE, one_map, bq_ft, bq_tf, Bool.not_true, Bool.not_false, Bool.or_false, Bool.or_true, Bool.false_or, Bool.or_self, Vec.row0, Vec.row8, Vec.row16, Vec.row24, Vec.datas_app, Vec.datas_one, Dt.row0, Dt.row2, Dt.datas_app, Dt.datas_one, List.all_append, Vec.eqb8, Dt.eqb, Bool.cond_true, Bool.cond_false]; rfl) (by simp [-List.length_flatMap, -Int.natCast_add] <;> omega) (by rfl) ?_
  refine SW.seq ?_
  refine SW.cond rfl (fun h => SW.skip ?_) (fun h => SW.exit ?_)
  · have h : i < 8 := by simp at h; omega
    have b1 := v.sum_le hv i hi
    have b2 := hv i h
    refine SW.seq ?_
    refine SW.block ?_
    refine SW.seq ?_
    refine SW.reg [] mixed (by simp only [runs, runOp, goOp, sop, ev, evs, evp, upd, argE, List.lookup, Nat.reduceBEq, Nat.reduceAdd, Nat.reduceMul, Nat.zero_add, SV.cells, if_true, if_false, reduceIte, Bool.false_eq_true, roOf, hmrg, hsets, hdels, hset, hrep, hdel, touchL, lk, List.filter, Nat.reduceBNe, bne_self_eq_false, ldv, ldo, cellsAt, binV, binK, mvp, Vec.cells_one, BEq.rfl, beq_self_eq_true, Bool.true_or, Nat.reduceEqDiff, List.map_cons, List.map_nil, List.nil_append, List.cons_append, List.append_nil, Int.toNat_natCast, Nat.mul_one, Nat.add_zero, findS, keyOk, isAggS, msetS, mdelS, lookS, lookOk, Option.isSome_some, Option.isSome_none, Option.isNone_some, Option.isNone_none, Nat.zero_ne_one, Nat.one_ne_zero, Bool.and_false, Bool.and_true, List.drop_zero, Vec.zero_cells, Vec.take_all, Vec.spl_all, Dt.cells_one, Dt.take_all, Dt.get0, Dt.get1, Dt.spl_all, Dt.zero_cells, Dt.bld, bldS, datas, appB, appX, List.all_cons, List.all_nil, SV.isOne, Int.cast_ofNat_Int, Int.reduceBNe, Int.reduceBEq, Int.reduceLT, Int.reduceLE, Int.reduceGT, Int.reduceGE, one_map, bq_ft, bq_tf, Bool.not_true, Bool.not_false, Bool.or_false, Bool.or_true, Bool.false_or, Bool.or_self, Vec.row0, Vec.row8, Vec.row16, Vec.row24, Vec.datas_app, Vec.datas_one, Dt.row0, Dt.row2, Dt.datas_app, Dt.datas_one, List.all_append, Vec.eqb8, Dt.eqb, Bool.cond_true, Bool.cond_false, v.cells_get h]; rfl) (by simp [-List.length_flatMap, -Int.natCast_add] <;> omega) (by rfl) ?_
    have e : IntKind.u64.wrap ((v.sum i : Int) + v.get i) = ((v.sum (i + 1) : Nat) : Int) := wrap_u64 (v.sum i + v.get i) (by omega)
    refine SW.reg [] mixed (by simp only [runs, runOp, goOp, sop, ev, evs, evp, upd, argE, List.lookup, Nat.reduceBEq, Nat.reduceAdd, Nat.reduceMul, Nat.zero_add, SV.cells, if_true, if_false, reduceIte, Bool.false_eq_true, roOf, hmrg, hsets, hdels, hset, hrep, hdel, touchL, lk, List.filter, Nat.reduceBNe, bne_self_eq_false, ldv, ldo, cellsAt, binV, binK, mvp, Vec.cells_one, BEq.rfl, beq_self_eq_true, Bool.true_or, Nat.reduceEqDiff, List.map_cons, List.map_nil, List.nil_append, List.cons_append, List.append_nil, Int.toNat_natCast, Nat.mul_one, Nat.add_zero, findS, keyOk, isAggS, msetS, mdelS, lookS, lookOk, Option.isSome_some, Option.isSome_none, Option.isNone_some, Option.isNone_none, Nat.zero_ne_one, Nat.one_ne_zero, Bool.and_false, Bool.and_true, List.drop_zero, Vec.zero_cells, Vec.take_all, Vec.spl_all, Dt.cells_one, Dt.take_all, Dt.get0, Dt.get1, Dt.spl_all, Dt.zero_cells, Dt.bld, bldS, datas, appB, appX, List.all_cons, List.all_nil, SV.isOne, Int.cast_ofNat_Int, Int.reduceBNe, Int.reduceBEq, Int.reduceLT, Int.reduceLE, Int.reduceGT, Int.reduceGE, one_map, bq_ft, bq_tf, Bool.not_true, Bool.not_false, Bool.or_false, Bool.or_true, Bool.false_or, Bool.or_self, Vec.row0, Vec.row8, Vec.row16, Vec.row24, Vec.datas_app, Vec.datas_one, Dt.row0, Dt.row2, Dt.datas_app, Dt.datas_one, List.all_append, Vec.eqb8, Dt.eqb, Bool.cond_true, Bool.cond_false, wrap_u64 (v.get i) (by omega), e]; rfl) (by simp [-List.length_flatMap, -Int.natCast_add] <;> omega) (by rfl) ?_
    refine SW.reg [] mixed (by simp only [runs, runOp, goOp, sop, ev, evs, evp, upd, argE, List.lookup, Nat.reduceBEq, Nat.reduceAdd, Nat.reduceMul, Nat.zero_add, SV.cells, if_true, if_false, reduceIte, Bool.false_eq_true, roOf, hmrg, hsets, hdels, hset, hrep, hdel, touchL, lk, List.filter, Nat.reduceBNe, bne_self_eq_false, ldv, ldo, cellsAt, binV, binK, mvp, Vec.cells_one, BEq.rfl, beq_self_eq_true, Bool.true_or, Nat.reduceEqDiff, List.map_cons, List.map_nil, List.nil_append, List.cons_append, List.append_nil, Int.toNat_natCast, Nat.mul_one, Nat.add_zero, findS, keyOk, isAggS, msetS, mdelS, lookS, lookOk, Option.isSome_some, Option.isSome_none, Option.isNone_some, Option.isNone_none, Nat.zero_ne_one, Nat.one_ne_zero, Bool.and_false, Bool.and_true, List.drop_zero, Vec.zero_cells, Vec.take_all, Vec.spl_all, Dt.cells_one, Dt.take_all, Dt.get0, Dt.get1, Dt.spl_all, Dt.zero_cells, Dt.bld, bldS, datas, appB, appX, List.all_cons, List.all_nil, SV.isOne, Int.cast_ofNat_Int, Int.reduceBNe, Int.reduceBEq, Int.reduceLT, Int.reduceLE, Int.reduceGT, Int.reduceGE, one_map, bq_ft, bq_tf, Bool.not_true, Bool.not_false, Bool.or_false, Bool.or_true, Bool.false_or, Bool.or_self, Vec.row0, Vec.row8, Vec.row16, Vec.row24, Vec.datas_app, Vec.datas_one, Dt.row0, Dt.row2, Dt.datas_app, Dt.datas_one, List.all_append, Vec.eqb8, Dt.eqb, Bool.cond_true, Bool.cond_false, wrap_succ i (by omega)]; rfl) (by simp [-List.length_flatMap, -Int.natCast_add] <;> omega) (by rfl) ?_
    exact ⟨⟨i + 1, by omega⟩, by simp; omega, by simp [Go.Sl.Sub, EnvS, HpS, SV.ok, Ob.ok, SV.oks, lk, List.lookup, Vec.cells_ok]⟩
  · have h : i = 8 := by simp at h; omega
    subst h
    refine SW.seq ?_
    refine SW.reg [] mixed (by simp only [runs, runOp, goOp, sop, ev, evs, evp, upd, argE, List.lookup, Nat.reduceBEq, Nat.reduceAdd, Nat.reduceMul, Nat.zero_add, SV.cells, if_true, if_false, reduceIte, Bool.false_eq_true, roOf, hmrg, hsets, hdels, hset, hrep, hdel, touchL, lk, List.filter, Nat.reduceBNe, bne_self_eq_false, ldv, ldo, cellsAt, binV, binK, mvp, Vec.cells_one, BEq.rfl, beq_self_eq_true, Bool.true_or, Nat.reduceEqDiff, List.map_cons, List.map_nil, List.nil_append, List.cons_append, List.append_nil, Int.toNat_natCast, Nat.mul_one, Nat.add_zero, findS, keyOk, isAggS, msetS, mdelS, lookS, lookOk, Option.isSome_some, Option.isSome_none, Option.isNone_some, Option.isNone_none, Nat.zero_ne_one, Nat.one_ne_zero, Bool.and_false, Bool.and_true, List.drop_zero, Vec.zero_cells, Vec.take_all, Vec.spl_all, Dt.cells_one, Dt.take_all, Dt.get0, Dt.get1, Dt.spl_all, Dt.zero_cells, Dt.bld, bldS, datas, appB, appX, List.all_cons, List.all_nil, SV.isOne, Int.cast_ofNat_Int, Int.reduceBNe, Int.reduceBEq, Int.reduceLT, Int.reduceLE, Int.reduceGT, Int.reduceGE, one_map, bq_ft, bq_tf, Bool.not_true, Bool.not_false, Bool.or_false, Bool.or_true, Bool.false_or, Bool.or_self, Vec.row0, Vec.row8, Vec.row16, Vec.row24, Vec.datas_app, Vec.datas_one, Dt.row0, Dt.row2, Dt.datas_app, Dt.datas_one, List.all_append, Vec.eqb8, Dt.eqb, Bool.cond_true, Bool.cond_false]; rfl) (by simp [-List.length_flatMap, -Int.natCast_add] <;> omega) (by rfl) ?_
    refine SW.ret ?_
    refine fin_pure (by rfl) (by simp [ldo]) ?_ rfl
    simp [retV, Vec.sum_all]
theorem count_at (v : Vec) (hv : v.wf) (k : Nat) : SCd Tryd.prog vector_Count.f [.agg v.cells] [] k 0 (u64 v.count) [] := (count_ok v hv).sc rfl k
end Go.Proofs.YtemghnbbmahaaaaDoor
namespace Go.Proofs.YtemghnbbmahaaaaDoor
open Go.Sl Go.Proofs
attribute [local irreducible] SW RW SCd SC CallP Pruned
theorem AtO.len {M : MM Dt Int} {l : List OpD} (h : AtO M l) (hk : (MM.keys M).Nodup) : M.length = (fstO l).length := by
  have hp : (MM.keys M).Perm ((fstO l).map (·.dot)) := by
    rw [List.perm_ext_iff_of_nodup hk (fstO_uniq l)]
    intro d
    rw [← MM.has_iff]
    unfold MM.has
    rw [h d]
    have e : (ixO l d).isSome = (l.findIdx? fun o => decide (o.dot = d)).isSome := by
      unfold ixO
      cases l.findIdx? fun o => decide (o.dot = d) <;> rfl
    rw [e, List.findIdx?_isSome, List.any_eq_true]
    constructor
    · rintro ⟨o, ho, e⟩
      have hs : (findO l d).isSome = true := findO_isSome.2 ⟨o, ho, of_decide_eq_true e⟩
      obtain ⟨x, hx⟩ := Option.isSome_iff_exists.1 hs
      obtain ⟨h1, h2⟩ := findO_some hx
      exact List.mem_map.2 ⟨x, fstO_mem.2 (by rw [h2]; exact hx), h2⟩
    · intro hm
      obtain ⟨x, hx, e⟩ := List.mem_map.1 hm
      exact ⟨x, (fstO_sub l).subset hx, by simp [e]⟩
  have := hp.length_eq
  simpa [MM.keys] using this
theorem uniq_len (l : List OpD) : (fstO l).length = l.length ↔ Uniq l := by
  constructor
  · intro h
    have := (fstO_sub l).eq_of_length h
    rw [← this]; exact fstO_uniq l
  · intro h; rw [h.fst]
theorem knStep_wf {v : Vec} {o : OpD} (hv : v.wf) (ho : o.dot.wf) : (knStep v o).wf := by
  unfold knStep
  split
  · refine Vec.set_wf hv ?_
    rename_i hr
    have := hv _ hr
    have := ho.2
    omega
  · exact hv
theorem known_wf : ∀ (l : List OpD) (v : Vec), v.wf → (∀ o, o ∈ l → o.dot.wf) → (l.foldl knStep v).wf
  | [], v, hv, _ => hv
  | o :: l, v, hv, h => known_wf l _ (knStep_wf hv (h o (by simp))) fun x hx => h x (by simp [hx])
theorem knownV_wf {l : List OpD} (h : ∀ o, o ∈ l → o.dot.wf) : (knownV l).wf := known_wf l _ Vec.zero_wf h
def badP (o a : OpD) : Bool := a.before o && (decide ((a.time : Int) ≥ o.time) || !o.dep.above a.dep)
set_option maxHeartbeats 2000000 in
theorem fits1_sb (o a : OpD) : SB Tryd.prog order_index_fits_1.f [.agg a.cells, .ptr 0 0] [(0, .box 36 (o.ds.map .d))] 1 0 fun r F => r = bl (badP o a) ∧ F = [(0, .box 36 (o.ds.map .d))] := by
  rw [OpD.map_ds]
  have ok1 : ∀ q : Nat → Bool, SV.oks q o.cells = true := fun q => OpD.cells_ok o q
  have ok2 : ∀ q : Nat → Bool, SV.oks q a.cells = true := fun q => OpD.cells_ok a q
  refine order_index_fits_1.enter (by simp [SV.ok, SV.oks, ok2]) (by simp [Hp.ok, Ob.ok, ok1]) (by simp) ?_
  dsimp only [order_index_fits_1.s, Co.M, Co.G, Co.J, Co.H, Co.N, Co.F, Co.C, Co.Z, Co.B, Co.b8, Co.b32, Co.b64, Co.i6, Co.z8, Co.z29]
  have hA := fun k => before_at a o k
  have hB := fun k => above_at4 o.dep a.dep k
  unfold badP
  refine SW.seq ?_
  refine SW.g0 [0, 1, 2, 3] mixed bq_tt ?_
  refine SW.seq ?_
  rcases h1 : a.before o with _ | _ <;> rw [h1] at hA
  · refine SW.g1 [0, 1, 2, 3] mixed bq_tt hA ?_
    refine SW.ret ?_
    exact End.mk [(0, .box 36 o.cells)] (h4 := ⟨rfl, rfl⟩) (h6 := by simp [Hp.ok, Ob.ok, ok1])
  rcases h2 : decide ((a.time : Int) ≥ o.time) with _ | _
  · refine SW.g2 [0, 1, 2, 3] mixed (And.intro (h2) (And.intro (a.gDep) (o.gDep))) hA hB ?_
    refine SW.ret ?_
    exact End.mk [(0, .box 36 o.cells)] (h4 := ⟨rfl, rfl⟩) (h6 := by simp [Hp.ok, Ob.ok, ok1])
  · refine SW.g2 [0, 1, 2, 3] mixed (h2) hA hB ?_
    refine SW.ret ?_
    exact End.mk [(0, .box 36 o.cells)] (h4 := ⟨rfl, rfl⟩) (h6 := by simp [Hp.ok, Ob.ok, ok1])
theorem fits1_at (o : OpD) (l : List OpD) : TellsP order_index_fits_1.f 36 o.ds (badP o) l := fun a _ q k => by
  have := SB.atL [q] (fits1_sb o a) (by simp) (by simp [lk]) k
  have e : SV.rens (atN [q] k) a.cells = a.cells := SV.rens_d _
  simpa [SV.ren, SV.rens, Hp.ren, Ob.ren, atN, SV.rens_d, e] using this
def fitsV (l : List OpD) (v : Vec) (o : OpD) : Bool := v.above o.dep && !l.any (badP o)
set_option maxHeartbeats 2000000 in
theorem fits_sb (l : List OpD) (hl : l.length < 4611686018427387904) (o : OpD) (v : Vec) : SB Tryd.prog order_index_fits.f [.agg [ops l, .mp 0], .agg o.cells, .agg v.cells] [] 1 0 fun r F => r = bl (fitsV l v o) ∧ F = [] := by
  have ok2 : ∀ q : Nat → Bool, SV.oks q o.cells = true := fun q => OpD.cells_ok o q
  have ok3 : ∀ q : Nat → Bool, SV.oks q v.cells = true := fun q => Vec.cells_ok v q
  refine order_index_fits.enter (by simp [SV.ok, SV.oks, ok2, ok3]) (by simp [Hp.ok]) (by simp) ?_
  dsimp only [order_index_fits.s, Co.M, Co.G, Co.J, Co.H, Co.N, Co.F, Co.C, Co.Z, Co.B, Co.b8, Co.b32, Co.b64, Co.i6, Co.z8, Co.z29]
  have hA := fun k => above_at4 v o.dep k
  have hB := fun k => containsP_at (fits1_at o l) hl 2 k
  rw [OpD.map_ds] at hB
  unfold fitsV
  refine SW.seq ?_
  refine SW.g0 [0, 1, 2, 3, 4, 5, 6] mixed bq_tt ?_
  refine SW.seq ?_
  rcases h1 : v.above o.dep with _ | _ <;> rw [h1] at hA
  · refine SW.g1 [0, 1, 2, 3, 4, 5, 6] mixed (o.gDep) hA ?_
    refine SW.ret ?_
    exact End.mk [] (h4 := ⟨rfl, rfl⟩)
  · refine SW.g2 [0, 1, 2, 3, 4, 5, 6] mixed (o.gDep) hA hB ?_
    refine SW.ret ?_
    exact End.mk [] (h4 := ⟨rfl, rfl⟩)
theorem fits_at (l : List OpD) (hl : l.length < 4611686018427387904) (o : OpD) (v : Vec) (q k : Nat) : SCd Tryd.prog order_index_fits.f [.agg [ops l, .mp q], .agg o.cells, .agg v.cells] [] k 0 (bl (fitsV l v o)) [] := by
  have h := SB.at (fits_sb l hl o v) (fun n => if n = 0 then q else k) k (fun n m h1 h2 _ => by omega) (fun n hn p μ M w vals hr hS => by
    obtain ⟨u, us, e, r1, r2⟩ := Rps.cons_iff.1 hr
    obtain ⟨vs, _, r3⟩ := Rp.agg_iff.1 r1
    obtain ⟨u1, us1, e1, r4, r5⟩ := Rps.cons_iff.1 r3
    obtain ⟨u2, us2, e2, r6, r7⟩ := Rps.cons_iff.1 r5
    have := Rp.mp_p r6
    have hn0 : n = 0 := by omega
    subst hn0
    simpa using this) (fun i hi => by omega)
  have e : ∀ ρ, SV.rens ρ o.cells = o.cells := fun ρ => SV.rens_d _
  have e2 : ∀ ρ, SV.rens ρ v.cells = v.cells := fun ρ => Vec.cells_ren v ρ
  unfold SCd
  simp only [SV.ren, SV.rens, e, e2, if_true, reduceIte, Hp.ren, List.map_nil] at h
  refine SC.mono h ?_
  rintro r F ⟨r0, F0, ⟨rfl, rfl⟩, rfl, rfl⟩
  exact ⟨by simp [SV.ren], by simp [Hp.ren]⟩
end Go.Proofs.YtemghnbbmahaaaaDoor
namespace Go.Proofs.YtemghnbbmahaaaaDoor
open Go.Sl Go.Proofs
attribute [local irreducible] SW RW SCd SC CallP Pruned
def restH (l : List OpD) : Bool := (decide ((fstO l).length = l.length) && decide ((knownV l).count = l.length)) && l.all (fitsV l (knownV l))
theorem restH_iff {l : List OpD} (hd : ∀ o, o ∈ l → o.dot.r < 8 ∧ 0 < o.dot.n) : restH l = true ↔ ∀ o, o ∈ l → OneOf l o := by
  rw [oneOf_iff hd]
  unfold restH
  simp only [Bool.and_eq_true, decide_eq_true_eq, uniq_len, List.all_eq_true]
  rw [and_assoc]
  refine and_congr_right fun _ => and_congr_right fun _ => forall_congr' fun o => forall_congr' fun ho => ?_
  unfold fitsV
  simp only [Bool.and_eq_true, Bool.not_eq_true', List.any_eq_false]
  refine and_congr_right fun _ => forall_congr' fun a => forall_congr' fun ha => ?_
  unfold badP
  rcases a.before o <;> rcases o.dep.above a.dep <;> simp <;> omega
theorem histV_form {n : Int} {l : List OpD} (h1 : ¬ (n < 1 ∨ 8 < n)) (hf : ∀ o, o ∈ l → checkV n o = 0) : histV n l = if restH l then 0 else 9 := by
  have hF : ∀ o, o ∈ l → Go.Sl.Form n.toNat o := fun o ho => (checkV_zero.1 (hf o ho)).2.2
  have hd : ∀ o, o ∈ l → o.dot.r < 8 ∧ 0 < o.dot.n := fun o ho => ⟨by have := (hF o ho).r; omega, (hF o ho).pos⟩
  unfold histV
  rw [if_neg h1, if_pos hF]
  by_cases hr : restH l = true
  · rw [if_pos hr, if_pos ((restH_iff hd).1 hr)]
  · rw [if_neg hr, if_neg (fun hh => hr ((restH_iff hd).2 hh))]
theorem histV_bad {n : Int} {l : List OpD} {o : OpD} (h1 : ¬ (n < 1 ∨ 8 < n)) (ho : o ∈ l) (hf : checkV n o ≠ 0) : histV n l = 5 := by
  unfold histV
  rw [if_neg h1, if_neg]
  intro hh
  exact hf (checkV_zero.2 ⟨by omega, by omega, hh o ho⟩)
set_option maxHeartbeats 8000000 in
theorem history_ok (n : Int) (hn : -9223372036854775808 ≤ n) (hn2 : n ≤ 9223372036854775807) (l : List OpD) (hl : l.length < 4611686018427387904) (hw : ∀ o, o ∈ l → OpR o ∧ o.cl.length < 4611686018427387904) : Go.Sl.Pure Tryd.prog order_History.f [ops l, i64 n] (i64 (histV n l)) := by
  refine order_History.enter (by first | rfl | simp [SV.ok, SV.oks]) (by first | rfl | simp [Hp.ok, Ob.ok, SV.ok, SV.oks, Vec.cells_ok]) (by simp) ?_
  dsimp only [order_History.s, Co.M, Co.G, Co.J, Co.H, Co.N, Co.F, Co.C, Co.Z, Co.B, Co.b8, Co.b32, Co.b64, Co.i6, Co.z8, Co.z29]
  have fin : ∀ (env : List (Nat × SV)) (hp : Hp) (kk : Nat) (b : Int), env.lookup 4 = some (i64 b) → histV n l = b → Go.Sl.Fin 0 0 order_History.rv (fun r F => r = i64 (histV n l) ∧ F = []) ⟨env, hp, kk⟩ := fun env hp kk b he hb => by
    rw [hb]
    exact End.mk [] (h1 := by show rvV _ [.tmp 4] = _; simp only [rvV, he]; rfl) (h2 := by trivial) (h4 := ⟨rfl, rfl⟩) (h5 := rfl) (h7 := Nat.zero_le _)
  have hwf : ∀ x, x ∈ l → x.dot.wf := fun x hx => ⟨(hw x hx).1.dr, (hw x hx).1.dn⟩
  have hkw := knownV_wf hwf
  refine SW.seq ?_
  refine SW.g0 [0, 1, 4, 6, 7, 8, 10, 16, 17, 18, 19, 20, 26, 45, 46, 47, 48, 49, 56] mixed bq_tt ?_
  refine SW.seq (SW.seq ?_)
  by_cases h1 : n < 1
  · have d1 : decide (n < 1) = true := by simp [h1]
    refine SW.g0 [0, 1, 4, 6, 7, 8, 10, 16, 17, 18, 19, 20, 26, 45, 46, 47, 48, 49, 56] mixed (d1) ?_
    refine SW.condT rfl (SW.seq ?_)
    refine SW.g0 [0, 1, 4, 6, 7, 8, 10, 16, 17, 18, 19, 20, 26, 45, 46, 47, 48, 49, 56] mixed bq_tt ?_
    refine SW.ret ?_
    exact fin _ _ _ 2 rfl (by unfold histV; rw [if_pos (.inl h1)])
  have d1 : decide (n < 1) = false := by simp [h1]
  by_cases h8 : 8 < n
  · have d2 : decide (n > 8) = true := by simp; omega
    refine SW.g0 [0, 1, 4, 6, 7, 8, 10, 16, 17, 18, 19, 20, 26, 45, 46, 47, 48, 49, 56] mixed (And.intro (d1) (d2)) ?_
    refine SW.condT rfl (SW.seq ?_)
    refine SW.g0 [0, 1, 4, 6, 7, 8, 10, 16, 17, 18, 19, 20, 26, 45, 46, 47, 48, 49, 56] mixed bq_tt ?_
    refine SW.ret ?_
    exact fin _ _ _ 2 rfl (by unfold histV; rw [if_pos (.inr h8)])
  have d2 : decide (n > 8) = false := by simp; omega
  have hnn : ¬ (n < 1 ∨ 8 < n) := by omega
  refine SW.g0 [0, 1, 4, 6, 7, 8, 10, 16, 17, 18, 19, 20, 26, 45, 46, 47, 48, 49, 56] mixed (And.intro (d1) (d2)) ?_
  refine SW.condF rfl (SW.skip (SW.seq (SW.seq ?_)))
  refine SW.g0 [0, 1, 4, 6, 7, 8, 10, 16, 17, 18, 19, 20, 26, 45, 46, 47, 48, 49, 56] mixed bq_tt ?_
  refine SW.block ?_
  refine SW.loopA (α := {i : Nat // i ≤ l.length ∧ ∀ j x, j < i → l[j]? = some x → checkV n x = 0}) (fun i => ⟨[(19, i64 i.1), (18, i64 l.length), (17, ops l), (0, ops l), (1, i64 n)], [], 0⟩) (fun i => l.length - i.1) ⟨0, by omega, by omega⟩ id bq_tt (round := ?_)
  rintro ⟨i, hi, hs⟩
  dsimp only
  by_cases h : i < l.length
  · have q1 : decide ((i : Int) < l.length) = true := by simp only [decide_eq_true_eq]; omega
    obtain ⟨x, hx⟩ := get_of_lt h
    have hxm := List.mem_of_getElem? hx
    have e2 : IntKind.i64.wrap ((i : Int) + 1) = ((i + 1 : Nat) : Int) := wrap_i64 _ (by omega)
    have hc := check_at n hn hn2 x (hw x hxm).1 (hw x hxm).2
    refine SW.seq ?_
    refine SW.g0 [0, 1, 4, 6, 7, 8, 10, 16, 17, 18, 19, 20, 26, 45, 46, 47, 48, 49, 56] mixed (q1) ?_
    refine SW.seq (SW.condT rfl (SW.skip ?_))
    refine SW.seq (SW.block (SW.seq ?_))
    refine SW.g0 [0, 1, 4, 6, 7, 8, 10, 16, 17, 18, 19, 20, 26, 45, 46, 47, 48, 49, 56] mixed (And.intro (op_at hx) (op_room0 hx)) ?_
    refine SW.seq ?_
    by_cases hz : checkV n x = 0
    · rw [hz] at hc
      refine SW.g1 [0, 1, 4, 6, 7, 8, 10, 16, 17, 18, 19, 20, 26, 45, 46, 47, 48, 49, 56] mixed bq_tt hc ?_
      refine SW.condF rfl (SW.skip ?_)
      refine SW.g0 [0, 1, 4, 6, 7, 8, 10, 16, 17, 18, 19, 20, 26, 45, 46, 47, 48, 49, 56] mixed (e2) ?_
      refine ⟨⟨i + 1, by omega, fun j y hj hy => ?_⟩, id, by show l.length - (i + 1) < l.length - i; omega, ?_⟩
      · rcases Nat.lt_or_ge j i with h2 | h2
        · exact hs j y h2 hy
        · have : j = i := by omega
          subst this
          rw [hx] at hy; injection hy with hy; rw [← hy]; exact hz
      · exact Weak.mk bq_tt
    · have hz2 : (checkV n x != 0) = true := by rw [bne_iff_ne]; exact hz
      generalize hv : checkV n x = v at hc hz2
      refine SW.g1 [0, 1, 4, 6, 7, 8, 10, 16, 17, 18, 19, 20, 26, 45, 46, 47, 48, 49, 56] mixed (hz2) hc ?_
      refine SW.condT rfl (SW.seq ?_)
      refine SW.g0 [0, 1, 4, 6, 7, 8, 10, 16, 17, 18, 19, 20, 26, 45, 46, 47, 48, 49, 56] mixed bq_tt ?_
      refine SW.ret ?_
      exact fin _ _ _ 5 rfl (histV_bad hnn hxm hz)
  have q1 : decide ((i : Int) < l.length) = false := by simp only [decide_eq_false_iff_not]; omega
  have hall : ∀ o, o ∈ l → checkV n o = 0 := fun o ho => by
    obtain ⟨j, hj⟩ := List.mem_iff_getElem?.1 ho
    exact hs j o (by have := lt_of_get hj; omega) hj
  have hv := histV_form hnn hall
  have hxd : ∀ o, o ∈ l → o.dot.r < 8 ∧ 0 < o.dot.n := fun o ho => by
    have := (checkV_zero.1 (hall o ho)).2.2
    exact ⟨by have := this.r; omega, this.pos⟩
  refine SW.seq ?_
  refine SW.g0 [0, 1, 4, 6, 7, 8, 10, 16, 17, 18, 19, 20, 26, 45, 46, 47, 48, 49, 56] mixed (q1) ?_
  refine SW.seq (SW.condF rfl (SW.exit ?_))
  refine SW.seq (SW.ofN ?_)
  (repeat (first | refine SWn.op bq_tt (h := ?_) | refine SWn.opN bq_tt (h := ?_) | refine SWn.skip (h := ?_)))
  refine SWn.callC (indexOf_at l hl) (HSub.nil _) (h := ?_)
  rintro _ _ ⟨rfl, M, c, ⟨hM, hK⟩, rfl⟩
  simp only [idxS]
  simp only [hmrg, hsets, hdels, hset, hrep, hdel, lk, List.lookup, Nat.reduceBEq, BEq.rfl, beq_self_eq_true, if_true, if_false, reduceIte, Nat.reduceEqDiff, Bool.false_eq_true, Option.isSome_some, Option.isSome_none, Nat.reduceAdd]
  have s1 : spl [SV.d .nils, SV.d .nilm] 0 [ops l, .mp 1] = [ops l, .mp 1] := rfl
  (repeat (first | refine SWn.op bq_tt (h := ?_) | refine SWn.opN bq_tt (h := ?_) | refine SWn.skip (h := ?_)))
  have hkn := known_at l hl hwf
  unfold SCd at hkn
  refine SWn.callC (hkn _) (HSub.nil _) (h := ?_)
  rintro _ _ ⟨rfl, rfl⟩
  simp only [hmrg, hsets, hdels, hset, hrep, hdel, lk, List.lookup, Nat.reduceBEq, BEq.rfl, beq_self_eq_true, if_true, if_false, reduceIte, Nat.reduceEqDiff, Bool.false_eq_true, Option.isSome_some, Option.isSome_none, Nat.reduceAdd]
  (repeat (first | refine SWn.op (And.intro (s1) (Vec.spl_all)) (h := ?_) | refine SWn.opN (And.intro (s1) (Vec.spl_all)) (h := ?_) | refine SWn.skip (h := ?_)))
  refine SWn.nil ?_
  have ml : (mapE Dt.cells iv M).length = (fstO l).length := by rw [← hM.len hK]; simp [mapE]
  have bad : ∀ (env : List (Nat × SV)) (hp : Hp) (kk : Nat), env.lookup 4 = some (i64 9) → restH l = false → Go.Sl.Fin 0 0 order_History.rv (fun r F => r = i64 (histV n l) ∧ F = []) ⟨env, hp, kk⟩ := fun env hp kk he hb => fin env hp kk 9 he (by rw [hv, hb]; rfl)
  refine SW.seq (SW.seq ?_)
  rcases hq : decide ((fstO l).length = l.length) with _ | _
  · have d3 : (((fstO l).length : Int) != (l.length : Int)) = true := by
      have := of_decide_eq_false hq
      rw [bne_iff_ne]; omega
    refine SW.g0 [0, 1, 4, 6, 7, 8, 10, 16, 17, 18, 19, 20, 26, 45, 46, 47, 48, 49, 56] mixed (And.intro (ml) (d3)) ?_
    refine SW.condT rfl (SW.seq ?_)
    refine SW.g0 [0, 1, 4, 6, 7, 8, 10, 16, 17, 18, 19, 20, 26, 45, 46, 47, 48, 49, 56] mixed bq_tt ?_
    refine SW.ret ?_
    exact bad _ _ _ rfl (by unfold restH; rw [hq]; rfl)
  have d3 : (((fstO l).length : Int) != (l.length : Int)) = false := by
    have := of_decide_eq_true hq
    rw [bne_eq_false_iff_eq]; omega
  have w1 : IntKind.u64.wrap (l.length : Int) = (l.length : Int) := wrap_u64 _ (by omega)
  rcases hq2 : decide ((knownV l).count = l.length) with _ | _
  · have d4 : (((knownV l).count : Int) != (l.length : Int)) = true := by
      have := of_decide_eq_false hq2
      rw [bne_iff_ne]; omega
    (have fx := (And.intro (ml) (And.intro (d3) (And.intro (d4) (w1)))); refine SW.regL [0, 1, 4, 6, 7, 8, 10, 16, 17, 18, 19, 20, 26, 45, 46, 47, 48, 49, 56] mixed ?_; (repeat (first | refine RW.ro fx (h := ?_) | refine RW.skip (h := ?_) | refine RW.op fx (h := ?_) | refine RW.opN fx (h := ?_) | refine RW.skip0 (h := ?_) | (refine RW.callC (h := ?_); (first | refine CallP.mk fx (hc := count_at _ hkw _) (h := ?_))))); refine RW.nil ⟨by kernel_rfl, Pruned.mk (h := ?_)⟩)
    refine SW.condT rfl (SW.seq ?_)
    refine SW.g0 [0, 1, 4, 6, 7, 8, 10, 16, 17, 18, 19, 20, 26, 45, 46, 47, 48, 49, 56] mixed bq_tt ?_
    refine SW.ret ?_
    exact bad _ _ _ rfl (by unfold restH; rw [hq, hq2]; rfl)
  have d4 : (((knownV l).count : Int) != (l.length : Int)) = false := by
    have := of_decide_eq_true hq2
    rw [bne_eq_false_iff_eq]; omega
  (have fx := (And.intro (ml) (And.intro (d3) (And.intro (d4) (w1)))); refine SW.regL [0, 1, 4, 6, 7, 8, 10, 16, 17, 18, 19, 20, 26, 45, 46, 47, 48, 49, 56] mixed ?_; (repeat (first | refine RW.ro fx (h := ?_) | refine RW.skip (h := ?_) | refine RW.op fx (h := ?_) | refine RW.opN fx (h := ?_) | refine RW.skip0 (h := ?_) | (refine RW.callC (h := ?_); (first | refine CallP.mk fx (hc := count_at _ hkw _) (h := ?_))))); refine RW.nil ⟨by kernel_rfl, Pruned.mk (h := ?_)⟩)
  refine SW.condF rfl (SW.skip (SW.seq (SW.seq ?_)))
  refine SW.g0 [0, 1, 4, 6, 7, 8, 10, 16, 17, 18, 19, 20, 26, 45, 46, 47, 48, 49, 56] mixed bq_tt ?_
  refine SW.block ?_
  refine SW.loopA (α := {i : Nat // i ≤ l.length ∧ ∀ j x, j < i → l[j]? = some x → fitsV l (knownV l) x = true}) (fun i => ⟨[(48, i64 i.1), (47, i64 l.length), (46, ops l), (8, .ptr 4 0), (7, .ptr 3 0)], [(4, .box 32 (knownV l).cells), (3, .box 54 [ops l, .mp 1]), (1, .map (mapE Dt.cells iv M) c)], 5⟩) (fun i => l.length - i.1) ⟨0, by omega, by omega⟩ id (And.intro (imap_ok (fun n => decide (n < 5)) M) (bq_tt)) (round := ?_)
  rintro ⟨i, hi, hs⟩
  dsimp only
  by_cases h : i < l.length
  · have q1 : decide ((i : Int) < l.length) = true := by simp only [decide_eq_true_eq]; omega
    obtain ⟨x, hx⟩ := get_of_lt h
    have hxm := List.mem_of_getElem? hx
    have e2 : IntKind.i64.wrap ((i : Int) + 1) = ((i + 1 : Nat) : Int) := wrap_i64 _ (by omega)
    have hc := fits_at l hl x (knownV l) 1
    refine SW.seq ?_
    refine SW.g0 [0, 1, 4, 6, 7, 8, 10, 16, 17, 18, 19, 20, 26, 45, 46, 47, 48, 49, 56] mixed (q1) ?_
    refine SW.seq (SW.condT rfl (SW.skip ?_))
    refine SW.seq (SW.block (SW.seq ?_))
    refine SW.g0 [0, 1, 4, 6, 7, 8, 10, 16, 17, 18, 19, 20, 26, 45, 46, 47, 48, 49, 56] mixed (And.intro (op_at hx) (op_room0 hx)) ?_
    refine SW.seq ?_
    rcases hz : fitsV l (knownV l) x with _ | _ <;> rw [hz] at hc
    · refine SW.g1 [0, 1, 4, 6, 7, 8, 10, 16, 17, 18, 19, 20, 26, 45, 46, 47, 48, 49, 56] mixed bq_tt hc ?_
      refine SW.condT rfl (SW.seq ?_)
      refine SW.g0 [0, 1, 4, 6, 7, 8, 10, 16, 17, 18, 19, 20, 26, 45, 46, 47, 48, 49, 56] mixed bq_tt ?_
      refine SW.ret ?_
      refine bad _ _ _ rfl ?_
      unfold restH
      rw [Bool.and_eq_false_iff]
      exact .inr (List.all_eq_false.2 ⟨x, hxm, by rw [hz]; decide⟩)
    · refine SW.g1 [0, 1, 4, 6, 7, 8, 10, 16, 17, 18, 19, 20, 26, 45, 46, 47, 48, 49, 56] mixed bq_tt hc ?_
      refine SW.condF rfl (SW.skip ?_)
      refine SW.g0 [0, 1, 4, 6, 7, 8, 10, 16, 17, 18, 19, 20, 26, 45, 46, 47, 48, 49, 56] mixed (e2) ?_
      refine ⟨⟨i + 1, by omega, fun j y hj hy => ?_⟩, id, by show l.length - (i + 1) < l.length - i; omega, ?_⟩
      · rcases Nat.lt_or_ge j i with h2 | h2
        · exact hs j y h2 hy
        · have : j = i := by omega
          subst this
          rw [hx] at hy; injection hy with hy; rw [← hy]; exact hz
      · exact Weak.mk (And.intro (imap_ok (fun n => decide (n < 5)) M) (bq_tt))
  have q1 : decide ((i : Int) < l.length) = false := by simp only [decide_eq_false_iff_not]; omega
  refine SW.seq ?_
  refine SW.g0 [0, 1, 4, 6, 7, 8, 10, 16, 17, 18, 19, 20, 26, 45, 46, 47, 48, 49, 56] mixed (q1) ?_
  refine SW.seq (SW.condF rfl (SW.exit ?_))
  refine SW.seq ?_
  refine SW.g0 [0, 1, 4, 6, 7, 8, 10, 16, 17, 18, 19, 20, 26, 45, 46, 47, 48, 49, 56] mixed bq_tt ?_
  refine SW.ret ?_
  refine fin _ _ _ 0 rfl ?_
  rw [hv]
  have : restH l = true := by
    unfold restH
    rw [hq, hq2, Bool.true_and, Bool.true_and, List.all_eq_true]
    intro o ho
    obtain ⟨j, hj⟩ := List.mem_iff_getElem?.1 ho
    exact hs j o (by have := lt_of_get hj; omega) hj
  rw [this]; rfl
theorem history_at (n : Int) (hn : -9223372036854775808 ≤ n) (hn2 : n ≤ 9223372036854775807) (l : List OpD) (hl : l.length < 4611686018427387904) (hw : ∀ o, o ∈ l → OpR o ∧ o.cl.length < 4611686018427387904) (k : Nat) : SCd Tryd.prog order_History.f [ops l, i64 n] [] k 0 (i64 (histV n l)) [] := (history_ok n hn hn2 l hl hw).sc rfl k
end Go.Proofs.YtemghnbbmahaaaaDoor
