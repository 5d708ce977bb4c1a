/-
  The kit's sort, at rows of pairs of spends (printed by lay.py).
-/
import Derived.Test.YtmmonbnlleeloaaChecked
import Derived.Shelf.SlSortCmp.NoneTotal
import Derived.Test.YtmmonbnlleeloaaKW
import Derived.Test.YtmmonbnlleeloaaKC
import Derived.Test.YtmmonbnlleeloaaK4
import Derived.Test.YtmmonbnlleeloaaK6
set_option linter.unusedVariables false
namespace Go.Proofs.Ytmmonbnlleeloaa
open Go.Proofs Go.Shelf
def psort_ren : Go.Shelf.Ren := ⟨fun | 6 => 165 | 15 => 156 | 14 => 194 | 28 => 188 | 29 => 189 | 20 => 205 | 21 => 206 | 22 => 207 | 23 => 208 | 24 => 209 | 25 => 210 | 26 => 211 | 27 => 212 | 46 => 226 | 47 => 201 | 48 => 202 | 49 => 227 | 50 => 228 | 57 => 233 | n => n, fun | 22 => 216 | 24 => 221 | 25 => 223 | 3 => 3 | 39 => 208 | 0 => 0 | 53 => 31 | 55 => 36 | 4 => 4 | 46 => 242 | 45 => 241 | 50 => 228 | 5 => 5 | 9 => 9 | 66 => 258 | 70 => 262 | 76 => 275 | 77 => 276 | n => n, fun | n => n⟩
theorem psort : Go.Proofs.SlLaysF0.n6 Try.prog psort_ren where
  mixed := by kernel_rfl
  f6 := ⟨ "slices.SortFunc[[]tranter/charge.pair,tranter/charge.pair]", by decide, Try.func165.trans (congrArg some (by kernel_rfl))⟩
  f14 := ⟨ "slices.pdqsortCmpFunc[tranter/charge.pair]", by decide, Try.func194.trans (congrArg some (by kernel_rfl))⟩
  f15 := Try.func156.trans (congrArg some (by kernel_rfl))
  f20 := ⟨ "slices.insertionSortCmpFunc[tranter/charge.pair]", by decide, Try.func205.trans (congrArg some (by kernel_rfl))⟩
  f21 := ⟨ "slices.heapSortCmpFunc[tranter/charge.pair]", by decide, Try.func206.trans (congrArg some (by kernel_rfl))⟩
  f22 := ⟨ "slices.breakPatternsCmpFunc[tranter/charge.pair]", by decide, Try.func207.trans (congrArg some (by kernel_rfl))⟩
  f23 := ⟨ "slices.choosePivotCmpFunc[tranter/charge.pair]", by decide, Try.func208.trans (congrArg some (by kernel_rfl))⟩
  f24 := ⟨ "slices.reverseRangeCmpFunc[tranter/charge.pair]", by decide, Try.func209.trans (congrArg some (by kernel_rfl))⟩
  f25 := ⟨ "slices.partialInsertionSortCmpFunc[tranter/charge.pair]", by decide, Try.func210.trans (congrArg some (by kernel_rfl))⟩
  f26 := ⟨ "slices.partitionEqualCmpFunc[tranter/charge.pair]", by decide, Try.func211.trans (congrArg some (by kernel_rfl))⟩
  f27 := ⟨ "slices.partitionCmpFunc[tranter/charge.pair]", by decide, Try.func212.trans (congrArg some (by kernel_rfl))⟩
  f28 := Try.func188.trans (congrArg some (by kernel_rfl))
  f29 := Try.func189.trans (congrArg some (by kernel_rfl))
  f46 := ⟨ "slices.siftDownCmpFunc[tranter/charge.pair]", by decide, Try.func226.trans (congrArg some (by kernel_rfl))⟩
  f47 := Try.func201.trans (congrArg some (by kernel_rfl))
  f48 := Try.func202.trans (congrArg some (by kernel_rfl))
  f49 := ⟨ "slices.medianAdjacentCmpFunc[tranter/charge.pair]", by decide, Try.func227.trans (congrArg some (by kernel_rfl))⟩
  f50 := ⟨ "slices.medianCmpFunc[tranter/charge.pair]", by decide, Try.func228.trans (congrArg some (by kernel_rfl))⟩
  f57 := ⟨ "slices.order2CmpFunc[tranter/charge.pair]", by decide, Try.func233.trans (congrArg some (by kernel_rfl))⟩
  t0 := Try.underlying0
  a0 := Try.isAgg0
  z0 := Try.sizeOf0
  v0 := Try.zeroValue0
  t3 := Try.underlying3
  a3 := Try.isAgg3
  z3 := Try.sizeOf3
  v3 := Try.zeroValue3
  t4 := Try.underlying4
  a4 := Try.isAgg4
  z4 := Try.sizeOf4
  v4 := Try.zeroValue4
  t5 := Try.underlying5
  a5 := Try.isAgg5
  z5 := Try.sizeOf5
  v5 := Try.zeroValue5
  t9 := Try.underlying9
  a9 := Try.isAgg9
  z9 := Try.sizeOf9
  v9 := Try.zeroValue9
  t22 := Try.underlying216
  a22 := Try.isAgg216
  z22 := Try.sizeOf216
  v22 := Try.zeroValue216
  t25 := Try.underlying223
  a25 := Try.isAgg223
  z25 := Try.sizeOf223
  v25 := Try.zeroValue223
  t39 := Try.underlying208
  a39 := Try.isAgg208
  z39 := Try.sizeOf208
  v39 := Try.zeroValue208
  t45 := Try.underlying241
  a45 := Try.isAgg241
  z45 := Try.sizeOf241
  v45 := Try.zeroValue241
  t46 := Try.underlying242
  a46 := Try.isAgg242
  z46 := Try.sizeOf242
  v46 := Try.zeroValue242
  t50 := Try.underlying228
  a50 := Try.isAgg228
  z50 := Try.sizeOf228
  v50 := Try.zeroValue228
  t53 := Try.underlying31
  a53 := Try.isAgg31
  z53 := Try.sizeOf31
  v53 := Try.zeroValue31
  t55 := Try.underlying36
  a55 := Try.isAgg36
  z55 := Try.sizeOf36
  v55 := Try.zeroValue36
  t66 := Try.underlying258
  a66 := Try.isAgg258
  z66 := Try.sizeOf258
  v66 := Try.zeroValue258
  t70 := Try.underlying262
  a70 := Try.isAgg262
  z70 := Try.sizeOf262
  v70 := Try.zeroValue262
  t76 := Try.underlying275
  a76 := Try.isAgg275
  z76 := Try.sizeOf275
  v76 := Try.zeroValue275
  t77 := Try.underlying276
  a77 := Try.isAgg276
  z77 := Try.sizeOf276
  v77 := Try.zeroValue276
end Go.Proofs.Ytmmonbnlleeloaa
set_option linter.unusedSectionVars false
set_option linter.unusedSimpArgs false
namespace Go.Proofs.Ytmmonbnlleeloaa
open Go.Sl Go.Proofs
attribute [local irreducible] SW RW SCd SC CallP Pruned
@[simp] theorem Sp.bld_len (d : Dt) : (spl Sp.zero.cells 0 d.cells).length = 3 := rfl
def spentO (l : List Sp) (d : Dt) : Option Sp := l.find? fun x => decide (x.d = d)
def spentOf (l : List Sp) (d : Dt) : Nat := ((spentO l d).map (·.n)).getD 0
theorem spentO_take {l : List Sp} {d : Dt} {i : Nat} {x : Sp} (hx : l[i]? = some x) (h : spentO (l.take i) d = none) : spentO (l.take (i + 1)) d = if x.d = d then some x else none := by
  unfold spentO at *
  rw [take_snoc hx, List.find?_append, h]
  by_cases e : x.d = d <;> simp [e]
theorem spentO_hit {l : List Sp} {d : Dt} {i : Nat} {x : Sp} (hx : l[i]? = some x) (h : spentO (l.take i) d = none) (he : x.d = d) : spentO l d = some x := by
  unfold spentO at *
  have hl : l = l.take i ++ x :: l.drop (i + 1) := by
    conv => lhs; rw [← List.take_append_drop i l]
    congr 1
    rw [List.drop_eq_getElem_cons (lt_of_get hx)]
    congr 1
    rw [List.getElem?_eq_getElem (lt_of_get hx)] at hx
    injection hx
  rw [hl, List.find?_append, h]
  simp [he]
theorem spentO_nil (d : Dt) : spentO [] d = none := rfl
theorem spentO_cons (x : Sp) (l : List Sp) (d : Dt) : spentO (x :: l) d = if x.d = d then some x else spentO l d := by
  unfold spentO
  rw [List.find?_cons]
  by_cases h : x.d = d <;> simp [h]
theorem spentO_mem {l : List Sp} {d : Dt} {x : Sp} (h : spentO l d = some x) : x ∈ l ∧ x.d = d := ⟨List.mem_of_find?_eq_some h, by simpa using List.find?_some h⟩
theorem spentO_app (l m : List Sp) (d : Dt) : spentO (l ++ m) d = (spentO l d).or (spentO m d) := List.find?_append
theorem rspent_ok (l : List Sp) (hl : l.length < 4611686018427387904) (d : Dt) : Go.Sl.Pure Try.prog ref22_Spent.f [sps l, .agg d.cells] (.d (.int .u64 (spentOf l d : Int))) := by
  refine ref22_Spent.enter (by first | rfl | simp [SV.ok, SV.oks]) (by first | rfl | simp [Hp.ok, Ob.ok, SV.ok, SV.oks, Vec.cells_ok]) (by simp) ?_
  unfold ref22_Spent.s
  refine SW.seq ?_
  (refine SW.regL [0, 1, 3, 4, 5, 9, 18] mixed ?_; (repeat (first | refine RW.ro bq_tt (h := ?_) | refine RW.skip (h := ?_) | refine RW.op bq_tt (h := ?_) | refine RW.opN bq_tt (h := ?_) | refine RW.skip0 (h := ?_))); refine RW.nil ⟨by kernel_rfl, Pruned.mk (h := ?_)⟩)
  refine SW.seq (SW.seq ?_)
  (refine SW.regL [0, 1, 3, 4, 5, 9, 18] mixed ?_; (repeat (first | refine RW.ro bq_tt (h := ?_) | refine RW.skip (h := ?_) | refine RW.op bq_tt (h := ?_) | refine RW.opN bq_tt (h := ?_) | refine RW.skip0 (h := ?_))); refine RW.nil ⟨by kernel_rfl, Pruned.mk (h := ?_)⟩)
  refine SW.block ?_
  refine SW.loopA (α := {i : Nat // i ≤ l.length ∧ spentO (l.take i) d = none}) (fun i => ⟨[(5, i64 i.1), (0, sps l), (3, .ptr 0 0)], [(0, .box 33 d.cells)], 1⟩) (fun i => l.length - i.1) ⟨0, by omega, rfl⟩ id bq_tt (round := ?_)
  rintro ⟨i, hi, hs⟩
  by_cases h : i < l.length
  · have h1 : decide ((i : Int) < l.length) = true := by simp only [decide_eq_true_eq]; omega
    obtain ⟨x, hx⟩ := get_of_lt h
    have e2 : IntKind.i64.wrap ((i : Int) + 1) = ((i + 1 : Nat) : Int) := wrap_i64 _ (by omega)
    by_cases he : x.d = d
    · have e3 : decide (x.d = d) = true := by simp [he]
      (repeat (first | refine SW.seq ?_ | refine SW.block ?_ | (have fx := (And.intro (h1) (And.intro (sp_dot hx) (And.intro (sp_room2 hx) (And.intro (sp_amount hx) (And.intro (e2) (e3)))))); refine SW.regL [0, 1, 3, 4, 5, 9, 18] mixed ?_; (repeat (first | refine RW.ro fx (h := ?_) | refine RW.skip (h := ?_) | refine RW.op fx (h := ?_) | refine RW.opN fx (h := ?_) | refine RW.skip0 (h := ?_))); refine RW.nil ⟨by kernel_rfl, Pruned.mk (h := ?_)⟩) | refine SW.skip ?_ | refine SW.exit ?_ | refine SW.ret ?_ | refine SW.condT rfl ?_ | refine SW.condF rfl ?_))
      have hf : spentOf l d = x.n := by unfold spentOf; rw [spentO_hit hx hs he]; rfl
      rw [hf]
      exact End.mk [] (h4 := ⟨rfl, rfl⟩)
    · have e3 : decide (x.d = d) = false := by simp [he]
      (repeat (first | refine SW.seq ?_ | refine SW.block ?_ | (have fx := (And.intro (h1) (And.intro (sp_dot hx) (And.intro (sp_room2 hx) (And.intro (e2) (e3))))); refine SW.regL [0, 1, 3, 4, 5, 9, 18] mixed ?_; (repeat (first | refine RW.ro fx (h := ?_) | refine RW.skip (h := ?_) | refine RW.op fx (h := ?_) | refine RW.opN fx (h := ?_) | refine RW.skip0 (h := ?_))); refine RW.nil ⟨by kernel_rfl, Pruned.mk (h := ?_)⟩) | refine SW.skip ?_ | refine SW.exit ?_ | refine SW.ret ?_ | refine SW.condT rfl ?_ | refine SW.condF rfl ?_))
      dsimp only
      exact ⟨⟨i + 1, by omega, by rw [spentO_take hx hs, if_neg he]⟩, id, by show l.length - (i + 1) < _; omega, Weak.mk bq_tt⟩
  · have h1 : decide ((i : Int) < l.length) = false := by simp only [decide_eq_false_iff_not]; omega
    (repeat (first | refine SW.seq ?_ | refine SW.block ?_ | (refine SW.regL [0, 1, 3, 4, 5, 9, 18] mixed ?_; (repeat (first | refine RW.ro (h1) (h := ?_) | refine RW.skip (h := ?_) | refine RW.op (h1) (h := ?_) | refine RW.opN (h1) (h := ?_) | refine RW.skip0 (h := ?_))); refine RW.nil ⟨by kernel_rfl, Pruned.mk (h := ?_)⟩) | refine SW.skip ?_ | refine SW.exit ?_ | refine SW.ret ?_ | refine SW.condT rfl ?_ | refine SW.condF rfl ?_))
    have hf : spentOf l d = 0 := by
      rw [List.take_of_length_le (by omega)] at hs
      unfold spentOf; rw [hs]; rfl
    rw [hf]
    exact End.mk [] (h4 := ⟨rfl, rfl⟩)
theorem rspent_at (l : List Sp) (hl : l.length < 4611686018427387904) (d : Dt) (k : Nat) : SCd Try.prog ref22_Spent.f [sps l, .agg d.cells] [] k 0 (.d (.int .u64 (spentOf l d : Int))) [] := (rspent_ok l hl d).sc rfl k
theorem spsame_ok (l m : List Sp) (hl : l.length < 4611686018427387904) (hm : m.length < 4611686018427387904) : Go.Sl.Pure Try.prog ref22_Same.f [sps l, sps m] (bl (decide (l = m))) := by
  refine ref22_Same.enter (by first | rfl | simp [SV.ok, SV.oks]) (by first | rfl | simp [Hp.ok, Ob.ok, SV.ok, SV.oks, Vec.cells_ok]) (by simp) ?_
  unfold ref22_Same.s
  by_cases hn : l.length = m.length
  · have h0 : (((l.length : Nat) : Int) != ((m.length : Nat) : Int)) = false := by simp; omega
    (repeat (first | refine SW.seq ?_ | refine SW.block ?_ | (refine SW.regL [0, 1, 4, 5, 10, 14, 25] mixed ?_; (repeat (first | refine RW.ro (h0) (h := ?_) | refine RW.skip (h := ?_) | refine RW.op (h0) (h := ?_) | refine RW.opN (h0) (h := ?_) | refine RW.skip0 (h := ?_))); refine RW.nil ⟨by kernel_rfl, Pruned.mk (h := ?_)⟩) | refine SW.skip ?_ | refine SW.exit ?_ | refine SW.ret ?_ | refine SW.condT rfl ?_ | refine SW.condF rfl ?_))
    refine SW.loopA (α := {i : Nat // i ≤ l.length ∧ ∀ j, j < i → l[j]? = m[j]?}) (fun i => ⟨[(5, i64 i.1), (0, sps l), (1, sps m)], [], 0⟩) (fun i => l.length - i.1) ⟨0, by omega, by omega⟩ id bq_tt (round := ?_)
    rintro ⟨i, hi, hs⟩
    by_cases h : i < l.length
    · have h1 : decide ((i : Int) < l.length) = true := by simp only [decide_eq_true_eq]; omega
      obtain ⟨x, hx⟩ := get_of_lt h
      obtain ⟨y, hy⟩ := get_of_lt (show i < m.length by omega)
      have e2 : IntKind.i64.wrap ((i : Int) + 1) = ((i + 1 : Nat) : Int) := wrap_i64 _ (by omega)
      by_cases he : x = y
      · have e3 : decide (x = y) = true := by simp [he]
        (repeat (first | refine SW.seq ?_ | refine SW.block ?_ | (have fx := (And.intro (h1) (And.intro (sp_at hx) (And.intro (sp_at hy) (And.intro (e2) (e3))))); refine SW.regL [0, 1, 4, 5, 10, 14, 25] mixed ?_; (repeat (first | refine RW.ro fx (h := ?_) | refine RW.skip (h := ?_) | refine RW.op fx (h := ?_) | refine RW.opN fx (h := ?_) | refine RW.skip0 (h := ?_))); refine RW.nil ⟨by kernel_rfl, Pruned.mk (h := ?_)⟩) | refine SW.skip ?_ | refine SW.exit ?_ | refine SW.ret ?_ | refine SW.condT rfl ?_ | refine SW.condF rfl ?_))
        refine Next.mk ⟨i + 1, by omega, fun j hj => ?_⟩ id bq_tt
        by_cases e : j = i
        · rw [e, hx, hy, he]
        · exact hs j (by omega)
      · have e3 : decide (x = y) = false := by simp [he]
        (repeat (first | refine SW.seq ?_ | refine SW.block ?_ | (have fx := (And.intro (h1) (And.intro (sp_at hx) (And.intro (sp_at hy) (And.intro (e2) (e3))))); refine SW.regL [0, 1, 4, 5, 10, 14, 25] mixed ?_; (repeat (first | refine RW.ro fx (h := ?_) | refine RW.skip (h := ?_) | refine RW.op fx (h := ?_) | refine RW.opN fx (h := ?_) | refine RW.skip0 (h := ?_))); refine RW.nil ⟨by kernel_rfl, Pruned.mk (h := ?_)⟩) | refine SW.skip ?_ | refine SW.exit ?_ | refine SW.ret ?_ | refine SW.condT rfl ?_ | refine SW.condF rfl ?_))
        have : l ≠ m := fun e => by rw [e, hy] at hx; injection hx with hx; exact he hx.symm
        exact End.mk [] (h4 := ⟨by simp [retV, this], rfl⟩)
    · have h1 : decide ((i : Int) < l.length) = false := by simp only [decide_eq_false_iff_not]; omega
      (repeat (first | refine SW.seq ?_ | refine SW.block ?_ | (refine SW.regL [0, 1, 4, 5, 10, 14, 25] mixed ?_; (repeat (first | refine RW.ro (h1) (h := ?_) | refine RW.skip (h := ?_) | refine RW.op (h1) (h := ?_) | refine RW.opN (h1) (h := ?_) | refine RW.skip0 (h := ?_))); refine RW.nil ⟨by kernel_rfl, Pruned.mk (h := ?_)⟩) | refine SW.skip ?_ | refine SW.exit ?_ | refine SW.ret ?_ | refine SW.condT rfl ?_ | refine SW.condF rfl ?_))
      have : l = m := ext_rows hn fun j hj => hs j (by omega)
      exact End.mk [] (h4 := ⟨by simp [retV, this], rfl⟩)
  · have h0 : (((l.length : Nat) : Int) != ((m.length : Nat) : Int)) = true := by simp; omega
    (repeat (first | refine SW.seq ?_ | refine SW.block ?_ | (refine SW.regL [0, 1, 4, 5, 10, 14, 25] mixed ?_; (repeat (first | refine RW.ro (h0) (h := ?_) | refine RW.skip (h := ?_) | refine RW.op (h0) (h := ?_) | refine RW.opN (h0) (h := ?_) | refine RW.skip0 (h := ?_))); refine RW.nil ⟨by kernel_rfl, Pruned.mk (h := ?_)⟩) | refine SW.skip ?_ | refine SW.exit ?_ | refine SW.ret ?_ | refine SW.condT rfl ?_ | refine SW.condF rfl ?_))
    have : l ≠ m := fun e => hn (by rw [e])
    exact End.mk [] (h4 := ⟨by simp [retV, this], rfl⟩)
theorem spsame_at (l m : List Sp) (hl : l.length < 4611686018427387904) (hm : m.length < 4611686018427387904) (k : Nat) : SCd Try.prog ref22_Same.f [sps l, sps m] [] k 0 (bl (decide (l = m))) [] := (spsame_ok l m hl hm).sc rfl k
def rowD (f : Dt → Nat) (D : List Dt) : List Sp := (D.filter fun d => decide (0 < f d)).map fun d => ⟨d, f d⟩
theorem rowD_snoc (f : Dt → Nat) (D : List Dt) (d : Dt) : rowD f (D ++ [d]) = if 0 < f d then rowD f D ++ [⟨d, f d⟩] else rowD f D := by
  unfold rowD
  rw [List.filter_append]
  by_cases h : 0 < f d <;> simp [h]
theorem rowD_len (f : Dt → Nat) (D : List Dt) : (rowD f D).length ≤ D.length := by
  unfold rowD; rw [List.length_map]; exact List.length_filter_le _ _
def plainR (l : List Sp) : List Sp := rowD (spentOf l) (Dt.setR (l.map (·.d)))
theorem plainR_len (l : List Sp) : (plainR l).length ≤ l.length := by
  have h1 := rowD_len (spentOf l) (Dt.setR (l.map (·.d)))
  have h2 := Dt.setR_len (l.map (·.d))
  rw [List.length_map] at h2
  exact Nat.le_trans h1 h2
set_option maxHeartbeats 4000000 in
theorem rplain_ok (l : List Sp) (hl : l.length < 100000) (hwf : ∀ x, x ∈ l → x.d.wf) : Go.Sl.Pure Try.prog ref22_Plain.f [sps l] (sps (plainR l)) := by
  refine ref22_Plain.enter (by first | rfl | simp [SV.ok, SV.oks]) (by first | rfl | simp [Hp.ok, Ob.ok, SV.ok, SV.oks, Vec.cells_ok]) (by simp) ?_
  unfold ref22_Plain.s
  refine SW.seq ?_
  (refine SW.regL [0, 2, 3, 4, 5, 6, 7, 11, 27, 37] mixed ?_; (repeat (first | refine RW.ro bq_tt (h := ?_) | refine RW.skip (h := ?_) | refine RW.op bq_tt (h := ?_) | refine RW.opN bq_tt (h := ?_) | refine RW.skip0 (h := ?_))); refine RW.nil ⟨by kernel_rfl, Pruned.mk (h := ?_)⟩)
  refine SW.seq ?_
  (refine SW.regL [0, 2, 3, 4, 5, 6, 7, 11, 27, 37] mixed ?_; (repeat (first | refine RW.ro bq_tt (h := ?_) | refine RW.skip (h := ?_) | refine RW.op bq_tt (h := ?_) | refine RW.opN bq_tt (h := ?_) | refine RW.skip0 (h := ?_))); refine RW.nil ⟨by kernel_rfl, Pruned.mk (h := ?_)⟩)
  refine SW.nilrow 3 33 2 rfl ?_
  refine SW.seq (SW.seq ?_)
  (refine SW.regL [0, 2, 3, 4, 5, 6, 7, 11, 27, 37] mixed ?_; (repeat (first | refine RW.ro bq_tt (h := ?_) | refine RW.skip (h := ?_) | refine RW.op bq_tt (h := ?_) | refine RW.opN bq_tt (h := ?_) | refine RW.skip0 (h := ?_))); refine RW.nil ⟨by kernel_rfl, Pruned.mk (h := ?_)⟩)
  refine SW.block ?_
  refine SW.loopA (α := {i : Nat // i ≤ l.length}) (fun i => ⟨[(4, i64 i.1), (0, sps l), (3, .gs 0 i.1)], [(0, .arr 33 2 i.1 ((((l.take i.1).map (·.d)).flatMap Dt.ds).map .d))], 1⟩) (fun i => l.length - i.1) ⟨0, by omega⟩ id bq_tt (round := ?_)
  rintro ⟨i, hi⟩
  by_cases hil : i < l.length
  · obtain ⟨x, hx⟩ := get_of_lt hil
    have h1 : decide ((i : Int) < l.length) = true := by simp; exact hil
    have e1 : (l.take (i + 1)).map (·.d) = (l.take i).map (·.d) ++ [x.d] := by rw [take_snoc hx, List.map_append]; rfl
    have e2 : IntKind.i64.wrap ((i : Int) + 1) = ((i + 1 : Nat) : Int) := wrap_i64 _ (by omega)
    refine SW.seq (SW.seq ?_)
    (refine SW.regL [0, 2, 3, 4, 5, 6, 7, 11, 27, 37] mixed ?_; (repeat (first | refine RW.ro (h1) (h := ?_) | refine RW.skip (h := ?_) | refine RW.op (h1) (h := ?_) | refine RW.opN (h1) (h := ?_) | refine RW.skip0 (h := ?_))); refine RW.nil ⟨by kernel_rfl, Pruned.mk (h := ?_)⟩)
    refine SW.condT rfl (SW.skip ?_)
    refine SW.seq (SW.block ?_)
    (have fx := (And.intro (sp_dot hx) (sp_room2 hx)); refine SW.regL [0, 2, 3, 4, 5, 6, 7, 11, 27, 37] mixed ?_; (repeat (first | refine RW.ro fx (h := ?_) | refine RW.skip (h := ?_) | refine RW.op fx (h := ?_) | refine RW.opN fx (h := ?_) | refine RW.skip0 (h := ?_))); refine RW.nil ⟨by kernel_rfl, Pruned.mk (h := ?_)⟩)
    (refine SW.regL [0, 2, 3, 4, 5, 6, 7, 11, 27, 37] mixed ?_; (repeat (first | refine RW.ro (e2) (h := ?_) | refine RW.skip (h := ?_) | refine RW.op (e2) (h := ?_) | refine RW.opN (e2) (h := ?_) | refine RW.skip0 (h := ?_))); refine RW.nil ⟨by kernel_rfl, Pruned.mk (h := ?_)⟩)
    dsimp only
    exact ⟨⟨i + 1, by omega⟩, fun n => if n = 0 then 1 else n, by show l.length - (i + 1) < _; omega, Weak.mk (And.intro e1 (And.intro (Dt.map_ds x.d) bq_tt))⟩
  · have h1 : decide ((i : Int) < l.length) = false := by simp; omega
    have h2 : i = l.length := by omega
    refine SW.seq (SW.seq ?_)
    (refine SW.regL [0, 2, 3, 4, 5, 6, 7, 11, 27, 37] mixed ?_; (repeat (first | refine RW.ro (h1) (h := ?_) | refine RW.skip (h := ?_) | refine RW.op (h1) (h := ?_) | refine RW.opN (h1) (h := ?_) | refine RW.skip0 (h := ?_))); refine RW.nil ⟨by kernel_rfl, Pruned.mk (h := ?_)⟩)
    refine SW.condF rfl (SW.exit ?_)
    subst h2
    rw [List.take_length]
    refine SW.freeze 0 ((l.map (·.d)).flatMap Dt.ds) rfl rfl ?_
    simp only [frzE, SV.frz, List.map_cons, List.map_nil, if_true, if_false, reduceIte, hdel, Nat.reduceEqDiff]
    have hml : (l.map (·.d)).length = l.length := List.length_map ..
    have hso := rsort_at (l.map (·.d)) (by omega) (fun d hd => by obtain ⟨x, hx, rfl⟩ := List.mem_map.1 hd; exact hwf x hx)
    have hdm : dots (l.map (·.d)) = .d (.sl l.length ((l.map (·.d)).flatMap Dt.ds)) := by
      show SV.d (DV.sl (l.map (·.d)).length _) = _
      rw [hml]
    rw [hdm] at hso
    have hDl : (Dt.setR (l.map (·.d))).length ≤ l.length := by have := Dt.setR_len (l.map (·.d)); omega
    unfold plainR
    generalize Dt.setR (l.map (·.d)) = D at hso hDl ⊢
    refine SW.weak id (st1 := ⟨[(0, sps l), (3, .d (.sl l.length ((l.map (·.d)).flatMap Dt.ds)))], [], 0⟩) (Weak.mk bq_tt) ?_
    refine SW.seq ?_
    (refine SW.regL [0, 2, 3, 4, 5, 6, 7, 11, 27, 37] mixed ?_; (repeat (first | refine RW.ro bq_tt (h := ?_) | refine RW.skip (h := ?_) | refine RW.op bq_tt (h := ?_) | refine RW.opN bq_tt (h := ?_) | refine RW.skip0 (h := ?_) | (refine RW.callC (h := ?_); (first | refine CallP.mk bq_tt (hc := hso _) (h := ?_))))); refine RW.nil ⟨by kernel_rfl, Pruned.mk (h := ?_)⟩)
    refine SW.seq ?_
    (refine SW.regL [0, 2, 3, 4, 5, 6, 7, 11, 27, 37] mixed ?_; (repeat (first | refine RW.ro bq_tt (h := ?_) | refine RW.skip (h := ?_) | refine RW.op bq_tt (h := ?_) | refine RW.opN bq_tt (h := ?_) | refine RW.skip0 (h := ?_))); refine RW.nil ⟨by kernel_rfl, Pruned.mk (h := ?_)⟩)
    refine SW.nilrow 5 80 3 rfl ?_
    refine SW.seq (SW.seq ?_)
    (refine SW.regL [0, 2, 3, 4, 5, 6, 7, 11, 27, 37] mixed ?_; (repeat (first | refine RW.ro bq_tt (h := ?_) | refine RW.skip (h := ?_) | refine RW.op bq_tt (h := ?_) | refine RW.opN bq_tt (h := ?_) | refine RW.skip0 (h := ?_))); refine RW.nil ⟨by kernel_rfl, Pruned.mk (h := ?_)⟩)
    refine SW.block ?_
    refine SW.loopA (α := {i : Nat // i ≤ D.length}) (fun i => ⟨[(6, i64 i.1), (0, sps l), (3, dots D), (5, .gs 0 (rowD (spentOf l) (D.take i.1)).length)], [(0, .arr 80 3 (rowD (spentOf l) (D.take i.1)).length (spc (rowD (spentOf l) (D.take i.1))))], 1⟩) (fun i => D.length - i.1) ⟨0, by omega⟩ id (And.intro (show rowD (spentOf l) [] = [] from rfl) bq_tt) (round := ?_)
    rintro ⟨i, hi⟩
    dsimp only
    have hrl := rowD_len (spentOf l) (D.take i)
    have htl : (D.take i).length ≤ D.length := by simp; omega
    by_cases hil : i < D.length
    · obtain ⟨d, hd⟩ := get_of_lt hil
      have i1 : decide ((i : Int) < D.length) = true := by simp; exact hil
      have i2 : IntKind.i64.wrap ((i : Int) + 1) = ((i + 1 : Nat) : Int) := wrap_i64 _ (by omega)
      have e1 : D.take (i + 1) = D.take i ++ [d] := take_snoc hd
      have hsn := rowD_snoc (spentOf l) (D.take i) d
      rw [← e1] at hsn
      have hsp := rspent_at l (by omega) d
      generalize hR : rowD (spentOf l) (D.take i) = R at hsn hrl
      generalize hn : spentOf l d = n at hsn hsp
      refine SW.seq (SW.seq ?_)
      (refine SW.regL [0, 2, 3, 4, 5, 6, 7, 11, 27, 37] mixed ?_; (repeat (first | refine RW.ro (i1) (h := ?_) | refine RW.skip (h := ?_) | refine RW.op (i1) (h := ?_) | refine RW.opN (i1) (h := ?_) | refine RW.skip0 (h := ?_) | (refine RW.callC (h := ?_); (first | refine CallP.mk (i1) (hc := hsp _) (h := ?_))))); refine RW.nil ⟨by kernel_rfl, Pruned.mk (h := ?_)⟩)
      refine SW.condT rfl (SW.skip ?_)
      refine SW.seq (SW.block ?_)
      refine SW.seq ?_
      (refine SW.regL [0, 2, 3, 4, 5, 6, 7, 11, 27, 37] mixed ?_; (repeat (first | refine RW.ro (dot_at hd) (h := ?_) | refine RW.skip (h := ?_) | refine RW.op (dot_at hd) (h := ?_) | refine RW.opN (dot_at hd) (h := ?_) | refine RW.skip0 (h := ?_) | (refine RW.callC (h := ?_); (first | refine CallP.mk (dot_at hd) (hc := hsp _) (h := ?_))))); refine RW.nil ⟨by kernel_rfl, Pruned.mk (h := ?_)⟩)
      by_cases hp : 0 < n
      · have p1 : decide ((n : Int) > 0) = true := by simp; omega
        rw [if_pos hp] at hsn
        refine SW.seq ?_
        (refine SW.regL [0, 2, 3, 4, 5, 6, 7, 11, 27, 37] mixed ?_; (repeat (first | refine RW.ro (p1) (h := ?_) | refine RW.skip (h := ?_) | refine RW.op (p1) (h := ?_) | refine RW.opN (p1) (h := ?_) | refine RW.skip0 (h := ?_))); refine RW.nil ⟨by kernel_rfl, Pruned.mk (h := ?_)⟩)
        refine SW.condT rfl ?_
        (refine SW.regL [0, 2, 3, 4, 5, 6, 7, 11, 27, 37] mixed ?_; (repeat (first | refine RW.ro (dot_at hd) (h := ?_) | refine RW.skip (h := ?_) | refine RW.op (dot_at hd) (h := ?_) | refine RW.opN (dot_at hd) (h := ?_) | refine RW.skip0 (h := ?_))); refine RW.nil ⟨by kernel_rfl, Pruned.mk (h := ?_)⟩)
        (refine SW.regL [0, 2, 3, 4, 5, 6, 7, 11, 27, 37] mixed ?_; (repeat (first | refine RW.ro (i2) (h := ?_) | refine RW.skip (h := ?_) | refine RW.op (i2) (h := ?_) | refine RW.opN (i2) (h := ?_) | refine RW.skip0 (h := ?_))); refine RW.nil ⟨by kernel_rfl, Pruned.mk (h := ?_)⟩)
        dsimp only
        exact ⟨⟨i + 1, by omega⟩, fun n => if n = 0 then 1 else n, by show D.length - (i + 1) < _; omega, Weak.mk (And.intro hsn (And.intro (Sp.map_ds ⟨d, n⟩) bq_tt))⟩
      · have p1 : decide ((n : Int) > 0) = false := by simp; omega
        rw [if_neg hp] at hsn
        refine SW.seq ?_
        (refine SW.regL [0, 2, 3, 4, 5, 6, 7, 11, 27, 37] mixed ?_; (repeat (first | refine RW.ro (p1) (h := ?_) | refine RW.skip (h := ?_) | refine RW.op (p1) (h := ?_) | refine RW.opN (p1) (h := ?_) | refine RW.skip0 (h := ?_))); refine RW.nil ⟨by kernel_rfl, Pruned.mk (h := ?_)⟩)
        refine SW.condF rfl (SW.skip ?_)
        (refine SW.regL [0, 2, 3, 4, 5, 6, 7, 11, 27, 37] mixed ?_; (repeat (first | refine RW.ro (i2) (h := ?_) | refine RW.skip (h := ?_) | refine RW.op (i2) (h := ?_) | refine RW.opN (i2) (h := ?_) | refine RW.skip0 (h := ?_))); refine RW.nil ⟨by kernel_rfl, Pruned.mk (h := ?_)⟩)
        dsimp only
        exact ⟨⟨i + 1, by omega⟩, id, by show D.length - (i + 1) < _; omega, Weak.mk (And.intro hsn bq_tt)⟩
    · have i1 : decide ((i : Int) < D.length) = false := by simp; omega
      have iD : i = D.length := by omega
      subst iD
      rw [List.take_length]
      refine SW.seq (SW.seq ?_)
      (refine SW.regL [0, 2, 3, 4, 5, 6, 7, 11, 27, 37] mixed ?_; (repeat (first | refine RW.ro (i1) (h := ?_) | refine RW.skip (h := ?_) | refine RW.op (i1) (h := ?_) | refine RW.opN (i1) (h := ?_) | refine RW.skip0 (h := ?_))); refine RW.nil ⟨by kernel_rfl, Pruned.mk (h := ?_)⟩)
      refine SW.condF rfl (SW.exit ?_)
      refine SW.seq ?_
      (refine SW.regL [0, 2, 3, 4, 5, 6, 7, 11, 27, 37] mixed ?_; (repeat (first | refine RW.ro bq_tt (h := ?_) | refine RW.skip (h := ?_) | refine RW.op bq_tt (h := ?_) | refine RW.opN bq_tt (h := ?_) | refine RW.skip0 (h := ?_))); refine RW.nil ⟨by kernel_rfl, Pruned.mk (h := ?_)⟩)
      refine SW.freeze 0 ((rowD (spentOf l) D).flatMap Sp.ds) rfl rfl (SW.ret ?_)
      exact End.mk [] (h4 := ⟨by simp [retV, SV.frz], rfl⟩) (h5 := by simp [retV, SV.frz, SV.ok, SV.oks])
theorem rplain_at (l : List Sp) (hl : l.length < 100000) (hwf : ∀ x, x ∈ l → x.d.wf) (k : Nat) : SCd Try.prog ref22_Plain.f [sps l] [] k 0 (sps (plainR l)) [] := (rplain_ok l hl hwf).sc rfl k
end Go.Proofs.Ytmmonbnlleeloaa
namespace Go.Proofs.Ytmmonbnlleeloaa
open Go.Sl Go.Proofs
attribute [local irreducible] SW RW SCd SC CallP Pruned
def leftF (a : MM Dt Cr) (s : List Sp) (d : Dt) : Nat := match MM.get a d with
  | some c => c.cap - spentOf s d
  | none => 0
theorem leftF_some {a : MM Dt Cr} {s : List Sp} {d : Dt} {c : Cr} (hg : MM.get a d = some c) : leftF a s d = c.cap - spentOf s d := by
  unfold leftF; rw [hg]
def minAt (f : Dt → Nat) (a : Dt) (D : List Dt) : Dt := D.foldl (fun a d => if f d < f a then d else a) a
theorem minAt_snoc (f : Dt → Nat) (a : Dt) (D : List Dt) (d : Dt) : minAt f a (D ++ [d]) = if f d < f (minAt f a D) then d else minAt f a D := by
  unfold minAt; rw [List.foldl_append]; rfl
theorem minAt_mem (f : Dt → Nat) (a : Dt) : ∀ D : List Dt, minAt f a D ∈ a :: D := fun D => by
  induction D using snocRec with
  | nil => simp [minAt]
  | snoc D d ih =>
    rw [minAt_snoc]
    split
    · simp
    · rcases List.mem_cons.1 ih with h | h
      · rw [h]; simp
      · exact List.mem_cons_of_mem _ (List.mem_append_left _ h)
theorem minAt_le (f : Dt → Nat) (a : Dt) : ∀ (D : List Dt) (d : Dt), d ∈ a :: D → f (minAt f a D) ≤ f d := fun D => by
  induction D using snocRec with
  | nil => intro d hd; simp at hd; rw [hd]; exact Nat.le_refl _
  | snoc D x ih =>
    intro d hd
    rw [minAt_snoc]
    have h0 : d ∈ a :: D ∨ d = x := by
      rcases List.mem_cons.1 hd with h | h
      · exact .inl (by rw [h]; simp)
      · rcases List.mem_append.1 h with h | h
        · exact .inl (List.mem_cons_of_mem _ h)
        · exact .inr (by simpa using h)
    split
    · rename_i hlt
      rcases h0 with h | h
      · have := ih d h; omega
      · rw [h]; exact Nat.le_refl _
    · rename_i hlt
      rcases h0 with h | h
      · exact ih d h
      · rw [h]; omega
theorem TOk.capN {l : List OpD} {T : Tr} (h : TOk l T) : ∀ (n : Nat) (d : Dt) (c : Cr), MM.get T.at_ d = some c → c.level = (n : Int) → c.cap ≤ 1099511627776
  | n, d, c, hg, hn => by
    obtain ⟨o, _, ho⟩ := h.cr d c hg
    rcases ho.how with ⟨_, _, e⟩ | ⟨p, q, hp, _, hb⟩
    · rw [e]; exact Nat.le_refl _
    · obtain ⟨_, h2, _⟩ := rnarrow_depth hb.nar
      have e1 : c.cap = o.cap := by rw [hb.is]
      have e2 : c.level = p.level + 1 := by rw [hb.is]
      have h0 := h.level hp
      match n, hn with
      | 0, hn => omega
      | n + 1, hn =>
        have := TOk.capN h n o.cred p hp (by omega)
        omega
theorem TOk.cap {l : List OpD} {T : Tr} (h : TOk l T) {d : Dt} {c : Cr} (hg : MM.get T.at_ d = some c) : c.cap ≤ 1099511627776 :=
  h.capN c.level.toNat d c hg (by have := h.level hg; omega)
section
variable {l : List OpD} (hlen : l.length < 4611686018427387904) (hl : ∀ x, x ∈ l → x.roles < 256) {T : Tr} (h : TOk l T)
include hlen hl h
theorem rleft_ok (s : List Sp) (hs : s.length < 100000) {d : Dt} {c : Cr} (hg : MM.get T.at_ d = some c) : Go.Sl.Pure Try.prog ref22_left.f [ops l, sps s, .agg d.cells] (.d (.int .u64 ((leftF T.at_ s d : Nat) : Int))) := by
  rw [leftF_some hg]
  have hr := rgetYes hlen hl h hg
  have hsp := rspent_at s (by omega) d
  have hcap := h.cap hg
  generalize spentOf s d = n at hsp
  refine ref22_left.enter (by first | rfl | simp [SV.ok, SV.oks]) (by first | rfl | simp [Hp.ok, Ob.ok, SV.ok, SV.oks, Vec.cells_ok]) (by simp) ?_
  unfold ref22_left.s
  by_cases hn : n ≥ c.cap
  · have h1 : decide ((n : Int) ≥ (c.cap : Int)) = true := by simp; omega
    rw [show c.cap - n = 0 by omega]
    (repeat (first | refine SW.seq ?_ | refine SW.block ?_ | (refine SW.regL [0, 1, 2, 5, 6, 7, 9, 22] mixed ?_; (repeat (first | refine RW.ro (h1) (h := ?_) | refine RW.skip (h := ?_) | refine RW.op (h1) (h := ?_) | refine RW.opN (h1) (h := ?_) | refine RW.skip0 (h := ?_) | (refine RW.callC (h := ?_); (first | refine CallP.mk (h1) (hc := hr _) (h := ?_) | refine CallP.mk (h1) (hc := hsp _) (h := ?_))))); refine RW.nil ⟨by kernel_rfl, Pruned.mk (h := ?_)⟩) | refine SW.skip ?_ | refine SW.exit ?_ | refine SW.ret ?_ | refine SW.condT rfl ?_ | refine SW.condF rfl ?_))
    exact End.mk [] (h4 := ⟨rfl, rfl⟩)
  · have h1 : decide ((n : Int) ≥ (c.cap : Int)) = false := by simp; omega
    have h2 : IntKind.u64.wrap ((c.cap : Int) - (n : Int)) = ((c.cap - n : Nat) : Int) := by rw [wrap_u64' _ (by omega)]; omega
    (repeat (first | refine SW.seq ?_ | refine SW.block ?_ | (refine SW.regL [0, 1, 2, 5, 6, 7, 9, 22] mixed ?_; (repeat (first | refine RW.ro (And.intro (h1) (h2)) (h := ?_) | refine RW.skip (h := ?_) | refine RW.op (And.intro (h1) (h2)) (h := ?_) | refine RW.opN (And.intro (h1) (h2)) (h := ?_) | refine RW.skip0 (h := ?_) | (refine RW.callC (h := ?_); (first | refine CallP.mk (And.intro (h1) (h2)) (hc := hr _) (h := ?_) | refine CallP.mk (And.intro (h1) (h2)) (hc := hsp _) (h := ?_))))); refine RW.nil ⟨by kernel_rfl, Pruned.mk (h := ?_)⟩) | refine SW.skip ?_ | refine SW.exit ?_ | refine SW.ret ?_ | refine SW.condT rfl ?_ | refine SW.condF rfl ?_))
    exact End.mk [] (h4 := ⟨rfl, rfl⟩)
theorem rleft_at (s : List Sp) (hs : s.length < 100000) {d : Dt} {c : Cr} (hg : MM.get T.at_ d = some c) (k : Nat) : SCd Try.prog ref22_left.f [ops l, sps s, .agg d.cells] [] k 0 (.d (.int .u64 ((leftF T.at_ s d : Nat) : Int))) [] := (rleft_ok hlen hl h s hs hg).sc rfl k
def tightS (f : Dt → Nat) : List Dt → SV
  | [] => .tup [.agg (Dt.mk 0 0).cells, .d (.int .u64 0), .d (.int .i64 7)]
  | d :: r => .tup [.agg (minAt f d r).cells, .d (.int .u64 ((f (minAt f d r) : Nat) : Int)), .d (.int .i64 0)]
set_option maxHeartbeats 4000000 in
theorem rtight_ok (s : List Sp) (hs : s.length < 100000) (d : Dt) (L : List Cr) (hL : Ups T.at_ (MM.get T.at_ d) L) (hlL : L.length < 1000000) : Go.Sl.Pure Try.prog ref22_Tight.f [ops l, sps s, .agg d.cells] (tightS (leftF T.at_ s) (L.map (·.dot))) := by
  have hc := rchain_at hlen hl h d L hL hlL
  cases hg : MM.get T.at_ d with
  | none =>
    rw [chainNo hg] at hc
    have e0 : L = [] := by rw [hg] at hL; cases hL; rfl
    rw [e0]
    show Go.Sl.Pure _ _ _ (.tup [.agg (Dt.mk 0 0).cells, .d (.int .u64 0), .d (.int .i64 7)])
    refine ref22_Tight.enter (by first | rfl | simp [SV.ok, SV.oks]) (by first | rfl | simp [Hp.ok, Ob.ok, SV.ok, SV.oks, Vec.cells_ok]) (by simp) ?_
    unfold ref22_Tight.s
    (repeat (first | refine SW.seq ?_ | refine SW.block ?_ | (refine SW.regL [0, 1, 2, 5, 6, 7, 8, 9, 10, 11, 12, 20, 25, 42] mixed ?_; (repeat (first | refine RW.ro bq_tt (h := ?_) | refine RW.skip (h := ?_) | refine RW.op bq_tt (h := ?_) | refine RW.opN bq_tt (h := ?_) | refine RW.skip0 (h := ?_) | (refine RW.callC (h := ?_); (first | refine CallP.mk bq_tt (hc := hc _) (h := ?_))))); refine RW.nil ⟨by kernel_rfl, Pruned.mk (h := ?_)⟩) | refine SW.skip ?_ | refine SW.exit ?_ | refine SW.ret ?_ | refine SW.condT rfl ?_ | refine SW.condF rfl ?_))
    exact End.mk [] (h4 := ⟨rfl, rfl⟩)
  | some c =>
    rw [chainYes hg] at hc
    have hall : ∀ x, x ∈ L.map (·.dot) → ∃ y, MM.get T.at_ x = some y := fun x hx => by
      obtain ⟨y, hy, rfl⟩ := List.mem_map.1 hx
      exact ⟨y, h.upsGet hL y hy⟩
    have hD : (L.map (·.dot)).length = L.length := List.length_map ..
    have hL0 : 0 < L.length := by
      rw [hg] at hL
      have := hL.head
      exact lt_of_get this
    generalize L.map (·.dot) = D at hc hall hD
    have hlf : ∀ x, x ∈ D → ∀ k, SCd Try.prog ref22_left.f [ops l, sps s, .agg x.cells] [] k 0 (.d (.int .u64 ((leftF T.at_ s x : Nat) : Int))) [] := fun x hx k => by
      obtain ⟨y, hy⟩ := hall x hx
      exact rleft_at hlen hl h s hs hy k
    generalize leftF T.at_ s = f at hlf
    cases D with
    | nil => simp at hD; omega
    | cons d0 r =>
      show Go.Sl.Pure _ _ _ (.tup [.agg (minAt f d0 r).cells, .d (.int .u64 ((f (minAt f d0 r) : Nat) : Int)), .d (.int .i64 0)])
      have hrl : (d0 :: r).length < 1000000 := by omega
      have hrn : (d0 :: r).length = r.length + 1 := rfl
      generalize hDD : d0 :: r = D at *
      refine ref22_Tight.enter (by first | rfl | simp [SV.ok, SV.oks]) (by first | rfl | simp [Hp.ok, Ob.ok, SV.ok, SV.oks, Vec.cells_ok]) (by simp) ?_
      unfold ref22_Tight.s
      refine SW.seq ?_
      (refine SW.regL [0, 1, 2, 5, 6, 7, 8, 9, 10, 11, 12, 20, 25, 42] mixed ?_; (repeat (first | refine RW.ro bq_tt (h := ?_) | refine RW.skip (h := ?_) | refine RW.op bq_tt (h := ?_) | refine RW.opN bq_tt (h := ?_) | refine RW.skip0 (h := ?_) | (refine RW.callC (h := ?_); (first | refine CallP.mk bq_tt (hc := hc _) (h := ?_))))); refine RW.nil ⟨by kernel_rfl, Pruned.mk (h := ?_)⟩)
      refine SW.seq ?_
      (refine SW.regL [0, 1, 2, 5, 6, 7, 8, 9, 10, 11, 12, 20, 25, 42] mixed ?_; (repeat (first | refine RW.ro bq_tt (h := ?_) | refine RW.skip (h := ?_) | refine RW.op bq_tt (h := ?_) | refine RW.opN bq_tt (h := ?_) | refine RW.skip0 (h := ?_) | (refine RW.callC (h := ?_); (first | refine CallP.mk bq_tt (hc := hc _) (h := ?_))))); refine RW.nil ⟨by kernel_rfl, Pruned.mk (h := ?_)⟩)
      refine SW.seq (SW.seq ?_)
      (refine SW.regL [0, 1, 2, 5, 6, 7, 8, 9, 10, 11, 12, 20, 25, 42] mixed ?_; (repeat (first | refine RW.ro bq_tt (h := ?_) | refine RW.skip (h := ?_) | refine RW.op bq_tt (h := ?_) | refine RW.opN bq_tt (h := ?_) | refine RW.skip0 (h := ?_) | (refine RW.callC (h := ?_); (first | refine CallP.mk bq_tt (hc := hc _) (h := ?_))))); refine RW.nil ⟨by kernel_rfl, Pruned.mk (h := ?_)⟩)
      refine SW.condF rfl (SW.skip ?_)
      refine SW.seq ?_
      (refine SW.regL [0, 1, 2, 5, 6, 7, 8, 9, 10, 11, 12, 20, 25, 42] mixed ?_; (repeat (first | refine RW.ro bq_tt (h := ?_) | refine RW.skip (h := ?_) | refine RW.op bq_tt (h := ?_) | refine RW.opN bq_tt (h := ?_) | refine RW.skip0 (h := ?_) | (refine RW.callC (h := ?_); (first | refine CallP.mk bq_tt (hc := hc _) (h := ?_))))); refine RW.nil ⟨by kernel_rfl, Pruned.mk (h := ?_)⟩)
      refine SW.seq (SW.seq ?_)
      (refine SW.regL [0, 1, 2, 5, 6, 7, 8, 9, 10, 11, 12, 20, 25, 42] mixed ?_; (repeat (first | refine RW.ro bq_tt (h := ?_) | refine RW.skip (h := ?_) | refine RW.op bq_tt (h := ?_) | refine RW.opN bq_tt (h := ?_) | refine RW.skip0 (h := ?_) | (refine RW.callC (h := ?_); (first | refine CallP.mk bq_tt (hc := hc _) (h := ?_))))); refine RW.nil ⟨by kernel_rfl, Pruned.mk (h := ?_)⟩)
      refine SW.block ?_
      refine SW.loopA (α := {j : Nat × Nat // j.1 ≤ r.length ∧ D[j.2]? = some (minAt f d0 (r.take j.1))}) (fun j => ⟨[(12, i64 ((j.1.1 + 1 : Nat) : Int)), (11, i64 j.1.2), (9, dots D), (0, ops l), (1, sps s), (6, .ptr 1 0)], [(1, .box 33 (Dt.mk 0 0).cells)], 2⟩) (fun j => r.length - j.1.1) ⟨(0, 0), by omega, by rw [← hDD]; rfl⟩ id bq_tt (round := ?_)
      rintro ⟨⟨j, b⟩, hj, hb⟩
      dsimp only at hj hb ⊢
      have hbD := lt_of_get hb
      by_cases hjl : j < r.length
      · obtain ⟨x, hx⟩ := get_of_lt hjl
        have hxD : D[j + 1]? = some x := by rw [← hDD]; exact hx
        have h1 : decide (((j + 1 : Nat) : Int) < D.length) = true := by simp only [decide_eq_true_eq]; omega
        have e2 : IntKind.i64.wrap (((j + 1 : Nat) : Int) + 1) = ((j + 1 + 1 : Nat) : Int) := by rw [wrap_i64 _ (by omega)]; omega
        have c1 := hlf x (List.mem_of_getElem? hxD)
        have c2 := hlf _ (List.mem_of_getElem? hb)
        have e1 : r.take (j + 1) = r.take j ++ [x] := take_snoc hx
        have hms := minAt_snoc f d0 (r.take j) x
        rw [← e1] at hms
        generalize hm : minAt f d0 (r.take j) = y at hb c2 hms
        refine SW.seq (SW.seq ?_)
        (refine SW.regL [0, 1, 2, 5, 6, 7, 8, 9, 10, 11, 12, 20, 25, 42] mixed ?_; (repeat (first | refine RW.ro (h1) (h := ?_) | refine RW.skip (h := ?_) | refine RW.op (h1) (h := ?_) | refine RW.opN (h1) (h := ?_) | refine RW.skip0 (h := ?_) | (refine RW.callC (h := ?_); (first | refine CallP.mk (h1) (hc := c1 _) (h := ?_) | refine CallP.mk (h1) (hc := c2 _) (h := ?_))))); refine RW.nil ⟨by kernel_rfl, Pruned.mk (h := ?_)⟩)
        refine SW.condT rfl (SW.skip ?_)
        refine SW.seq (SW.block (SW.seq ?_))
        by_cases hlt : f x < f y
        · have h2 : decide (((f x : Nat) : Int) < ((f y : Nat) : Int)) = true := by simp; omega
          rw [if_pos hlt] at hms
          (have fx := (And.intro (dot_at hxD) (And.intro (dot_at hb) (h2))); refine SW.regL [0, 1, 2, 5, 6, 7, 8, 9, 10, 11, 12, 20, 25, 42] mixed ?_; (repeat (first | refine RW.ro fx (h := ?_) | refine RW.skip (h := ?_) | refine RW.op fx (h := ?_) | refine RW.opN fx (h := ?_) | refine RW.skip0 (h := ?_) | (refine RW.callC (h := ?_); (first | refine CallP.mk fx (hc := c1 _) (h := ?_) | refine CallP.mk fx (hc := c2 _) (h := ?_))))); refine RW.nil ⟨by kernel_rfl, Pruned.mk (h := ?_)⟩)
          refine SW.condT rfl ?_
          (refine SW.regL [0, 1, 2, 5, 6, 7, 8, 9, 10, 11, 12, 20, 25, 42] mixed ?_; (repeat (first | refine RW.ro bq_tt (h := ?_) | refine RW.skip (h := ?_) | refine RW.op bq_tt (h := ?_) | refine RW.opN bq_tt (h := ?_) | refine RW.skip0 (h := ?_) | (refine RW.callC (h := ?_); (first | refine CallP.mk bq_tt (hc := c1 _) (h := ?_) | refine CallP.mk bq_tt (hc := c2 _) (h := ?_))))); refine RW.nil ⟨by kernel_rfl, Pruned.mk (h := ?_)⟩)
          (refine SW.regL [0, 1, 2, 5, 6, 7, 8, 9, 10, 11, 12, 20, 25, 42] mixed ?_; (repeat (first | refine RW.ro (e2) (h := ?_) | refine RW.skip (h := ?_) | refine RW.op (e2) (h := ?_) | refine RW.opN (e2) (h := ?_) | refine RW.skip0 (h := ?_) | (refine RW.callC (h := ?_); (first | refine CallP.mk (e2) (hc := c1 _) (h := ?_) | refine CallP.mk (e2) (hc := c2 _) (h := ?_))))); refine RW.nil ⟨by kernel_rfl, Pruned.mk (h := ?_)⟩)
          dsimp only
          exact ⟨⟨(j + 1, j + 1), by show j + 1 ≤ _; omega, by show D[j + 1]? = some (minAt f d0 (r.take (j + 1))); rw [hms]; exact hxD⟩, id, by show r.length - (j + 1) < _; omega, Weak.mk bq_tt⟩
        · have h2 : decide (((f x : Nat) : Int) < ((f y : Nat) : Int)) = false := by simp; omega
          rw [if_neg hlt] at hms
          (have fx := (And.intro (dot_at hxD) (And.intro (dot_at hb) (h2))); refine SW.regL [0, 1, 2, 5, 6, 7, 8, 9, 10, 11, 12, 20, 25, 42] mixed ?_; (repeat (first | refine RW.ro fx (h := ?_) | refine RW.skip (h := ?_) | refine RW.op fx (h := ?_) | refine RW.opN fx (h := ?_) | refine RW.skip0 (h := ?_) | (refine RW.callC (h := ?_); (first | refine CallP.mk fx (hc := c1 _) (h := ?_) | refine CallP.mk fx (hc := c2 _) (h := ?_))))); refine RW.nil ⟨by kernel_rfl, Pruned.mk (h := ?_)⟩)
          refine SW.condF rfl (SW.skip ?_)
          (refine SW.regL [0, 1, 2, 5, 6, 7, 8, 9, 10, 11, 12, 20, 25, 42] mixed ?_; (repeat (first | refine RW.ro (e2) (h := ?_) | refine RW.skip (h := ?_) | refine RW.op (e2) (h := ?_) | refine RW.opN (e2) (h := ?_) | refine RW.skip0 (h := ?_) | (refine RW.callC (h := ?_); (first | refine CallP.mk (e2) (hc := c1 _) (h := ?_) | refine CallP.mk (e2) (hc := c2 _) (h := ?_))))); refine RW.nil ⟨by kernel_rfl, Pruned.mk (h := ?_)⟩)
          dsimp only
          exact ⟨⟨(j + 1, b), by show j + 1 ≤ _; omega, by show D[b]? = some (minAt f d0 (r.take (j + 1))); rw [hms]; exact hb⟩, id, by show r.length - (j + 1) < _; omega, Weak.mk bq_tt⟩
      · have h1 : decide (((j + 1 : Nat) : Int) < D.length) = false := by simp only [decide_eq_false_iff_not]; omega
        have hjr : j = r.length := by omega
        subst hjr
        rw [List.take_length] at hb
        have c2 := hlf _ (List.mem_of_getElem? hb)
        generalize minAt f d0 r = y at hb c2
        refine SW.seq (SW.seq ?_)
        (refine SW.regL [0, 1, 2, 5, 6, 7, 8, 9, 10, 11, 12, 20, 25, 42] mixed ?_; (repeat (first | refine RW.ro (h1) (h := ?_) | refine RW.skip (h := ?_) | refine RW.op (h1) (h := ?_) | refine RW.opN (h1) (h := ?_) | refine RW.skip0 (h := ?_) | (refine RW.callC (h := ?_); (first | refine CallP.mk (h1) (hc := c2 _) (h := ?_))))); refine RW.nil ⟨by kernel_rfl, Pruned.mk (h := ?_)⟩)
        refine SW.condF rfl (SW.exit ?_)
        refine SW.seq ?_
        (refine SW.regL [0, 1, 2, 5, 6, 7, 8, 9, 10, 11, 12, 20, 25, 42] mixed ?_; (repeat (first | refine RW.ro (dot_at hb) (h := ?_) | refine RW.skip (h := ?_) | refine RW.op (dot_at hb) (h := ?_) | refine RW.opN (dot_at hb) (h := ?_) | refine RW.skip0 (h := ?_) | (refine RW.callC (h := ?_); (first | refine CallP.mk (dot_at hb) (hc := c2 _) (h := ?_))))); refine RW.nil ⟨by kernel_rfl, Pruned.mk (h := ?_)⟩)
        refine SW.ret ?_
        exact End.mk [] (h4 := ⟨rfl, rfl⟩)
theorem rtight_at (s : List Sp) (hs : s.length < 100000) (d : Dt) (L : List Cr) (hL : Ups T.at_ (MM.get T.at_ d) L) (hlL : L.length < 1000000) (k : Nat) : SCd Try.prog ref22_Tight.f [ops l, sps s, .agg d.cells] [] k 0 (tightS (leftF T.at_ s) (L.map (·.dot))) [] := (rtight_ok hlen hl h s hs d L hL hlL).sc (by cases L.map (·.dot) <;> rfl) k
end
end Go.Proofs.Ytmmonbnlleeloaa
namespace Go.Proofs.Ytmmonbnlleeloaa
open Go.Sl Go.Proofs
attribute [local irreducible] SW RW SCd SC CallP Pruned
def butOf (l : List Sp) (d : Dt) : List Sp := l.filter fun x => decide (x.d ≠ d)
theorem butOf_snoc (l : List Sp) (x : Sp) (d : Dt) : butOf (l ++ [x]) d = if x.d = d then butOf l d else butOf l d ++ [x] := by
  unfold butOf
  rw [List.filter_append]
  by_cases h : x.d = d <;> simp [h]
theorem butOf_len (l : List Sp) (d : Dt) : (butOf l d).length ≤ l.length := List.length_filter_le _ _
def moreS (amount : Nat) (l : List Sp) (d : Dt) : List Sp := butOf l d ++ [⟨d, spentOf l d + amount⟩]
def moreR (amount : Nat) (s : List Sp) (D : List Dt) : List Sp := D.foldl (moreS amount) (plainR s)
theorem moreR_snoc (amount : Nat) (s : List Sp) (D : List Dt) (d : Dt) : moreR amount s (D ++ [d]) = moreS amount (moreR amount s D) d := by
  unfold moreR; rw [List.foldl_append]; rfl
theorem moreR_len (amount : Nat) (s : List Sp) (D : List Dt) : (moreR amount s D).length ≤ s.length + D.length := by
  induction D using snocRec with
  | nil => exact plainR_len s
  | snoc D d ih =>
    rw [moreR_snoc]
    unfold moreS
    have := butOf_len (moreR amount s D) d
    simp; omega
def chargeS (f : Dt → Nat) (amount : Nat) (s : List Sp) : List Dt → SV
  | [] => .tup [.d .nils, .d (.int .i64 7)]
  | d :: r => if f (minAt f d r) < amount then .tup [sps (plainR s), .d (.int .i64 279)] else .tup [sps (plainR (moreR amount s (d :: r))), .d (.int .i64 0)]
section
variable {l : List OpD} (hlen : l.length < 4611686018427387904) (hl : ∀ x, x ∈ l → x.roles < 256) {T : Tr} (h : TOk l T)
include hlen hl h
set_option maxHeartbeats 8000000 in
theorem rcharge_ok (s : List Sp) (hs : s.length < 10000) (hwf : ∀ x, x ∈ s → x.d.wf) (d : Dt) (L : List Cr) (hL : Ups T.at_ (MM.get T.at_ d) L) (hlL : L.length < 10000) (amount : Nat)
    (hb : (∀ x, x ∈ L.map (·.dot) → amount ≤ leftF T.at_ s x) → ∀ j x, (L.map (·.dot))[j]? = some x → spentOf (moreR amount s ((L.map (·.dot)).take j)) x + amount < 18446744073709551616) (hwm : ∀ x, x ∈ moreR amount s (L.map (·.dot)) → x.d.wf) :
    Go.Sl.Pure Try.prog ref22_Charge.f [ops l, sps s, .agg d.cells, .d (.int .u64 (amount : Int))] (chargeS (leftF T.at_ s) amount s (L.map (·.dot))) := by
  have hc := rchain_at hlen hl h d L hL (by omega)
  have ht := rtight_at hlen hl h s (by omega) d L hL (by omega)
  have hpl := rplain_at s (by omega) hwf
  cases hg : MM.get T.at_ d with
  | none =>
    rw [chainNo hg] at hc
    have e0 : L = [] := by rw [hg] at hL; cases hL; rfl
    rw [e0] at ht ⊢
    have ht' : ∀ k, SCd Try.prog ref22_Tight.f [ops l, sps s, .agg d.cells] [] k 0 (.tup [.agg (Dt.mk 0 0).cells, .d (.int .u64 0), .d (.int .i64 7)]) [] := ht
    show Go.Sl.Pure _ _ _ (.tup [.d .nils, .d (.int .i64 7)])
    refine ref22_Charge.enter (by first | rfl | simp [SV.ok, SV.oks]) (by first | rfl | simp [Hp.ok, Ob.ok, SV.ok, SV.oks, Vec.cells_ok]) (by simp) ?_
    unfold ref22_Charge.s
    (repeat (first | refine SW.seq ?_ | refine SW.block ?_ | (refine SW.regL [0, 1, 2, 3, 6, 8, 9, 11, 12, 13, 15, 16, 17, 18, 19, 29, 33, 49, 61, 73] mixed ?_; (repeat (first | refine RW.ro bq_tt (h := ?_) | refine RW.skip (h := ?_) | refine RW.op bq_tt (h := ?_) | refine RW.opN bq_tt (h := ?_) | refine RW.skip0 (h := ?_) | (refine RW.callC (h := ?_); (first | refine CallP.mk bq_tt (hc := ht' _) (h := ?_))))); refine RW.nil ⟨by kernel_rfl, Pruned.mk (h := ?_)⟩) | refine SW.skip ?_ | refine SW.exit ?_ | refine SW.ret ?_ | refine SW.condT rfl ?_ | refine SW.condF rfl ?_))
    exact End.mk [] (h4 := ⟨rfl, rfl⟩)
  | some c =>
    rw [chainYes hg] at hc
    have hD : (L.map (·.dot)).length = L.length := List.length_map ..
    have hL0 : 0 < L.length := by
      rw [hg] at hL
      have := hL.head
      exact lt_of_get this
    generalize L.map (·.dot) = D at hc hD ht hb hwm
    generalize leftF T.at_ s = f at ht hb
    cases D with
    | nil => simp at hD; omega
    | cons d0 r =>
      have ht' : ∀ k, SCd Try.prog ref22_Tight.f [ops l, sps s, .agg d.cells] [] k 0 (.tup [.agg (minAt f d0 r).cells, .d (.int .u64 ((f (minAt f d0 r) : Nat) : Int)), .d (.int .i64 0)]) [] := ht
      show Go.Sl.Pure _ _ _ (if f (minAt f d0 r) < amount then .tup [sps (plainR s), .d (.int .i64 279)] else .tup [sps (plainR (moreR amount s (d0 :: r))), .d (.int .i64 0)])
      have hle := minAt_le f d0 r
      generalize f (minAt f d0 r) = room at ht' hle
      generalize minAt f d0 r = tg at ht'
      generalize hDD : d0 :: r = D at *
      by_cases hov : room < amount
      · rw [if_pos hov]
        have h1 : decide ((amount : Int) > (room : Int)) = true := by simp; omega
        refine ref22_Charge.enter (by first | rfl | simp [SV.ok, SV.oks]) (by first | rfl | simp [Hp.ok, Ob.ok, SV.ok, SV.oks, Vec.cells_ok]) (by simp) ?_
        unfold ref22_Charge.s
        (repeat (first | refine SW.seq ?_ | refine SW.block ?_ | (refine SW.regL [0, 1, 2, 3, 6, 8, 9, 11, 12, 13, 15, 16, 17, 18, 19, 29, 33, 49, 61, 73] mixed ?_; (repeat (first | refine RW.ro (h1) (h := ?_) | refine RW.skip (h := ?_) | refine RW.op (h1) (h := ?_) | refine RW.opN (h1) (h := ?_) | refine RW.skip0 (h := ?_) | (refine RW.callC (h := ?_); (first | refine CallP.mk (h1) (hc := ht' _) (h := ?_) | refine CallP.mk (h1) (hc := hpl _) (h := ?_))))); refine RW.nil ⟨by kernel_rfl, Pruned.mk (h := ?_)⟩) | refine SW.skip ?_ | refine SW.exit ?_ | refine SW.ret ?_ | refine SW.condT rfl ?_ | refine SW.condF rfl ?_))
        exact End.mk [] (h4 := ⟨rfl, rfl⟩)
      · rw [if_neg hov]
        have hb := hb fun x hx => by have := hle x hx; omega
        have h1 : decide ((amount : Int) > (room : Int)) = false := by simp; omega
        refine ref22_Charge.enter (by first | rfl | simp [SV.ok, SV.oks]) (by first | rfl | simp [Hp.ok, Ob.ok, SV.ok, SV.oks, Vec.cells_ok]) (by simp) ?_
        unfold ref22_Charge.s
        refine SW.seq ?_
        (refine SW.regL [0, 1, 2, 3, 6, 8, 9, 11, 12, 13, 15, 16, 17, 18, 19, 29, 33, 49, 61, 73] mixed ?_; (repeat (first | refine RW.ro bq_tt (h := ?_) | refine RW.skip (h := ?_) | refine RW.op bq_tt (h := ?_) | refine RW.opN bq_tt (h := ?_) | refine RW.skip0 (h := ?_) | (refine RW.callC (h := ?_); (first | refine CallP.mk bq_tt (hc := ht' _) (h := ?_) | refine CallP.mk bq_tt (hc := hpl _) (h := ?_) | refine CallP.mk bq_tt (hc := hc _) (h := ?_))))); refine RW.nil ⟨by kernel_rfl, Pruned.mk (h := ?_)⟩)
        refine SW.seq ?_
        (refine SW.regL [0, 1, 2, 3, 6, 8, 9, 11, 12, 13, 15, 16, 17, 18, 19, 29, 33, 49, 61, 73] mixed ?_; (repeat (first | refine RW.ro bq_tt (h := ?_) | refine RW.skip (h := ?_) | refine RW.op bq_tt (h := ?_) | refine RW.opN bq_tt (h := ?_) | refine RW.skip0 (h := ?_) | (refine RW.callC (h := ?_); (first | refine CallP.mk bq_tt (hc := ht' _) (h := ?_) | refine CallP.mk bq_tt (hc := hpl _) (h := ?_) | refine CallP.mk bq_tt (hc := hc _) (h := ?_))))); refine RW.nil ⟨by kernel_rfl, Pruned.mk (h := ?_)⟩)
        refine SW.seq (SW.seq ?_)
        (refine SW.regL [0, 1, 2, 3, 6, 8, 9, 11, 12, 13, 15, 16, 17, 18, 19, 29, 33, 49, 61, 73] mixed ?_; (repeat (first | refine RW.ro bq_tt (h := ?_) | refine RW.skip (h := ?_) | refine RW.op bq_tt (h := ?_) | refine RW.opN bq_tt (h := ?_) | refine RW.skip0 (h := ?_) | (refine RW.callC (h := ?_); (first | refine CallP.mk bq_tt (hc := ht' _) (h := ?_) | refine CallP.mk bq_tt (hc := hpl _) (h := ?_) | refine CallP.mk bq_tt (hc := hc _) (h := ?_))))); refine RW.nil ⟨by kernel_rfl, Pruned.mk (h := ?_)⟩)
        refine SW.condF rfl (SW.skip ?_)
        refine SW.seq (SW.seq ?_)
        (refine SW.regL [0, 1, 2, 3, 6, 8, 9, 11, 12, 13, 15, 16, 17, 18, 19, 29, 33, 49, 61, 73] mixed ?_; (repeat (first | refine RW.ro (h1) (h := ?_) | refine RW.skip (h := ?_) | refine RW.op (h1) (h := ?_) | refine RW.opN (h1) (h := ?_) | refine RW.skip0 (h := ?_) | (refine RW.callC (h := ?_); (first | refine CallP.mk (h1) (hc := ht' _) (h := ?_) | refine CallP.mk (h1) (hc := hpl _) (h := ?_) | refine CallP.mk (h1) (hc := hc _) (h := ?_))))); refine RW.nil ⟨by kernel_rfl, Pruned.mk (h := ?_)⟩)
        refine SW.condF rfl (SW.skip ?_)
        have hpl2 := plainR_len s
        refine SW.seq ?_
        (refine SW.regL [0, 1, 2, 3, 6, 8, 9, 11, 12, 13, 15, 16, 17, 18, 19, 29, 33, 49, 61, 73] mixed ?_; (repeat (first | refine RW.ro bq_tt (h := ?_) | refine RW.skip (h := ?_) | refine RW.op bq_tt (h := ?_) | refine RW.opN bq_tt (h := ?_) | refine RW.skip0 (h := ?_) | (refine RW.callC (h := ?_); (first | refine CallP.mk bq_tt (hc := ht' _) (h := ?_) | refine CallP.mk bq_tt (hc := hpl _) (h := ?_) | refine CallP.mk bq_tt (hc := hc _) (h := ?_))))); refine RW.nil ⟨by kernel_rfl, Pruned.mk (h := ?_)⟩)
        refine SW.seq ?_
        (refine SW.regL [0, 1, 2, 3, 6, 8, 9, 11, 12, 13, 15, 16, 17, 18, 19, 29, 33, 49, 61, 73] mixed ?_; (repeat (first | refine RW.ro bq_tt (h := ?_) | refine RW.skip (h := ?_) | refine RW.op bq_tt (h := ?_) | refine RW.opN bq_tt (h := ?_) | refine RW.skip0 (h := ?_) | (refine RW.callC (h := ?_); (first | refine CallP.mk bq_tt (hc := ht' _) (h := ?_) | refine CallP.mk bq_tt (hc := hpl _) (h := ?_) | refine CallP.mk bq_tt (hc := hc _) (h := ?_))))); refine RW.nil ⟨by kernel_rfl, Pruned.mk (h := ?_)⟩)
        refine SW.freeze 3 ((plainR s).flatMap Sp.ds) rfl rfl ?_
        simp only [frzE, SV.frz, List.map_cons, List.map_nil, if_true, if_false, reduceIte, hdel, Nat.reduceEqDiff]
        refine SW.weak id (st1 := ⟨[(15, sps (plainR s)), (13, dots D), (3, .d (.int .u64 (amount : Int)))], [], 0⟩) (Weak.mk bq_tt) ?_
        refine SW.seq (SW.seq ?_)
        (refine SW.regL [0, 1, 2, 3, 6, 8, 9, 11, 12, 13, 15, 16, 17, 18, 19, 29, 33, 49, 61, 73] mixed ?_; (repeat (first | refine RW.ro bq_tt (h := ?_) | refine RW.skip (h := ?_) | refine RW.op bq_tt (h := ?_) | refine RW.opN bq_tt (h := ?_) | refine RW.skip0 (h := ?_))); refine RW.nil ⟨by kernel_rfl, Pruned.mk (h := ?_)⟩)
        refine SW.block ?_
        refine SW.loopA (α := {j : Nat // j ≤ D.length}) (fun j => ⟨[(16, i64 j.1), (15, sps (moreR amount s (D.take j.1))), (13, dots D), (3, .d (.int .u64 (amount : Int)))], [], 0⟩) (fun j => D.length - j.1) ⟨0, by omega⟩ id (And.intro (show moreR amount s [] = plainR s from rfl) bq_tt) (round := ?_)
        rintro ⟨j, hj⟩
        dsimp only
        have hml := moreR_len amount s (D.take j)
        have htl : (D.take j).length ≤ D.length := by simp; omega
        by_cases hjl : j < D.length
        · obtain ⟨x, hx⟩ := get_of_lt hjl
          have j1 : decide ((j : Int) < D.length) = true := by simp; exact hjl
          have e1 : D.take (j + 1) = D.take j ++ [x] := take_snoc hx
          have e2 : IntKind.i64.wrap ((j : Int) + 1) = ((j + 1 : Nat) : Int) := wrap_i64 _ (by omega)
          have hsn := moreR_snoc amount s (D.take j) x
          rw [← e1] at hsn
          have hbx := hb j x hx
          generalize moreR amount s (D.take j) = more at hml hsn hbx
          have hsp := rspent_at more (by omega) x
          unfold moreS at hsn
          generalize spentOf more x = n at hsp hbx hsn
          have e3 : IntKind.u64.wrap ((n : Int) + (amount : Int)) = ((n + amount : Nat) : Int) := by rw [wrap_u64' _ (by omega)]; omega
          refine SW.seq (SW.seq ?_)
          (refine SW.regL [0, 1, 2, 3, 6, 8, 9, 11, 12, 13, 15, 16, 17, 18, 19, 29, 33, 49, 61, 73] mixed ?_; (repeat (first | refine RW.ro (j1) (h := ?_) | refine RW.skip (h := ?_) | refine RW.op (j1) (h := ?_) | refine RW.opN (j1) (h := ?_) | refine RW.skip0 (h := ?_) | (refine RW.callC (h := ?_); (first | refine CallP.mk (j1) (hc := hsp _) (h := ?_))))); refine RW.nil ⟨by kernel_rfl, Pruned.mk (h := ?_)⟩)
          refine SW.condT rfl (SW.skip ?_)
          refine SW.seq (SW.block ?_)
          refine SW.seq ?_
          (refine SW.regL [0, 1, 2, 3, 6, 8, 9, 11, 12, 13, 15, 16, 17, 18, 19, 29, 33, 49, 61, 73] mixed ?_; (repeat (first | refine RW.ro (dot_at hx) (h := ?_) | refine RW.skip (h := ?_) | refine RW.op (dot_at hx) (h := ?_) | refine RW.opN (dot_at hx) (h := ?_) | refine RW.skip0 (h := ?_) | (refine RW.callC (h := ?_); (first | refine CallP.mk (dot_at hx) (hc := hsp _) (h := ?_))))); refine RW.nil ⟨by kernel_rfl, Pruned.mk (h := ?_)⟩)
          refine SW.seq ?_
          (refine SW.regL [0, 1, 2, 3, 6, 8, 9, 11, 12, 13, 15, 16, 17, 18, 19, 29, 33, 49, 61, 73] mixed ?_; (repeat (first | refine RW.ro bq_tt (h := ?_) | refine RW.skip (h := ?_) | refine RW.op bq_tt (h := ?_) | refine RW.opN bq_tt (h := ?_) | refine RW.skip0 (h := ?_))); refine RW.nil ⟨by kernel_rfl, Pruned.mk (h := ?_)⟩)
          refine SW.nilrow 18 80 3 rfl ?_
          refine SW.seq (SW.seq ?_)
          (refine SW.regL [0, 1, 2, 3, 6, 8, 9, 11, 12, 13, 15, 16, 17, 18, 19, 29, 33, 49, 61, 73] mixed ?_; (repeat (first | refine RW.ro bq_tt (h := ?_) | refine RW.skip (h := ?_) | refine RW.op bq_tt (h := ?_) | refine RW.opN bq_tt (h := ?_) | refine RW.skip0 (h := ?_))); refine RW.nil ⟨by kernel_rfl, Pruned.mk (h := ?_)⟩)
          refine SW.block ?_
          refine SW.loopA (α := {k : Nat // k ≤ more.length}) (fun k => ⟨[(19, i64 k.1), (18, .gs 0 (butOf (more.take k.1) x).length), (17, .d (.int .u64 (n : Int))), (16, i64 j), (15, sps more), (13, dots D), (3, .d (.int .u64 (amount : Int)))], [(0, .arr 80 3 (butOf (more.take k.1) x).length (spc (butOf (more.take k.1) x)))], 1⟩) (fun k => more.length - k.1) ⟨0, by omega⟩ id (And.intro (show butOf [] x = [] from rfl) bq_tt) (round := ?_)
          rintro ⟨k, hk⟩
          dsimp only
          have hbl := butOf_len (more.take k) x
          have hkl0 : (more.take k).length ≤ more.length := by simp; omega
          by_cases hkl : k < more.length
          · obtain ⟨z, hz⟩ := get_of_lt hkl
            have k1 : decide ((k : Int) < more.length) = true := by simp; exact hkl
            have k2 : more.take (k + 1) = more.take k ++ [z] := take_snoc hz
            have k3 : IntKind.i64.wrap ((k : Int) + 1) = ((k + 1 : Nat) : Int) := wrap_i64 _ (by omega)
            have hbs := butOf_snoc (more.take k) z x
            rw [← k2] at hbs
            generalize butOf (more.take k) x = bt at hbl hbs
            refine SW.seq (SW.seq ?_)
            (refine SW.regL [0, 1, 2, 3, 6, 8, 9, 11, 12, 13, 15, 16, 17, 18, 19, 29, 33, 49, 61, 73] mixed ?_; (repeat (first | refine RW.ro (k1) (h := ?_) | refine RW.skip (h := ?_) | refine RW.op (k1) (h := ?_) | refine RW.opN (k1) (h := ?_) | refine RW.skip0 (h := ?_))); refine RW.nil ⟨by kernel_rfl, Pruned.mk (h := ?_)⟩)
            refine SW.condT rfl (SW.skip ?_)
            refine SW.seq (SW.block (SW.seq ?_))
            by_cases hd : z.d = x
            · have d1 : decide (z.d = x) = true := decide_eq_true hd
              rw [if_pos hd] at hbs
              (have fx := (And.intro (sp_dot hz) (And.intro (sp_room2 hz) (And.intro (dot_at hx) (d1)))); refine SW.regL [0, 1, 2, 3, 6, 8, 9, 11, 12, 13, 15, 16, 17, 18, 19, 29, 33, 49, 61, 73] mixed ?_; (repeat (first | refine RW.ro fx (h := ?_) | refine RW.skip (h := ?_) | refine RW.op fx (h := ?_) | refine RW.opN fx (h := ?_) | refine RW.skip0 (h := ?_))); refine RW.nil ⟨by kernel_rfl, Pruned.mk (h := ?_)⟩)
              refine SW.condF rfl (SW.skip ?_)
              (refine SW.regL [0, 1, 2, 3, 6, 8, 9, 11, 12, 13, 15, 16, 17, 18, 19, 29, 33, 49, 61, 73] mixed ?_; (repeat (first | refine RW.ro (k3) (h := ?_) | refine RW.skip (h := ?_) | refine RW.op (k3) (h := ?_) | refine RW.opN (k3) (h := ?_) | refine RW.skip0 (h := ?_))); refine RW.nil ⟨by kernel_rfl, Pruned.mk (h := ?_)⟩)
              dsimp only
              exact ⟨⟨k + 1, by omega⟩, id, by show more.length - (k + 1) < _; omega, Weak.mk (And.intro hbs bq_tt)⟩
            · have d1 : decide (z.d = x) = false := decide_eq_false hd
              rw [if_neg hd] at hbs
              (have fx := (And.intro (sp_dot hz) (And.intro (sp_room2 hz) (And.intro (dot_at hx) (d1)))); refine SW.regL [0, 1, 2, 3, 6, 8, 9, 11, 12, 13, 15, 16, 17, 18, 19, 29, 33, 49, 61, 73] mixed ?_; (repeat (first | refine RW.ro fx (h := ?_) | refine RW.skip (h := ?_) | refine RW.op fx (h := ?_) | refine RW.opN fx (h := ?_) | refine RW.skip0 (h := ?_))); refine RW.nil ⟨by kernel_rfl, Pruned.mk (h := ?_)⟩)
              refine SW.condT rfl ?_
              (have fx := (And.intro (sp_at hz) (sp_room3 hz)); refine SW.regL [0, 1, 2, 3, 6, 8, 9, 11, 12, 13, 15, 16, 17, 18, 19, 29, 33, 49, 61, 73] mixed ?_; (repeat (first | refine RW.ro fx (h := ?_) | refine RW.skip (h := ?_) | refine RW.op fx (h := ?_) | refine RW.opN fx (h := ?_) | refine RW.skip0 (h := ?_))); refine RW.nil ⟨by kernel_rfl, Pruned.mk (h := ?_)⟩)
              (refine SW.regL [0, 1, 2, 3, 6, 8, 9, 11, 12, 13, 15, 16, 17, 18, 19, 29, 33, 49, 61, 73] mixed ?_; (repeat (first | refine RW.ro (k3) (h := ?_) | refine RW.skip (h := ?_) | refine RW.op (k3) (h := ?_) | refine RW.opN (k3) (h := ?_) | refine RW.skip0 (h := ?_))); refine RW.nil ⟨by kernel_rfl, Pruned.mk (h := ?_)⟩)
              dsimp only
              exact ⟨⟨k + 1, by omega⟩, fun n => if n = 0 then 1 else n, by show more.length - (k + 1) < _; omega, Weak.mk (And.intro hbs (And.intro (Sp.map_ds z) bq_tt))⟩
          · have k1 : decide ((k : Int) < more.length) = false := by simp; omega
            have k2 : k = more.length := by omega
            subst k2
            rw [List.take_length] at hbl ⊢
            generalize butOf more x = bt at hbl hsn
            refine SW.seq (SW.seq ?_)
            (refine SW.regL [0, 1, 2, 3, 6, 8, 9, 11, 12, 13, 15, 16, 17, 18, 19, 29, 33, 49, 61, 73] mixed ?_; (repeat (first | refine RW.ro (k1) (h := ?_) | refine RW.skip (h := ?_) | refine RW.op (k1) (h := ?_) | refine RW.opN (k1) (h := ?_) | refine RW.skip0 (h := ?_))); refine RW.nil ⟨by kernel_rfl, Pruned.mk (h := ?_)⟩)
            refine SW.condF rfl (SW.exit ?_)
            (have fx := (And.intro (dot_at hx) (e3)); refine SW.regL [0, 1, 2, 3, 6, 8, 9, 11, 12, 13, 15, 16, 17, 18, 19, 29, 33, 49, 61, 73] mixed ?_; (repeat (first | refine RW.ro fx (h := ?_) | refine RW.skip (h := ?_) | refine RW.op fx (h := ?_) | refine RW.opN fx (h := ?_) | refine RW.skip0 (h := ?_))); refine RW.nil ⟨by kernel_rfl, Pruned.mk (h := ?_)⟩)
            refine SW.freeze 1 ((bt ++ [(⟨x, n + amount⟩ : Sp)]).flatMap Sp.ds) rfl (by simp [Sp.cells]) ?_
            simp only [frzE, SV.frz, List.map_cons, List.map_nil, if_true, if_false, reduceIte, hdel, Nat.reduceEqDiff]
            (refine SW.regL [0, 1, 2, 3, 6, 8, 9, 11, 12, 13, 15, 16, 17, 18, 19, 29, 33, 49, 61, 73] mixed ?_; (repeat (first | refine RW.ro (e2) (h := ?_) | refine RW.skip (h := ?_) | refine RW.op (e2) (h := ?_) | refine RW.opN (e2) (h := ?_) | refine RW.skip0 (h := ?_))); refine RW.nil ⟨by kernel_rfl, Pruned.mk (h := ?_)⟩)
            dsimp only
            exact ⟨⟨j + 1, by omega⟩, id, by show D.length - (j + 1) < _; omega, Weak.mk (And.intro hsn bq_tt)⟩
        · have j1 : decide ((j : Int) < D.length) = false := by simp; omega
          have j2 : j = D.length := by omega
          subst j2
          rw [List.take_length] at hml ⊢
          have hpm := rplain_at (moreR amount s D) (by omega) hwm
          generalize moreR amount s D = more at hpm
          refine SW.seq (SW.seq ?_)
          (refine SW.regL [0, 1, 2, 3, 6, 8, 9, 11, 12, 13, 15, 16, 17, 18, 19, 29, 33, 49, 61, 73] mixed ?_; (repeat (first | refine RW.ro (j1) (h := ?_) | refine RW.skip (h := ?_) | refine RW.op (j1) (h := ?_) | refine RW.opN (j1) (h := ?_) | refine RW.skip0 (h := ?_) | (refine RW.callC (h := ?_); (first | refine CallP.mk (j1) (hc := hpm _) (h := ?_))))); refine RW.nil ⟨by kernel_rfl, Pruned.mk (h := ?_)⟩)
          refine SW.condF rfl (SW.exit ?_)
          refine SW.seq ?_
          (refine SW.regL [0, 1, 2, 3, 6, 8, 9, 11, 12, 13, 15, 16, 17, 18, 19, 29, 33, 49, 61, 73] mixed ?_; (repeat (first | refine RW.ro bq_tt (h := ?_) | refine RW.skip (h := ?_) | refine RW.op bq_tt (h := ?_) | refine RW.opN bq_tt (h := ?_) | refine RW.skip0 (h := ?_) | (refine RW.callC (h := ?_); (first | refine CallP.mk bq_tt (hc := hpm _) (h := ?_))))); refine RW.nil ⟨by kernel_rfl, Pruned.mk (h := ?_)⟩)
          refine SW.ret ?_
          exact End.mk [] (h4 := ⟨rfl, rfl⟩)
end
end Go.Proofs.Ytmmonbnlleeloaa
namespace Go.Proofs.Ytmmonbnlleeloaa
open Go.Sl Go.Proofs
attribute [local irreducible] SW RW SCd SC CallP Pruned
def spStep (M : MM Dt Nat × Nat) (x : Sp) : MM Dt Nat × Nat := if MM.has M.1 x.d then M else (MM.put M.1 M.2 x.d x.n, MM.clk M.1 M.2 x.d)
def spM (s : List Sp) : MM Dt Nat × Nat := s.foldl spStep ([], 0)
theorem spM_snoc (s : List Sp) (x : Sp) : spM (s ++ [x]) = spStep (spM s) x := by unfold spM; rw [List.foldl_append]; rfl
theorem spM_wf (s : List Sp) : MM.wf (spM s).1 (spM s).2 := by
  induction s using snocRec with
  | nil => exact MM.wf_nil
  | snoc s x ih =>
    rw [spM_snoc]
    unfold spStep
    split
    · exact ih
    · exact MM.wf_put ih _ _
theorem spM_get (s : List Sp) (d : Dt) : MM.get (spM s).1 d = (spentO s d).map (·.n) := by
  induction s using snocRec with
  | nil => rfl
  | snoc s x ih =>
    rw [spM_snoc, spentO_app]
    unfold spStep
    by_cases hh : MM.has (spM s).1 x.d = true
    · rw [if_pos hh, ih]
      cases hs : spentO s d with
      | some y => rfl
      | none =>
        have : spentO [x] d = none := by
          rw [spentO_cons, if_neg, spentO_nil]
          intro e
          unfold MM.has at hh
          rw [e, ih, hs] at hh
          cases hh
        rw [this]; rfl
    · rw [if_neg hh]
      show MM.get (MM.put _ _ _ _) d = _
      rw [MM.get_put]
      by_cases e : d = x.d
      · rw [if_pos e]
        have : spentO s d = none := by
          have h2 : MM.get (spM s).1 x.d = none := by
            cases hg : MM.get (spM s).1 x.d with
            | none => rfl
            | some v => exact absurd (show MM.has (spM s).1 x.d = true by unfold MM.has; rw [hg]; rfl) hh
          rw [← e, ih] at h2
          cases hs : spentO s d with
          | none => rfl
          | some y => rw [hs] at h2; cases h2
        rw [this, spentO_cons, if_pos e.symm]; rfl
      · rw [if_neg e, ih]
        have : spentO [x] d = none := by rw [spentO_cons, if_neg (fun h => e h.symm), spentO_nil]
        rw [this]
        cases spentO s d <;> rfl
theorem spM_spent (s : List Sp) (d : Dt) : (MM.get (spM s).1 d).getD 0 = spentOf s d := by rw [spM_get]; rfl
set_option maxHeartbeats 2000000 in
theorem spendsOf_sb (s : List Sp) (hs : s.length < 100000) : SB Try.prog charge_spendsOf.f [sps s] [] 0 1 (fun r F' => r = .mp 0 ∧ F' = [(0, .map (mapE Dt.cells uv (spM s).1) (spM s).2)]) := by
  refine charge_spendsOf.enter (by first | rfl | simp [SV.ok, SV.oks]) (by first | rfl | simp [Hp.ok, Ob.ok, SV.ok, SV.oks, Vec.cells_ok]) (by simp) ?_
  unfold charge_spendsOf.s
  refine SW.seq ?_
  (refine SW.regL [0, 2, 3, 5, 7, 9, 10, 11, 12, 23] mixed ?_; (repeat (first | refine RW.ro bq_tt (h := ?_) | refine RW.skip (h := ?_) | refine RW.op bq_tt (h := ?_) | refine RW.opN bq_tt (h := ?_) | refine RW.skip0 (h := ?_))); refine RW.nil ⟨by kernel_rfl, Pruned.mk (h := ?_)⟩)
  refine SW.seq ?_
  (refine SW.regL [0, 2, 3, 5, 7, 9, 10, 11, 12, 23] mixed ?_; (repeat (first | refine RW.ro bq_tt (h := ?_) | refine RW.skip (h := ?_) | refine RW.op bq_tt (h := ?_) | refine RW.opN bq_tt (h := ?_) | refine RW.skip0 (h := ?_))); refine RW.nil ⟨by kernel_rfl, Pruned.mk (h := ?_)⟩)
  refine SW.seq (SW.seq ?_)
  (refine SW.regL [0, 2, 3, 5, 7, 9, 10, 11, 12, 23] mixed ?_; (repeat (first | refine RW.ro bq_tt (h := ?_) | refine RW.skip (h := ?_) | refine RW.op bq_tt (h := ?_) | refine RW.opN bq_tt (h := ?_) | refine RW.skip0 (h := ?_))); refine RW.nil ⟨by kernel_rfl, Pruned.mk (h := ?_)⟩)
  refine SW.block ?_
  refine SW.loopA (α := {i : Nat // i ≤ s.length}) (fun i => ⟨[(11, i64 i.1), (9, sps s), (10, i64 s.length), (3, .mp 0)], [(0, .map (mapE Dt.cells uv (spM (s.take i.1)).1) (spM (s.take i.1)).2)], 1⟩) (fun i => s.length - i.1) ⟨0, by omega⟩ id (And.intro (show spM [] = ([], 0) from rfl) (show mapE Dt.cells uv [] = [] from rfl)) (round := ?_)
  rintro ⟨i, hi⟩
  dsimp only
  by_cases hil : i < s.length
  · obtain ⟨x, hx⟩ := get_of_lt hil
    have h1 : decide ((i : Int) < s.length) = true := by simp; exact hil
    have e1 : s.take (i + 1) = s.take i ++ [x] := take_snoc hx
    have e2 : IntKind.i64.wrap ((i : Int) + 1) = ((i + 1 : Nat) : Int) := wrap_i64 _ (by omega)
    have hsn := spM_snoc (s.take i) x
    rw [← e1] at hsn
    unfold spStep at hsn
    refine SW.seq ?_
    (refine SW.regL [0, 2, 3, 5, 7, 9, 10, 11, 12, 23] mixed ?_; (repeat (first | refine RW.ro (h1) (h := ?_) | refine RW.skip (h := ?_) | refine RW.op (h1) (h := ?_) | refine RW.opN (h1) (h := ?_) | refine RW.skip0 (h := ?_))); refine RW.nil ⟨by kernel_rfl, Pruned.mk (h := ?_)⟩)
    refine SW.seq (SW.condT rfl (SW.skip ?_))
    refine SW.seq (SW.block ?_)
    refine SW.seq ?_
    (have fx := (And.intro (sp_at hx) (sp_room3 hx)); refine SW.regL [0, 2, 3, 5, 7, 9, 10, 11, 12, 23] mixed ?_; (repeat (first | refine RW.ro fx (h := ?_) | refine RW.skip (h := ?_) | refine RW.op fx (h := ?_) | refine RW.opN fx (h := ?_) | refine RW.skip0 (h := ?_))); refine RW.nil ⟨by kernel_rfl, Pruned.mk (h := ?_)⟩)
    rcases hh : MM.has (spM (s.take i)).1 x.d with _ | _
    · rw [if_neg (by rw [hh]; decide)] at hsn
      refine SW.seq ?_
      (refine SW.regL [0, 2, 3, 5, 7, 9, 10, 11, 12, 23] mixed ?_; (repeat (first | refine RW.ro (hh) (h := ?_) | refine RW.skip (h := ?_) | refine RW.op (hh) (h := ?_) | refine RW.opN (hh) (h := ?_) | refine RW.skip0 (h := ?_))); refine RW.nil ⟨by kernel_rfl, Pruned.mk (h := ?_)⟩)
      refine SW.seq ?_
      (refine SW.regL [0, 2, 3, 5, 7, 9, 10, 11, 12, 23] mixed ?_; (repeat (first | refine RW.ro bq_tt (h := ?_) | refine RW.skip (h := ?_) | refine RW.op bq_tt (h := ?_) | refine RW.opN bq_tt (h := ?_) | refine RW.skip0 (h := ?_))); refine RW.nil ⟨by kernel_rfl, Pruned.mk (h := ?_)⟩)
      refine SW.condT rfl ?_
      (refine SW.regL [0, 2, 3, 5, 7, 9, 10, 11, 12, 23] mixed ?_; (repeat (first | refine RW.ro bq_tt (h := ?_) | refine RW.skip (h := ?_) | refine RW.op bq_tt (h := ?_) | refine RW.opN bq_tt (h := ?_) | refine RW.skip0 (h := ?_))); refine RW.nil ⟨by kernel_rfl, Pruned.mk (h := ?_)⟩)
      (refine SW.regL [0, 2, 3, 5, 7, 9, 10, 11, 12, 23] mixed ?_; (repeat (first | refine RW.ro (e2) (h := ?_) | refine RW.skip (h := ?_) | refine RW.op (e2) (h := ?_) | refine RW.opN (e2) (h := ?_) | refine RW.skip0 (h := ?_))); refine RW.nil ⟨by kernel_rfl, Pruned.mk (h := ?_)⟩)
      dsimp only
      exact ⟨⟨i + 1, by omega⟩, id, by show s.length - (i + 1) < _; omega, Weak.mk (And.intro hsn (And.intro (fun q : Nat → Bool => umap_ok q (MM.put (spM (s.take i)).1 (spM (s.take i)).2 x.d x.n)) (fun r => umap_ren r (MM.put (spM (s.take i)).1 (spM (s.take i)).2 x.d x.n))))⟩
    · rw [if_pos hh] at hsn
      refine SW.seq ?_
      (refine SW.regL [0, 2, 3, 5, 7, 9, 10, 11, 12, 23] mixed ?_; (repeat (first | refine RW.ro (hh) (h := ?_) | refine RW.skip (h := ?_) | refine RW.op (hh) (h := ?_) | refine RW.opN (hh) (h := ?_) | refine RW.skip0 (h := ?_))); refine RW.nil ⟨by kernel_rfl, Pruned.mk (h := ?_)⟩)
      refine SW.seq ?_
      (refine SW.regL [0, 2, 3, 5, 7, 9, 10, 11, 12, 23] mixed ?_; (repeat (first | refine RW.ro bq_tt (h := ?_) | refine RW.skip (h := ?_) | refine RW.op bq_tt (h := ?_) | refine RW.opN bq_tt (h := ?_) | refine RW.skip0 (h := ?_))); refine RW.nil ⟨by kernel_rfl, Pruned.mk (h := ?_)⟩)
      refine SW.condF rfl (SW.skip ?_)
      (refine SW.regL [0, 2, 3, 5, 7, 9, 10, 11, 12, 23] mixed ?_; (repeat (first | refine RW.ro (e2) (h := ?_) | refine RW.skip (h := ?_) | refine RW.op (e2) (h := ?_) | refine RW.opN (e2) (h := ?_) | refine RW.skip0 (h := ?_))); refine RW.nil ⟨by kernel_rfl, Pruned.mk (h := ?_)⟩)
      dsimp only
      exact ⟨⟨i + 1, by omega⟩, id, by show s.length - (i + 1) < _; omega, Weak.mk (And.intro hsn (And.intro (fun q : Nat → Bool => umap_ok q (spM (s.take i)).1) (fun r => umap_ren r (spM (s.take i)).1)))⟩
  · have h1 : decide ((i : Int) < s.length) = false := by simp; omega
    have h2 : i = s.length := by omega
    subst h2
    rw [List.take_length]
    refine SW.seq ?_
    (refine SW.regL [0, 2, 3, 5, 7, 9, 10, 11, 12, 23] mixed ?_; (repeat (first | refine RW.ro (h1) (h := ?_) | refine RW.skip (h := ?_) | refine RW.op (h1) (h := ?_) | refine RW.opN (h1) (h := ?_) | refine RW.skip0 (h := ?_))); refine RW.nil ⟨by kernel_rfl, Pruned.mk (h := ?_)⟩)
    refine SW.seq (SW.condF rfl (SW.exit ?_))
    refine SW.seq ?_
    (refine SW.regL [0, 2, 3, 5, 7, 9, 10, 11, 12, 23] mixed ?_; (repeat (first | refine RW.ro bq_tt (h := ?_) | refine RW.skip (h := ?_) | refine RW.op bq_tt (h := ?_) | refine RW.opN bq_tt (h := ?_) | refine RW.skip0 (h := ?_))); refine RW.nil ⟨by kernel_rfl, Pruned.mk (h := ?_)⟩)
    refine SW.ret ?_
    exact End.mk [(0, .map (mapE Dt.cells uv (spM s).1) (spM s).2)] (h3 := fun _ _ h => h) (h4 := ⟨rfl, rfl⟩) (h6 := by simp only [Hp.ok, List.all_cons, List.all_nil, Ob.ok, umap_ok, Bool.and_true, decide_eq_true_eq]; omega)
theorem spendsOf_at (s : List Sp) (hs : s.length < 100000) (k : Nat) : SCd Try.prog charge_spendsOf.f [sps s] [] k 1 (.mp k) [(k, .map (mapE Dt.cells uv (spM s).1) (spM s).2)] := by
  have h := SB.new (spendsOf_sb s hs) k
  simpa [SV.ren, Hp.ren, Ob.ren, umap_ren, atN] using h
theorem spent_ok (s : List Sp) (hs : s.length < 100000) (d : Dt) : Go.Sl.Pure Try.prog charge_Spent.f [sps s, .agg d.cells] (.d (.int .u64 (spentOf s d : Int))) := by
  have hg := spM_spent s d
  refine charge_Spent.enter (by first | rfl | simp [SV.ok, SV.oks]) (by first | rfl | simp [Hp.ok, Ob.ok, SV.ok, SV.oks, Vec.cells_ok]) (by simp) ?_
  unfold charge_Spent.s
  refine SW.seq ?_
  (refine SW.regL [0, 1, 3, 4] mixed ?_; (repeat (first | refine RW.ro bq_tt (h := ?_) | refine RW.skip (h := ?_) | refine RW.op bq_tt (h := ?_) | refine RW.opN bq_tt (h := ?_) | refine RW.skip0 (h := ?_) | (refine RW.callC (h := ?_); (first | refine CallP.mk bq_tt (hc := spendsOf_at s hs _) (h := ?_))))); refine RW.nil ⟨by kernel_rfl, Pruned.mk (h := ?_)⟩)
  refine SW.seq ?_
  (refine SW.regL [0, 1, 3, 4] mixed ?_; (repeat (first | refine RW.ro (hg) (h := ?_) | refine RW.skip (h := ?_) | refine RW.op (hg) (h := ?_) | refine RW.opN (hg) (h := ?_) | refine RW.skip0 (h := ?_) | (refine RW.callC (h := ?_); (first | refine CallP.mk (hg) (hc := spendsOf_at s hs _) (h := ?_))))); refine RW.nil ⟨by kernel_rfl, Pruned.mk (h := ?_)⟩)
  refine SW.ret ?_
  exact End.mk [] (h4 := ⟨rfl, rfl⟩)
theorem spent_at (s : List Sp) (hs : s.length < 100000) (d : Dt) (k : Nat) : SCd Try.prog charge_Spent.f [sps s, .agg d.cells] [] k 0 (.d (.int .u64 (spentOf s d : Int))) [] := (spent_ok s hs d).sc rfl k
theorem pcompare_ok (x y : Sp) : Go.Sl.Pure Try.prog charge_pair_compare.f [.agg x.cells, .agg y.cells] (.d (.int .i64 (dcmp x.d y.d))) := by
  refine charge_pair_compare.enter (by first | rfl | simp [SV.ok, SV.oks]) (by first | rfl | simp [Hp.ok, Ob.ok, SV.ok, SV.oks, Vec.cells_ok]) (by simp) ?_
  unfold charge_pair_compare.s
  refine SW.seq ?_
  (refine SW.regL [0, 1, 2, 3, 4] mixed ?_; (repeat (first | refine RW.ro bq_tt (h := ?_) | refine RW.skip (h := ?_) | refine RW.op bq_tt (h := ?_) | refine RW.opN bq_tt (h := ?_) | refine RW.skip0 (h := ?_) | (refine RW.callC (h := ?_); (first | refine CallP.mk bq_tt (hc := compare_at _ _ _) (h := ?_))))); refine RW.nil ⟨by kernel_rfl, Pruned.mk (h := ?_)⟩)
  refine SW.seq ?_
  (refine SW.regL [0, 1, 2, 3, 4] mixed ?_; (repeat (first | refine RW.ro bq_tt (h := ?_) | refine RW.skip (h := ?_) | refine RW.op bq_tt (h := ?_) | refine RW.opN bq_tt (h := ?_) | refine RW.skip0 (h := ?_) | (refine RW.callC (h := ?_); (first | refine CallP.mk bq_tt (hc := compare_at _ _ _) (h := ?_))))); refine RW.nil ⟨by kernel_rfl, Pruned.mk (h := ?_)⟩)
  refine SW.ret ?_
  exact End.mk [] (h4 := ⟨rfl, rfl⟩)
theorem pcompare_at (x y : Sp) (k : Nat) : SCd Try.prog charge_pair_compare.f [.agg x.cells, .agg y.cells] [] k 0 (.d (.int .i64 (dcmp x.d y.d))) [] := (pcompare_ok x y).sc rfl k
end Go.Proofs.Ytmmonbnlleeloaa
namespace Go.Proofs.Ytmmonbnlleeloaa
open Go.Sl Go.Proofs
attribute [local irreducible] SW RW SCd SC CallP Pruned
def leftM (a : MM Dt Cr) (M : MM Dt Nat) (d : Dt) : Nat := ((MM.get a d).getD Cr.zero).cap - (MM.get M d).getD 0
abbrev hpS (a : MM Dt Cr) (ca : Nat) (m : MM Dt OpD) (cm : Nat) (M : MM Dt Nat) (cM : Nat) : Hp := (3, .map (mapE Dt.cells uv M) cM) :: hp0 a ca m cm
abbrev hpT (a : MM Dt Cr) (ca : Nat) (m : MM Dt OpD) (cm : Nat) (M : MM Dt Nat) (cM : Nat) : Hp := (5, .box 165 [.mp 3]) :: (4, .box 25 [.ptr 0 0]) :: hpS a ca m cm M cM
theorem hpS_ok (a : MM Dt Cr) (ca : Nat) (m : MM Dt OpD) (cm : Nat) (M : MM Dt Nat) (cM : Nat) {k : Nat} (h : 4 ≤ k) : (hpS a ca m cm M cM).ok (fun n => decide (n < k)) = true :=
  ok_cons (by simp; omega) (by simp only [Ob.ok]; exact umap_ok _ M) (hp0_ok a ca m cm (by omega))
theorem hpT_ok (a : MM Dt Cr) (ca : Nat) (m : MM Dt OpD) (cm : Nat) (M : MM Dt Nat) (cM : Nat) {k : Nat} (h : 6 ≤ k) : (hpT a ca m cm M cM).ok (fun n => decide (n < k)) = true :=
  ok_cons (by simp; omega) (by simp [Ob.ok, SV.oks, SV.ok]; omega) (ok_cons (by simp; omega) (by simp [Ob.ok, SV.oks, SV.ok]; omega) (hpS_ok a ca m cm M cM (by omega)))
theorem mapsG (a : MM Dt Cr) (m : MM Dt OpD) (M : MM Dt Nat) : (∀ q : Nat → Bool, ((mapE Dt.cells uv M).all fun e => e.2.1.ok q && e.2.2.ok q) = true) ∧ (∀ r : Nat → Nat, (mapE Dt.cells uv M).map (fun e => (e.1, e.2.1.ren r, e.2.2.ren r)) = mapE Dt.cells uv M) ∧ (∀ q : Nat → Bool, ((mapE Dt.cells cv a).all fun e => e.2.1.ok q && e.2.2.ok q) = true) ∧ (∀ q : Nat → Bool, ((mapE Dt.cells ov m).all fun e => e.2.1.ok q && e.2.2.ok q) = true) ∧ (∀ r : Nat → Nat, (mapE Dt.cells cv a).map (fun e => (e.1, e.2.1.ren r, e.2.2.ren r)) = mapE Dt.cells cv a) ∧ (∀ r : Nat → Nat, (mapE Dt.cells ov m).map (fun e => (e.1, e.2.1.ren r, e.2.2.ren r)) = mapE Dt.cells ov m) :=
  ⟨fun q => umap_ok q M, fun r => umap_ren r M, mapsF a m⟩
section
variable (a : MM Dt Cr) (ca : Nat) (m : MM Dt OpD) (cm : Nat) (M : MM Dt Nat) (cM : Nat) (hcap : ∀ d c, MM.get a d = some c → c.cap ≤ 1099511627776)
include hcap
set_option maxHeartbeats 4000000 in
theorem tight1_sb (d : Dt) : SB Try.prog charge_tight_1.f [.agg d.cells, .ptr 4 0, .ptr 5 0] (hpT a ca m cm M cM) 6 0 (fun r F' => r = .d (.int .u64 ((leftM a M d : Nat) : Int)) ∧ F' = hpT a ca m cm M cM) := by
  have hget : ∀ k, SCd Try.prog tree_Tree_Get.f [.ptr 0 0, .agg d.cells] (hp0 a ca m cm) k 3 (.tup [.agg ((MM.get a d).getD Cr.zero).cells, i64 (if MM.has a d then 0 else 7)]) (hp0 a ca m cm) := fun k => get_at (tr0_sep a ca m cm) d k
  refine charge_tight_1.enter (by simp [SV.oks, SV.ok]) (hpT_ok a ca m cm M cM (Nat.le_refl 6)) (by simp) ?_
  unfold charge_tight_1.s
  have hc : ((MM.get a d).getD Cr.zero).cap ≤ 1099511627776 := by
    cases hg : MM.get a d with
    | none => show (0 : Nat) ≤ _; omega
    | some c => exact hcap d c hg
  unfold leftM
  generalize (MM.get a d).getD Cr.zero = c at hget hc ⊢
  generalize (if MM.has a d then 0 else 7 : Int) = e at hget
  generalize hv : (MM.get M d).getD 0 = v
  refine SW.seq ?_
  (refine SW.regL [0, 1, 2, 3, 4, 5] mixed ?_; (repeat (first | refine RW.ro bq_tt (h := ?_) | refine RW.skip (h := ?_) | refine RW.op bq_tt (h := ?_) | refine RW.opN bq_tt (h := ?_) | refine RW.skip0 (h := ?_) | (refine RW.callC (h := ?_); (first | refine CallP.mk bq_tt (hc := hget _) (h := ?_))))); refine RW.nil ⟨by kernel_rfl, Pruned.mk (h := ?_)⟩)
  refine SW.seq ?_
  (refine SW.regL [0, 1, 2, 3, 4, 5] mixed ?_; (repeat (first | refine RW.ro bq_tt (h := ?_) | refine RW.skip (h := ?_) | refine RW.op bq_tt (h := ?_) | refine RW.opN bq_tt (h := ?_) | refine RW.skip0 (h := ?_) | (refine RW.callC (h := ?_); (first | refine CallP.mk bq_tt (hc := hget _) (h := ?_))))); refine RW.nil ⟨by kernel_rfl, Pruned.mk (h := ?_)⟩)
  refine SW.seq ?_
  by_cases hlt : v < c.cap
  · have e1 : (if ((v : Nat) : Int) < ((c.cap : Nat) : Int) then ((v : Nat) : Int) else ((c.cap : Nat) : Int)) = (v : Int) := if_pos (by omega)
    have e2 : IntKind.u64.wrap ((c.cap : Int) - (v : Int)) = ((c.cap - v : Nat) : Int) := by rw [wrap_u64' _ (by omega)]; omega
    (have fx := (And.intro (hv) (And.intro (e1) (e2))); refine SW.regL [0, 1, 2, 3, 4, 5] mixed ?_; (repeat (first | refine RW.ro fx (h := ?_) | refine RW.skip (h := ?_) | refine RW.op fx (h := ?_) | refine RW.opN fx (h := ?_) | refine RW.skip0 (h := ?_) | (refine RW.callC (h := ?_); (first | refine CallP.mk fx (hc := hget _) (h := ?_))))); refine RW.nil ⟨by kernel_rfl, Pruned.mk (h := ?_)⟩)
    refine SW.ret ?_
    exact End.mk (hpT a ca m cm M cM) (h3 := by intro n ob hn; match n with | 0 | 1 | 2 | 3 | 4 | 5 => simpa [lk_cons] using hn | n + 6 => simp [lk_cons, lk_nil] at hn) (h4 := ⟨rfl, rfl⟩) (h6 := hpT_ok a ca m cm M cM (by omega))
  · have e1 : (if ((v : Nat) : Int) < ((c.cap : Nat) : Int) then ((v : Nat) : Int) else ((c.cap : Nat) : Int)) = (c.cap : Int) := if_neg (by omega)
    have e2 : IntKind.u64.wrap ((c.cap : Int) - (c.cap : Int)) = ((0 : Nat) : Int) := by rw [Int.sub_self]; rfl
    rw [show c.cap - v = 0 by omega]
    (have fx := (And.intro (hv) (And.intro (e1) (e2))); refine SW.regL [0, 1, 2, 3, 4, 5] mixed ?_; (repeat (first | refine RW.ro fx (h := ?_) | refine RW.skip (h := ?_) | refine RW.op fx (h := ?_) | refine RW.opN fx (h := ?_) | refine RW.skip0 (h := ?_) | (refine RW.callC (h := ?_); (first | refine CallP.mk fx (hc := hget _) (h := ?_))))); refine RW.nil ⟨by kernel_rfl, Pruned.mk (h := ?_)⟩)
    refine SW.ret ?_
    exact End.mk (hpT a ca m cm M cM) (h3 := by intro n ob hn; match n with | 0 | 1 | 2 | 3 | 4 | 5 => simpa [lk_cons] using hn | n + 6 => simp [lk_cons, lk_nil] at hn) (h4 := ⟨rfl, rfl⟩) (h6 := hpT_ok a ca m cm M cM (by omega))
theorem tight1_at (d : Dt) (k : Nat) : SCd Try.prog charge_tight_1.f [.agg d.cells, .ptr 4 0, .ptr 5 0] (hpT a ca m cm M cM) k 0 (.d (.int .u64 ((leftM a M d : Nat) : Int))) (hpT a ca m cm M cM) :=
  by
  have h := SB.atL [0, 1, 2, 3, 4, 5] (tight1_sb a ca m cm M cM hcap d) (by decide) (fun i hi => by
    match i, hi with
    | 0, _ | 1, _ | 2, _ | 3, _ | 4, _ | 5, _ => simp [lk_cons]
    | i + 6, hi => exact absurd hi (by simp)) k
  have e : Hp.ren (atN [0, 1, 2, 3, 4, 5] k) (hpT a ca m cm M cM) = hpT a ca m cm M cM := by
    simp [Hp.ren, Ob.ren, SV.rens, SV.ren, atN, umap_ren, cmap_ren, omap_ren]
  rw [e] at h
  simpa [SV.rens, SV.ren, atN, Dt.cells_ren] using h
set_option maxHeartbeats 4000000 in
theorem tight_sb (d0 : Dt) (r : List Dt) (hr : r.length < 1000000) : SB Try.prog charge_tight.f [.ptr 0 0, .mp 3, dots (d0 :: r)] (hpS a ca m cm M cM) 4 0 (fun v F' => v = .tup [.agg (minAt (leftM a M) d0 r).cells, .d (.int .u64 ((leftM a M (minAt (leftM a M) d0 r) : Nat) : Int))] ∧ F' = hpS a ca m cm M cM) := by
  have ht := tight1_at a ca m cm M cM hcap
  generalize leftM a M = f at ht
  have hD0 : (d0 :: r)[0]? = some d0 := rfl
  have hDl : (d0 :: r).length = r.length + 1 := rfl
  have hfix : ∀ n, minAt f d0 ((d0 :: r).take (n + 1)) = minAt f d0 (r.take n) := fun n => by
    show minAt f d0 (d0 :: r.take n) = _
    unfold minAt
    rw [List.foldl_cons, if_neg (Nat.lt_irrefl _)]
  have hall : minAt f d0 (d0 :: r) = minAt f d0 r := by
    have := hfix r.length
    rwa [List.take_length, ← hDl, List.take_length] at this
  rw [← hall]
  generalize hDD : d0 :: r = D at *
  refine charge_tight.enter (by simp [SV.oks, SV.ok]) (hpS_ok a ca m cm M cM (Nat.le_refl 4)) (by simp) ?_
  unfold charge_tight.s
  refine SW.seq ?_
  (refine SW.regL [0, 1, 2, 3, 4, 6, 7, 8, 9, 11, 16, 17, 18, 19, 28] mixed ?_; (repeat (first | refine RW.ro bq_tt (h := ?_) | refine RW.skip (h := ?_) | refine RW.op bq_tt (h := ?_) | refine RW.opN bq_tt (h := ?_) | refine RW.skip0 (h := ?_))); refine RW.nil ⟨by kernel_rfl, Pruned.mk (h := ?_)⟩)
  refine SW.seq ?_
  (refine SW.regL [0, 1, 2, 3, 4, 6, 7, 8, 9, 11, 16, 17, 18, 19, 28] mixed ?_; (repeat (first | refine RW.ro bq_tt (h := ?_) | refine RW.skip (h := ?_) | refine RW.op bq_tt (h := ?_) | refine RW.opN bq_tt (h := ?_) | refine RW.skip0 (h := ?_))); refine RW.nil ⟨by kernel_rfl, Pruned.mk (h := ?_)⟩)
  refine SW.seq ?_
  have hd0 : List.take 2 (List.map SV.d (D.flatMap Dt.ds)) = d0.cells := by
    have := dot_at hD0
    simpa using this
  (refine SW.regL [0, 1, 2, 3, 4, 6, 7, 8, 9, 11, 16, 17, 18, 19, 28] mixed ?_; (repeat (first | refine RW.ro (hd0) (h := ?_) | refine RW.skip (h := ?_) | refine RW.op (hd0) (h := ?_) | refine RW.opN (hd0) (h := ?_) | refine RW.skip0 (h := ?_))); refine RW.nil ⟨by kernel_rfl, Pruned.mk (h := ?_)⟩)
  refine SW.seq (SW.seq ?_)
  (refine SW.regL [0, 1, 2, 3, 4, 6, 7, 8, 9, 11, 16, 17, 18, 19, 28] mixed ?_; (repeat (first | refine RW.ro bq_tt (h := ?_) | refine RW.skip (h := ?_) | refine RW.op bq_tt (h := ?_) | refine RW.opN bq_tt (h := ?_) | refine RW.skip0 (h := ?_))); refine RW.nil ⟨by kernel_rfl, Pruned.mk (h := ?_)⟩)
  refine SW.block ?_
  refine SW.loopA (α := {i : Nat // i ≤ D.length}) (fun i => ⟨[(18, i64 i.1), (16, dots D), (17, i64 D.length), (8, .fn (.func charge_tight_1.f) [] [.ptr 4 0, .ptr 5 0]), (9, .ptr 7 0), (6, .ptr 6 0)], (7, .box 33 (minAt f d0 (D.take i.1)).cells) :: (6, .box 33 (Dt.mk 0 0).cells) :: hpT a ca m cm M cM, 8⟩) (fun i => D.length - i.1) ⟨0, by omega⟩ id (And.intro (show minAt f d0 [] = d0 from rfl) (mapsG a m M)) (round := ?_)
  rintro ⟨i, hi⟩
  dsimp only
  by_cases hil : i < D.length
  · obtain ⟨x, hx⟩ := get_of_lt hil
    have h1 : decide ((i : Int) < D.length) = true := by simp; exact hil
    have e1 : D.take (i + 1) = D.take i ++ [x] := take_snoc hx
    have e2 : IntKind.i64.wrap ((i : Int) + 1) = ((i + 1 : Nat) : Int) := wrap_i64 _ (by omega)
    have hms := minAt_snoc f d0 (D.take i) x
    rw [← e1] at hms
    generalize hy : minAt f d0 (D.take i) = y at hms
    refine SW.seq ?_
    (refine SW.regL [0, 1, 2, 3, 4, 6, 7, 8, 9, 11, 16, 17, 18, 19, 28] mixed ?_; (repeat (first | refine RW.ro (h1) (h := ?_) | refine RW.skip (h := ?_) | refine RW.op (h1) (h := ?_) | refine RW.opN (h1) (h := ?_) | refine RW.skip0 (h := ?_))); refine RW.nil ⟨by kernel_rfl, Pruned.mk (h := ?_)⟩)
    refine SW.seq (SW.condT rfl (SW.skip ?_))
    refine SW.seq (SW.block ?_)
    refine SW.seq ?_
    (refine SW.regL [0, 1, 2, 3, 4, 6, 7, 8, 9, 11, 16, 17, 18, 19, 28] mixed ?_; (repeat (first | refine RW.ro (dot_at hx) (h := ?_) | refine RW.skip (h := ?_) | refine RW.op (dot_at hx) (h := ?_) | refine RW.opN (dot_at hx) (h := ?_) | refine RW.skip0 (h := ?_))); refine RW.nil ⟨by kernel_rfl, Pruned.mk (h := ?_)⟩)
    refine SW.seq ?_
    by_cases hlt : f x < f y
    · have h2 : decide (((f x : Nat) : Int) < ((f y : Nat) : Int)) = true := by simp; omega
      rw [if_pos hlt] at hms
      (refine SW.regL [0, 1, 2, 3, 4, 6, 7, 8, 9, 11, 16, 17, 18, 19, 28] mixed ?_; (repeat (first | refine RW.ro (h2) (h := ?_) | refine RW.skip (h := ?_) | refine RW.op (h2) (h := ?_) | refine RW.opN (h2) (h := ?_) | refine RW.skip0 (h := ?_) | (refine RW.callC (h := ?_); (first | refine CallP.mk (h2) (hc := ht x _) (h := ?_) | refine CallP.mk (h2) (hc := ht y _) (h := ?_))))); refine RW.nil ⟨by kernel_rfl, Pruned.mk (h := ?_)⟩)
      refine SW.condT rfl ?_
      (refine SW.regL [0, 1, 2, 3, 4, 6, 7, 8, 9, 11, 16, 17, 18, 19, 28] mixed ?_; (repeat (first | refine RW.ro bq_tt (h := ?_) | refine RW.skip (h := ?_) | refine RW.op bq_tt (h := ?_) | refine RW.opN bq_tt (h := ?_) | refine RW.skip0 (h := ?_) | (refine RW.callC (h := ?_); (first | refine CallP.mk bq_tt (hc := ht x _) (h := ?_) | refine CallP.mk bq_tt (hc := ht y _) (h := ?_))))); refine RW.nil ⟨by kernel_rfl, Pruned.mk (h := ?_)⟩)
      (refine SW.regL [0, 1, 2, 3, 4, 6, 7, 8, 9, 11, 16, 17, 18, 19, 28] mixed ?_; (repeat (first | refine RW.ro (e2) (h := ?_) | refine RW.skip (h := ?_) | refine RW.op (e2) (h := ?_) | refine RW.opN (e2) (h := ?_) | refine RW.skip0 (h := ?_) | (refine RW.callC (h := ?_); (first | refine CallP.mk (e2) (hc := ht x _) (h := ?_) | refine CallP.mk (e2) (hc := ht y _) (h := ?_))))); refine RW.nil ⟨by kernel_rfl, Pruned.mk (h := ?_)⟩)
      dsimp only
      exact ⟨⟨i + 1, by omega⟩, id, by show D.length - (i + 1) < _; omega, Weak.mk (And.intro hms (mapsG a m M))⟩
    · have h2 : decide (((f x : Nat) : Int) < ((f y : Nat) : Int)) = false := by simp; omega
      rw [if_neg hlt] at hms
      (refine SW.regL [0, 1, 2, 3, 4, 6, 7, 8, 9, 11, 16, 17, 18, 19, 28] mixed ?_; (repeat (first | refine RW.ro (h2) (h := ?_) | refine RW.skip (h := ?_) | refine RW.op (h2) (h := ?_) | refine RW.opN (h2) (h := ?_) | refine RW.skip0 (h := ?_) | (refine RW.callC (h := ?_); (first | refine CallP.mk (h2) (hc := ht x _) (h := ?_) | refine CallP.mk (h2) (hc := ht y _) (h := ?_))))); refine RW.nil ⟨by kernel_rfl, Pruned.mk (h := ?_)⟩)
      refine SW.condF rfl (SW.skip ?_)
      (refine SW.regL [0, 1, 2, 3, 4, 6, 7, 8, 9, 11, 16, 17, 18, 19, 28] mixed ?_; (repeat (first | refine RW.ro (e2) (h := ?_) | refine RW.skip (h := ?_) | refine RW.op (e2) (h := ?_) | refine RW.opN (e2) (h := ?_) | refine RW.skip0 (h := ?_) | (refine RW.callC (h := ?_); (first | refine CallP.mk (e2) (hc := ht x _) (h := ?_) | refine CallP.mk (e2) (hc := ht y _) (h := ?_))))); refine RW.nil ⟨by kernel_rfl, Pruned.mk (h := ?_)⟩)
      dsimp only
      exact ⟨⟨i + 1, by omega⟩, id, by show D.length - (i + 1) < _; omega, Weak.mk (And.intro hms (mapsG a m M))⟩
  · have h1 : decide ((i : Int) < D.length) = false := by simp; omega
    have h2 : i = D.length := by omega
    subst h2
    rw [List.take_length]
    generalize minAt f d0 D = y
    refine SW.seq ?_
    (refine SW.regL [0, 1, 2, 3, 4, 6, 7, 8, 9, 11, 16, 17, 18, 19, 28] mixed ?_; (repeat (first | refine RW.ro (h1) (h := ?_) | refine RW.skip (h := ?_) | refine RW.op (h1) (h := ?_) | refine RW.opN (h1) (h := ?_) | refine RW.skip0 (h := ?_) | (refine RW.callC (h := ?_); (first | refine CallP.mk (h1) (hc := ht y _) (h := ?_))))); refine RW.nil ⟨by kernel_rfl, Pruned.mk (h := ?_)⟩)
    refine SW.seq (SW.condF rfl (SW.exit ?_))
    refine SW.seq ?_
    (refine SW.regL [0, 1, 2, 3, 4, 6, 7, 8, 9, 11, 16, 17, 18, 19, 28] mixed ?_; (repeat (first | refine RW.ro bq_tt (h := ?_) | refine RW.skip (h := ?_) | refine RW.op bq_tt (h := ?_) | refine RW.opN bq_tt (h := ?_) | refine RW.skip0 (h := ?_) | (refine RW.callC (h := ?_); (first | refine CallP.mk bq_tt (hc := ht y _) (h := ?_))))); refine RW.nil ⟨by kernel_rfl, Pruned.mk (h := ?_)⟩)
    refine SW.ret ?_
    exact End.mk (hpS a ca m cm M cM) (h3 := by intro n ob hn; match n with | 0 | 1 | 2 | 3 => simpa [lk_cons] using hn | n + 4 => simp [lk_cons, lk_nil] at hn) (h4 := ⟨rfl, rfl⟩) (h6 := hpS_ok a ca m cm M cM (by omega))
end
end Go.Proofs.Ytmmonbnlleeloaa
namespace Go.Proofs.Ytmmonbnlleeloaa
open Go.Sl Go.Proofs
attribute [local irreducible] SW RW SCd SC CallP Pruned
def ents (xs : MM Dt Nat) : List (Dt × Nat) := xs.map fun e => (e.2.1, e.2.2)
structure KInv {σ : Type} (Fh : σ → Hp) (Step : σ → Dt × Nat → σ → Prop) (go : σ → Bool) (nky b m k : Nat) (L : MM Dt Nat) (s0 s : σ) (xs : MM Dt Nat) (kk : Nat) : Prop where
  p1 : OnBy Step s0 (ents xs) s
  p2 : go s = true
  p3 : ∀ x, x ∈ xs → x ∈ L
  p4 : (xs.map (·.1)).Nodup
  p5 : k + 1 ≤ kk
  p6 : kk ≤ k + 1 + xs.length * (1 + nky)
  p7 : (Fh s).ok (fun n => decide (n < kk)) = true
  p8 : lk (Fh s) b = none
  p9 : lk (Fh s) m = none
  p10 : lk (Fh s) k = none
set_option maxHeartbeats 1000000 in
theorem all1_sb {σ : Type} {Fh : σ → Hp} {Step : σ → Dt × Nat → σ → Prop} {go : σ → Bool} {nky y b m k c : Nat} {L : MM Dt Nat} (hwf : MM.wf L c) (s0 : σ) (hy : YieldOks Try.prog y (fun x : Dt × Nat => [.agg x.1.cells, uv x.2]) nky Fh Step go s0 L.length) (h0 : (Fh s0).ok (fun n => decide (n < k)) = true)
    (hb : b < k) (hm : m < k) (hbm : b ≠ m) (hdb : lk (Fh s0) b = none) (hdm : lk (Fh s0) m = none) (hgo : go s0 = true) :
    SB Try.prog maps_All_charge_spends_api_Dot_uint64_1.f [.yl y, .ptr b 0] ((b, .box 165 [.mp m]) :: (m, .map (mapE Dt.cells uv L) c) :: Fh s0) k (1 + L.length * (1 + nky))
      fun r F => r = .tup [] ∧ ∃ (xs : MM Dt Nat) (s' : σ), OnBy Step s0 (ents xs) s' ∧ (∀ x, x ∈ xs → x ∈ L) ∧ (xs.map (·.1)).Nodup ∧ (go s' = true → ∀ x, x ∈ L → x ∈ xs) ∧ (lk (Fh s') b = none ∧ lk (Fh s') m = none) ∧ F = (b, .box 165 [.mp m]) :: (m, .map (mapE Dt.cells uv L) c) :: Fh s' := by
  have hyk : y < k := by
    obtain ⟨ob, ho⟩ := Option.ne_none_iff_exists'.1 (hy.isin s0)
    simpa using (Hp.ok_lk h0 ho).1
  refine maps_All_charge_spends_api_Dot_uint64_1.enter (by simp [SV.ok, SV.oks]; omega) (by simp only [Hp.ok, List.all_cons, Ob.ok, SV.oks, SV.ok, umap_ok, Bool.and_true, Bool.and_eq_true, decide_eq_true_eq]; exact ⟨⟨hb, hm⟩, hm, h0⟩) (by simp) ?_
  unfold maps_All_charge_spends_api_Dot_uint64_1.s
  have f1 := ne4 (show m ≠ b by omega)
  have f2 := ne4 (show k ≠ b by omega)
  have f3 := ne4 (show k ≠ m by omega)
  have f4 : List.lookup k (Fh s0) = none := by
    cases hh : lk (Fh s0) k with
    | none => exact hh
    | some ob => have := (Hp.ok_lk h0 hh).1; simp at this
  refine SW.seq ?_
  (have fx := (And.intro (f1) (And.intro (f2) (And.intro (f3) (f4)))); refine SW.regL [0, 1, 3, 4, 6, 8, 16] mixed ?_; (repeat (first | refine RW.ro fx (h := ?_) | refine RW.skip (h := ?_) | refine RW.op fx (h := ?_) | refine RW.opN fx (h := ?_) | refine RW.skip0 (h := ?_))); refine RW.nil ⟨by kernel_rfl, Pruned.mk (h := ?_)⟩)
  refine SW.block (SW.mapLoop (es := fun _ => mapE Dt.cells uv L) (c := fun _ => c) (nit := fun _ => k) (nm := fun _ => m) (since := fun _ => c) (sst := fun _ => c)
    (α := {i : σ × MM Dt Nat × Nat // KInv Fh Step go nky b m k L s0 i.1 i.2.1 i.2.2})
    (fun i => ⟨[(6, .it k), (0, .yl y), (1, .ptr b 0)], (k, .iter (some m) c (i.1.2.1.map (·.1)) c) :: (b, .box 165 [.mp m]) :: (m, .map (mapE Dt.cells uv L) c) :: Fh i.1.1, i.1.2.2⟩)
    (fun i => unseen (mapE Dt.cells uv L) (i.1.2.1.map (·.1))) ⟨(s0, [], k + 1), ⟨.nil, hgo, by simp, by simp, by simp, by simp, Hp.ok_less (by simp) h0, hdb, hdm, f4⟩⟩ id (seen := fun i => i.1.2.1.map (·.1)) ?_ (fun i => by simp [List.lookup]) (fun i => by simp [lk_cons]) (fun i => ?_) (fun i => by omega) (fun i e he => ?_) (fun i => Nat.le_refl _) (fun i hall => ?_) (fun i e he hs => ?_))
  · refine Weak.same (by simp) (by simp [EnvW, argE, List.lookup, SV.ren, SV.ok]; omega) ?_ ?_
    · simp only [Hp.ok, List.all_cons, Ob.ok, SV.oks, SV.ok, umap_ok, Bool.and_true, Bool.and_eq_true, decide_eq_true_eq]
      exact ⟨⟨by omega, by omega⟩, ⟨by omega, by omega⟩, by omega, Hp.ok_less (by simp) h0⟩
    · intro x hx
      simp only [List.mem_cons] at hx
      rcases hx with rfl | rfl | rfl | hx
      · simp [lk_cons]
      · simp [lk_cons, f1, f2, f3]
      · simp [lk_cons, f1, f2, f3]
      · have := hy.nd s0 x hx
        have h1 : x.1 ≠ k := fun e => by rw [e] at this; rw [show lk (Fh s0) k = none from f4] at this; cases this
        have h2 : x.1 ≠ b := fun e => by rw [e, hdb] at this; cases this
        have h3 : x.1 ≠ m := fun e => by rw [e, hdm] at this; cases this
        simp [lk_cons, h1, h2, h3, this]
  · simp [lk_cons, f1, f2, f3]
  · obtain ⟨x, hx, rfl⟩ := mapE_mem he
    exact hwf.old x hx
  · obtain ⟨⟨s, xs, kk⟩, hi⟩ := i
    have hi : KInv Fh Step go nky b m k L s0 s xs kk := hi
    have hi' := hi
    obtain ⟨p1, p2, p3, p4, p5, p6, p7, p8, p9, p10⟩ := hi'
    dsimp only at *
    have hsub : xs.length ≤ L.length := by
      have := p4.length_le_of_subset (l₂ := L.map (·.1)) (fun t ht => by
        obtain ⟨x, hx, rfl⟩ := List.mem_map.1 ht
        exact List.mem_map.2 ⟨x, p3 x hx, rfl⟩)
      simpa using this
    have hmul : xs.length * (1 + nky) ≤ L.length * (1 + nky) := Nat.mul_le_mul_right _ hsub
    have hhp : ∀ kx, kk ≤ kx → Hp.ok (fun n => decide (n < kx)) ((b, Ob.box 165 [.mp m]) :: (m, .map (mapE Dt.cells uv L) c) :: Fh s) = true := fun kx hkx => by
      simp only [Hp.ok, List.all_cons, Ob.ok, SV.oks, SV.ok, umap_ok, Bool.and_true, Bool.and_eq_true, decide_eq_true_eq]
      exact ⟨⟨by omega, by omega⟩, by omega, Hp.ok_less hkx p7⟩
    refine ⟨⟨[], (b, .box 165 [.mp m]) :: (m, .map (mapE Dt.cells uv L) c) :: Fh s, k + (1 + L.length * (1 + nky))⟩, id, Weak.same (Nat.le_add_right _ _) trivial (hhp _ (by show kk ≤ k + (1 + L.length * (1 + nky)); omega)) ?_, ?_⟩
    · intro x hx
      simp only [List.mem_cons] at hx
      rcases hx with rfl | rfl | hx
      · simp [lk_cons, f1, f2, f3]
      · simp [lk_cons, f1, f2, f3]
      · have := hy.nd s x hx
        have h1 : x.1 ≠ k := fun e => by rw [e, p10] at this; cases this
        have h2 : x.1 ≠ b := fun e => by rw [e, p8] at this; cases this
        have h3 : x.1 ≠ m := fun e => by rw [e, p9] at this; cases this
        simp [lk_cons, h1, h2, h3, this]
    · rw [if_pos rfl]
      refine End.mk ((b, .box 165 [.mp m]) :: (m, .map (mapE Dt.cells uv L) c) :: Fh s) (h3 := fun _ _ h => h) (h4 := ⟨rfl, xs, s, p1, p3, p4, fun _ x hx => ?_, ⟨p8, p9⟩, rfl⟩) (h6 := hhp _ (by omega)) (h7 := Nat.le_refl _)
      have := hall _ (List.mem_map.2 ⟨x, hx, rfl⟩)
      simp only [List.contains_iff_mem] at this
      obtain ⟨z, hz, e⟩ := List.mem_map.1 this
      have : z = x := MM.time_inj hwf.times (p3 z hz) hx e
      rw [← this]; exact hz
  · obtain ⟨⟨s, xs, kk⟩, hi⟩ := i
    have hi : KInv Fh Step go nky b m k L s0 s xs kk := hi
    have hi' := hi
    obtain ⟨p1, p2, p3, p4, p5, p6, p7, p8, p9, p10⟩ := hi'
    dsimp only at *
    obtain ⟨x, hx, rfl⟩ := mapE_mem he
    dsimp only at hs
    have g1 := ne4 (show kk ≠ k by omega)
    have g2 := ne4 (show kk ≠ b by omega)
    have g3 := ne4 (show kk ≠ m by omega)
    have g4 : List.lookup kk (Fh s) = none := Hp.out p7 (Nat.le_refl _)
    have g5 : (xs.map (·.1) ++ [x.1]).getLast? = some x.1 := by simp
    have g6 := mapE_find (kc := Dt.cells) (vs := uv) hwf.times hx
    rw [hset_head]
    dsimp only
    refine SW.block (SW.seq ?_)
    have euv : ∀ n, uv n = .d (.int .u64 (n : Int)) := fun _ => rfl
    (have fx := (And.intro (f1) (And.intro (f2) (And.intro (f3) (And.intro (g1) (And.intro (g2) (And.intro (g3) (And.intro (g4) (And.intro (g5) (And.intro (g6) (euv)))))))))); refine SW.regL [0, 1, 3, 4, 6, 8, 16] mixed ?_; (repeat (first | refine RW.ro fx (h := ?_) | refine RW.skip (h := ?_) | refine RW.op fx (h := ?_) | refine RW.opN fx (h := ?_) | refine RW.skip0 (h := ?_))); refine RW.nil ⟨by kernel_rfl, Pruned.mk (h := ?_)⟩)
    refine SW.seq (SW.ofN ?_)
    (repeat (first | refine SWn.op (And.intro (g1) (And.intro (g2) (g3))) (h := ?_) | refine SWn.opN (And.intro (g1) (And.intro (g2) (g3))) (h := ?_) | refine SWn.skip (h := ?_)))
    have hokk : (Fh s).ok (fun n => decide (n < kk + 1)) = true := Hp.ok_less (by omega) p7
    have hnd : ∀ s', (∀ n, lk (Fh s') n ≠ none → lk (Fh s) n ≠ none ∨ (kk + 1 ≤ n ∧ n < kk + 1 + nky)) → lk (Fh s') b = none ∧ lk (Fh s') m = none ∧ lk (Fh s') k = none := fun s' h => by
      refine ⟨?_, ?_, ?_⟩
      · exact Classical.byContradiction fun hn => (h b hn).elim (fun h => h p8) (fun h => by omega)
      · exact Classical.byContradiction fun hn => (h m hn).elim (fun h => h p9) (fun h => by omega)
      · exact Classical.byContradiction fun hn => (h k hn).elim (fun h => h p10) (fun h => by omega)
    have hxs : x ∉ xs := fun h => by
      have : (xs.map (·.1)).contains x.1 = true := by simp only [List.contains_iff_mem]; exact List.mem_map.2 ⟨x, h, rfl⟩
      rw [this] at hs; cases hs
    have hxt : x.1 ∉ xs.map (·.1) := fun h => by
      have : (xs.map (·.1)).contains x.1 = true := by simpa only [List.contains_iff_mem] using h
      rw [this] at hs; cases hs
    have q3 : ∀ z, z ∈ xs ++ [x] → z ∈ L := fun z hz => by
      rcases List.mem_append.1 hz with hz | hz
      · exact p3 z hz
      · rw [List.mem_singleton.1 hz]; exact hx
    have q4 : ((xs ++ [x]).map (·.1)).Nodup := by
      rw [List.map_append, List.nodup_append]
      refine ⟨p4, by simp, fun a ha b' hb' => ?_⟩
      simp only [List.map_cons, List.map_nil, List.mem_singleton] at hb'
      intro e
      exact hxt (by rw [← hb', ← e]; exact ha)
    have hsub2 : (xs ++ [x]).length ≤ L.length := by
      have := q4.length_le_of_subset (l₂ := L.map (·.1)) (fun t ht => by
        obtain ⟨z, hz, rfl⟩ := List.mem_map.1 ht
        exact List.mem_map.2 ⟨z, q3 z hz, rfl⟩)
      simpa using this
    have hlt : (ents xs).length < L.length := by
      simp only [List.length_append, List.length_singleton] at hsub2
      simp only [ents, List.length_map]; omega
    have hsub : HSub (Fh s) ((kk, Ob.box 33 x.2.1.cells) :: (k, Ob.iter (some m) c (xs.map (·.1) ++ [x.1]) c) :: (b, Ob.box 165 [.mp m]) :: (m, .map (mapE Dt.cells uv L) c) :: Fh s) := fun n ob hn => by
      have h1 : n ≠ k := fun e => by rw [e, p10] at hn; cases hn
      have h2 : n ≠ b := fun e => by rw [e, p8] at hn; cases hn
      have h3 : n ≠ m := fun e => by rw [e, p9] at hn; cases hn
      have h4 : n ≠ kk := fun e => by rw [e, show lk (Fh s) kk = none from g4] at hn; cases hn
      simp [lk_cons, h1, h2, h3, h4, hn]
    refine SWn.yield (by simp only [ev, List.lookup, Nat.reduceBEq] <;> rfl) (by simp only [ev, evs, List.lookup, Nat.reduceBEq] <;> rfl) (hy.isin s) (hy.call s _ (x.2.1, x.2.2) (kk + 1) p1 hlt hokk p2) hsub ?_
    rintro v F' ⟨s', hstep, rfl, rfl, hok', hnm⟩
    obtain ⟨n1, n2, n3⟩ := hnd s' hnm
    rw [upd_eq]
    show SWn Try.prog 17 k _ ⟨(15, .d (.bool (go s'))) :: _, _, _⟩ _
    (repeat (first | refine SWn.op bq_tt (h := ?_) | refine SWn.opN bq_tt (h := ?_) | refine SWn.skip (h := ?_)))
    refine SWn.nil ?_
    have hlk := lk_hmrg (ro := false) hsub (F' := Fh s') (fun h => by cases h)
    have hhp : ∀ kx, kk + 1 + nky ≤ kx → Hp.ok (fun n => decide (n < kx)) ((b, Ob.box 165 [.mp m]) :: (m, .map (mapE Dt.cells uv L) c) :: Fh s') = true := fun kx hkx => by
      simp only [Hp.ok, List.all_cons, Ob.ok, SV.oks, SV.ok, umap_ok, Bool.and_true, Bool.and_eq_true, decide_eq_true_eq]
      exact ⟨⟨by omega, by omega⟩, by omega, Hp.ok_less hkx hok'⟩
    have hin : ∀ z, z ∈ ((b, Ob.box 165 [.mp m]) :: (m, .map (mapE Dt.cells uv L) c) :: Fh s') → mrg (lk ((kk, Ob.box 33 x.2.1.cells) :: (k, Ob.iter (some m) c (xs.map (·.1) ++ [x.1]) c) :: (b, Ob.box 165 [.mp m]) :: (m, .map (mapE Dt.cells uv L) c) :: Fh s)) (lk (Fh s)) (lk (Fh s')) z.1 = some z.2 := by
      intro z hz
      simp only [List.mem_cons] at hz
      rcases hz with rfl | rfl | hz
      · rw [mrg_out p8 n1]; simp [lk_cons, f1, f2, f3, g1, g2, g3]
      · rw [mrg_out p9 n2]; simp [lk_cons, f1, f2, f3, g1, g2, g3]
      · have := hy.nd s' z hz
        rw [mrg_in (.inr (by rw [this]; simp)), this]
    have q1 : OnBy Step s0 (ents (xs ++ [x])) s' := by
      have := OnBy.snoc p1 hstep
      simpa [ents] using this
    have q6 : kk + 1 + nky ≤ k + 1 + (xs ++ [x]).length * (1 + nky) := by
      have e : (xs ++ [x]).length * (1 + nky) = xs.length * (1 + nky) + (1 + nky) := by rw [List.length_append, List.length_singleton, Nat.add_mul, Nat.one_mul]
      rw [e]; omega
    have hmul : (xs ++ [x]).length * (1 + nky) ≤ L.length * (1 + nky) := Nat.mul_le_mul_right _ hsub2
    cases hg : go s' with
    | true =>
      refine SW.condF (by simp [ev, List.lookup, hg]) (SW.skip ?_)
      refine ⟨⟨(s', xs ++ [x], kk + 1 + nky), q1, hg, q3, q4, by show k + 1 ≤ kk + 1 + nky; omega, q6, hok', n1, n2, n3⟩, id, ?_, Weak.same (by show k ≤ kk + 1 + nky; omega) (by simp [EnvW, List.lookup, SV.ren, SV.ok]; omega) ?_ ?_⟩
      · have := unseen_lt he hs
        simpa using this
      · have := hhp (kk + 1 + nky) (Nat.le_refl _)
        simp only [Hp.ok, List.all_cons, Ob.ok, Bool.and_eq_true, decide_eq_true_eq] at this ⊢
        exact ⟨⟨by omega, by omega⟩, this⟩
      · intro z hz
        rcases List.mem_cons.1 hz with rfl | hz
        · have : lk (hmrg false ((kk, Ob.box 33 x.2.1.cells) :: (k, Ob.iter (some m) c (xs.map (·.1) ++ [x.1]) c) :: (b, Ob.box 165 [.mp m]) :: (m, .map (mapE Dt.cells uv L) c) :: Fh s) (Fh s) (Fh s')) k = some (.iter (some m) c (xs.map (·.1) ++ [x.1]) c) := by
            rw [hlk, mrg_out p10 n3]; simp [lk_cons, g1]
          simpa [hmrg] using this
        · have : lk (hmrg false ((kk, Ob.box 33 x.2.1.cells) :: (k, Ob.iter (some m) c (xs.map (·.1) ++ [x.1]) c) :: (b, Ob.box 165 [.mp m]) :: (m, .map (mapE Dt.cells uv L) c) :: Fh s) (Fh s) (Fh s')) z.1 = some z.2 := by
            rw [hlk]; exact hin z hz
          exact this
    | false =>
      refine SW.condT (by simp [ev, List.lookup, hg]) ?_
      refine SW.weak id (st1 := ⟨[], (b, .box 165 [.mp m]) :: (m, .map (mapE Dt.cells uv L) c) :: Fh s', k + (1 + L.length * (1 + nky))⟩) (Weak.same (Nat.le_add_right _ _) trivial (hhp _ (by show kk + 1 + nky ≤ k + (1 + L.length * (1 + nky)); omega)) fun z hz => ?_) (SW.ret ?_)
      · have : lk (hmrg false ((kk, Ob.box 33 x.2.1.cells) :: (k, Ob.iter (some m) c (xs.map (·.1) ++ [x.1]) c) :: (b, Ob.box 165 [.mp m]) :: (m, .map (mapE Dt.cells uv L) c) :: Fh s) (Fh s) (Fh s')) z.1 = some z.2 := by
          rw [hlk]; exact hin z hz
        exact this
      · refine End.mk ((b, .box 165 [.mp m]) :: (m, .map (mapE Dt.cells uv L) c) :: Fh s') (h3 := fun _ _ h => h) (h4 := ⟨rfl, xs ++ [x], s', q1, q3, q4, fun (h : go s' = true) => absurd h (by rw [hg]; decide), ⟨n1, n2⟩, rfl⟩) (h6 := hhp _ (by omega)) (h7 := Nat.le_refl _)
end Go.Proofs.Ytmmonbnlleeloaa
