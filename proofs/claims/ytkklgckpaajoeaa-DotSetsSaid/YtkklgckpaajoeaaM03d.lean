/-
  Dots: the reference's sets.
-/
import Derived.Test.YtkklgckpaajoeaaM03c
import Derived.Test.YtkklgckpaajoeaaM03a
import Derived.Test.YtkklgckpaajoeaaLawV
import Derived.Test.YtkklgckpaajoeaaSlH
import Derived.Laws.Bits64b
set_option linter.unusedSectionVars false
set_option linter.unusedVariables false
set_option linter.unusedSimpArgs false
namespace Go.Proofs.Ytkklgckpaajoeaa
open Go.Sl Go.Proofs Go.Sort
attribute [local irreducible] SW RW SCd SC CallP Pruned

theorem rin_ok (l : List Dt) (d : Dt) (hl : l.length < 1000000000) : Go.Sl.Pure Try.prog ref03_In.f [dots l, .agg d.cells] (bl (decide (d ∈ l))) := by
  refine ref03_In.enter (by first | rfl | simp [SV.ok, SV.oks]) (by first | rfl | simp [Hp.ok, Ob.ok, SV.ok, SV.oks, Vec.cells_ok]) (by simp) ?_
  unfold ref03_In.s
  (repeat (first | refine SW.seq ?_ | refine SW.block ?_ | (refine SW.regL [0, 1, 3, 4, 5, 9, 17] mixed ?_; (repeat (first | refine RW.ro bq_tt (h := ?_) | refine RW.skip (h := ?_) | refine RW.op bq_tt (h := ?_) | refine RW.opN bq_tt (h := ?_) | refine RW.skip0 (h := ?_))); refine RW.nil ⟨by kernel_rfl, Pruned.mk (h := ?_)⟩) | refine SW.skip ?_ | refine SW.exit ?_ | refine SW.ret ?_ | refine SW.condT rfl ?_ | refine SW.condF rfl ?_))
  refine SW.loopA (α := {i : Nat // i ≤ l.length ∧ ∀ j x, j < i → l[j]? = some x → x ≠ d}) (fun i => ⟨[(5, i64 i.1), (0, dots l), (3, .ptr 0 0)], [(0, .box 24 d.cells)], 1⟩) (fun i => l.length - i.1) ⟨0, by omega, by omega⟩ id bq_tt (round := ?_)
  rintro ⟨i, hi, hs⟩
  by_cases h : i < l.length
  · obtain ⟨x, hx⟩ := get_of_lt h
    have h1 : decide ((i : Int) < l.length) = true := by simp; exact h
    by_cases hd : x = d
    · have h2 : decide (x = d) = true := by simp [hd]
      (repeat (first | refine SW.seq ?_ | refine SW.block ?_ | (refine SW.regL [0, 1, 3, 4, 5, 9, 17] mixed ?_; (repeat (first | refine RW.ro (And.intro (h1) (And.intro (dot_at hx) (h2))) (h := ?_) | refine RW.skip (h := ?_) | refine RW.op (And.intro (h1) (And.intro (dot_at hx) (h2))) (h := ?_) | refine RW.opN (And.intro (h1) (And.intro (dot_at hx) (h2))) (h := ?_) | refine RW.skip0 (h := ?_))); refine RW.nil ⟨by kernel_rfl, Pruned.mk (h := ?_)⟩) | refine SW.skip ?_ | refine SW.exit ?_ | refine SW.ret ?_ | refine SW.condT rfl ?_ | refine SW.condF rfl ?_))
      have : d ∈ l := by rw [← hd]; exact List.mem_of_getElem? hx
      exact End.mk [] (h4 := ⟨by simp [this, retV, bl], rfl⟩)
    · have h2 : decide (x = d) = false := by simp [hd]
      (repeat (first | refine SW.seq ?_ | refine SW.block ?_ | (refine SW.regL [0, 1, 3, 4, 5, 9, 17] mixed ?_; (repeat (first | refine RW.ro (And.intro (h1) (And.intro (dot_at hx) (h2))) (h := ?_) | refine RW.skip (h := ?_) | refine RW.op (And.intro (h1) (And.intro (dot_at hx) (h2))) (h := ?_) | refine RW.opN (And.intro (h1) (And.intro (dot_at hx) (h2))) (h := ?_) | refine RW.skip0 (h := ?_))); refine RW.nil ⟨by kernel_rfl, Pruned.mk (h := ?_)⟩) | refine SW.skip ?_ | refine SW.exit ?_ | refine SW.ret ?_ | refine SW.condT rfl ?_ | refine SW.condF rfl ?_))
      exact ⟨⟨i + 1, by omega, fun j y hj hy => by
        by_cases e : j = i
        · subst e; rw [hx] at hy; injection hy with hy; subst hy; exact hd
        · exact hs j y (by omega) hy⟩, id, by simp; omega, Weak.mk bq_tt⟩
  · have h1 : decide ((i : Int) < l.length) = false := by simp; omega
    have h2 : i = l.length := by omega
    subst h2
    (repeat (first | refine SW.seq ?_ | refine SW.block ?_ | (refine SW.regL [0, 1, 3, 4, 5, 9, 17] mixed ?_; (repeat (first | refine RW.ro (h1) (h := ?_) | refine RW.skip (h := ?_) | refine RW.op (h1) (h := ?_) | refine RW.opN (h1) (h := ?_) | refine RW.skip0 (h := ?_))); refine RW.nil ⟨by kernel_rfl, Pruned.mk (h := ?_)⟩) | refine SW.skip ?_ | refine SW.exit ?_ | refine SW.ret ?_ | refine SW.condT rfl ?_ | refine SW.condF rfl ?_))
    have : d ∉ l := fun hm => by
      obtain ⟨j, hj⟩ := List.mem_iff_getElem?.1 hm
      exact hs j d (lt_of_get hj) hj rfl
    exact End.mk [] (h4 := ⟨by simp [this, retV, bl], rfl⟩)
theorem rin_at (l : List Dt) (d : Dt) (hl : l.length < 1000000000) (k : Nat) : SCd Try.prog ref03_In.f [dots l, .agg d.cells] [] k 0 (.d (.bool (decide (d ∈ l)))) [] := (rin_ok l d hl).sc rfl k

/-- A set with one more dot. -/
def Dt.ins (l : List Dt) (d : Dt) : List Dt := if d ∈ l then l else l.takeWhile (fun x => decide (Dt.cmp x d < 0)) ++ d :: l.dropWhile (fun x => decide (Dt.cmp x d < 0))
end Go.Proofs.Ytkklgckpaajoeaa

/-
  Dots: the reference's sets.
-/
set_option linter.unusedSectionVars false
set_option linter.unusedVariables false
set_option linter.unusedSimpArgs false
namespace Go.Proofs.Ytkklgckpaajoeaa
open Go.Sl Go.Proofs Go.Sort
attribute [local irreducible] SW RW SCd SC CallP Pruned

def ahead (d : Dt) (x : Dt) : Bool := decide (Dt.cmp x d < 0)
theorem takeWhile_take {α : Type} (p : α → Bool) : ∀ (l : List α) (i : Nat), (∀ j x, j < i → l[j]? = some x → p x = true) → (∀ x, l[i]? = some x → p x = false) → i ≤ l.length → l.takeWhile p = l.take i ∧ l.dropWhile p = l.drop i
  | [], i, _, _, h => by have : i = 0 := by simpa using h
                         subst this; exact ⟨rfl, rfl⟩
  | x :: l, 0, _, h, _ => by
    have := h x rfl
    simp [this]
  | x :: l, i + 1, h1, h2, h3 => by
    have hx := h1 0 x (by omega) rfl
    obtain ⟨a, b⟩ := takeWhile_take p l i (fun j y hj hy => h1 (j + 1) y (by omega) hy) (fun y hy => h2 y hy) (by simpa using h3)
    simp [hx, a, b]
theorem dots_drop : ∀ (l : List Dt) (i : Nat), (l.flatMap Dt.ds).drop (i * 2) = (l.drop i).flatMap Dt.ds
  | [], i => by simp
  | x :: l, 0 => by simp
  | x :: l, i + 1 => by
    have := dots_drop l i
    rw [List.drop_succ_cons, ← this, List.flatMap_cons, List.drop_append]
    rw [show (i + 1) * 2 - x.ds.length = i * 2 by rw [Dt.ds_len]; omega, List.drop_of_length_le (by rw [Dt.ds_len]; omega)]
    rfl
theorem dots_rest (l : List Dt) (i : Nat) : ((l.flatMap Dt.ds).drop (i * 2)).take ((l.length - i) * 2) = (l.drop i).flatMap Dt.ds := by
  rw [dots_drop, List.take_of_length_le]
  rw [dots_len]; simp
set_option maxHeartbeats 1000000 in
theorem with_ok (l : List Dt) (d : Dt) (hl : l.length < 100000000) (hwl : ∀ x, x ∈ l → x.wf) (hwd : d.wf) : Go.Sl.Pure Try.prog ref03_with.f [dots l, .agg d.cells] (dots (Dt.ins l d)) := by
  have hl' : l.length < 1000000000 := by omega
  refine ref03_with.enter (by first | rfl | simp [SV.ok, SV.oks]) (by first | rfl | simp [Hp.ok, Ob.ok, SV.ok, SV.oks, Vec.cells_ok]) (by simp) ?_
  unfold ref03_with.s
  by_cases hm : d ∈ l
  · have h1 : decide (d ∈ l) = true := by simp [hm]
    (repeat (first | refine SW.seq ?_ | refine SW.block ?_ | (refine SW.regL [0, 1, 3, 4, 5, 6, 9, 23] mixed ?_; (repeat (first | refine RW.ro (h1) (h := ?_) | refine RW.skip (h := ?_) | refine RW.op (h1) (h := ?_) | refine RW.opN (h1) (h := ?_) | refine RW.skip0 (h := ?_) | (refine RW.callC (h := ?_); (first | refine CallP.mk (h1) (hc := rin_at _ _ (by first | assumption | omega) _) (h := ?_) | refine CallP.mk (h1) (hc := rcompare_at _ _ (by first | assumption | omega) (by first | assumption | omega) _) (h := ?_))))); refine RW.nil ⟨by kernel_rfl, Pruned.mk (h := ?_)⟩) | refine SW.skip ?_ | refine SW.exit ?_ | refine SW.ret ?_ | refine SW.condT rfl ?_ | refine SW.condF rfl ?_))
    exact End.mk [] (h4 := ⟨by simp [Dt.ins, hm, retV], rfl⟩)
  · have h1 : decide (d ∈ l) = false := by simp [hm]
    refine SW.seq ?_
    (refine SW.regL [0, 1, 3, 4, 5, 6, 9, 23] mixed ?_; (repeat (first | refine RW.ro bq_tt (h := ?_) | refine RW.skip (h := ?_) | refine RW.op bq_tt (h := ?_) | refine RW.opN bq_tt (h := ?_) | refine RW.skip0 (h := ?_) | (refine RW.callC (h := ?_); (first | refine CallP.mk bq_tt (hc := rin_at _ _ (by first | assumption | omega) _) (h := ?_) | refine CallP.mk bq_tt (hc := rcompare_at _ _ (by first | assumption | omega) (by first | assumption | omega) _) (h := ?_))))); refine RW.nil ⟨by kernel_rfl, Pruned.mk (h := ?_)⟩)
    refine SW.seq (SW.seq ?_)
    (refine SW.regL [0, 1, 3, 4, 5, 6, 9, 23] mixed ?_; (repeat (first | refine RW.ro (h1) (h := ?_) | refine RW.skip (h := ?_) | refine RW.op (h1) (h := ?_) | refine RW.opN (h1) (h := ?_) | refine RW.skip0 (h := ?_) | (refine RW.callC (h := ?_); (first | refine CallP.mk (h1) (hc := rin_at _ _ (by first | assumption | omega) _) (h := ?_) | refine CallP.mk (h1) (hc := rcompare_at _ _ (by first | assumption | omega) (by first | assumption | omega) _) (h := ?_))))); refine RW.nil ⟨by kernel_rfl, Pruned.mk (h := ?_)⟩)
    refine SW.condF rfl (SW.skip ?_)
    refine SW.seq ?_
    (refine SW.regL [0, 1, 3, 4, 5, 6, 9, 23] mixed ?_; (repeat (first | refine RW.ro bq_tt (h := ?_) | refine RW.skip (h := ?_) | refine RW.op bq_tt (h := ?_) | refine RW.opN bq_tt (h := ?_) | refine RW.skip0 (h := ?_) | (refine RW.callC (h := ?_); (first | refine CallP.mk bq_tt (hc := rin_at _ _ (by first | assumption | omega) _) (h := ?_) | refine CallP.mk bq_tt (hc := rcompare_at _ _ (by first | assumption | omega) (by first | assumption | omega) _) (h := ?_))))); refine RW.nil ⟨by kernel_rfl, Pruned.mk (h := ?_)⟩)
    refine SW.nilrow 5 24 2 rfl ?_
    refine SW.seq ?_
    (refine SW.regL [0, 1, 3, 4, 5, 6, 9, 23] mixed ?_; (repeat (first | refine RW.ro bq_tt (h := ?_) | refine RW.skip (h := ?_) | refine RW.op bq_tt (h := ?_) | refine RW.opN bq_tt (h := ?_) | refine RW.skip0 (h := ?_) | (refine RW.callC (h := ?_); (first | refine CallP.mk bq_tt (hc := rin_at _ _ (by first | assumption | omega) _) (h := ?_) | refine CallP.mk bq_tt (hc := rcompare_at _ _ (by first | assumption | omega) (by first | assumption | omega) _) (h := ?_))))); refine RW.nil ⟨by kernel_rfl, Pruned.mk (h := ?_)⟩)
    refine SW.seq (SW.block ?_)
    refine SW.loopA (α := {i : Nat // i ≤ l.length ∧ ∀ j x, j < i → l[j]? = some x → ahead d x = true}) (fun i => ⟨[(6, i64 i.1), (0, dots l), (3, .ptr 0 0), (5, .gs 1 i.1)], [(1, .arr 24 2 i.1 (((l.take i.1).flatMap Dt.ds).map .d)), (0, .box 24 d.cells)], 2⟩) (fun i => l.length - i.1) ⟨0, by omega, by omega⟩ id bq_tt (round := ?_)
    rintro ⟨i, hi, hs⟩
    have e0 : (i : Int).toNat = i := Int.toNat_natCast i
    by_cases h : i < l.length
    · obtain ⟨x, hx⟩ := get_of_lt h
      have hwx : x.wf := hwl x (List.mem_of_getElem? hx)
      have h1 : decide ((i : Int) < l.length) = true := by simp; exact h
      by_cases hc : Dt.cmp x d < 0
      · have h2 : decide (Dt.cmp x d < 0) = true := by simp [hc]
        (repeat (first | refine SW.seq ?_ | refine SW.block ?_ | (refine SW.regL [0, 1, 3, 4, 5, 6, 9, 23] mixed ?_; (repeat (first | refine RW.ro (And.intro (h1) (And.intro (dot_at hx) (h2))) (h := ?_) | refine RW.skip (h := ?_) | refine RW.op (And.intro (h1) (And.intro (dot_at hx) (h2))) (h := ?_) | refine RW.opN (And.intro (h1) (And.intro (dot_at hx) (h2))) (h := ?_) | refine RW.skip0 (h := ?_) | (refine RW.callC (h := ?_); (first | refine CallP.mk (And.intro (h1) (And.intro (dot_at hx) (h2))) (hc := rin_at _ _ (by first | assumption | omega) _) (h := ?_) | refine CallP.mk (And.intro (h1) (And.intro (dot_at hx) (h2))) (hc := rcompare_at _ _ (by first | assumption | omega) (by first | assumption | omega) _) (h := ?_))))); refine RW.nil ⟨by kernel_rfl, Pruned.mk (h := ?_)⟩) | refine SW.skip ?_ | refine SW.exit ?_ | refine SW.ret ?_ | refine SW.condT rfl ?_ | refine SW.condF rfl ?_))
        have e1 : l.take (i + 1) = l.take i ++ [x] := take_snoc hx
        refine ⟨⟨i + 1, by omega, fun j y hj hy => ?_⟩, fun n => if n = 1 then 2 else n, by simp; omega, Weak.mk (And.intro e1 (Dt.map_ds x))⟩
        by_cases e : j = i
        · subst e; rw [hx] at hy; injection hy with hy; subst hy; exact h2
        · exact hs j y (by omega) hy
      · have h2 : decide (Dt.cmp x d < 0) = false := by simp [hc]
        refine SW.seq (SW.seq ?_)
        (refine SW.regL [0, 1, 3, 4, 5, 6, 9, 23] mixed ?_; (repeat (first | refine RW.ro (And.intro (h1) (And.intro (dot_at hx) (h2))) (h := ?_) | refine RW.skip (h := ?_) | refine RW.op (And.intro (h1) (And.intro (dot_at hx) (h2))) (h := ?_) | refine RW.opN (And.intro (h1) (And.intro (dot_at hx) (h2))) (h := ?_) | refine RW.skip0 (h := ?_) | (refine RW.callC (h := ?_); (first | refine CallP.mk (And.intro (h1) (And.intro (dot_at hx) (h2))) (hc := rin_at _ _ (by first | assumption | omega) _) (h := ?_) | refine CallP.mk (And.intro (h1) (And.intro (dot_at hx) (h2))) (hc := rcompare_at _ _ (by first | assumption | omega) (by first | assumption | omega) _) (h := ?_))))); refine RW.nil ⟨by kernel_rfl, Pruned.mk (h := ?_)⟩)
        refine SW.condF rfl (SW.exit ?_)
        refine SW.seq ?_
        (refine SW.regL [0, 1, 3, 4, 5, 6, 9, 23] mixed ?_; (repeat (first | refine RW.ro (e0) (h := ?_) | refine RW.skip (h := ?_) | refine RW.op (e0) (h := ?_) | refine RW.opN (e0) (h := ?_) | refine RW.skip0 (h := ?_) | (refine RW.callC (h := ?_); (first | refine CallP.mk (e0) (hc := rin_at _ _ (by first | assumption | omega) _) (h := ?_) | refine CallP.mk (e0) (hc := rcompare_at _ _ (by first | assumption | omega) (by first | assumption | omega) _) (h := ?_))))); refine RW.nil ⟨by kernel_rfl, Pruned.mk (h := ?_)⟩)
        refine SW.seq ?_
        (refine SW.regL [0, 1, 3, 4, 5, 6, 9, 23] mixed ?_; (repeat (first | refine RW.ro (e0) (h := ?_) | refine RW.skip (h := ?_) | refine RW.op (e0) (h := ?_) | refine RW.opN (e0) (h := ?_) | refine RW.skip0 (h := ?_) | (refine RW.callC (h := ?_); (first | refine CallP.mk (e0) (hc := rin_at _ _ (by first | assumption | omega) _) (h := ?_) | refine CallP.mk (e0) (hc := rcompare_at _ _ (by first | assumption | omega) (by first | assumption | omega) _) (h := ?_))))); refine RW.nil ⟨by kernel_rfl, Pruned.mk (h := ?_)⟩)
        have hins : Dt.ins l d = l.take i ++ d :: l.drop i := by
          have := takeWhile_take (ahead d) l i hs (fun y hy => by rw [hx] at hy; injection hy with hy; subst hy; exact h2) hi
          unfold Dt.ins ahead at *
          rw [if_neg hm, this.1, this.2]
        have hlen : (Dt.ins l d).length = i + 1 + (l.length - i) := by rw [hins]; simp; omega
        refine SW.freeze 3 ((Dt.ins l d).flatMap Dt.ds) rfl (by rw [dots_rest, hins]; simp) ?_
        simp only [frzE, SV.frz, List.map_cons, List.map_nil, if_true, if_false, reduceIte, hdel, Nat.reduceEqDiff, ← hlen]
        refine SW.ret ?_
        exact End.mk [] (h4 := ⟨rfl, rfl⟩)
    · have h1 : decide ((i : Int) < l.length) = false := by simp; omega
      have h2 : i = l.length := by omega
      refine SW.seq (SW.seq ?_)
      (refine SW.regL [0, 1, 3, 4, 5, 6, 9, 23] mixed ?_; (repeat (first | refine RW.ro (h1) (h := ?_) | refine RW.skip (h := ?_) | refine RW.op (h1) (h := ?_) | refine RW.opN (h1) (h := ?_) | refine RW.skip0 (h := ?_) | (refine RW.callC (h := ?_); (first | refine CallP.mk (h1) (hc := rin_at _ _ (by first | assumption | omega) _) (h := ?_) | refine CallP.mk (h1) (hc := rcompare_at _ _ (by first | assumption | omega) (by first | assumption | omega) _) (h := ?_))))); refine RW.nil ⟨by kernel_rfl, Pruned.mk (h := ?_)⟩)
      refine SW.condF rfl (SW.exit ?_)
      refine SW.seq ?_
      (refine SW.regL [0, 1, 3, 4, 5, 6, 9, 23] mixed ?_; (repeat (first | refine RW.ro (e0) (h := ?_) | refine RW.skip (h := ?_) | refine RW.op (e0) (h := ?_) | refine RW.opN (e0) (h := ?_) | refine RW.skip0 (h := ?_) | (refine RW.callC (h := ?_); (first | refine CallP.mk (e0) (hc := rin_at _ _ (by first | assumption | omega) _) (h := ?_) | refine CallP.mk (e0) (hc := rcompare_at _ _ (by first | assumption | omega) (by first | assumption | omega) _) (h := ?_))))); refine RW.nil ⟨by kernel_rfl, Pruned.mk (h := ?_)⟩)
      refine SW.seq ?_
      (refine SW.regL [0, 1, 3, 4, 5, 6, 9, 23] mixed ?_; (repeat (first | refine RW.ro (e0) (h := ?_) | refine RW.skip (h := ?_) | refine RW.op (e0) (h := ?_) | refine RW.opN (e0) (h := ?_) | refine RW.skip0 (h := ?_) | (refine RW.callC (h := ?_); (first | refine CallP.mk (e0) (hc := rin_at _ _ (by first | assumption | omega) _) (h := ?_) | refine CallP.mk (e0) (hc := rcompare_at _ _ (by first | assumption | omega) (by first | assumption | omega) _) (h := ?_))))); refine RW.nil ⟨by kernel_rfl, Pruned.mk (h := ?_)⟩)
      have hins : Dt.ins l d = l.take i ++ d :: l.drop i := by
        have := takeWhile_take (ahead d) l i hs (fun y hy => by rw [List.getElem?_eq_none (by omega)] at hy; cases hy) hi
        unfold Dt.ins ahead at *
        rw [if_neg hm, this.1, this.2]
      have hlen : (Dt.ins l d).length = i + 1 + (l.length - i) := by rw [hins]; simp; omega
      refine SW.freeze 3 ((Dt.ins l d).flatMap Dt.ds) rfl (by rw [dots_rest, hins]; simp) ?_
      simp only [frzE, SV.frz, List.map_cons, List.map_nil, if_true, if_false, reduceIte, hdel, Nat.reduceEqDiff, ← hlen]
      refine SW.ret ?_
      exact End.mk [] (h4 := ⟨rfl, rfl⟩)
theorem with_at (l : List Dt) (d : Dt) (hl : l.length < 100000000) (hwl : ∀ x, x ∈ l → x.wf) (hwd : d.wf) (k : Nat) : SCd Try.prog ref03_with.f [dots l, .agg d.cells] [] k 0 (dots (Dt.ins l d)) [] := (with_ok l d hl hwl hwd).sc rfl k

/-! ### the document's sets are the program's -/
theorem Dt.mem_ins {l : List Dt} {d x : Dt} : x ∈ Dt.ins l d ↔ x ∈ l ∨ x = d := by
  unfold Dt.ins
  split
  · rename_i h
    refine ⟨.inl, fun h' => ?_⟩
    rcases h' with h' | rfl
    · exact h'
    · exact h
  · have := List.takeWhile_append_dropWhile (p := fun x => decide (Dt.cmp x d < 0)) (l := l)
    have h2 : x ∈ l ↔ x ∈ l.takeWhile (fun x => decide (Dt.cmp x d < 0)) ∨ x ∈ l.dropWhile (fun x => decide (Dt.cmp x d < 0)) := by
      rw [← List.mem_append, this]
    rw [h2, List.mem_append, List.mem_cons]
    constructor
    · rintro (h | h | h)
      · exact .inl (.inl h)
      · exact .inr h
      · exact .inl (.inr h)
    · rintro ((h | h) | h)
      · exact .inl h
      · exact .inr (.inr h)
      · exact .inr (.inl h)
theorem Dt.ins_rises {l : List Dt} (h : Dt.rises l) (d : Dt) : Dt.rises (Dt.ins l d) := by
  unfold Dt.ins
  split
  · exact h
  · rename_i hd
    induction l with
    | nil => simp [Dt.rises]
    | cons x l ih =>
      have h1 := List.pairwise_cons.1 h
      by_cases hx : Dt.cmp x d < 0
      · simp only [List.takeWhile_cons, List.dropWhile_cons, hx, decide_true, if_true, List.cons_append]
        refine List.pairwise_cons.2 ⟨fun y hy => ?_, ih h1.2 fun hm => hd (List.mem_cons_of_mem _ hm)⟩
        rcases List.mem_append.1 hy with hy | hy
        · exact h1.1 y ((List.takeWhile_sublist _).subset hy)
        · rcases List.mem_cons.1 hy with rfl | hy
          · exact hx
          · exact h1.1 y ((List.dropWhile_sublist _).subset hy)
      · simp only [List.takeWhile_cons, List.dropWhile_cons, hx, decide_false, Bool.false_eq_true, if_false, List.nil_append]
        have hlt : Dt.cmp d x < 0 := by
          have e := Dt.cmp_swap d x
          have : Dt.cmp x d ≠ 0 := fun e => hd (by rw [(Dt.cmp_zero x d).1 e]; simp)
          omega
        refine List.pairwise_cons.2 ⟨fun y hy => ?_, h⟩
        rcases List.mem_cons.1 hy with rfl | hy
        · exact hlt
        · have := h1.1 y hy
          rw [Dt.cmp_lt] at *
          omega
def Dt.setR (l : List Dt) : List Dt := l.foldl Dt.ins []
theorem Dt.setR_snoc (l : List Dt) (d : Dt) : Dt.setR (l ++ [d]) = Dt.ins (Dt.setR l) d := by simp [Dt.setR, List.foldl_append]
theorem Dt.setR_eq (l : List Dt) : Dt.setR l = Dt.set l := by
  refine Dt.rises_unique ?_ (Dt.set_rises l) fun d => ?_
  · induction l using snocRec with
    | nil => exact List.Pairwise.nil
    | snoc l d ih => rw [Dt.setR_snoc]; exact Dt.ins_rises ih d
  · rw [Dt.mem_set]
    induction l using snocRec with
    | nil => simp [Dt.setR]
    | snoc l x ih => rw [Dt.setR_snoc, Dt.mem_ins, ih]; simp
theorem Dt.setR_len (l : List Dt) : (Dt.setR l).length ≤ l.length := by
  rw [Dt.setR_eq]
  unfold Dt.set
  rw [(Dt.sorted_perm _).length_eq]
  simp only [MM.keys, List.length_map]
  exact setM_len l

theorem rsort_ok (l : List Dt) (hl : l.length < 100000000) (hw : ∀ x, x ∈ l → x.wf) : Go.Sl.Pure Try.prog ref03_Sort.f [dots l] (dots (Dt.set l)) := by
  refine ref03_Sort.enter (by first | rfl | simp [SV.ok, SV.oks]) (by first | rfl | simp [Hp.ok, Ob.ok, SV.ok, SV.oks, Vec.cells_ok]) (by simp) ?_
  unfold ref03_Sort.s
  refine SW.seq ?_
  (refine SW.regL [0, 2, 3, 4, 8] mixed ?_; (repeat (first | refine RW.ro bq_tt (h := ?_) | refine RW.skip (h := ?_) | refine RW.op bq_tt (h := ?_) | refine RW.opN bq_tt (h := ?_) | refine RW.skip0 (h := ?_) | (refine RW.callC (h := ?_); (first | refine CallP.mk bq_tt (hc := with_at _ _ (by first | assumption | omega) (by first | assumption | omega) (by first | assumption | omega) _) (h := ?_))))); refine RW.nil ⟨by kernel_rfl, Pruned.mk (h := ?_)⟩)
  refine SW.seq ?_
  (refine SW.regL [0, 2, 3, 4, 8] mixed ?_; (repeat (first | refine RW.ro bq_tt (h := ?_) | refine RW.skip (h := ?_) | refine RW.op bq_tt (h := ?_) | refine RW.opN bq_tt (h := ?_) | refine RW.skip0 (h := ?_) | (refine RW.callC (h := ?_); (first | refine CallP.mk bq_tt (hc := with_at _ _ (by first | assumption | omega) (by first | assumption | omega) (by first | assumption | omega) _) (h := ?_))))); refine RW.nil ⟨by kernel_rfl, Pruned.mk (h := ?_)⟩)
  refine SW.nils 3 rfl ?_
  refine SW.seq (SW.seq ?_)
  (refine SW.regL [0, 2, 3, 4, 8] mixed ?_; (repeat (first | refine RW.ro bq_tt (h := ?_) | refine RW.skip (h := ?_) | refine RW.op bq_tt (h := ?_) | refine RW.opN bq_tt (h := ?_) | refine RW.skip0 (h := ?_) | (refine RW.callC (h := ?_); (first | refine CallP.mk bq_tt (hc := with_at _ _ (by first | assumption | omega) (by first | assumption | omega) (by first | assumption | omega) _) (h := ?_))))); refine RW.nil ⟨by kernel_rfl, Pruned.mk (h := ?_)⟩)
  refine SW.block ?_
  refine SW.loopA (α := {i : Nat // i ≤ l.length}) (fun i => ⟨[(4, i64 i.1), (0, dots l), (3, dots (Dt.setR (l.take i.1)))], [], 0⟩) (fun i => l.length - i.1) ⟨0, by omega⟩ id (And.intro (show Dt.setR [] = [] from rfl) bq_tt) (round := ?_)
  rintro ⟨i, hi⟩
  have hlen : (Dt.setR (l.take i)).length < 100000000 := by
    have := Dt.setR_len (l.take i)
    have h2 : (l.take i).length ≤ l.length := by rw [List.length_take]; omega
    omega
  have hwi : ∀ x, x ∈ Dt.setR (l.take i) → x.wf := fun x hx => by
    rw [Dt.setR_eq, Dt.mem_set] at hx
    exact hw x (List.mem_of_mem_take hx)
  by_cases h : i < l.length
  · obtain ⟨x, hx⟩ := get_of_lt h
    have hwx : x.wf := hw x (List.mem_of_getElem? hx)
    have h1 : decide ((i : Int) < l.length) = true := by simp; exact h
    have e1 : l.take (i + 1) = l.take i ++ [x] := take_snoc hx
    (repeat (first | refine SW.seq ?_ | refine SW.block ?_ | (refine SW.regL [0, 2, 3, 4, 8] mixed ?_; (repeat (first | refine RW.ro (And.intro (h1) (dot_at hx)) (h := ?_) | refine RW.skip (h := ?_) | refine RW.op (And.intro (h1) (dot_at hx)) (h := ?_) | refine RW.opN (And.intro (h1) (dot_at hx)) (h := ?_) | refine RW.skip0 (h := ?_) | (refine RW.callC (h := ?_); (first | refine CallP.mk (And.intro (h1) (dot_at hx)) (hc := with_at _ _ (by first | assumption | omega) (by first | assumption | omega) (by first | assumption | omega) _) (h := ?_))))); refine RW.nil ⟨by kernel_rfl, Pruned.mk (h := ?_)⟩) | refine SW.skip ?_ | refine SW.exit ?_ | refine SW.ret ?_ | refine SW.condT rfl ?_ | refine SW.condF rfl ?_))
    exact ⟨⟨i + 1, by omega⟩, id, by simp; omega, Weak.mk (And.intro e1 (And.intro (Dt.setR_snoc (l.take i) x) bq_tt))⟩
  · have h1 : decide ((i : Int) < l.length) = false := by simp; omega
    have h2 : i = l.length := by omega
    subst h2
    simp only [List.take_length, Dt.setR_eq]
    (repeat (first | refine SW.seq ?_ | refine SW.block ?_ | (refine SW.regL [0, 2, 3, 4, 8] mixed ?_; (repeat (first | refine RW.ro (h1) (h := ?_) | refine RW.skip (h := ?_) | refine RW.op (h1) (h := ?_) | refine RW.opN (h1) (h := ?_) | refine RW.skip0 (h := ?_) | (refine RW.callC (h := ?_); (first | refine CallP.mk (h1) (hc := with_at _ _ (by first | assumption | omega) (by first | assumption | omega) (by first | assumption | omega) _) (h := ?_))))); refine RW.nil ⟨by kernel_rfl, Pruned.mk (h := ?_)⟩) | refine SW.skip ?_ | refine SW.exit ?_ | refine SW.ret ?_ | refine SW.condT rfl ?_ | refine SW.condF rfl ?_))
    exact End.mk [] (h4 := ⟨rfl, rfl⟩)
end Go.Proofs.Ytkklgckpaajoeaa

/-
  Dots: the reference's Union, Both, Minus.
-/
set_option linter.unusedSectionVars false
set_option linter.unusedVariables false
set_option linter.unusedSimpArgs false
namespace Go.Proofs.Ytkklgckpaajoeaa
open Go.Sl Go.Proofs Go.Sort
attribute [local irreducible] SW RW SCd SC CallP Pruned

theorem freezeN {P : Program} {N k0 : Nat} {st : St} {sis : List SI} {K : St → Prop} (n : Nat) {e sz len : Nat} {cs : List SV} (ds : List DV) (hn : lk st.hp n = some (.arr e sz len cs)) (hcs : cs = ds.map .d) (h : SWn P N k0 sis ⟨frzE n len ds st.env, hdel st.hp n, st.k⟩ K) : SWn P N k0 sis st K :=
  fun ops i h1 h2 h3 rd μ0 M0 w0 c0 a w hSt => h ops i h1 h2 h3 rd μ0 M0 w0 c0 a w (hSt.freeze n hn hcs)
theorem rsort_at (l : List Dt) (hl : l.length < 100000000) (hw : ∀ x, x ∈ l → x.wf) (k : Nat) : SCd Try.prog ref03_Sort.f [dots l] [] k 0 (dots (Dt.set l)) [] := (rsort_ok l hl hw).sc rfl k

theorem runion_ok (a b : List Dt) (ha : a.length < 10000000) (hb : b.length < 10000000) (hwa : ∀ x, x ∈ a → x.wf) (hwb : ∀ x, x ∈ b → x.wf) : Go.Sl.Pure Try.prog ref03_Union.f [dots a, dots b] (dots (Dt.set (a ++ b))) := by
  refine ref03_Union.enter (by first | rfl | simp [SV.ok, SV.oks]) (by first | rfl | simp [Hp.ok, Ob.ok, SV.ok, SV.oks, Vec.cells_ok]) (by simp) ?_
  unfold ref03_Union.s
  refine SW.seq ?_
  (refine SW.regL [0, 1, 4] mixed ?_; (repeat (first | refine RW.ro bq_tt (h := ?_) | refine RW.skip (h := ?_) | refine RW.op bq_tt (h := ?_) | refine RW.opN bq_tt (h := ?_) | refine RW.skip0 (h := ?_))); refine RW.nil ⟨by kernel_rfl, Pruned.mk (h := ?_)⟩)
  refine SW.seq (SW.ofN ?_)
  (repeat (first | refine SWn.op bq_tt (h := ?_) | refine SWn.opN bq_tt (h := ?_) | refine SWn.skip (h := ?_)))
  refine freezeN 2 ((a ++ b).flatMap Dt.ds) rfl (by simp) ?_
  have e0 : (a ++ b).length = a.length + b.length := List.length_append
  simp only [frzE, SV.frz, List.map_cons, List.map_nil, if_true, if_false, reduceIte, hdel, Nat.reduceEqDiff, ← e0]
  refine SWn.callD bq_tt (rsort_at (a ++ b) (by simp; omega) (fun x hx => (List.mem_append.1 hx).elim (hwa x) (hwb x)) 3) (h := ?_)
  (repeat (first | refine SWn.op bq_tt (h := ?_) | refine SWn.opN bq_tt (h := ?_) | refine SWn.skip (h := ?_)))
  refine SWn.nil (SW.ret ?_)
  exact End.mk [] (h4 := ⟨rfl, rfl⟩)
theorem runion_at (a b : List Dt) (ha : a.length < 10000000) (hb : b.length < 10000000) (hwa : ∀ x, x ∈ a → x.wf) (hwb : ∀ x, x ∈ b → x.wf) (k : Nat) : SCd Try.prog ref03_Union.f [dots a, dots b] [] k 0 (dots (Dt.set (a ++ b))) [] := (runion_ok a b ha hb hwa hwb).sc rfl k
def keepB (b : List Dt) (want : Bool) (l : List Dt) : List Dt := l.filter fun d => decide (d ∈ b) == want
theorem keepB_snoc (b : List Dt) (want : Bool) (l : List Dt) (d : Dt) : keepB b want (l ++ [d]) = if (decide (d ∈ b) == want) = true then keepB b want l ++ [d] else keepB b want l := by
  unfold keepB
  rw [List.filter_append]
  split <;> simp_all
theorem rboth_ok (a b : List Dt) (ha : a.length < 10000000) (hb : b.length < 1000000000) (hwa : ∀ x, x ∈ a → x.wf) : Go.Sl.Pure Try.prog ref03_Both.f [dots a, dots b] (dots (Dt.set (keepB b true a))) := by
  refine ref03_Both.enter (by first | rfl | simp [SV.ok, SV.oks]) (by first | rfl | simp [Hp.ok, Ob.ok, SV.ok, SV.oks, Vec.cells_ok]) (by simp) ?_
  unfold ref03_Both.s
  refine SW.seq ?_
  (refine SW.regL [0, 1, 4, 5, 6, 10, 18] mixed ?_; (repeat (first | refine RW.ro bq_tt (h := ?_) | refine RW.skip (h := ?_) | refine RW.op bq_tt (h := ?_) | refine RW.opN bq_tt (h := ?_) | refine RW.skip0 (h := ?_) | (refine RW.callC (h := ?_); (first | refine CallP.mk bq_tt (hc := rin_at _ _ (by first | assumption | omega) _) (h := ?_) | refine CallP.mk bq_tt (hc := rsort_at _ (by first | assumption | omega) (by first | assumption | omega) _) (h := ?_))))); refine RW.nil ⟨by kernel_rfl, Pruned.mk (h := ?_)⟩)
  refine SW.seq ?_
  (refine SW.regL [0, 1, 4, 5, 6, 10, 18] mixed ?_; (repeat (first | refine RW.ro bq_tt (h := ?_) | refine RW.skip (h := ?_) | refine RW.op bq_tt (h := ?_) | refine RW.opN bq_tt (h := ?_) | refine RW.skip0 (h := ?_) | (refine RW.callC (h := ?_); (first | refine CallP.mk bq_tt (hc := rin_at _ _ (by first | assumption | omega) _) (h := ?_) | refine CallP.mk bq_tt (hc := rsort_at _ (by first | assumption | omega) (by first | assumption | omega) _) (h := ?_))))); refine RW.nil ⟨by kernel_rfl, Pruned.mk (h := ?_)⟩)
  refine SW.nilrow 5 24 2 rfl ?_
  refine SW.seq (SW.seq ?_)
  (refine SW.regL [0, 1, 4, 5, 6, 10, 18] mixed ?_; (repeat (first | refine RW.ro bq_tt (h := ?_) | refine RW.skip (h := ?_) | refine RW.op bq_tt (h := ?_) | refine RW.opN bq_tt (h := ?_) | refine RW.skip0 (h := ?_) | (refine RW.callC (h := ?_); (first | refine CallP.mk bq_tt (hc := rin_at _ _ (by first | assumption | omega) _) (h := ?_) | refine CallP.mk bq_tt (hc := rsort_at _ (by first | assumption | omega) (by first | assumption | omega) _) (h := ?_))))); refine RW.nil ⟨by kernel_rfl, Pruned.mk (h := ?_)⟩)
  refine SW.block ?_
  refine SW.loopA (α := {i : Nat // i ≤ a.length}) (fun i => ⟨[(6, i64 i.1), (0, dots a), (1, dots b), (5, .gs 0 (keepB b true (a.take i.1)).length)], [(0, .arr 24 2 (keepB b true (a.take i.1)).length (((keepB b true (a.take i.1)).flatMap Dt.ds).map .d))], 1⟩) (fun i => a.length - i.1) ⟨0, by omega⟩ id (And.intro (show keepB b true [] = [] from rfl) bq_tt) (round := ?_)
  rintro ⟨i, hi⟩
  have hlen : (keepB b true (a.take i)).length ≤ a.length := Nat.le_trans (List.length_filter_le _ _) (by rw [List.length_take]; omega)
  by_cases h : i < a.length
  · obtain ⟨x, hx⟩ := get_of_lt h
    have h1 : decide ((i : Int) < a.length) = true := by simp; exact h
    have e1 : a.take (i + 1) = a.take i ++ [x] := take_snoc hx
    have e2 := keepB_snoc b true (a.take i) x
    rcases hm : decide (x ∈ b) with _ | _
    · rw [hm, if_neg (by decide)] at e2
      (repeat (first | refine SW.seq ?_ | refine SW.block ?_ | (refine SW.regL [0, 1, 4, 5, 6, 10, 18] mixed ?_; (repeat (first | refine RW.ro (And.intro (h1) (And.intro (dot_at hx) (hm))) (h := ?_) | refine RW.skip (h := ?_) | refine RW.op (And.intro (h1) (And.intro (dot_at hx) (hm))) (h := ?_) | refine RW.opN (And.intro (h1) (And.intro (dot_at hx) (hm))) (h := ?_) | refine RW.skip0 (h := ?_) | (refine RW.callC (h := ?_); (first | refine CallP.mk (And.intro (h1) (And.intro (dot_at hx) (hm))) (hc := rin_at _ _ (by first | assumption | omega) _) (h := ?_) | refine CallP.mk (And.intro (h1) (And.intro (dot_at hx) (hm))) (hc := rsort_at _ (by first | assumption | omega) (by first | assumption | omega) _) (h := ?_))))); refine RW.nil ⟨by kernel_rfl, Pruned.mk (h := ?_)⟩) | refine SW.skip ?_ | refine SW.exit ?_ | refine SW.ret ?_ | refine SW.condT rfl ?_ | refine SW.condF rfl ?_))
      exact ⟨⟨i + 1, by omega⟩, id, by simp; omega, Weak.mk (And.intro e1 (And.intro e2 bq_tt))⟩
    · rw [hm, if_pos (by decide)] at e2
      (repeat (first | refine SW.seq ?_ | refine SW.block ?_ | (refine SW.regL [0, 1, 4, 5, 6, 10, 18] mixed ?_; (repeat (first | refine RW.ro (And.intro (h1) (And.intro (dot_at hx) (hm))) (h := ?_) | refine RW.skip (h := ?_) | refine RW.op (And.intro (h1) (And.intro (dot_at hx) (hm))) (h := ?_) | refine RW.opN (And.intro (h1) (And.intro (dot_at hx) (hm))) (h := ?_) | refine RW.skip0 (h := ?_) | (refine RW.callC (h := ?_); (first | refine CallP.mk (And.intro (h1) (And.intro (dot_at hx) (hm))) (hc := rin_at _ _ (by first | assumption | omega) _) (h := ?_) | refine CallP.mk (And.intro (h1) (And.intro (dot_at hx) (hm))) (hc := rsort_at _ (by first | assumption | omega) (by first | assumption | omega) _) (h := ?_))))); refine RW.nil ⟨by kernel_rfl, Pruned.mk (h := ?_)⟩) | refine SW.skip ?_ | refine SW.exit ?_ | refine SW.ret ?_ | refine SW.condT rfl ?_ | refine SW.condF rfl ?_))
      exact ⟨⟨i + 1, by omega⟩, fun n => if n = 0 then 1 else n, by simp; omega, Weak.mk (And.intro e1 (And.intro e2 (Dt.map_ds x)))⟩
  · have h1 : decide ((i : Int) < a.length) = false := by simp; omega
    have h2 : i = a.length := by omega
    subst h2
    have hks : (keepB b true a).length < 100000000 := by rw [List.take_length] at hlen; omega
    have hkw : ∀ x, x ∈ keepB b true a → x.wf := fun x hx => hwa x (List.mem_filter.1 hx).1
    simp only [List.take_length]
    refine SW.seq (SW.seq ?_)
    (refine SW.regL [0, 1, 4, 5, 6, 10, 18] mixed ?_; (repeat (first | refine RW.ro (h1) (h := ?_) | refine RW.skip (h := ?_) | refine RW.op (h1) (h := ?_) | refine RW.opN (h1) (h := ?_) | refine RW.skip0 (h := ?_) | (refine RW.callC (h := ?_); (first | refine CallP.mk (h1) (hc := rin_at _ _ (by first | assumption | omega) _) (h := ?_) | refine CallP.mk (h1) (hc := rsort_at _ (by first | assumption | omega) (by first | assumption | omega) _) (h := ?_))))); refine RW.nil ⟨by kernel_rfl, Pruned.mk (h := ?_)⟩)
    refine SW.condF rfl (SW.exit ?_)
    refine SW.freeze 0 ((keepB b true a).flatMap Dt.ds) rfl rfl ?_
    simp only [frzE, SV.frz, List.map_cons, List.map_nil, if_true, if_false, reduceIte, hdel, Nat.reduceEqDiff]
    (repeat (first | refine SW.seq ?_ | refine SW.block ?_ | (refine SW.regL [0, 1, 4, 5, 6, 10, 18] mixed ?_; (repeat (first | refine RW.ro bq_tt (h := ?_) | refine RW.skip (h := ?_) | refine RW.op bq_tt (h := ?_) | refine RW.opN bq_tt (h := ?_) | refine RW.skip0 (h := ?_) | (refine RW.callC (h := ?_); (first | refine CallP.mk bq_tt (hc := rin_at _ _ (by first | assumption | omega) _) (h := ?_) | refine CallP.mk bq_tt (hc := rsort_at _ (by first | assumption | omega) (by first | assumption | omega) _) (h := ?_))))); refine RW.nil ⟨by kernel_rfl, Pruned.mk (h := ?_)⟩) | refine SW.skip ?_ | refine SW.exit ?_ | refine SW.ret ?_ | refine SW.condT rfl ?_ | refine SW.condF rfl ?_))
    exact End.mk [] (h4 := ⟨rfl, rfl⟩)
theorem rminus_ok (a b : List Dt) (ha : a.length < 10000000) (hb : b.length < 1000000000) (hwa : ∀ x, x ∈ a → x.wf) : Go.Sl.Pure Try.prog ref03_Minus.f [dots a, dots b] (dots (Dt.set (keepB b false a))) := by
  refine ref03_Minus.enter (by first | rfl | simp [SV.ok, SV.oks]) (by first | rfl | simp [Hp.ok, Ob.ok, SV.ok, SV.oks, Vec.cells_ok]) (by simp) ?_
  unfold ref03_Minus.s
  refine SW.seq ?_
  (refine SW.regL [0, 1, 4, 5, 6, 10, 19] mixed ?_; (repeat (first | refine RW.ro bq_tt (h := ?_) | refine RW.skip (h := ?_) | refine RW.op bq_tt (h := ?_) | refine RW.opN bq_tt (h := ?_) | refine RW.skip0 (h := ?_) | (refine RW.callC (h := ?_); (first | refine CallP.mk bq_tt (hc := rin_at _ _ (by first | assumption | omega) _) (h := ?_) | refine CallP.mk bq_tt (hc := rsort_at _ (by first | assumption | omega) (by first | assumption | omega) _) (h := ?_))))); refine RW.nil ⟨by kernel_rfl, Pruned.mk (h := ?_)⟩)
  refine SW.seq ?_
  (refine SW.regL [0, 1, 4, 5, 6, 10, 19] mixed ?_; (repeat (first | refine RW.ro bq_tt (h := ?_) | refine RW.skip (h := ?_) | refine RW.op bq_tt (h := ?_) | refine RW.opN bq_tt (h := ?_) | refine RW.skip0 (h := ?_) | (refine RW.callC (h := ?_); (first | refine CallP.mk bq_tt (hc := rin_at _ _ (by first | assumption | omega) _) (h := ?_) | refine CallP.mk bq_tt (hc := rsort_at _ (by first | assumption | omega) (by first | assumption | omega) _) (h := ?_))))); refine RW.nil ⟨by kernel_rfl, Pruned.mk (h := ?_)⟩)
  refine SW.nilrow 5 24 2 rfl ?_
  refine SW.seq (SW.seq ?_)
  (refine SW.regL [0, 1, 4, 5, 6, 10, 19] mixed ?_; (repeat (first | refine RW.ro bq_tt (h := ?_) | refine RW.skip (h := ?_) | refine RW.op bq_tt (h := ?_) | refine RW.opN bq_tt (h := ?_) | refine RW.skip0 (h := ?_) | (refine RW.callC (h := ?_); (first | refine CallP.mk bq_tt (hc := rin_at _ _ (by first | assumption | omega) _) (h := ?_) | refine CallP.mk bq_tt (hc := rsort_at _ (by first | assumption | omega) (by first | assumption | omega) _) (h := ?_))))); refine RW.nil ⟨by kernel_rfl, Pruned.mk (h := ?_)⟩)
  refine SW.block ?_
  refine SW.loopA (α := {i : Nat // i ≤ a.length}) (fun i => ⟨[(6, i64 i.1), (0, dots a), (1, dots b), (5, .gs 0 (keepB b false (a.take i.1)).length)], [(0, .arr 24 2 (keepB b false (a.take i.1)).length (((keepB b false (a.take i.1)).flatMap Dt.ds).map .d))], 1⟩) (fun i => a.length - i.1) ⟨0, by omega⟩ id (And.intro (show keepB b false [] = [] from rfl) bq_tt) (round := ?_)
  rintro ⟨i, hi⟩
  have hlen : (keepB b false (a.take i)).length ≤ a.length := Nat.le_trans (List.length_filter_le _ _) (by rw [List.length_take]; omega)
  by_cases h : i < a.length
  · obtain ⟨x, hx⟩ := get_of_lt h
    have h1 : decide ((i : Int) < a.length) = true := by simp; exact h
    have e1 : a.take (i + 1) = a.take i ++ [x] := take_snoc hx
    have e2 := keepB_snoc b false (a.take i) x
    rcases hm : decide (x ∈ b) with _ | _
    · rw [hm, if_pos (by decide)] at e2
      (repeat (first | refine SW.seq ?_ | refine SW.block ?_ | (refine SW.regL [0, 1, 4, 5, 6, 10, 19] mixed ?_; (repeat (first | refine RW.ro (And.intro (h1) (And.intro (dot_at hx) (hm))) (h := ?_) | refine RW.skip (h := ?_) | refine RW.op (And.intro (h1) (And.intro (dot_at hx) (hm))) (h := ?_) | refine RW.opN (And.intro (h1) (And.intro (dot_at hx) (hm))) (h := ?_) | refine RW.skip0 (h := ?_) | (refine RW.callC (h := ?_); (first | refine CallP.mk (And.intro (h1) (And.intro (dot_at hx) (hm))) (hc := rin_at _ _ (by first | assumption | omega) _) (h := ?_) | refine CallP.mk (And.intro (h1) (And.intro (dot_at hx) (hm))) (hc := rsort_at _ (by first | assumption | omega) (by first | assumption | omega) _) (h := ?_))))); refine RW.nil ⟨by kernel_rfl, Pruned.mk (h := ?_)⟩) | refine SW.skip ?_ | refine SW.exit ?_ | refine SW.ret ?_ | refine SW.condT rfl ?_ | refine SW.condF rfl ?_))
      exact ⟨⟨i + 1, by omega⟩, fun n => if n = 0 then 1 else n, by simp; omega, Weak.mk (And.intro e1 (And.intro e2 (Dt.map_ds x)))⟩
    · rw [hm, if_neg (by decide)] at e2
      (repeat (first | refine SW.seq ?_ | refine SW.block ?_ | (refine SW.regL [0, 1, 4, 5, 6, 10, 19] mixed ?_; (repeat (first | refine RW.ro (And.intro (h1) (And.intro (dot_at hx) (hm))) (h := ?_) | refine RW.skip (h := ?_) | refine RW.op (And.intro (h1) (And.intro (dot_at hx) (hm))) (h := ?_) | refine RW.opN (And.intro (h1) (And.intro (dot_at hx) (hm))) (h := ?_) | refine RW.skip0 (h := ?_) | (refine RW.callC (h := ?_); (first | refine CallP.mk (And.intro (h1) (And.intro (dot_at hx) (hm))) (hc := rin_at _ _ (by first | assumption | omega) _) (h := ?_) | refine CallP.mk (And.intro (h1) (And.intro (dot_at hx) (hm))) (hc := rsort_at _ (by first | assumption | omega) (by first | assumption | omega) _) (h := ?_))))); refine RW.nil ⟨by kernel_rfl, Pruned.mk (h := ?_)⟩) | refine SW.skip ?_ | refine SW.exit ?_ | refine SW.ret ?_ | refine SW.condT rfl ?_ | refine SW.condF rfl ?_))
      exact ⟨⟨i + 1, by omega⟩, id, by simp; omega, Weak.mk (And.intro e1 (And.intro e2 bq_tt))⟩
  · have h1 : decide ((i : Int) < a.length) = false := by simp; omega
    have h2 : i = a.length := by omega
    subst h2
    have hks : (keepB b false a).length < 100000000 := by rw [List.take_length] at hlen; omega
    have hkw : ∀ x, x ∈ keepB b false a → x.wf := fun x hx => hwa x (List.mem_filter.1 hx).1
    simp only [List.take_length]
    refine SW.seq (SW.seq ?_)
    (refine SW.regL [0, 1, 4, 5, 6, 10, 19] mixed ?_; (repeat (first | refine RW.ro (h1) (h := ?_) | refine RW.skip (h := ?_) | refine RW.op (h1) (h := ?_) | refine RW.opN (h1) (h := ?_) | refine RW.skip0 (h := ?_) | (refine RW.callC (h := ?_); (first | refine CallP.mk (h1) (hc := rin_at _ _ (by first | assumption | omega) _) (h := ?_) | refine CallP.mk (h1) (hc := rsort_at _ (by first | assumption | omega) (by first | assumption | omega) _) (h := ?_))))); refine RW.nil ⟨by kernel_rfl, Pruned.mk (h := ?_)⟩)
    refine SW.condF rfl (SW.exit ?_)
    refine SW.freeze 0 ((keepB b false a).flatMap Dt.ds) rfl rfl ?_
    simp only [frzE, SV.frz, List.map_cons, List.map_nil, if_true, if_false, reduceIte, hdel, Nat.reduceEqDiff]
    (repeat (first | refine SW.seq ?_ | refine SW.block ?_ | (refine SW.regL [0, 1, 4, 5, 6, 10, 19] mixed ?_; (repeat (first | refine RW.ro bq_tt (h := ?_) | refine RW.skip (h := ?_) | refine RW.op bq_tt (h := ?_) | refine RW.opN bq_tt (h := ?_) | refine RW.skip0 (h := ?_) | (refine RW.callC (h := ?_); (first | refine CallP.mk bq_tt (hc := rin_at _ _ (by first | assumption | omega) _) (h := ?_) | refine CallP.mk bq_tt (hc := rsort_at _ (by first | assumption | omega) (by first | assumption | omega) _) (h := ?_))))); refine RW.nil ⟨by kernel_rfl, Pruned.mk (h := ?_)⟩) | refine SW.skip ?_ | refine SW.exit ?_ | refine SW.ret ?_ | refine SW.condT rfl ?_ | refine SW.condF rfl ?_))
    exact End.mk [] (h4 := ⟨rfl, rfl⟩)
theorem rboth_at (a b : List Dt) (ha : a.length < 10000000) (hb : b.length < 1000000000) (hwa : ∀ x, x ∈ a → x.wf) (k : Nat) : SCd Try.prog ref03_Both.f [dots a, dots b] [] k 0 (dots (Dt.set (keepB b true a))) [] := (rboth_ok a b ha hb hwa).sc rfl k
theorem rminus_at (a b : List Dt) (ha : a.length < 10000000) (hb : b.length < 1000000000) (hwa : ∀ x, x ∈ a → x.wf) (k : Nat) : SCd Try.prog ref03_Minus.f [dots a, dots b] [] k 0 (dots (Dt.set (keepB b false a))) [] := (rminus_ok a b ha hb hwa).sc rfl k
end Go.Proofs.Ytkklgckpaajoeaa

/-
  Dots: keys back to dots; ranges.
-/
set_option linter.unusedSectionVars false
set_option linter.unusedVariables false
set_option linter.unusedSimpArgs false
namespace Go.Proofs.Ytkklgckpaajoeaa
open Go.Sl Go.Proofs
attribute [local irreducible] SW RW SCd SC CallP Pruned

theorem take3_ok (n : Nat) (hn : n < 18446744073709551616) : SB Try.prog dot_Of_1.f [.d (.int .i64 3), .ptr 0 0] [(0, .box 25 [u64 n])] 1 0 fun r F => r = u64 (n % 8) ∧ F = [(0, .box 25 [u64 (n / 8)])] := by
  refine dot_Of_1.enter rfl rfl (by simp) ?_
  unfold dot_Of_1.s
  have e1 : IntKind.u64.wrap (1 * 2 ^ 3) = 8 := by decide
  have e2 : IntKind.u64.wrap (8 - 1) = 7 := by decide
  have e3 : bits .and .u64 (n : Int) 7 = ((n % 8 : Nat) : Int) := by
    have := bits_and_u64_nat n 7 hn (by omega)
    rw [show ((7 : Nat) : Int) = 7 from rfl] at this
    rw [this, show 7 = 2 ^ 3 - 1 from rfl, Nat.and_two_pow_sub_one_eq_mod]
  have e4 : (n : Int) / 2 ^ 3 = ((n / 8 : Nat) : Int) := rfl
  (repeat (first | refine SW.seq ?_ | refine SW.block ?_ | (refine SW.regL [0, 1, 3, 4] mixed ?_; (repeat (first | refine RW.ro (And.intro (e1) (And.intro (e2) (And.intro (e3) (e4)))) (h := ?_) | refine RW.skip (h := ?_) | refine RW.op (And.intro (e1) (And.intro (e2) (And.intro (e3) (e4)))) (h := ?_) | refine RW.opN (And.intro (e1) (And.intro (e2) (And.intro (e3) (e4)))) (h := ?_) | refine RW.skip0 (h := ?_))); refine RW.nil ⟨by kernel_rfl, Pruned.mk (h := ?_)⟩) | refine SW.skip ?_ | refine SW.exit ?_ | refine SW.ret ?_ | refine SW.condT rfl ?_ | refine SW.condF rfl ?_))
  exact End.mk [(0, .box 25 [u64 (n / 8)])] (h4 := ⟨rfl, rfl⟩)
theorem take3_at (n : Nat) (hn : n < 18446744073709551616) (m k : Nat) : SCd Try.prog dot_Of_1.f [.d (.int .i64 3), .ptr m 0] [(m, .box 25 [.d (.int .u64 (n : Int))])] k 0 (.d (.int .u64 ((n % 8 : Nat) : Int))) [(m, .box 25 [.d (.int .u64 ((n / 8 : Nat) : Int))])] := by
  have h := SB.atL [m] (take3_ok n hn) (by simp) (fun i hi => by cases i with | zero => simp [lk_cons] | succ i => simp at hi) k
  simpa [SV.rens, SV.ren, atN, Hp.ren, Ob.ren, u64] using h
theorem take32_ok (n : Nat) (hn : n < 18446744073709551616) : SB Try.prog dot_Of_1.f [.d (.int .i64 32), .ptr 0 0] [(0, .box 25 [u64 n])] 1 0 fun r F => r = u64 (n % 4294967296) ∧ F = [(0, .box 25 [u64 (n / 4294967296)])] := by
  refine dot_Of_1.enter rfl rfl (by simp) ?_
  unfold dot_Of_1.s
  have e1 : IntKind.u64.wrap (1 * 2 ^ 32) = 4294967296 := by decide
  have e2 : IntKind.u64.wrap (4294967296 - 1) = 4294967295 := by decide
  have e3 : bits .and .u64 (n : Int) 4294967295 = ((n % 4294967296 : Nat) : Int) := by
    have := bits_and_u64_nat n 4294967295 hn (by omega)
    rw [show ((4294967295 : Nat) : Int) = 4294967295 from rfl] at this
    rw [this, show 4294967295 = 2 ^ 32 - 1 from rfl, Nat.and_two_pow_sub_one_eq_mod]
  have e4 : (n : Int) / 2 ^ 32 = ((n / 4294967296 : Nat) : Int) := rfl
  (repeat (first | refine SW.seq ?_ | refine SW.block ?_ | (refine SW.regL [0, 1, 3, 4] mixed ?_; (repeat (first | refine RW.ro (And.intro (e1) (And.intro (e2) (And.intro (e3) (e4)))) (h := ?_) | refine RW.skip (h := ?_) | refine RW.op (And.intro (e1) (And.intro (e2) (And.intro (e3) (e4)))) (h := ?_) | refine RW.opN (And.intro (e1) (And.intro (e2) (And.intro (e3) (e4)))) (h := ?_) | refine RW.skip0 (h := ?_))); refine RW.nil ⟨by kernel_rfl, Pruned.mk (h := ?_)⟩) | refine SW.skip ?_ | refine SW.exit ?_ | refine SW.ret ?_ | refine SW.condT rfl ?_ | refine SW.condF rfl ?_))
  exact End.mk [(0, .box 25 [u64 (n / 4294967296)])] (h4 := ⟨rfl, rfl⟩)
theorem take32_at (n : Nat) (hn : n < 18446744073709551616) (m k : Nat) : SCd Try.prog dot_Of_1.f [.d (.int .i64 32), .ptr m 0] [(m, .box 25 [.d (.int .u64 (n : Int))])] k 0 (.d (.int .u64 ((n % 4294967296 : Nat) : Int))) [(m, .box 25 [.d (.int .u64 ((n / 4294967296 : Nat) : Int))])] := by
  have h := SB.atL [m] (take32_ok n hn) (by simp) (fun i hi => by cases i with | zero => simp [lk_cons] | succ i => simp at hi) k
  simpa [SV.rens, SV.ren, atN, Hp.ren, Ob.ren, u64] using h

/-- The dot of a key. -/
def ofM (n : Nat) : Dt × Nat := if 1 ≤ n / 8 ∧ n / 8 < 4294967296 then (⟨n % 8, n / 8⟩, 0) else (⟨0, 0⟩, 5)
theorem of_ok (n : Nat) (hn : n < 18446744073709551616) : Go.Sl.Pure Try.prog dot_Of.f [u64 n] (.tup [.agg (ofM n).1.cells, i64 (ofM n).2]) := by
  refine dot_Of.enter (by first | rfl | simp [SV.ok, SV.oks]) (by first | rfl | simp [Hp.ok, Ob.ok, SV.ok, SV.oks, Vec.cells_ok]) (by simp) ?_
  unfold dot_Of.s
  have h8 : n / 8 < 18446744073709551616 := by omega
  have e1 : IntKind.u8.wrap ((n % 8 : Nat) : Int) = ((n % 8 : Nat) : Int) := wrap_u8' _ (by omega)
  have e2 : IntKind.u32.wrap ((n / 8 % 4294967296 : Nat) : Int) = ((n / 8 % 4294967296 : Nat) : Int) := wrap_u32' _ (by omega)
  rcases h1 : decide (((n / 8 / 4294967296 : Nat) : Int) > 0) with _ | _
  · have h1' : n / 8 / 4294967296 = 0 := by simp at h1; omega
    have hm : n / 8 % 4294967296 = n / 8 := Nat.mod_eq_of_lt (by omega)
    rcases h2 : (decide (((n % 8 : Nat) : Int) < 8) && decide (((n / 8 % 4294967296 : Nat) : Int) > 0)) with _ | _
    · (repeat (first | refine SW.seq ?_ | refine SW.block ?_ | (refine SW.regL [0, 2, 3, 4, 5, 6, 22] mixed ?_; (repeat (first | refine RW.ro (And.intro (e1) (And.intro (e2) (And.intro (h1) (h2)))) (h := ?_) | refine RW.skip (h := ?_) | refine RW.op (And.intro (e1) (And.intro (e2) (And.intro (h1) (h2)))) (h := ?_) | refine RW.opN (And.intro (e1) (And.intro (e2) (And.intro (h1) (h2)))) (h := ?_) | refine RW.skip0 (h := ?_) | (refine RW.callC (h := ?_); (first | refine CallP.mk (And.intro (e1) (And.intro (e2) (And.intro (h1) (h2)))) (hc := take3_at _ (by first | assumption | omega) _ _) (h := ?_) | refine CallP.mk (And.intro (e1) (And.intro (e2) (And.intro (h1) (h2)))) (hc := take32_at _ (by first | assumption | omega) _ _) (h := ?_) | refine CallP.mk (And.intro (e1) (And.intro (e2) (And.intro (h1) (h2)))) (hc := may_at _ _) (h := ?_))))); refine RW.nil ⟨by kernel_rfl, Pruned.mk (h := ?_)⟩) | refine SW.skip ?_ | refine SW.exit ?_ | refine SW.ret ?_ | refine SW.condT rfl ?_ | refine SW.condF rfl ?_))
      have : ofM n = (⟨0, 0⟩, 5) := by
        unfold ofM
        rw [if_neg]
        simp only [Bool.and_eq_false_iff, decide_eq_false_iff_not, hm] at h2
        omega
      exact End.mk [] (h4 := ⟨by rw [this]; rfl, rfl⟩)
    · (repeat (first | refine SW.seq ?_ | refine SW.block ?_ | (refine SW.regL [0, 2, 3, 4, 5, 6, 22] mixed ?_; (repeat (first | refine RW.ro (And.intro (e1) (And.intro (e2) (And.intro (h1) (h2)))) (h := ?_) | refine RW.skip (h := ?_) | refine RW.op (And.intro (e1) (And.intro (e2) (And.intro (h1) (h2)))) (h := ?_) | refine RW.opN (And.intro (e1) (And.intro (e2) (And.intro (h1) (h2)))) (h := ?_) | refine RW.skip0 (h := ?_) | (refine RW.callC (h := ?_); (first | refine CallP.mk (And.intro (e1) (And.intro (e2) (And.intro (h1) (h2)))) (hc := take3_at _ (by first | assumption | omega) _ _) (h := ?_) | refine CallP.mk (And.intro (e1) (And.intro (e2) (And.intro (h1) (h2)))) (hc := take32_at _ (by first | assumption | omega) _ _) (h := ?_) | refine CallP.mk (And.intro (e1) (And.intro (e2) (And.intro (h1) (h2)))) (hc := may_at _ _) (h := ?_))))); refine RW.nil ⟨by kernel_rfl, Pruned.mk (h := ?_)⟩) | refine SW.skip ?_ | refine SW.exit ?_ | refine SW.ret ?_ | refine SW.condT rfl ?_ | refine SW.condF rfl ?_))
      have : ofM n = (⟨n % 8, n / 8 % 4294967296⟩, 0) := by
        unfold ofM
        rw [hm, if_pos]
        simp only [Bool.and_eq_true, decide_eq_true_eq, hm] at h2
        omega
      exact End.mk [] (h4 := ⟨by rw [this]; rfl, rfl⟩)
  · (repeat (first | refine SW.seq ?_ | refine SW.block ?_ | (refine SW.regL [0, 2, 3, 4, 5, 6, 22] mixed ?_; (repeat (first | refine RW.ro (And.intro (e1) (And.intro (e2) (h1))) (h := ?_) | refine RW.skip (h := ?_) | refine RW.op (And.intro (e1) (And.intro (e2) (h1))) (h := ?_) | refine RW.opN (And.intro (e1) (And.intro (e2) (h1))) (h := ?_) | refine RW.skip0 (h := ?_) | (refine RW.callC (h := ?_); (first | refine CallP.mk (And.intro (e1) (And.intro (e2) (h1))) (hc := take3_at _ (by first | assumption | omega) _ _) (h := ?_) | refine CallP.mk (And.intro (e1) (And.intro (e2) (h1))) (hc := take32_at _ (by first | assumption | omega) _ _) (h := ?_) | refine CallP.mk (And.intro (e1) (And.intro (e2) (h1))) (hc := may_at _ _) (h := ?_))))); refine RW.nil ⟨by kernel_rfl, Pruned.mk (h := ?_)⟩) | refine SW.skip ?_ | refine SW.exit ?_ | refine SW.ret ?_ | refine SW.condT rfl ?_ | refine SW.condF rfl ?_))
    have : ofM n = (⟨0, 0⟩, 5) := by
      unfold ofM
      rw [if_neg]
      simp only [decide_eq_true_eq] at h1
      omega
    exact End.mk [] (h4 := ⟨by rw [this]; rfl, rfl⟩)
theorem of_at (n : Nat) (hn : n < 18446744073709551616) (k : Nat) : SCd Try.prog dot_Of.f [.d (.int .u64 (n : Int))] [] k 0 (.tup [.agg (ofM n).1.cells, i64 (ofM n).2]) [] := (of_ok n hn).sc rfl k
theorem rof_ok (n : Nat) (hn : n < 18446744073709551616) : Go.Sl.Pure Try.prog ref03_Of.f [u64 n] (.tup [.agg (ofM n).1.cells, i64 (ofM n).2]) := by
  refine ref03_Of.enter (by first | rfl | simp [SV.ok, SV.oks]) (by first | rfl | simp [Hp.ok, Ob.ok, SV.ok, SV.oks, Vec.cells_ok]) (by simp) ?_
  unfold ref03_Of.s
  have e0 : (n : Int).tdiv 8 = ((n / 8 : Nat) : Int) := rfl
  have e9 : (n : Int).tmod 8 = ((n % 8 : Nat) : Int) := rfl
  have w0 : IntKind.u64.wrap ((n / 8 : Nat) : Int) = ((n / 8 : Nat) : Int) := wrap_u64' _ (by omega)
  have w9 : IntKind.u64.wrap ((n % 8 : Nat) : Int) = ((n % 8 : Nat) : Int) := wrap_u64' _ (by omega)
  rcases h1 : decide (((n / 8 : Nat) : Int) < 1) with _ | _
  · rcases h2 : decide (((n / 8 : Nat) : Int) > 4294967295) with _ | _
    · have e1 : IntKind.u8.wrap ((n % 8 : Nat) : Int) = ((n % 8 : Nat) : Int) := wrap_u8' _ (by omega)
      have e2 : IntKind.u32.wrap ((n / 8 : Nat) : Int) = ((n / 8 : Nat) : Int) := wrap_u32' _ (by simp at h2; omega)
      (repeat (first | refine SW.seq ?_ | refine SW.block ?_ | (refine SW.regL [0, 2, 3, 11] mixed ?_; (repeat (first | refine RW.ro (And.intro (e0) (And.intro (e9) (And.intro (w0) (And.intro (w9) (And.intro (e1) (And.intro (e2) (And.intro (h1) (h2)))))))) (h := ?_) | refine RW.skip (h := ?_) | refine RW.op (And.intro (e0) (And.intro (e9) (And.intro (w0) (And.intro (w9) (And.intro (e1) (And.intro (e2) (And.intro (h1) (h2)))))))) (h := ?_) | refine RW.opN (And.intro (e0) (And.intro (e9) (And.intro (w0) (And.intro (w9) (And.intro (e1) (And.intro (e2) (And.intro (h1) (h2)))))))) (h := ?_) | refine RW.skip0 (h := ?_))); refine RW.nil ⟨by kernel_rfl, Pruned.mk (h := ?_)⟩) | refine SW.skip ?_ | refine SW.exit ?_ | refine SW.ret ?_ | refine SW.condT rfl ?_ | refine SW.condF rfl ?_))
      have : ofM n = (⟨n % 8, n / 8⟩, 0) := by
        unfold ofM
        rw [if_pos]
        simp only [decide_eq_false_iff_not] at h1 h2
        omega
      exact End.mk [] (h4 := ⟨by rw [this]; rfl, rfl⟩)
    · (repeat (first | refine SW.seq ?_ | refine SW.block ?_ | (refine SW.regL [0, 2, 3, 11] mixed ?_; (repeat (first | refine RW.ro (And.intro (e0) (And.intro (e9) (And.intro (w0) (And.intro (w9) (And.intro (h1) (h2)))))) (h := ?_) | refine RW.skip (h := ?_) | refine RW.op (And.intro (e0) (And.intro (e9) (And.intro (w0) (And.intro (w9) (And.intro (h1) (h2)))))) (h := ?_) | refine RW.opN (And.intro (e0) (And.intro (e9) (And.intro (w0) (And.intro (w9) (And.intro (h1) (h2)))))) (h := ?_) | refine RW.skip0 (h := ?_))); refine RW.nil ⟨by kernel_rfl, Pruned.mk (h := ?_)⟩) | refine SW.skip ?_ | refine SW.exit ?_ | refine SW.ret ?_ | refine SW.condT rfl ?_ | refine SW.condF rfl ?_))
      have : ofM n = (⟨0, 0⟩, 5) := by
        unfold ofM
        rw [if_neg]
        simp only [decide_eq_true_eq] at h2
        omega
      exact End.mk [] (h4 := ⟨by rw [this]; rfl, rfl⟩)
  · (repeat (first | refine SW.seq ?_ | refine SW.block ?_ | (refine SW.regL [0, 2, 3, 11] mixed ?_; (repeat (first | refine RW.ro (And.intro (e0) (And.intro (e9) (And.intro (w0) (And.intro (w9) (h1))))) (h := ?_) | refine RW.skip (h := ?_) | refine RW.op (And.intro (e0) (And.intro (e9) (And.intro (w0) (And.intro (w9) (h1))))) (h := ?_) | refine RW.opN (And.intro (e0) (And.intro (e9) (And.intro (w0) (And.intro (w9) (h1))))) (h := ?_) | refine RW.skip0 (h := ?_))); refine RW.nil ⟨by kernel_rfl, Pruned.mk (h := ?_)⟩) | refine SW.skip ?_ | refine SW.exit ?_ | refine SW.ret ?_ | refine SW.condT rfl ?_ | refine SW.condF rfl ?_))
    have : ofM n = (⟨0, 0⟩, 5) := by
      unfold ofM
      rw [if_neg]
      simp only [decide_eq_true_eq] at h1
      omega
    exact End.mk [] (h4 := ⟨by rw [this]; rfl, rfl⟩)
theorem rof_at (n : Nat) (hn : n < 18446744073709551616) (k : Nat) : SCd Try.prog ref03_Of.f [.d (.int .u64 (n : Int))] [] k 0 (.tup [.agg (ofM n).1.cells, i64 (ofM n).2]) [] := (rof_ok n hn).sc rfl k
end Go.Proofs.Ytkklgckpaajoeaa

/-
  Dots: ranges.
-/
set_option linter.unusedSectionVars false
set_option linter.unusedVariables false
set_option linter.unusedSimpArgs false
namespace Go.Proofs.Ytkklgckpaajoeaa
open Go.Sl Go.Proofs
attribute [local irreducible] SW RW SCd SC CallP Pruned

theorem rangeOf_no {r a b : Nat} (h : ¬ (r < 8 ∧ 0 < a)) : dotRange r a b = ([], 2) := by
  unfold dotRange Dt.may
  rw [if_pos]
  simp only [Bool.and_eq_false_iff, decide_eq_false_iff_not]
  omega
theorem rangeOf_none {r a b : Nat} (h : r < 8 ∧ 0 < a) (h2 : b < a) : dotRange r a b = ([], 0) := by
  unfold dotRange Dt.may
  rw [if_neg, if_pos h2]
  simp [h]
theorem rangeOf_long {r a b : Nat} (h : r < 8 ∧ 0 < a) (h2 : a ≤ b) (h3 : 65536 ≤ b - a) : dotRange r a b = ([], 3) := by
  unfold dotRange Dt.may
  rw [if_neg, if_neg (by omega), if_pos h3]
  simp [h]
theorem rangeOf_some {r a b : Nat} (h : r < 8 ∧ 0 < a) (h2 : a ≤ b) (h3 : b - a < 65536) : dotRange r a b = (rangeD r a (b - a + 1), 0) := by
  unfold dotRange Dt.may
  rw [if_neg, if_neg (by omega), if_neg (by omega)]
  simp [h]

set_option maxHeartbeats 1000000 in
theorem range_ok (r a b : Nat) (hr : r < 256) (ha : a < 4294967296) (hb : b < 4294967296) : Go.Sl.Pure Try.prog dot_Range.f [u8 r, u32 a, u32 b] (.tup [dots (dotRange r a b).1, i64 (dotRange r a b).2]) := by
  refine dot_Range.enter (by first | rfl | simp [SV.ok, SV.oks]) (by first | rfl | simp [Hp.ok, Ob.ok, SV.ok, SV.oks, Vec.cells_ok]) (by simp) ?_
  unfold dot_Range.s
  refine SW.seq ?_
  (refine SW.regL [0, 1, 2, 6, 7, 8, 9, 10, 16, 20, 33, 34, 35] mixed ?_; (repeat (first | refine RW.ro bq_tt (h := ?_) | refine RW.skip (h := ?_) | refine RW.op bq_tt (h := ?_) | refine RW.opN bq_tt (h := ?_) | refine RW.skip0 (h := ?_) | (refine RW.callC (h := ?_); (first | refine CallP.mk bq_tt (hc := may_at _ _) (h := ?_))))); refine RW.nil ⟨by kernel_rfl, Pruned.mk (h := ?_)⟩)
  refine SW.seq (SW.block (SW.seq ?_))
  rcases h1 : (decide ((r : Int) < 8) && decide ((a : Int) > 0)) with _ | _
  · (refine SW.regL [0, 1, 2, 6, 7, 8, 9, 10, 16, 20, 33, 34, 35] mixed ?_; (repeat (first | refine RW.ro (h1) (h := ?_) | refine RW.skip (h := ?_) | refine RW.op (h1) (h := ?_) | refine RW.opN (h1) (h := ?_) | refine RW.skip0 (h := ?_) | (refine RW.callC (h := ?_); (first | refine CallP.mk (h1) (hc := may_at _ _) (h := ?_))))); refine RW.nil ⟨by kernel_rfl, Pruned.mk (h := ?_)⟩)
    refine SW.condT rfl (SW.seq ?_)
    (refine SW.regL [0, 1, 2, 6, 7, 8, 9, 10, 16, 20, 33, 34, 35] mixed ?_; (repeat (first | refine RW.ro bq_tt (h := ?_) | refine RW.skip (h := ?_) | refine RW.op bq_tt (h := ?_) | refine RW.opN bq_tt (h := ?_) | refine RW.skip0 (h := ?_) | (refine RW.callC (h := ?_); (first | refine CallP.mk bq_tt (hc := may_at _ _) (h := ?_))))); refine RW.nil ⟨by kernel_rfl, Pruned.mk (h := ?_)⟩)
    refine SW.nils 6 rfl (SW.ret ?_)
    have := rangeOf_no (b := b) (show ¬ (r < 8 ∧ 0 < a) by simp only [Bool.and_eq_false_iff, decide_eq_false_iff_not] at h1; omega)
    exact End.mk [] (h4 := ⟨by rw [this]; rfl, rfl⟩)
  have hra : r < 8 ∧ 0 < a := by simp only [Bool.and_eq_true, decide_eq_true_eq] at h1; omega
  (refine SW.regL [0, 1, 2, 6, 7, 8, 9, 10, 16, 20, 33, 34, 35] mixed ?_; (repeat (first | refine RW.ro (h1) (h := ?_) | refine RW.skip (h := ?_) | refine RW.op (h1) (h := ?_) | refine RW.opN (h1) (h := ?_) | refine RW.skip0 (h := ?_) | (refine RW.callC (h := ?_); (first | refine CallP.mk (h1) (hc := may_at _ _) (h := ?_))))); refine RW.nil ⟨by kernel_rfl, Pruned.mk (h := ?_)⟩)
  refine SW.condF rfl (SW.seq ?_)
  rcases h2 : decide ((b : Int) < a) with _ | _
  rotate_left
  · (refine SW.regL [0, 1, 2, 6, 7, 8, 9, 10, 16, 20, 33, 34, 35] mixed ?_; (repeat (first | refine RW.ro (h2) (h := ?_) | refine RW.skip (h := ?_) | refine RW.op (h2) (h := ?_) | refine RW.opN (h2) (h := ?_) | refine RW.skip0 (h := ?_) | (refine RW.callC (h := ?_); (first | refine CallP.mk (h2) (hc := may_at _ _) (h := ?_))))); refine RW.nil ⟨by kernel_rfl, Pruned.mk (h := ?_)⟩)
    refine SW.condT rfl (SW.seq ?_)
    (refine SW.regL [0, 1, 2, 6, 7, 8, 9, 10, 16, 20, 33, 34, 35] mixed ?_; (repeat (first | refine RW.ro bq_tt (h := ?_) | refine RW.skip (h := ?_) | refine RW.op bq_tt (h := ?_) | refine RW.opN bq_tt (h := ?_) | refine RW.skip0 (h := ?_) | (refine RW.callC (h := ?_); (first | refine CallP.mk bq_tt (hc := may_at _ _) (h := ?_))))); refine RW.nil ⟨by kernel_rfl, Pruned.mk (h := ?_)⟩)
    refine SW.nils 6 rfl (SW.ret ?_)
    have := rangeOf_none hra (show b < a by simpa using h2)
    exact End.mk [] (h4 := ⟨by rw [this]; rfl, rfl⟩)
  have hab : a ≤ b := by simp at h2; omega
  have e1 : (b : Int) - a = ((b - a : Nat) : Int) := by omega
  (refine SW.regL [0, 1, 2, 6, 7, 8, 9, 10, 16, 20, 33, 34, 35] mixed ?_; (repeat (first | refine RW.ro (h2) (h := ?_) | refine RW.skip (h := ?_) | refine RW.op (h2) (h := ?_) | refine RW.opN (h2) (h := ?_) | refine RW.skip0 (h := ?_) | (refine RW.callC (h := ?_); (first | refine CallP.mk (h2) (hc := may_at _ _) (h := ?_))))); refine RW.nil ⟨by kernel_rfl, Pruned.mk (h := ?_)⟩)
  refine SW.condF rfl (SW.seq ?_)
  rcases h3 : decide (((b - a : Nat) : Int) ≥ 65536) with _ | _
  rotate_left
  · (refine SW.regL [0, 1, 2, 6, 7, 8, 9, 10, 16, 20, 33, 34, 35] mixed ?_; (repeat (first | refine RW.ro (And.intro (e1) (h3)) (h := ?_) | refine RW.skip (h := ?_) | refine RW.op (And.intro (e1) (h3)) (h := ?_) | refine RW.opN (And.intro (e1) (h3)) (h := ?_) | refine RW.skip0 (h := ?_) | (refine RW.callC (h := ?_); (first | refine CallP.mk (And.intro (e1) (h3)) (hc := may_at _ _) (h := ?_))))); refine RW.nil ⟨by kernel_rfl, Pruned.mk (h := ?_)⟩)
    refine SW.condT rfl (SW.seq ?_)
    (refine SW.regL [0, 1, 2, 6, 7, 8, 9, 10, 16, 20, 33, 34, 35] mixed ?_; (repeat (first | refine RW.ro bq_tt (h := ?_) | refine RW.skip (h := ?_) | refine RW.op bq_tt (h := ?_) | refine RW.opN bq_tt (h := ?_) | refine RW.skip0 (h := ?_) | (refine RW.callC (h := ?_); (first | refine CallP.mk bq_tt (hc := may_at _ _) (h := ?_))))); refine RW.nil ⟨by kernel_rfl, Pruned.mk (h := ?_)⟩)
    refine SW.nils 6 rfl (SW.ret ?_)
    have := rangeOf_long hra hab (show 65536 ≤ b - a by simp only [decide_eq_true_eq] at h3; omega)
    exact End.mk [] (h4 := ⟨by rw [this]; rfl, rfl⟩)
  have hlt : b - a < 65536 := by simp only [decide_eq_false_iff_not] at h3; omega
  have hres := rangeOf_some hra hab hlt
  (refine SW.regL [0, 1, 2, 6, 7, 8, 9, 10, 16, 20, 33, 34, 35] mixed ?_; (repeat (first | refine RW.ro (And.intro (e1) (h3)) (h := ?_) | refine RW.skip (h := ?_) | refine RW.op (And.intro (e1) (h3)) (h := ?_) | refine RW.opN (And.intro (e1) (h3)) (h := ?_) | refine RW.skip0 (h := ?_) | (refine RW.callC (h := ?_); (first | refine CallP.mk (And.intro (e1) (h3)) (hc := may_at _ _) (h := ?_))))); refine RW.nil ⟨by kernel_rfl, Pruned.mk (h := ?_)⟩)
  refine SW.condF rfl (SW.skip ?_)
  refine SW.seq ?_
  (refine SW.regL [0, 1, 2, 6, 7, 8, 9, 10, 16, 20, 33, 34, 35] mixed ?_; (repeat (first | refine RW.ro (e1) (h := ?_) | refine RW.skip (h := ?_) | refine RW.op (e1) (h := ?_) | refine RW.opN (e1) (h := ?_) | refine RW.skip0 (h := ?_) | (refine RW.callC (h := ?_); (first | refine CallP.mk (e1) (hc := may_at _ _) (h := ?_))))); refine RW.nil ⟨by kernel_rfl, Pruned.mk (h := ?_)⟩)
  refine SW.seq (SW.seq ?_)
  (refine SW.regL [0, 1, 2, 6, 7, 8, 9, 10, 16, 20, 33, 34, 35] mixed ?_; (repeat (first | refine RW.ro (e1) (h := ?_) | refine RW.skip (h := ?_) | refine RW.op (e1) (h := ?_) | refine RW.opN (e1) (h := ?_) | refine RW.skip0 (h := ?_) | (refine RW.callC (h := ?_); (first | refine CallP.mk (e1) (hc := may_at _ _) (h := ?_))))); refine RW.nil ⟨by kernel_rfl, Pruned.mk (h := ?_)⟩)
  refine SW.block ?_
  refine SW.loopA (α := {i : Nat // i ≤ b - a + 1}) (fun i => ⟨[(34, u32 i.1), (33, u32 (b - a + 1)), (8, .gs 0 i.1), (0, u8 r), (1, u32 a)], [(0, .arr 24 2 i.1 (((rangeD r a i.1).flatMap Dt.ds).map .d))], 1⟩) (fun i => b - a + 1 - i.1) ⟨0, by omega⟩ id (And.intro (rangeD_zero r a) bq_tt) (round := ?_)
  rintro ⟨i, hi⟩
  by_cases h : i < b - a + 1
  · have h4 : decide ((i : Int) < ((b - a + 1 : Nat) : Int)) = true := by simp only [decide_eq_true_eq]; omega
    have e2 := Dt.map_ds ⟨r, a + i⟩
    (repeat (first | refine SW.seq ?_ | refine SW.block ?_ | (refine SW.regL [0, 1, 2, 6, 7, 8, 9, 10, 16, 20, 33, 34, 35] mixed ?_; (repeat (first | refine RW.ro (h4) (h := ?_) | refine RW.skip (h := ?_) | refine RW.op (h4) (h := ?_) | refine RW.opN (h4) (h := ?_) | refine RW.skip0 (h := ?_) | (refine RW.callC (h := ?_); (first | refine CallP.mk (h4) (hc := may_at _ _) (h := ?_))))); refine RW.nil ⟨by kernel_rfl, Pruned.mk (h := ?_)⟩) | refine SW.skip ?_ | refine SW.exit ?_ | refine SW.ret ?_ | refine SW.condT rfl ?_ | refine SW.condF rfl ?_))
    exact ⟨⟨i + 1, by omega⟩, fun n => if n = 0 then 1 else n, by simp; omega, Weak.mk (And.intro (rangeD_succ r a i) e2)⟩
  · have h4 : decide ((i : Int) < ((b - a + 1 : Nat) : Int)) = false := by simp only [decide_eq_false_iff_not]; omega
    have hi2 : i = b - a + 1 := by omega
    subst hi2
    refine SW.seq ?_
    (refine SW.regL [0, 1, 2, 6, 7, 8, 9, 10, 16, 20, 33, 34, 35] mixed ?_; (repeat (first | refine RW.ro (h4) (h := ?_) | refine RW.skip (h := ?_) | refine RW.op (h4) (h := ?_) | refine RW.opN (h4) (h := ?_) | refine RW.skip0 (h := ?_) | (refine RW.callC (h := ?_); (first | refine CallP.mk (h4) (hc := may_at _ _) (h := ?_))))); refine RW.nil ⟨by kernel_rfl, Pruned.mk (h := ?_)⟩)
    refine SW.seq (SW.condF rfl (SW.exit ?_))
    refine SW.freeze 0 ((rangeD r a (b - a + 1)).flatMap Dt.ds) rfl rfl ?_
    simp only [frzE, SV.frz, List.map_cons, List.map_nil, if_true, if_false, reduceIte, hdel, Nat.reduceEqDiff]
    (repeat (first | refine SW.seq ?_ | refine SW.block ?_ | (refine SW.regL [0, 1, 2, 6, 7, 8, 9, 10, 16, 20, 33, 34, 35] mixed ?_; (repeat (first | refine RW.ro bq_tt (h := ?_) | refine RW.skip (h := ?_) | refine RW.op bq_tt (h := ?_) | refine RW.opN bq_tt (h := ?_) | refine RW.skip0 (h := ?_) | (refine RW.callC (h := ?_); (first | refine CallP.mk bq_tt (hc := may_at _ _) (h := ?_))))); refine RW.nil ⟨by kernel_rfl, Pruned.mk (h := ?_)⟩) | refine SW.skip ?_ | refine SW.exit ?_ | refine SW.ret ?_ | refine SW.condT rfl ?_ | refine SW.condF rfl ?_))
    exact End.mk [] (h4 := ⟨by rw [hres]; simp [retV], rfl⟩)
theorem range_at (r a b : Nat) (hr : r < 256) (ha : a < 4294967296) (hb : b < 4294967296) (k : Nat) : SCd Try.prog dot_Range.f [.d (.int .u8 (r : Int)), .d (.int .u32 (a : Int)), .d (.int .u32 (b : Int))] [] k 0 (.tup [dots (dotRange r a b).1, i64 (dotRange r a b).2]) [] := (range_ok r a b hr ha hb).sc rfl k
end Go.Proofs.Ytkklgckpaajoeaa

/-
  Dots: the reference's ranges.
-/
set_option linter.unusedSectionVars false
set_option linter.unusedVariables false
set_option linter.unusedSimpArgs false
namespace Go.Proofs.Ytkklgckpaajoeaa
open Go.Sl Go.Proofs
attribute [local irreducible] SW RW SCd SC CallP Pruned

set_option maxHeartbeats 1000000 in
theorem rrange_ok (r a b : Nat) (hr : r < 256) (ha : a < 4294967296) (hb : b < 4294967296) : Go.Sl.Pure Try.prog ref03_Range.f [u8 r, u32 a, u32 b] (.tup [dots (dotRange r a b).1, i64 (dotRange r a b).2]) := by
  refine ref03_Range.enter (by first | rfl | simp [SV.ok, SV.oks]) (by first | rfl | simp [Hp.ok, Ob.ok, SV.ok, SV.oks, Vec.cells_ok]) (by simp) ?_
  unfold ref03_Range.s
  refine SW.seq ?_
  (refine SW.regL [0, 1, 2, 6, 7, 8, 9, 15, 22, 28] mixed ?_; (repeat (first | refine RW.ro bq_tt (h := ?_) | refine RW.skip (h := ?_) | refine RW.op bq_tt (h := ?_) | refine RW.opN bq_tt (h := ?_) | refine RW.skip0 (h := ?_))); refine RW.nil ⟨by kernel_rfl, Pruned.mk (h := ?_)⟩)
  refine SW.seq (SW.seq ?_)
  rcases h1 : decide ((r : Int) > 7) with _ | _
  rotate_left
  · (refine SW.regL [0, 1, 2, 6, 7, 8, 9, 15, 22, 28] mixed ?_; (repeat (first | refine RW.ro (h1) (h := ?_) | refine RW.skip (h := ?_) | refine RW.op (h1) (h := ?_) | refine RW.opN (h1) (h := ?_) | refine RW.skip0 (h := ?_))); refine RW.nil ⟨by kernel_rfl, Pruned.mk (h := ?_)⟩)
    refine SW.condT rfl (SW.seq ?_)
    (refine SW.regL [0, 1, 2, 6, 7, 8, 9, 15, 22, 28] mixed ?_; (repeat (first | refine RW.ro bq_tt (h := ?_) | refine RW.skip (h := ?_) | refine RW.op bq_tt (h := ?_) | refine RW.opN bq_tt (h := ?_) | refine RW.skip0 (h := ?_))); refine RW.nil ⟨by kernel_rfl, Pruned.mk (h := ?_)⟩)
    refine SW.nils 6 rfl (SW.ret ?_)
    have := rangeOf_no (b := b) (show ¬ (r < 8 ∧ 0 < a) by simp only [decide_eq_true_eq] at h1; omega)
    exact End.mk [] (h4 := ⟨by rw [this]; rfl, rfl⟩)
  rcases h0 : ((a : Int) == 0) with _ | _
  rotate_left
  · (refine SW.regL [0, 1, 2, 6, 7, 8, 9, 15, 22, 28] mixed ?_; (repeat (first | refine RW.ro (And.intro (h1) (h0)) (h := ?_) | refine RW.skip (h := ?_) | refine RW.op (And.intro (h1) (h0)) (h := ?_) | refine RW.opN (And.intro (h1) (h0)) (h := ?_) | refine RW.skip0 (h := ?_))); refine RW.nil ⟨by kernel_rfl, Pruned.mk (h := ?_)⟩)
    refine SW.condT rfl (SW.seq ?_)
    (refine SW.regL [0, 1, 2, 6, 7, 8, 9, 15, 22, 28] mixed ?_; (repeat (first | refine RW.ro bq_tt (h := ?_) | refine RW.skip (h := ?_) | refine RW.op bq_tt (h := ?_) | refine RW.opN bq_tt (h := ?_) | refine RW.skip0 (h := ?_))); refine RW.nil ⟨by kernel_rfl, Pruned.mk (h := ?_)⟩)
    refine SW.nils 6 rfl (SW.ret ?_)
    have := rangeOf_no (b := b) (show ¬ (r < 8 ∧ 0 < a) by simp at h0; omega)
    exact End.mk [] (h4 := ⟨by rw [this]; rfl, rfl⟩)
  have hra : r < 8 ∧ 0 < a := by simp at h0; simp only [decide_eq_false_iff_not] at h1; omega
  (refine SW.regL [0, 1, 2, 6, 7, 8, 9, 15, 22, 28] mixed ?_; (repeat (first | refine RW.ro (And.intro (h1) (h0)) (h := ?_) | refine RW.skip (h := ?_) | refine RW.op (And.intro (h1) (h0)) (h := ?_) | refine RW.opN (And.intro (h1) (h0)) (h := ?_) | refine RW.skip0 (h := ?_))); refine RW.nil ⟨by kernel_rfl, Pruned.mk (h := ?_)⟩)
  refine SW.condF rfl (SW.skip ?_)
  refine SW.seq (SW.seq ?_)
  rcases h3 : decide ((b : Int) - a + 1 > 65536) with _ | _
  rotate_left
  · (refine SW.regL [0, 1, 2, 6, 7, 8, 9, 15, 22, 28] mixed ?_; (repeat (first | refine RW.ro (h3) (h := ?_) | refine RW.skip (h := ?_) | refine RW.op (h3) (h := ?_) | refine RW.opN (h3) (h := ?_) | refine RW.skip0 (h := ?_))); refine RW.nil ⟨by kernel_rfl, Pruned.mk (h := ?_)⟩)
    refine SW.condT rfl (SW.seq ?_)
    (refine SW.regL [0, 1, 2, 6, 7, 8, 9, 15, 22, 28] mixed ?_; (repeat (first | refine RW.ro bq_tt (h := ?_) | refine RW.skip (h := ?_) | refine RW.op bq_tt (h := ?_) | refine RW.opN bq_tt (h := ?_) | refine RW.skip0 (h := ?_))); refine RW.nil ⟨by kernel_rfl, Pruned.mk (h := ?_)⟩)
    refine SW.nils 6 rfl (SW.ret ?_)
    have := rangeOf_long hra (show a ≤ b by simp only [decide_eq_true_eq] at h3; omega) (show 65536 ≤ b - a by simp only [decide_eq_true_eq] at h3; omega)
    exact End.mk [] (h4 := ⟨by rw [this]; rfl, rfl⟩)
  (refine SW.regL [0, 1, 2, 6, 7, 8, 9, 15, 22, 28] mixed ?_; (repeat (first | refine RW.ro (h3) (h := ?_) | refine RW.skip (h := ?_) | refine RW.op (h3) (h := ?_) | refine RW.opN (h3) (h := ?_) | refine RW.skip0 (h := ?_))); refine RW.nil ⟨by kernel_rfl, Pruned.mk (h := ?_)⟩)
  refine SW.condF rfl (SW.skip ?_)
  refine SW.seq ?_
  (refine SW.regL [0, 1, 2, 6, 7, 8, 9, 15, 22, 28] mixed ?_; (repeat (first | refine RW.ro bq_tt (h := ?_) | refine RW.skip (h := ?_) | refine RW.op bq_tt (h := ?_) | refine RW.opN bq_tt (h := ?_) | refine RW.skip0 (h := ?_))); refine RW.nil ⟨by kernel_rfl, Pruned.mk (h := ?_)⟩)
  refine SW.nilrow 8 24 2 rfl ?_
  refine SW.seq (SW.seq ?_)
  (refine SW.regL [0, 1, 2, 6, 7, 8, 9, 15, 22, 28] mixed ?_; (repeat (first | refine RW.ro bq_tt (h := ?_) | refine RW.skip (h := ?_) | refine RW.op bq_tt (h := ?_) | refine RW.opN bq_tt (h := ?_) | refine RW.skip0 (h := ?_))); refine RW.nil ⟨by kernel_rfl, Pruned.mk (h := ?_)⟩)
  refine SW.block ?_
  have hcnt : b + 1 - a ≤ 65536 := by simp only [decide_eq_false_iff_not] at h3; omega
  refine SW.loopA (α := {i : Nat // i ≤ b + 1 - a}) (fun i => ⟨[(9, i64 ((a + i.1 : Nat) : Int)), (8, .gs 0 i.1), (0, u8 r), (2, u32 b)], [(0, .arr 24 2 i.1 (((rangeD r a i.1).flatMap Dt.ds).map .d))], 1⟩) (fun i => b + 1 - a - i.1) ⟨0, by omega⟩ id (And.intro (rangeD_zero r a) bq_tt) (round := ?_)
  rintro ⟨i, hi⟩
  by_cases h : i < b + 1 - a
  · have h4 : decide (((a + i : Nat) : Int) ≤ b) = true := by simp only [decide_eq_true_eq]; omega
    have e2 := Dt.map_ds ⟨r, a + i⟩
    (repeat (first | refine SW.seq ?_ | refine SW.block ?_ | (refine SW.regL [0, 1, 2, 6, 7, 8, 9, 15, 22, 28] mixed ?_; (repeat (first | refine RW.ro (h4) (h := ?_) | refine RW.skip (h := ?_) | refine RW.op (h4) (h := ?_) | refine RW.opN (h4) (h := ?_) | refine RW.skip0 (h := ?_))); refine RW.nil ⟨by kernel_rfl, Pruned.mk (h := ?_)⟩) | refine SW.skip ?_ | refine SW.exit ?_ | refine SW.ret ?_ | refine SW.condT rfl ?_ | refine SW.condF rfl ?_))
    exact ⟨⟨i + 1, by omega⟩, fun n => if n = 0 then 1 else n, by simp; omega, Weak.mk (And.intro (rangeD_succ r a i) (And.intro (Nat.add_assoc a i 1) e2))⟩
  · have h4 : decide (((a + i : Nat) : Int) ≤ b) = false := by simp only [decide_eq_false_iff_not]; omega
    have hi2 : i = b + 1 - a := by omega
    subst hi2
    refine SW.seq (SW.seq ?_)
    (refine SW.regL [0, 1, 2, 6, 7, 8, 9, 15, 22, 28] mixed ?_; (repeat (first | refine RW.ro (h4) (h := ?_) | refine RW.skip (h := ?_) | refine RW.op (h4) (h := ?_) | refine RW.opN (h4) (h := ?_) | refine RW.skip0 (h := ?_))); refine RW.nil ⟨by kernel_rfl, Pruned.mk (h := ?_)⟩)
    refine SW.condF rfl (SW.exit ?_)
    refine SW.freeze 0 ((rangeD r a (b + 1 - a)).flatMap Dt.ds) rfl rfl ?_
    simp only [frzE, SV.frz, List.map_cons, List.map_nil, if_true, if_false, reduceIte, hdel, Nat.reduceEqDiff]
    (repeat (first | refine SW.seq ?_ | refine SW.block ?_ | (refine SW.regL [0, 1, 2, 6, 7, 8, 9, 15, 22, 28] mixed ?_; (repeat (first | refine RW.ro bq_tt (h := ?_) | refine RW.skip (h := ?_) | refine RW.op bq_tt (h := ?_) | refine RW.opN bq_tt (h := ?_) | refine RW.skip0 (h := ?_))); refine RW.nil ⟨by kernel_rfl, Pruned.mk (h := ?_)⟩) | refine SW.skip ?_ | refine SW.exit ?_ | refine SW.ret ?_ | refine SW.condT rfl ?_ | refine SW.condF rfl ?_))
    have : dotRange r a b = (rangeD r a (b + 1 - a), 0) := by
      by_cases hab : a ≤ b
      · rw [rangeOf_some hra hab (by omega), show b - a + 1 = b + 1 - a by omega]
      · rw [rangeOf_none hra (by omega), show b + 1 - a = 0 by omega]; rfl
    exact End.mk [] (h4 := ⟨by rw [this]; simp [retV], rfl⟩)
theorem rrange_at (r a b : Nat) (hr : r < 256) (ha : a < 4294967296) (hb : b < 4294967296) (k : Nat) : SCd Try.prog ref03_Range.f [.d (.int .u8 (r : Int)), .d (.int .u32 (a : Int)), .d (.int .u32 (b : Int))] [] k 0 (.tup [dots (dotRange r a b).1, i64 (dotRange r a b).2]) [] := (rrange_ok r a b hr ha hb).sc rfl k
end Go.Proofs.Ytkklgckpaajoeaa

/-
  Dots: what the document fixes.
-/
set_option linter.unusedSectionVars false
set_option linter.unusedVariables false
set_option linter.unusedSimpArgs false
namespace Go.Proofs.Ytkklgckpaajoeaa
open Go.Sl Go.Proofs
attribute [local irreducible] SW RW SCd SC CallP Pruned

theorem same_at (l m : List Dt) (hl : l.length < 1000000000) (hm : m.length < 1000000000) (k : Nat) : SCd Try.prog ref03_Same.f [dots l, dots m] [] k 0 (.d (.bool (decide (l = m)))) [] := (ref03_same l m hl hm).sc rfl k
theorem dotsRow4 (u v : Dt) (r : List SV) : spl (u.cells ++ r) 4 v.cells = u.cells ++ spl r 2 v.cells := rfl
theorem app_nil (l : List DV) : l ++ [] = l := List.append_nil l
theorem Dt.set_of {l m : List Dt} (h : Dt.rises m) (hm : ∀ d, d ∈ m ↔ d ∈ l) : Dt.set l = m := Dt.rises_unique (Dt.set_rises l) h fun d => by rw [Dt.mem_set, hm]

theorem hk1 (k : Nat) : SCd Try.prog dot_Key.f [.agg (Dt.mk 3 5).cells] [] k 0 (.tup [.d (.int .u64 43), .d (.int .i64 0)]) [] := key_at ⟨3, 5⟩ ⟨by decide, by decide⟩ k
theorem hk2 (k : Nat) : SCd Try.prog dot_Key.f [.agg (Dt.mk 8 1).cells] [] k 0 (.tup [.d (.int .u64 0), .d (.int .i64 2)]) [] := key_at ⟨8, 1⟩ ⟨by decide, by decide⟩ k
theorem hk3 (k : Nat) : SCd Try.prog dot_Key.f [.agg (Dt.mk 1 0).cells] [] k 0 (.tup [.d (.int .u64 0), .d (.int .i64 2)]) [] := key_at ⟨1, 0⟩ ⟨by decide, by decide⟩ k
theorem ho1 (k : Nat) : SCd Try.prog dot_Of.f [.d (.int .u64 43)] [] k 0 (.tup [.agg (Dt.mk 3 5).cells, .d (.int .i64 0)]) [] := of_at 43 (by decide) k
theorem ho2 (k : Nat) : SCd Try.prog dot_Of.f [.d (.int .u64 7)] [] k 0 (.tup [.agg (Dt.mk 0 0).cells, .d (.int .i64 5)]) [] := of_at 7 (by decide) k
theorem hr1 (k : Nat) : SCd Try.prog dot_Range.f [.d (.int .u8 1), .d (.int .u32 3), .d (.int .u32 5)] [] k 0 (.tup [dots [⟨1, 3⟩, ⟨1, 4⟩, ⟨1, 5⟩], .d (.int .i64 0)]) [] := range_at 1 3 5 (by decide) (by decide) (by decide) k
theorem hc1 (k : Nat) : SCd Try.prog dot_Compare.f [.agg (Dt.mk 1 9).cells, .agg (Dt.mk 2 1).cells] [] k 0 (.d (.int .i64 (-1))) [] := compare_at ⟨1, 9⟩ ⟨2, 1⟩ k
theorem hc2 (k : Nat) : SCd Try.prog dot_Compare.f [.agg (Dt.mk 2 1).cells, .agg (Dt.mk 2 1).cells] [] k 0 (.d (.int .i64 0)) [] := compare_at ⟨2, 1⟩ ⟨2, 1⟩ k
theorem hs1 (k : Nat) : SCd Try.prog ref03_Same.f [dots [⟨1, 3⟩, ⟨1, 4⟩, ⟨1, 5⟩], .d (.sl 3 ((Dt.mk 1 3).ds ++ ((Dt.mk 1 4).ds ++ (Dt.mk 1 5).ds)))] [] k 0 (.d (.bool true)) [] := same_at [⟨1, 3⟩, ⟨1, 4⟩, ⟨1, 5⟩] [⟨1, 3⟩, ⟨1, 4⟩, ⟨1, 5⟩] (by decide) (by decide) k
theorem hso (k : Nat) : SCd Try.prog dot_Sort.f [.d (.sl 3 ((Dt.mk 2 1).ds ++ ((Dt.mk 1 2).ds ++ (Dt.mk 2 1).ds)))] [] k 0 (dots [⟨1, 2⟩, ⟨2, 1⟩]) [] := by
  have h := sort_at [⟨2, 1⟩, ⟨1, 2⟩, ⟨2, 1⟩] (by decide) k
  rw [Dt.set_of (m := [⟨1, 2⟩, ⟨2, 1⟩]) (by unfold Dt.rises; decide) (fun d => by simp; intro h; exact .inr h)] at h
  exact h
theorem hs2 (k : Nat) : SCd Try.prog ref03_Same.f [dots [⟨1, 2⟩, ⟨2, 1⟩], .d (.sl 2 ((Dt.mk 1 2).ds ++ (Dt.mk 2 1).ds))] [] k 0 (.d (.bool true)) [] := same_at [⟨1, 2⟩, ⟨2, 1⟩] [⟨1, 2⟩, ⟨2, 1⟩] (by decide) (by decide) k
theorem hmi (k : Nat) : SCd Try.prog dot_Minus.f [.d (.sl 2 ((Dt.mk 1 1).ds ++ (Dt.mk 1 2).ds)), .d (.sl 1 (Dt.mk 1 2).ds)] [] k 0 (dots [⟨1, 1⟩]) [] := by
  have h := minus_at [⟨1, 1⟩, ⟨1, 2⟩] [⟨1, 2⟩] (by decide) (by decide) k
  rw [Dt.set_of (m := [⟨1, 1⟩]) (by unfold Dt.rises; decide) (fun d => by simp)] at h
  exact h
theorem hs3 (k : Nat) : SCd Try.prog ref03_Same.f [dots [⟨1, 1⟩], .d (.sl 1 (Dt.mk 1 1).ds)] [] k 0 (.d (.bool true)) [] := same_at [⟨1, 1⟩] [⟨1, 1⟩] (by decide) (by decide) k

theorem head_ok : Go.Sl.Pure Try.prog law03_head.f [] (bl true) := by
  refine law03_head.enter (by first | rfl | simp [SV.ok, SV.oks]) (by first | rfl | simp [Hp.ok, Ob.ok, SV.ok, SV.oks, Vec.cells_ok]) (by simp) ?_
  unfold law03_head.s
  (repeat (first | refine SW.seq ?_ | refine SW.block ?_ | (refine SW.regL [0, 1, 2, 3, 4, 6, 8, 10, 11, 12] mixed ?_; (repeat (first | refine RW.ro (dotsRow4) (h := ?_) | refine RW.skip (h := ?_) | refine RW.op (dotsRow4) (h := ?_) | refine RW.opN (dotsRow4) (h := ?_) | refine RW.skip0 (h := ?_) | (refine RW.callC (h := ?_); (first | refine CallP.mk (dotsRow4) (hc := d_at 3 5 _) (h := ?_) | refine CallP.mk (dotsRow4) (hc := d_at 8 1 _) (h := ?_) | refine CallP.mk (dotsRow4) (hc := d_at 1 0 _) (h := ?_) | refine CallP.mk (dotsRow4) (hc := d_at 1 9 _) (h := ?_) | refine CallP.mk (dotsRow4) (hc := d_at 2 1 _) (h := ?_) | refine CallP.mk (dotsRow4) (hc := d_at 1 3 _) (h := ?_) | refine CallP.mk (dotsRow4) (hc := d_at 1 4 _) (h := ?_) | refine CallP.mk (dotsRow4) (hc := d_at 1 5 _) (h := ?_) | refine CallP.mk (dotsRow4) (hc := d_at 1 2 _) (h := ?_) | refine CallP.mk (dotsRow4) (hc := d_at 1 1 _) (h := ?_) | refine CallP.mk (dotsRow4) (hc := hk1 _) (h := ?_) | refine CallP.mk (dotsRow4) (hc := hk2 _) (h := ?_) | refine CallP.mk (dotsRow4) (hc := hk3 _) (h := ?_) | refine CallP.mk (dotsRow4) (hc := ho1 _) (h := ?_) | refine CallP.mk (dotsRow4) (hc := ho2 _) (h := ?_) | refine CallP.mk (dotsRow4) (hc := hr1 _) (h := ?_) | refine CallP.mk (dotsRow4) (hc := hc1 _) (h := ?_) | refine CallP.mk (dotsRow4) (hc := hc2 _) (h := ?_) | refine CallP.mk (dotsRow4) (hc := hs1 _) (h := ?_) | refine CallP.mk (dotsRow4) (hc := hso _) (h := ?_) | refine CallP.mk (dotsRow4) (hc := hs2 _) (h := ?_) | refine CallP.mk (dotsRow4) (hc := hmi _) (h := ?_) | refine CallP.mk (dotsRow4) (hc := hs3 _) (h := ?_))))); refine RW.nil ⟨by kernel_rfl, Pruned.mk (h := ?_)⟩) | refine SW.skip ?_ | refine SW.exit ?_ | refine SW.ret ?_ | refine SW.condT rfl ?_ | refine SW.condF rfl ?_))
  exact End.mk [] (h4 := ⟨rfl, rfl⟩)
theorem head_at (k : Nat) : SCd Try.prog law03_head.f [] [] k 0 (.d (.bool true)) [] := head_ok.sc rfl k
end Go.Proofs.Ytkklgckpaajoeaa
