/-
  Trees of credentials: the document's chains, those above, all of a cart.
-/
import Derived.Test.YtmmonbnlleeloaaT5
import Derived.Test.YtmmonbnlleeloaaP5
import Derived.Test.YtmmonbnlleeloaaT4
set_option linter.unusedSectionVars false
set_option linter.unusedVariables false
set_option linter.unusedSimpArgs false
namespace Go.Proofs.Ytmmonbnlleeloaa
open Go.Sl Go.Proofs
attribute [local irreducible] SW RW SCd SC CallP Pruned

section
variable {l : List OpD} (hlen : l.length < 4611686018427387904) (hl : ∀ x, x ∈ l → x.roles < 256) {T : Tr} (h : TOk l T)
include hlen hl h
theorem rgetYes {d : Dt} {c : Cr} (hg : MM.get T.at_ d = some c) (k : Nat) : SCd Try.prog ref16_Get.f [ops l, .agg d.cells] [] k 0 (.tup [.agg c.cells, .d (.bool true)]) [] := by
  have := rGet_at hlen hl d k
  rw [(h.get d).2 c hg] at this; exact this
theorem rgetNo {d : Dt} (hg : MM.get T.at_ d = none) (k : Nat) : SCd Try.prog ref16_Get.f [ops l, .agg d.cells] [] k 0 (.tup [.agg (getR l 10 d).1.cells, .d (.bool false)]) [] := by
  have := rGet_at hlen hl d k
  have e := (h.get d).1
  unfold MM.has at e
  rw [hg] at e
  rw [e] at this; exact this
set_option maxHeartbeats 4000000 in
theorem rchain_ok (d : Dt) (L : List Cr) (hL : Ups T.at_ (MM.get T.at_ d) L) (hlL : L.length < 1000000) : Go.Sl.Pure Try.prog ref16_Chain.f [ops l, .agg d.cells] (chainR T.at_ d L) := by
  cases hg : MM.get T.at_ d with
  | none =>
    rw [chainNo hg]
    have hr := rgetNo hlen hl h hg
    refine ref16_Chain.enter (by first | rfl | simp [SV.ok, SV.oks]) (by first | rfl | simp [Hp.ok, Ob.ok, SV.ok, SV.oks, Vec.cells_ok]) (by simp) ?_
    unfold ref16_Chain.s
    (repeat (first | refine SW.seq ?_ | refine SW.block ?_ | (refine SW.regL [0, 1, 3, 4, 5, 6, 7, 8, 16, 21] mixed ?_; (repeat (first | refine RW.ro bq_tt (h := ?_) | refine RW.skip (h := ?_) | refine RW.op bq_tt (h := ?_) | refine RW.opN bq_tt (h := ?_) | refine RW.skip0 (h := ?_) | (refine RW.callC (h := ?_); (first | refine CallP.mk bq_tt (hc := hr _) (h := ?_))))); refine RW.nil ⟨by kernel_rfl, Pruned.mk (h := ?_)⟩) | refine SW.skip ?_ | refine SW.exit ?_ | refine SW.ret ?_ | refine SW.condT rfl ?_ | refine SW.condF rfl ?_))
    exact End.mk [] (h4 := ⟨rfl, rfl⟩)
  | some c =>
    rw [chainYes hg]
    have hr := rgetYes hlen hl h hg
    have hc0 : L[0]? = some c := by rw [hg] at hL; exact hL.head
    refine ref16_Chain.enter (by first | rfl | simp [SV.ok, SV.oks]) (by first | rfl | simp [Hp.ok, Ob.ok, SV.ok, SV.oks, Vec.cells_ok]) (by simp) ?_
    unfold ref16_Chain.s
    refine SW.seq ?_
    (refine SW.regL [0, 1, 3, 4, 5, 6, 7, 8, 16, 21] mixed ?_; (repeat (first | refine RW.ro bq_tt (h := ?_) | refine RW.skip (h := ?_) | refine RW.op bq_tt (h := ?_) | refine RW.opN bq_tt (h := ?_) | refine RW.skip0 (h := ?_) | (refine RW.callC (h := ?_); (first | refine CallP.mk bq_tt (hc := hr _) (h := ?_))))); refine RW.nil ⟨by kernel_rfl, Pruned.mk (h := ?_)⟩)
    refine SW.seq ?_
    (refine SW.regL [0, 1, 3, 4, 5, 6, 7, 8, 16, 21] mixed ?_; (repeat (first | refine RW.ro bq_tt (h := ?_) | refine RW.skip (h := ?_) | refine RW.op bq_tt (h := ?_) | refine RW.opN bq_tt (h := ?_) | refine RW.skip0 (h := ?_) | (refine RW.callC (h := ?_); (first | refine CallP.mk bq_tt (hc := hr _) (h := ?_))))); refine RW.nil ⟨by kernel_rfl, Pruned.mk (h := ?_)⟩)
    refine SW.seq (SW.seq ?_)
    (refine SW.regL [0, 1, 3, 4, 5, 6, 7, 8, 16, 21] mixed ?_; (repeat (first | refine RW.ro bq_tt (h := ?_) | refine RW.skip (h := ?_) | refine RW.op bq_tt (h := ?_) | refine RW.opN bq_tt (h := ?_) | refine RW.skip0 (h := ?_) | (refine RW.callC (h := ?_); (first | refine CallP.mk bq_tt (hc := hr _) (h := ?_))))); refine RW.nil ⟨by kernel_rfl, Pruned.mk (h := ?_)⟩)
    refine SW.condF rfl (SW.skip ?_)
    refine SW.seq ?_
    (refine SW.regL [0, 1, 3, 4, 5, 6, 7, 8, 16, 21] mixed ?_; (repeat (first | refine RW.lit bq_tt (h := ?_) | refine RW.ro bq_tt (h := ?_) | refine RW.skip (h := ?_) | refine RW.op bq_tt (h := ?_) | refine RW.opN bq_tt (h := ?_) | refine RW.skip0 (h := ?_))); refine RW.nil ⟨by kernel_rfl, Pruned.mk (h := ?_)⟩)
    refine SW.seq (SW.block ?_)
    have e0 : (L.take 1).map (·.dot) = [d] := by
      have : L.take 1 = [c] := by
        cases L with
        | nil => cases hc0
        | cons x M => simp at hc0; simp [hc0]
      rw [this]; simp [h.dotIs hg]
    refine SW.loopA (α := {j : Nat × Cr // L[j.1]? = some j.2}) (fun j => ⟨[(8, .gs 2 (j.1.1 + 1)), (0, ops l), (6, .ptr 1 0)], [(2, .arr 33 2 (j.1.1 + 1) ((((L.take (j.1.1 + 1)).map (·.dot)).flatMap Dt.ds).map .d)), (1, .box 41 j.1.2.cells)], 3⟩) (fun j => L.length - j.1.1) ⟨(0, c), hc0⟩ id (And.intro e0 (And.intro (Dt.map_ds d) (fun q : Nat → Bool => Cr.cells_ok c q))) (round := ?_)
    rintro ⟨⟨j, x⟩, hx⟩
    dsimp only at hx ⊢
    have hjl := lt_of_get hx
    by_cases hpos : 0 < x.level
    · have h1 : decide (x.level > 0) = true := decide_eq_true hpos
      obtain ⟨o, p, q, _, _, hp, _⟩ := h.above (h.upsGet hL x (List.mem_of_getElem? hx)) hpos
      have hj2 : j + 1 < L.length := by
        refine Classical.byContradiction fun hn => ?_
        have he : j = L.length - 1 := by omega
        have := (h.upsEnd hL (x := x) (by rw [← he]; exact hx)).1
        omega
      obtain ⟨y, hy⟩ := get_of_lt hj2
      have hpy : p = y := by
        have := (hL.next j x y hx hy).2
        rw [hp] at this; injection this
      subst hpy
      have hr2 := rgetYes hlen hl h hp
      have e1 : (L.take (j + 1 + 1)).map (·.dot) = (L.take (j + 1)).map (·.dot) ++ [x.par] := by
        rw [take_snoc hy, List.map_append]; simp [h.dotIs hp]
      have edt : ∀ d : Dt, datas d.cells = some d.ds := fun _ => rfl
      refine SW.seq (SW.seq ?_)
      (refine SW.regL [0, 1, 3, 4, 5, 6, 7, 8, 16, 21] mixed ?_; (repeat (first | refine RW.ro (h1) (h := ?_) | refine RW.skip (h := ?_) | refine RW.op (h1) (h := ?_) | refine RW.opN (h1) (h := ?_) | refine RW.skip0 (h := ?_) | (refine RW.callC (h := ?_); (first | refine CallP.mk (h1) (hc := hr2 _) (h := ?_))))); refine RW.nil ⟨by kernel_rfl, Pruned.mk (h := ?_)⟩)
      refine SW.condT rfl (SW.skip ?_)
      refine SW.block (SW.seq ?_)
      (refine SW.regL [0, 1, 3, 4, 5, 6, 7, 8, 16, 21] mixed ?_; (repeat (first | refine RW.ro (edt) (h := ?_) | refine RW.skip (h := ?_) | refine RW.op (edt) (h := ?_) | refine RW.opN (edt) (h := ?_) | refine RW.skip0 (h := ?_) | (refine RW.callC (h := ?_); (first | refine CallP.mk (edt) (hc := hr2 _) (h := ?_))))); refine RW.nil ⟨by kernel_rfl, Pruned.mk (h := ?_)⟩)
      (refine SW.regL [0, 1, 3, 4, 5, 6, 7, 8, 16, 21] mixed ?_; (repeat (first | refine RW.ro bq_tt (h := ?_) | refine RW.skip (h := ?_) | refine RW.op bq_tt (h := ?_) | refine RW.opN bq_tt (h := ?_) | refine RW.skip0 (h := ?_) | (refine RW.callC (h := ?_); (first | refine CallP.mk bq_tt (hc := hr2 _) (h := ?_))))); refine RW.nil ⟨by kernel_rfl, Pruned.mk (h := ?_)⟩)
      dsimp only
      refine ⟨⟨(j + 1, p), hy⟩, fun n => if n = 2 then 3 else n, by show L.length - (j + 1) < L.length - j; omega, ?_⟩
      exact Weak.mk (And.intro e1 (And.intro (Dt.map_ds x.par) bq_tt))
    · have h1 : decide (x.level > 0) = false := decide_eq_false hpos
      have hlast : j + 1 = L.length := by
        refine Classical.byContradiction fun hn => ?_
        obtain ⟨y, hy⟩ := get_of_lt (show j + 1 < L.length by omega)
        exact hpos (hL.next j x y hx hy).1
      refine SW.seq (SW.seq ?_)
      (refine SW.regL [0, 1, 3, 4, 5, 6, 7, 8, 16, 21] mixed ?_; (repeat (first | refine RW.ro (h1) (h := ?_) | refine RW.skip (h := ?_) | refine RW.op (h1) (h := ?_) | refine RW.opN (h1) (h := ?_) | refine RW.skip0 (h := ?_))); refine RW.nil ⟨by kernel_rfl, Pruned.mk (h := ?_)⟩)
      refine SW.condF rfl (SW.exit ?_)
      rw [hlast, List.take_length]
      refine SW.seq ?_
      (refine SW.regL [0, 1, 3, 4, 5, 6, 7, 8, 16, 21] mixed ?_; (repeat (first | refine RW.ro bq_tt (h := ?_) | refine RW.skip (h := ?_) | refine RW.op bq_tt (h := ?_) | refine RW.opN bq_tt (h := ?_) | refine RW.skip0 (h := ?_))); refine RW.nil ⟨by kernel_rfl, Pruned.mk (h := ?_)⟩)
      refine SW.freeze 2 ((L.map (·.dot)).flatMap Dt.ds) rfl rfl (SW.ret ?_)
      exact End.mk [] (h4 := ⟨by simp [retV, SV.frz], rfl⟩) (h5 := by simp [retV, SV.frz, SV.ok, SV.oks])
theorem rchain_at (d : Dt) (L : List Cr) (hL : Ups T.at_ (MM.get T.at_ d) L) (hlL : L.length < 1000000) (k : Nat) : SCd Try.prog ref16_Chain.f [ops l, .agg d.cells] [] k 0 (chainR T.at_ d L) [] := (rchain_ok hlen hl h d L hL hlL).sc (by unfold chainR; split <;> rfl) k
theorem aboveR_in (e d : Dt) (L : List Cr) : aboveR T.at_ e d L = (!decide (e = d) && decide (e ∈ L.map (·.dot))) := by
  unfold aboveR
  congr 1
  rw [Bool.eq_iff_iff, List.any_eq_true, decide_eq_true_eq, List.mem_map]
  constructor
  · rintro ⟨x, hx, e⟩; exact ⟨x, hx, by simpa using e⟩
  · rintro ⟨x, hx, e⟩; exact ⟨x, hx, by simpa using e⟩
theorem rabove_ok (e d : Dt) (L : List Cr) (hL : Ups T.at_ (MM.get T.at_ d) L) (hlL : L.length < 1000000) : Go.Sl.Pure Try.prog ref16_Above.f [ops l, .agg e.cells, .agg d.cells] (.d (.bool (aboveR T.at_ e d L))) := by
  have hc := rchain_at hlen hl h d L hL hlL
  cases hg : MM.get T.at_ d with
  | none =>
    rw [chainNo hg] at hc
    have e0 : aboveR T.at_ e d L = false := by
      rw [hg] at hL; cases hL; unfold aboveR; simp
    rw [e0]
    refine ref16_Above.enter (by first | rfl | simp [SV.ok, SV.oks]) (by first | rfl | simp [Hp.ok, Ob.ok, SV.ok, SV.oks, Vec.cells_ok]) (by simp) ?_
    unfold ref16_Above.s
    (repeat (first | refine SW.seq ?_ | refine SW.block ?_ | (refine SW.regL [0, 1, 2, 4, 5, 6, 7, 8, 16] mixed ?_; (repeat (first | refine RW.ro bq_tt (h := ?_) | refine RW.skip (h := ?_) | refine RW.op bq_tt (h := ?_) | refine RW.opN bq_tt (h := ?_) | refine RW.skip0 (h := ?_) | (refine RW.callC (h := ?_); (first | refine CallP.mk bq_tt (hc := hc _) (h := ?_))))); refine RW.nil ⟨by kernel_rfl, Pruned.mk (h := ?_)⟩) | refine SW.skip ?_ | refine SW.exit ?_ | refine SW.ret ?_ | refine SW.condT rfl ?_ | refine SW.condF rfl ?_))
    exact End.mk [] (h4 := ⟨rfl, rfl⟩)
  | some c =>
    rw [chainYes hg] at hc
    rw [aboveR_in hlen hl h]
    have hD : (L.map (·.dot)).length = L.length := List.length_map ..
    generalize L.map (·.dot) = D at hc hD
    have hi := in_at D (by omega) e
    rcases he : decide (e = d) with _ | _
    · skip
      refine ref16_Above.enter (by first | rfl | simp [SV.ok, SV.oks]) (by first | rfl | simp [Hp.ok, Ob.ok, SV.ok, SV.oks, Vec.cells_ok]) (by simp) ?_
      unfold ref16_Above.s
      (repeat (first | refine SW.seq ?_ | refine SW.block ?_ | (refine SW.regL [0, 1, 2, 4, 5, 6, 7, 8, 16] mixed ?_; (repeat (first | refine RW.ro (he) (h := ?_) | refine RW.skip (h := ?_) | refine RW.op (he) (h := ?_) | refine RW.opN (he) (h := ?_) | refine RW.skip0 (h := ?_) | (refine RW.callC (h := ?_); (first | refine CallP.mk (he) (hc := hc _) (h := ?_) | refine CallP.mk (he) (hc := hi _) (h := ?_))))); refine RW.nil ⟨by kernel_rfl, Pruned.mk (h := ?_)⟩) | refine SW.skip ?_ | refine SW.exit ?_ | refine SW.ret ?_ | refine SW.condT rfl ?_ | refine SW.condF rfl ?_))
      exact End.mk [] (h4 := ⟨rfl, rfl⟩)
    · skip
      refine ref16_Above.enter (by first | rfl | simp [SV.ok, SV.oks]) (by first | rfl | simp [Hp.ok, Ob.ok, SV.ok, SV.oks, Vec.cells_ok]) (by simp) ?_
      unfold ref16_Above.s
      (repeat (first | refine SW.seq ?_ | refine SW.block ?_ | (refine SW.regL [0, 1, 2, 4, 5, 6, 7, 8, 16] mixed ?_; (repeat (first | refine RW.ro (he) (h := ?_) | refine RW.skip (h := ?_) | refine RW.op (he) (h := ?_) | refine RW.opN (he) (h := ?_) | refine RW.skip0 (h := ?_) | (refine RW.callC (h := ?_); (first | refine CallP.mk (he) (hc := hc _) (h := ?_) | refine CallP.mk (he) (hc := hi _) (h := ?_))))); refine RW.nil ⟨by kernel_rfl, Pruned.mk (h := ?_)⟩) | refine SW.skip ?_ | refine SW.exit ?_ | refine SW.ret ?_ | refine SW.condT rfl ?_ | refine SW.condF rfl ?_))
      exact End.mk [] (h4 := ⟨rfl, rfl⟩)
theorem rabove_at (e d : Dt) (L : List Cr) (hL : Ups T.at_ (MM.get T.at_ d) L) (hlL : L.length < 1000000) (k : Nat) : SCd Try.prog ref16_Above.f [ops l, .agg e.cells, .agg d.cells] [] k 0 (.d (.bool (aboveR T.at_ e d L))) [] := (rabove_ok hlen hl h e d L hL hlL).sc rfl k
end
theorem crsame_ok (l m : List Cr) (hl : l.length < 4611686018427387904) (hm : m.length < 4611686018427387904) : Go.Sl.Pure Try.prog ref16_Same.f [crs l, crs m] (bl (decide (l = m))) := by
  refine ref16_Same.enter (by first | rfl | simp [SV.ok, SV.oks]) (by first | rfl | simp [Hp.ok, Ob.ok, SV.ok, SV.oks, Vec.cells_ok]) (by simp) ?_
  unfold ref16_Same.s
  by_cases hn : l.length = m.length
  · have h0 : (((l.length : Nat) : Int) != ((m.length : Nat) : Int)) = false := by simp; omega
    (repeat (first | refine SW.seq ?_ | refine SW.block ?_ | (refine SW.regL [0, 1, 4, 5, 10, 14, 25] mixed ?_; (repeat (first | refine RW.ro (h0) (h := ?_) | refine RW.skip (h := ?_) | refine RW.op (h0) (h := ?_) | refine RW.opN (h0) (h := ?_) | refine RW.skip0 (h := ?_) | (refine RW.callC (h := ?_); (first | refine CallP.mk (h0) (hc := hc _) (h := ?_) | refine CallP.mk (h0) (hc := hi _) (h := ?_))))); refine RW.nil ⟨by kernel_rfl, Pruned.mk (h := ?_)⟩) | refine SW.skip ?_ | refine SW.exit ?_ | refine SW.ret ?_ | refine SW.condT rfl ?_ | refine SW.condF rfl ?_))
    refine SW.loopA (α := {i : Nat // i ≤ l.length ∧ ∀ j, j < i → l[j]? = m[j]?}) (fun i => ⟨[(5, i64 i.1), (0, crs l), (1, crs m)], [], 0⟩) (fun i => l.length - i.1) ⟨0, by omega, by omega⟩ id bq_tt (round := ?_)
    rintro ⟨i, hi, hs⟩
    by_cases h : i < l.length
    · have h1 : decide ((i : Int) < l.length) = true := by simp only [decide_eq_true_eq]; omega
      obtain ⟨x, hx⟩ := get_of_lt h
      obtain ⟨y, hy⟩ := get_of_lt (show i < m.length by omega)
      have e2 : IntKind.i64.wrap ((i : Int) + 1) = ((i + 1 : Nat) : Int) := wrap_i64 _ (by omega)
      by_cases he : x = y
      · have e3 : decide (x = y) = true := by simp [he]
        (repeat (first | refine SW.seq ?_ | refine SW.block ?_ | (have fx := (And.intro (h1) (And.intro (cr_at hx) (And.intro (cr_at hy) (And.intro (e2) (e3))))); refine SW.regL [0, 1, 4, 5, 10, 14, 25] mixed ?_; (repeat (first | refine RW.ro fx (h := ?_) | refine RW.skip (h := ?_) | refine RW.op fx (h := ?_) | refine RW.opN fx (h := ?_) | refine RW.skip0 (h := ?_) | (refine RW.callC (h := ?_); (first | refine CallP.mk fx (hc := hc _) (h := ?_) | refine CallP.mk fx (hc := hi _) (h := ?_))))); refine RW.nil ⟨by kernel_rfl, Pruned.mk (h := ?_)⟩) | refine SW.skip ?_ | refine SW.exit ?_ | refine SW.ret ?_ | refine SW.condT rfl ?_ | refine SW.condF rfl ?_))
        refine Next.mk ⟨i + 1, by omega, fun j hj => ?_⟩ id bq_tt
        by_cases e : j = i
        · rw [e, hx, hy, he]
        · exact hs j (by omega)
      · have e3 : decide (x = y) = false := by simp [he]
        (repeat (first | refine SW.seq ?_ | refine SW.block ?_ | (have fx := (And.intro (h1) (And.intro (cr_at hx) (And.intro (cr_at hy) (And.intro (e2) (e3))))); refine SW.regL [0, 1, 4, 5, 10, 14, 25] mixed ?_; (repeat (first | refine RW.ro fx (h := ?_) | refine RW.skip (h := ?_) | refine RW.op fx (h := ?_) | refine RW.opN fx (h := ?_) | refine RW.skip0 (h := ?_) | (refine RW.callC (h := ?_); (first | refine CallP.mk fx (hc := hc _) (h := ?_) | refine CallP.mk fx (hc := hi _) (h := ?_))))); refine RW.nil ⟨by kernel_rfl, Pruned.mk (h := ?_)⟩) | refine SW.skip ?_ | refine SW.exit ?_ | refine SW.ret ?_ | refine SW.condT rfl ?_ | refine SW.condF rfl ?_))
        have : l ≠ m := fun e => by rw [e, hy] at hx; injection hx with hx; exact he hx.symm
        exact End.mk [] (h4 := ⟨by simp [retV, this], rfl⟩)
    · have h1 : decide ((i : Int) < l.length) = false := by simp only [decide_eq_false_iff_not]; omega
      (repeat (first | refine SW.seq ?_ | refine SW.block ?_ | (refine SW.regL [0, 1, 4, 5, 10, 14, 25] mixed ?_; (repeat (first | refine RW.ro (h1) (h := ?_) | refine RW.skip (h := ?_) | refine RW.op (h1) (h := ?_) | refine RW.opN (h1) (h := ?_) | refine RW.skip0 (h := ?_) | (refine RW.callC (h := ?_); (first | refine CallP.mk (h1) (hc := hc _) (h := ?_) | refine CallP.mk (h1) (hc := hi _) (h := ?_))))); refine RW.nil ⟨by kernel_rfl, Pruned.mk (h := ?_)⟩) | refine SW.skip ?_ | refine SW.exit ?_ | refine SW.ret ?_ | refine SW.condT rfl ?_ | refine SW.condF rfl ?_))
      have : l = m := ext_rows hn fun j hj => hs j (by omega)
      exact End.mk [] (h4 := ⟨by simp [retV, this], rfl⟩)
  · have h0 : (((l.length : Nat) : Int) != ((m.length : Nat) : Int)) = true := by simp; omega
    (repeat (first | refine SW.seq ?_ | refine SW.block ?_ | (refine SW.regL [0, 1, 4, 5, 10, 14, 25] mixed ?_; (repeat (first | refine RW.ro (h0) (h := ?_) | refine RW.skip (h := ?_) | refine RW.op (h0) (h := ?_) | refine RW.opN (h0) (h := ?_) | refine RW.skip0 (h := ?_) | (refine RW.callC (h := ?_); (first | refine CallP.mk (h0) (hc := hc _) (h := ?_) | refine CallP.mk (h0) (hc := hi _) (h := ?_))))); refine RW.nil ⟨by kernel_rfl, Pruned.mk (h := ?_)⟩) | refine SW.skip ?_ | refine SW.exit ?_ | refine SW.ret ?_ | refine SW.condT rfl ?_ | refine SW.condF rfl ?_))
    have : l ≠ m := fun e => hn (by rw [e])
    exact End.mk [] (h4 := ⟨by simp [retV, this], rfl⟩)
theorem crsame_at (l m : List Cr) (hl : l.length < 4611686018427387904) (hm : m.length < 4611686018427387904) (k : Nat) : SCd Try.prog ref16_Same.f [crs l, crs m] [] k 0 (bl (decide (l = m))) [] := (crsame_ok l m hl hm).sc rfl k
end Go.Proofs.Ytmmonbnlleeloaa

/-
  Trees of credentials: the document's credentials of a cart.
-/
set_option linter.unusedSectionVars false
set_option linter.unusedVariables false
set_option linter.unusedSimpArgs false
namespace Go.Proofs.Ytmmonbnlleeloaa
open Go.Sl Go.Proofs
attribute [local irreducible] SW RW SCd SC CallP Pruned

/-- A cart's credentials of a level, as dots stand. -/
def lvOf (a : MM Dt Cr) (cart : Dt) (lv : Nat) (D : List Dt) : List Cr := D.filterMap fun d => match MM.get a d with
  | some c => if c.level = (lv : Int) ∧ c.cart = cart then some c else none
  | none => none
theorem lvOf_snoc (a : MM Dt Cr) (cart : Dt) (lv : Nat) (D : List Dt) (d : Dt) : lvOf a cart lv (D ++ [d]) = match MM.get a d with
    | some c => if c.level = (lv : Int) ∧ c.cart = cart then lvOf a cart lv D ++ [c] else lvOf a cart lv D
    | none => lvOf a cart lv D := by
  unfold lvOf
  rw [List.filterMap_append]
  cases hg : MM.get a d with
  | none => simp [hg]
  | some c => by_cases h : c.level = (lv : Int) ∧ c.cart = cart <;> simp [hg, h]
theorem lvOf_len (a : MM Dt Cr) (cart : Dt) (lv : Nat) (D : List Dt) : (lvOf a cart lv D).length ≤ D.length := List.length_filterMap_le _ _
/-- All levels ahead of one. -/
def upTo (a : MM Dt Cr) (cart : Dt) (D : List Dt) (n : Nat) : List Cr := (List.range n).flatMap fun lv => lvOf a cart lv D
theorem upTo_succ (a : MM Dt Cr) (cart : Dt) (D : List Dt) (n : Nat) : upTo a cart D (n + 1) = upTo a cart D n ++ lvOf a cart n D := by
  unfold upTo
  rw [List.range_succ, List.flatMap_append]; simp
theorem upTo_len (a : MM Dt Cr) (cart : Dt) (D : List Dt) : ∀ n, (upTo a cart D n).length ≤ n * D.length
  | 0 => by simp [upTo]
  | n + 1 => by
    rw [upTo_succ, List.length_append, Nat.succ_mul]
    have := upTo_len a cart D n
    have := lvOf_len a cart n D
    omega
theorem mem_lvOf {a : MM Dt Cr} {cart : Dt} {lv : Nat} {D : List Dt} {c : Cr} : c ∈ lvOf a cart lv D ↔ ∃ d, d ∈ D ∧ MM.get a d = some c ∧ c.level = (lv : Int) ∧ c.cart = cart := by
  unfold lvOf
  rw [List.mem_filterMap]
  constructor
  · rintro ⟨d, hd, he⟩
    refine ⟨d, hd, ?_⟩
    cases hg : MM.get a d with
    | none => rw [hg] at he; cases he
    | some x =>
      rw [hg] at he
      dsimp only at he
      by_cases hx : x.level = (lv : Int) ∧ x.cart = cart
      · rw [if_pos hx] at he
        injection he with he
        subst he
        exact ⟨rfl, hx.1, hx.2⟩
      · rw [if_neg hx] at he; cases he
  · rintro ⟨d, hd, hg, h1, h2⟩
    refine ⟨d, hd, ?_⟩
    rw [hg]
    dsimp only
    rw [if_pos ⟨h1, h2⟩]
section
variable {l : List OpD} {a : MM Dt Cr} {ca : Nat} {m : MM Dt OpD} {cm : Nat} (h : Tn l a ca m cm)
include h
theorem Tn.all9 (cart : Dt) {D : List Dt} (hD : Dt.rises D) (hm : ∀ d, d ∈ D ↔ d ∈ l.map (·.dot)) : upTo a cart D 9 = allOf a cart := by
  have hdot : ∀ {d c}, MM.get a d = some c → c.dot = d := fun hg => h.tok.dotIs hg
  have hp : (upTo a cart D 9).Pairwise fun x y => Cr.cmp x y < 0 := by
    unfold upTo
    rw [List.pairwise_flatMap]
    refine ⟨fun lv _ => ?_, ?_⟩
    · unfold lvOf
      rw [List.pairwise_filterMap]
      refine hD.imp fun {d e} hde x hx y hy => ?_
      have g1 : x ∈ lvOf a cart lv [d] := by unfold lvOf; rw [List.mem_filterMap]; exact ⟨d, by simp, hx⟩
      have g2 : y ∈ lvOf a cart lv [e] := by unfold lvOf; rw [List.mem_filterMap]; exact ⟨e, by simp, hy⟩
      obtain ⟨d', hd', q1, q2, _⟩ := mem_lvOf.1 g1
      obtain ⟨e', he', r1, r2, _⟩ := mem_lvOf.1 g2
      have : d' = d := by simpa using hd'
      subst this
      have : e' = e := by simpa using he'
      subst this
      rw [Cr.cmp_lt, hdot q1, hdot r1]
      exact .inr ⟨by rw [q2, r2], (dcmp_lt _ _).1 hde⟩
    · refine List.pairwise_lt_range.imp fun {i j} hij x hx y hy => ?_
      obtain ⟨_, _, _, q2, _⟩ := mem_lvOf.1 hx
      obtain ⟨_, _, _, r2, _⟩ := mem_lvOf.1 hy
      rw [Cr.cmp_lt]
      exact .inl (by omega)
  have hnd : (upTo a cart D 9).Nodup := hp.imp fun {x y} hxy e => by
    subst e
    rw [Cr.cmp_lt] at hxy
    omega
  have hnd2 : (allOf a cart).Nodup := by
    unfold allOf
    rw [(Cr.sorted_perm _).nodup_iff]
    refine List.Pairwise.filter _ ?_
    have hk0 : a.Pairwise (fun x y => x.2.1 ≠ y.2.1) := List.pairwise_map.1 h.wf.keys
    exact List.pairwise_map.2 (hk0.imp_of_mem fun {x y} hx hy hne e => hne (by rw [h.keyed.inj h.wf.keys hx hy (by rw [e])]))
  have hperm : (upTo a cart D 9).Perm (allOf a cart) := by
    refine (List.perm_ext_iff_of_nodup hnd hnd2).2 fun c => ?_
    rw [mem_allOf]
    unfold upTo
    rw [List.mem_flatMap]
    constructor
    · rintro ⟨lv, _, hc⟩
      obtain ⟨d, _, hg, _, hcart⟩ := mem_lvOf.1 hc
      obtain ⟨t, ht⟩ := MM.get_mem hg
      exact ⟨⟨t, d, ht⟩, hcart⟩
    · rintro ⟨⟨t, d, ht⟩, hcart⟩
      have hg := MM.get_of_mem h.wf.keys ht
      have hl := h.tok.level hg
      obtain ⟨o, _, ho⟩ := h.tok.cr d c hg
      refine ⟨c.level.toNat, List.mem_range.2 (by omega), mem_lvOf.2 ⟨d, (hm d).2 (List.mem_map.2 ⟨o, findO_mem ho.fd, findO_dot ho.fd⟩), hg, by omega, hcart⟩⟩
  unfold allOf at hperm ⊢
  refine Cr.sorted_unique (fun x y hx hy e => ?_) (hperm.trans (Cr.sorted_perm _)) (hp.imp fun {x y} hxy => ?_)
  · obtain ⟨u, hu, rfl⟩ := List.mem_map.1 (List.mem_filter.1 hx).1
    obtain ⟨v, hv, rfl⟩ := List.mem_map.1 (List.mem_filter.1 hy).1
    rw [h.keyed.inj h.wf.keys hu hv e]
  · rw [Cr.cmp_lt] at hxy
    rw [Cr.le_iff]
    omega
end
/-- What stands in the row so far. -/
def accOf (a : MM Dt Cr) (cart : Dt) (D : List Dt) (n i : Nat) : List Cr := upTo a cart D n ++ lvOf a cart n (D.take i)
theorem acc_zero (a : MM Dt Cr) (cart : Dt) (D : List Dt) (n : Nat) : accOf a cart D n 0 = upTo a cart D n := by
  unfold accOf; rw [List.take_zero]; exact List.append_nil _
section
variable {l : List OpD} {a : MM Dt Cr} {ca : Nat} {m : MM Dt OpD} {cm : Nat} (h : Tn l a ca m cm)
include h
set_option maxHeartbeats 8000000 in
theorem rall_ok (hlen : l.length < 1000) (hr : ∀ x, x ∈ l → x.roles < 256) (hwf : ∀ x, x ∈ l → x.dot.wf) (cart : Dt) : Go.Sl.Pure Try.prog ref16_All.f [ops l, .agg cart.cells] (crs (allOf a cart)) := by
  have edt : ∀ d : Dt, datas d.cells = some d.ds := fun _ => rfl
  have edc : ∀ c : Cr, datas c.cells = some c.ds := fun _ => rfl
  refine ref16_All.enter (by first | rfl | simp [SV.ok, SV.oks]) (by first | rfl | simp [Hp.ok, Ob.ok, SV.ok, SV.oks, Vec.cells_ok]) (by simp) ?_
  unfold ref16_All.s
  refine SW.seq ?_
  (refine SW.regL [0, 1, 3, 4, 5, 6, 7, 8, 9, 10, 11, 15, 29, 35, 59] mixed ?_; (repeat (first | refine RW.ro bq_tt (h := ?_) | refine RW.skip (h := ?_) | refine RW.op bq_tt (h := ?_) | refine RW.opN bq_tt (h := ?_) | refine RW.skip0 (h := ?_))); refine RW.nil ⟨by kernel_rfl, Pruned.mk (h := ?_)⟩)
  refine SW.seq ?_
  (refine SW.regL [0, 1, 3, 4, 5, 6, 7, 8, 9, 10, 11, 15, 29, 35, 59] mixed ?_; (repeat (first | refine RW.ro bq_tt (h := ?_) | refine RW.skip (h := ?_) | refine RW.op bq_tt (h := ?_) | refine RW.opN bq_tt (h := ?_) | refine RW.skip0 (h := ?_))); refine RW.nil ⟨by kernel_rfl, Pruned.mk (h := ?_)⟩)
  refine SW.nilrow 5 41 11 rfl ?_
  refine SW.seq ?_
  (refine SW.regL [0, 1, 3, 4, 5, 6, 7, 8, 9, 10, 11, 15, 29, 35, 59] mixed ?_; (repeat (first | refine RW.ro bq_tt (h := ?_) | refine RW.skip (h := ?_) | refine RW.op bq_tt (h := ?_) | refine RW.opN bq_tt (h := ?_) | refine RW.skip0 (h := ?_))); refine RW.nil ⟨by kernel_rfl, Pruned.mk (h := ?_)⟩)
  refine SW.nilrow 6 33 2 rfl ?_
  refine SW.seq (SW.seq ?_)
  (refine SW.regL [0, 1, 3, 4, 5, 6, 7, 8, 9, 10, 11, 15, 29, 35, 59] mixed ?_; (repeat (first | refine RW.ro bq_tt (h := ?_) | refine RW.skip (h := ?_) | refine RW.op bq_tt (h := ?_) | refine RW.opN bq_tt (h := ?_) | refine RW.skip0 (h := ?_))); refine RW.nil ⟨by kernel_rfl, Pruned.mk (h := ?_)⟩)
  refine SW.block ?_
  refine SW.loopA (α := {i : Nat // i ≤ l.length}) (fun i => ⟨[(7, i64 i.1), (0, ops l), (3, .ptr 0 0), (5, .gs 1 0), (6, .gs 2 i.1)], [(0, .box 33 cart.cells), (1, .arr 41 11 0 []), (2, .arr 33 2 i.1 ((((l.take i.1).map (·.dot)).flatMap Dt.ds).map .d))], 3⟩) (fun i => l.length - i.1) ⟨0, by omega⟩ id bq_tt (round := ?_)
  rintro ⟨i, hi⟩
  by_cases hil : i < l.length
  · obtain ⟨x, hx⟩ := get_of_lt hil
    have h1 : decide ((i : Int) < l.length) = true := by simp; exact hil
    have e1 : (l.take (i + 1)).map (·.dot) = (l.take i).map (·.dot) ++ [x.dot] := by rw [take_snoc hx, List.map_append]; rfl
    have e2 : IntKind.i64.wrap ((i : Int) + 1) = ((i + 1 : Nat) : Int) := wrap_i64 _ (by omega)
    refine SW.seq (SW.seq ?_)
    (refine SW.regL [0, 1, 3, 4, 5, 6, 7, 8, 9, 10, 11, 15, 29, 35, 59] mixed ?_; (repeat (first | refine RW.ro (h1) (h := ?_) | refine RW.skip (h := ?_) | refine RW.op (h1) (h := ?_) | refine RW.opN (h1) (h := ?_) | refine RW.skip0 (h := ?_))); refine RW.nil ⟨by kernel_rfl, Pruned.mk (h := ?_)⟩)
    refine SW.condT rfl (SW.skip ?_)
    refine SW.seq (SW.block ?_)
    (have fx := (And.intro (op_load hx) (And.intro (op_roomd hx) (edt))); refine SW.regL [0, 1, 3, 4, 5, 6, 7, 8, 9, 10, 11, 15, 29, 35, 59] mixed ?_; (repeat (first | refine RW.ro fx (h := ?_) | refine RW.skip (h := ?_) | refine RW.op fx (h := ?_) | refine RW.opN fx (h := ?_) | refine RW.skip0 (h := ?_))); refine RW.nil ⟨by kernel_rfl, Pruned.mk (h := ?_)⟩)
    (refine SW.regL [0, 1, 3, 4, 5, 6, 7, 8, 9, 10, 11, 15, 29, 35, 59] mixed ?_; (repeat (first | refine RW.ro (e2) (h := ?_) | refine RW.skip (h := ?_) | refine RW.op (e2) (h := ?_) | refine RW.opN (e2) (h := ?_) | refine RW.skip0 (h := ?_))); refine RW.nil ⟨by kernel_rfl, Pruned.mk (h := ?_)⟩)
    dsimp only
    exact ⟨⟨i + 1, by omega⟩, fun n => if n = 2 then 3 else n, by show l.length - (i + 1) < _; omega, Weak.mk (And.intro e1 (And.intro (Dt.map_ds x.dot) bq_tt))⟩
  · have h1 : decide ((i : Int) < l.length) = false := by simp; omega
    have h2 : i = l.length := by omega
    refine SW.seq (SW.seq ?_)
    (refine SW.regL [0, 1, 3, 4, 5, 6, 7, 8, 9, 10, 11, 15, 29, 35, 59] mixed ?_; (repeat (first | refine RW.ro (h1) (h := ?_) | refine RW.skip (h := ?_) | refine RW.op (h1) (h := ?_) | refine RW.opN (h1) (h := ?_) | refine RW.skip0 (h := ?_))); refine RW.nil ⟨by kernel_rfl, Pruned.mk (h := ?_)⟩)
    refine SW.condF rfl (SW.exit ?_)
    subst h2
    rw [List.take_length]
    refine SW.freeze 2 ((l.map (·.dot)).flatMap Dt.ds) rfl rfl ?_
    simp only [frzE, SV.frz, List.map_cons, List.map_nil, if_true, if_false, reduceIte, hdel, Nat.reduceEqDiff]
    have hml : (l.map (·.dot)).length = l.length := List.length_map ..
    have hso := rsort_at (l.map (·.dot)) (by omega) (fun d hd => by obtain ⟨x, hx, rfl⟩ := List.mem_map.1 hd; exact hwf x hx)
    have hD1 := Dt.setR_rises (l.map (·.dot))
    have hD2 : ∀ d, d ∈ Dt.setR (l.map (·.dot)) ↔ d ∈ l.map (·.dot) := fun d => Dt.mem_setR
    have hDl : (Dt.setR (l.map (·.dot))).length ≤ l.length := by have := Dt.setR_len (l.map (·.dot)); omega
    have h9 := h.all9 cart hD1 hD2
    have hdm : dots (l.map (·.dot)) = .d (.sl l.length ((l.map (·.dot)).flatMap Dt.ds)) := by
      show SV.d (DV.sl (l.map (·.dot)).length _) = _
      rw [hml]
    rw [hdm] at hso
    generalize Dt.setR (l.map (·.dot)) = D at hso hD1 hD2 hDl h9
    refine SW.weak id (st1 := ⟨[(0, ops l), (3, .ptr 0 0), (5, .gs 1 0), (6, .d (.sl l.length ((l.map (·.dot)).flatMap Dt.ds)))], [(0, .box 33 cart.cells), (1, .arr 41 11 0 [])], 2⟩) (Weak.mk bq_tt) ?_
    refine SW.seq ?_
    (refine SW.regL [0, 1, 3, 4, 5, 6, 7, 8, 9, 10, 11, 15, 29, 35, 59] mixed ?_; (repeat (first | refine RW.ro bq_tt (h := ?_) | refine RW.skip (h := ?_) | refine RW.op bq_tt (h := ?_) | refine RW.opN bq_tt (h := ?_) | refine RW.skip0 (h := ?_) | (refine RW.callC (h := ?_); (first | refine CallP.mk bq_tt (hc := hso _) (h := ?_))))); refine RW.nil ⟨by kernel_rfl, Pruned.mk (h := ?_)⟩)
    refine SW.seq (SW.seq ?_)
    (refine SW.regL [0, 1, 3, 4, 5, 6, 7, 8, 9, 10, 11, 15, 29, 35, 59] mixed ?_; (repeat (first | refine RW.ro bq_tt (h := ?_) | refine RW.skip (h := ?_) | refine RW.op bq_tt (h := ?_) | refine RW.opN bq_tt (h := ?_) | refine RW.skip0 (h := ?_))); refine RW.nil ⟨by kernel_rfl, Pruned.mk (h := ?_)⟩)
    refine SW.block ?_
    refine SW.loopA (α := {n : Nat // n ≤ 9}) (fun n => ⟨[(8, i64 n.1), (0, ops l), (3, .ptr 0 0), (5, .gs 1 (upTo a cart D n.1).length), (6, dots D)], [(0, .box 33 cart.cells), (1, .arr 41 11 (upTo a cart D n.1).length (crc (upTo a cart D n.1)))], 2⟩) (fun n => 9 - n.1) ⟨0, by omega⟩ id (And.intro (show upTo a cart D 0 = [] from rfl) bq_tt) (round := ?_)
    rintro ⟨n, hn⟩
    dsimp only
    by_cases hn8 : n ≤ 8
    · have n1 : decide ((n : Int) ≤ 8) = true := by simp; omega
      have n2 : IntKind.i64.wrap ((n : Int) + 1) = ((n + 1 : Nat) : Int) := wrap_i64 _ (by omega)
      refine SW.seq (SW.seq ?_)
      (refine SW.regL [0, 1, 3, 4, 5, 6, 7, 8, 9, 10, 11, 15, 29, 35, 59] mixed ?_; (repeat (first | refine RW.ro (n1) (h := ?_) | refine RW.skip (h := ?_) | refine RW.op (n1) (h := ?_) | refine RW.opN (n1) (h := ?_) | refine RW.skip0 (h := ?_))); refine RW.nil ⟨by kernel_rfl, Pruned.mk (h := ?_)⟩)
      refine SW.condT rfl (SW.skip ?_)
      refine SW.seq (SW.block (SW.seq ?_))
      (refine SW.regL [0, 1, 3, 4, 5, 6, 7, 8, 9, 10, 11, 15, 29, 35, 59] mixed ?_; (repeat (first | refine RW.ro bq_tt (h := ?_) | refine RW.skip (h := ?_) | refine RW.op bq_tt (h := ?_) | refine RW.opN bq_tt (h := ?_) | refine RW.skip0 (h := ?_))); refine RW.nil ⟨by kernel_rfl, Pruned.mk (h := ?_)⟩)
      refine SW.block ?_
      have hul := upTo_len a cart D n
      have hnd : n * D.length ≤ 9 * D.length := Nat.mul_le_mul_right _ (by omega)
      refine SW.loopA (α := {i : Nat // i ≤ D.length}) (fun i => ⟨[(9, i64 i.1), (8, i64 n), (0, ops l), (3, .ptr 0 0), (5, .gs 1 (accOf a cart D n i.1).length), (6, dots D)], [(0, .box 33 cart.cells), (1, .arr 41 11 (accOf a cart D n i.1).length (crc (accOf a cart D n i.1)))], 2⟩) (fun i => D.length - i.1) ⟨0, by omega⟩ id (And.intro (acc_zero a cart D n) bq_tt) (round := ?_)
      rintro ⟨i, hi⟩
      dsimp only
      have hll := lvOf_len a cart n (D.take i)
      have htl : (D.take i).length ≤ D.length := by simp; omega
      by_cases hil : i < D.length
      · obtain ⟨d, hd⟩ := get_of_lt hil
        have i1 : decide ((i : Int) < D.length) = true := by simp; exact hil
        have i2 : IntKind.i64.wrap ((i : Int) + 1) = ((i + 1 : Nat) : Int) := wrap_i64 _ (by omega)
        have e1 : D.take (i + 1) = D.take i ++ [d] := take_snoc hd
        have hsn := lvOf_snoc a cart n (D.take i) d
        rw [← e1] at hsn
        have hbig : (accOf a cart D n i).length < 100000 := by unfold accOf; rw [List.length_append]; omega
        cases hg : MM.get a d with
        | none =>
          rw [hg] at hsn
          dsimp only at hsn
          have hgt := rgetNo (by omega) hr h.tok (d := d) hg
          have hX : accOf a cart D n (i + 1) = accOf a cart D n i := by unfold accOf; rw [hsn]
          refine SW.seq (SW.seq ?_)
          (refine SW.regL [0, 1, 3, 4, 5, 6, 7, 8, 9, 10, 11, 15, 29, 35, 59] mixed ?_; (repeat (first | refine RW.ro (i1) (h := ?_) | refine RW.skip (h := ?_) | refine RW.op (i1) (h := ?_) | refine RW.opN (i1) (h := ?_) | refine RW.skip0 (h := ?_) | (refine RW.callC (h := ?_); (first | refine CallP.mk (i1) (hc := hgt _) (h := ?_))))); refine RW.nil ⟨by kernel_rfl, Pruned.mk (h := ?_)⟩)
          refine SW.condT rfl (SW.skip ?_)
          refine SW.seq (SW.block ?_)
          refine SW.seq ?_
          (refine SW.regL [0, 1, 3, 4, 5, 6, 7, 8, 9, 10, 11, 15, 29, 35, 59] mixed ?_; (repeat (first | refine RW.ro (dot_at hd) (h := ?_) | refine RW.skip (h := ?_) | refine RW.op (dot_at hd) (h := ?_) | refine RW.opN (dot_at hd) (h := ?_) | refine RW.skip0 (h := ?_) | (refine RW.callC (h := ?_); (first | refine CallP.mk (dot_at hd) (hc := hgt _) (h := ?_))))); refine RW.nil ⟨by kernel_rfl, Pruned.mk (h := ?_)⟩)
          refine SW.seq ?_
          (refine SW.regL [0, 1, 3, 4, 5, 6, 7, 8, 9, 10, 11, 15, 29, 35, 59] mixed ?_; (repeat (first | refine RW.ro bq_tt (h := ?_) | refine RW.skip (h := ?_) | refine RW.op bq_tt (h := ?_) | refine RW.opN bq_tt (h := ?_) | refine RW.skip0 (h := ?_) | (refine RW.callC (h := ?_); (first | refine CallP.mk bq_tt (hc := hgt _) (h := ?_))))); refine RW.nil ⟨by kernel_rfl, Pruned.mk (h := ?_)⟩)
          refine SW.condF rfl (SW.skip ?_)
          (refine SW.regL [0, 1, 3, 4, 5, 6, 7, 8, 9, 10, 11, 15, 29, 35, 59] mixed ?_; (repeat (first | refine RW.ro (i2) (h := ?_) | refine RW.skip (h := ?_) | refine RW.op (i2) (h := ?_) | refine RW.opN (i2) (h := ?_) | refine RW.skip0 (h := ?_) | (refine RW.callC (h := ?_); (first | refine CallP.mk (i2) (hc := hgt _) (h := ?_))))); refine RW.nil ⟨by kernel_rfl, Pruned.mk (h := ?_)⟩)
          dsimp only
          exact ⟨⟨i + 1, by omega⟩, id, by show D.length - (i + 1) < _; omega, Weak.mk (And.intro hX bq_tt)⟩
        | some c =>
          rw [hg] at hsn
          dsimp only at hsn
          have hgt := rgetYes (by omega) hr h.tok (d := d) hg
          refine SW.seq (SW.seq ?_)
          (refine SW.regL [0, 1, 3, 4, 5, 6, 7, 8, 9, 10, 11, 15, 29, 35, 59] mixed ?_; (repeat (first | refine RW.ro (i1) (h := ?_) | refine RW.skip (h := ?_) | refine RW.op (i1) (h := ?_) | refine RW.opN (i1) (h := ?_) | refine RW.skip0 (h := ?_) | (refine RW.callC (h := ?_); (first | refine CallP.mk (i1) (hc := hgt _) (h := ?_))))); refine RW.nil ⟨by kernel_rfl, Pruned.mk (h := ?_)⟩)
          refine SW.condT rfl (SW.skip ?_)
          refine SW.seq (SW.block ?_)
          refine SW.seq ?_
          (refine SW.regL [0, 1, 3, 4, 5, 6, 7, 8, 9, 10, 11, 15, 29, 35, 59] mixed ?_; (repeat (first | refine RW.ro (dot_at hd) (h := ?_) | refine RW.skip (h := ?_) | refine RW.op (dot_at hd) (h := ?_) | refine RW.opN (dot_at hd) (h := ?_) | refine RW.skip0 (h := ?_) | (refine RW.callC (h := ?_); (first | refine CallP.mk (dot_at hd) (hc := hgt _) (h := ?_))))); refine RW.nil ⟨by kernel_rfl, Pruned.mk (h := ?_)⟩)
          by_cases hlv : c.level = (n : Int)
          · have c1 : (c.level == (n : Int)) = true := by rw [hlv]; simp
            by_cases hct : c.cart = cart
            · have c2 : decide (c.cart = cart) = true := decide_eq_true hct
              rw [if_pos ⟨hlv, hct⟩] at hsn
              have hX : accOf a cart D n (i + 1) = accOf a cart D n i ++ [c] := by unfold accOf; rw [hsn, List.append_assoc]
              have hX2 : (accOf a cart D n (i + 1)).length = (accOf a cart D n i).length + 1 := by rw [hX]; simp
              generalize accOf a cart D n i = X at hbig hX hX2
              refine SW.seq ?_
              (refine SW.regL [0, 1, 3, 4, 5, 6, 7, 8, 9, 10, 11, 15, 29, 35, 59] mixed ?_; (repeat (first | refine RW.ro (And.intro (c1) (c2)) (h := ?_) | refine RW.skip (h := ?_) | refine RW.op (And.intro (c1) (c2)) (h := ?_) | refine RW.opN (And.intro (c1) (c2)) (h := ?_) | refine RW.skip0 (h := ?_))); refine RW.nil ⟨by kernel_rfl, Pruned.mk (h := ?_)⟩)
              refine SW.condT rfl ?_
              (refine SW.regL [0, 1, 3, 4, 5, 6, 7, 8, 9, 10, 11, 15, 29, 35, 59] mixed ?_; (repeat (first | refine RW.ro (edc) (h := ?_) | refine RW.skip (h := ?_) | refine RW.op (edc) (h := ?_) | refine RW.opN (edc) (h := ?_) | refine RW.skip0 (h := ?_))); refine RW.nil ⟨by kernel_rfl, Pruned.mk (h := ?_)⟩)
              (refine SW.regL [0, 1, 3, 4, 5, 6, 7, 8, 9, 10, 11, 15, 29, 35, 59] mixed ?_; (repeat (first | refine RW.ro (i2) (h := ?_) | refine RW.skip (h := ?_) | refine RW.op (i2) (h := ?_) | refine RW.opN (i2) (h := ?_) | refine RW.skip0 (h := ?_))); refine RW.nil ⟨by kernel_rfl, Pruned.mk (h := ?_)⟩)
              dsimp only
              exact ⟨⟨i + 1, by omega⟩, fun n => if n = 1 then 3 else n, by show D.length - (i + 1) < _; omega, Weak.mk (And.intro hX2 (And.intro hX (And.intro (Cr.map_ds c) (fun q : Nat → Bool => Cr.cells_ok c q))))⟩
            · have c2 : decide (c.cart = cart) = false := decide_eq_false hct
              rw [if_neg (fun e => hct e.2)] at hsn
              have hX : accOf a cart D n (i + 1) = accOf a cart D n i := by unfold accOf; rw [hsn]
              refine SW.seq ?_
              (refine SW.regL [0, 1, 3, 4, 5, 6, 7, 8, 9, 10, 11, 15, 29, 35, 59] mixed ?_; (repeat (first | refine RW.ro (And.intro (c1) (c2)) (h := ?_) | refine RW.skip (h := ?_) | refine RW.op (And.intro (c1) (c2)) (h := ?_) | refine RW.opN (And.intro (c1) (c2)) (h := ?_) | refine RW.skip0 (h := ?_))); refine RW.nil ⟨by kernel_rfl, Pruned.mk (h := ?_)⟩)
              refine SW.condF rfl (SW.skip ?_)
              (refine SW.regL [0, 1, 3, 4, 5, 6, 7, 8, 9, 10, 11, 15, 29, 35, 59] mixed ?_; (repeat (first | refine RW.ro (i2) (h := ?_) | refine RW.skip (h := ?_) | refine RW.op (i2) (h := ?_) | refine RW.opN (i2) (h := ?_) | refine RW.skip0 (h := ?_))); refine RW.nil ⟨by kernel_rfl, Pruned.mk (h := ?_)⟩)
              dsimp only
              exact ⟨⟨i + 1, by omega⟩, id, by show D.length - (i + 1) < _; omega, Weak.mk (And.intro hX bq_tt)⟩
          · have c1 : (c.level == (n : Int)) = false := by simpa using hlv
            rw [if_neg (fun e => hlv e.1)] at hsn
            have hX : accOf a cart D n (i + 1) = accOf a cart D n i := by unfold accOf; rw [hsn]
            refine SW.seq ?_
            (refine SW.regL [0, 1, 3, 4, 5, 6, 7, 8, 9, 10, 11, 15, 29, 35, 59] mixed ?_; (repeat (first | refine RW.ro (c1) (h := ?_) | refine RW.skip (h := ?_) | refine RW.op (c1) (h := ?_) | refine RW.opN (c1) (h := ?_) | refine RW.skip0 (h := ?_))); refine RW.nil ⟨by kernel_rfl, Pruned.mk (h := ?_)⟩)
            refine SW.condF rfl (SW.skip ?_)
            (refine SW.regL [0, 1, 3, 4, 5, 6, 7, 8, 9, 10, 11, 15, 29, 35, 59] mixed ?_; (repeat (first | refine RW.ro (i2) (h := ?_) | refine RW.skip (h := ?_) | refine RW.op (i2) (h := ?_) | refine RW.opN (i2) (h := ?_) | refine RW.skip0 (h := ?_))); refine RW.nil ⟨by kernel_rfl, Pruned.mk (h := ?_)⟩)
            dsimp only
            exact ⟨⟨i + 1, by omega⟩, id, by show D.length - (i + 1) < _; omega, Weak.mk (And.intro hX bq_tt)⟩
      · have i1 : decide ((i : Int) < D.length) = false := by simp; omega
        have iD : i = D.length := by omega
        subst iD
        have hX : upTo a cart D (n + 1) = accOf a cart D n D.length := by unfold accOf; rw [List.take_length]; exact upTo_succ a cart D n
        refine SW.seq (SW.seq ?_)
        (refine SW.regL [0, 1, 3, 4, 5, 6, 7, 8, 9, 10, 11, 15, 29, 35, 59] mixed ?_; (repeat (first | refine RW.ro (i1) (h := ?_) | refine RW.skip (h := ?_) | refine RW.op (i1) (h := ?_) | refine RW.opN (i1) (h := ?_) | refine RW.skip0 (h := ?_))); refine RW.nil ⟨by kernel_rfl, Pruned.mk (h := ?_)⟩)
        refine SW.condF rfl (SW.exit ?_)
        (refine SW.regL [0, 1, 3, 4, 5, 6, 7, 8, 9, 10, 11, 15, 29, 35, 59] mixed ?_; (repeat (first | refine RW.ro (n2) (h := ?_) | refine RW.skip (h := ?_) | refine RW.op (n2) (h := ?_) | refine RW.opN (n2) (h := ?_) | refine RW.skip0 (h := ?_))); refine RW.nil ⟨by kernel_rfl, Pruned.mk (h := ?_)⟩)
        dsimp only
        exact ⟨⟨n + 1, by omega⟩, id, by show 9 - (n + 1) < _; omega, Weak.mk (And.intro hX bq_tt)⟩
    · have n1 : decide ((n : Int) ≤ 8) = false := by simp; omega
      have n9 : n = 9 := by omega
      refine SW.seq (SW.seq ?_)
      (refine SW.regL [0, 1, 3, 4, 5, 6, 7, 8, 9, 10, 11, 15, 29, 35, 59] mixed ?_; (repeat (first | refine RW.ro (n1) (h := ?_) | refine RW.skip (h := ?_) | refine RW.op (n1) (h := ?_) | refine RW.opN (n1) (h := ?_) | refine RW.skip0 (h := ?_))); refine RW.nil ⟨by kernel_rfl, Pruned.mk (h := ?_)⟩)
      refine SW.condF rfl (SW.exit ?_)
      subst n9
      rw [h9]
      refine SW.seq ?_
      (refine SW.regL [0, 1, 3, 4, 5, 6, 7, 8, 9, 10, 11, 15, 29, 35, 59] mixed ?_; (repeat (first | refine RW.ro bq_tt (h := ?_) | refine RW.skip (h := ?_) | refine RW.op bq_tt (h := ?_) | refine RW.opN bq_tt (h := ?_) | refine RW.skip0 (h := ?_))); refine RW.nil ⟨by kernel_rfl, Pruned.mk (h := ?_)⟩)
      refine SW.freeze 1 ((allOf a cart).flatMap Cr.ds) rfl rfl (SW.ret ?_)
      exact End.mk [] (h4 := ⟨by simp [retV, SV.frz], rfl⟩) (h5 := by simp [retV, SV.frz, SV.ok, SV.oks])
theorem rall_at (hlen : l.length < 1000) (hr : ∀ x, x ∈ l → x.roles < 256) (hwf : ∀ x, x ∈ l → x.dot.wf) (cart : Dt) (k : Nat) : SCd Try.prog ref16_All.f [ops l, .agg cart.cells] [] k 0 (crs (allOf a cart)) [] := (rall_ok h hlen hr hwf cart).sc rfl k
end
end Go.Proofs.Ytmmonbnlleeloaa

/-
  Trees of credentials: the law that the tree is the document's.
-/
set_option linter.unusedSectionVars false
set_option linter.unusedVariables false
set_option linter.unusedSimpArgs false
namespace Go.Proofs.Ytmmonbnlleeloaa
open Go.Sl Go.Proofs
attribute [local irreducible] SW RW SCd SC CallP Pruned

theorem Tn.newC1 {l : List OpD} {a : MM Dt Cr} {ca : Nat} {m : MM Dt OpD} {cm : Nat} (h : Tn l a ca m cm) (hl : l.length < 1000000000) :
    SCd Try.prog tree_New.f [ops l] [] 1 7 (.ptr 3 0) [(3, .box 74 [.mp 1, .mp 2]), (1, .map (mapE Dt.cells cv a) ca), (2, .map (mapE Dt.cells ov m) cm)] := by
  have e : newTr' l 1 = ⟨3, 1, 2, a, ca, m, cm⟩ := by
    have h0 := h.new
    unfold newTr' Tr.sh at h0 ⊢
    injection h0 with h1 h2 h3 h4 h5 h6 h7
    rw [h4, h5, h6, h7]
    congr 1
    · omega
    · omega
    · omega
  have := new_at l hl 1
  rw [e] at this
  exact this
theorem same_nils (k : Nat) : SCd Try.prog ref03_Same.f [.d .nils, .d .nils] [] k 0 (.d (.bool true)) [] := by
  have h : Go.Sl.Pure Try.prog ref03_Same.f [.d .nils, .d .nils] (.d (.bool true)) :=
    SB.args (same_ok [] [] (by decide) (by decide)) rfl fun p μ M vs => rps_nil_row (fun _ => rps_nil_row (fun _ h => h) _) vs
  exact h.sc rfl k
theorem cr_hold {l : List Cr} {i : Nat} {x : Cr} (h : l[i]? = some x) : (List.map SV.d (l.flatMap Cr.ds))[i * 11 + 6]? = some (u32 x.hold) := by rw [cr_get h (by omega)]; rfl
/-- A chain's row and error. -/
def chS (a : MM Dt Cr) (d : Dt) (L : List Cr) : SV := if MM.has a d then dots (L.map (·.dot)) else .d .nils
def chE (a : MM Dt Cr) (d : Dt) : Int := if MM.has a d then 0 else 7
theorem chainR_two (a : MM Dt Cr) (d : Dt) (L : List Cr) : chainR a d L = .tup [chS a d L, .d (.int .i64 (chE a d))] := by
  unfold chainR chS chE
  cases MM.has a d with
  | false => rfl
  | true => simp [dots]
theorem chS_ok (a : MM Dt Cr) (d : Dt) (L : List Cr) (q : Nat → Bool) : (chS a d L).ok q = true := by
  unfold chS; split <;> rfl
theorem chS_ren (a : MM Dt Cr) (d : Dt) (L : List Cr) (r : Nat → Nat) : (chS a d L).ren r = chS a d L := by
  unfold chS; split <;> rfl
section
attribute [local irreducible] Ak.cells chS chE
set_option maxHeartbeats 8000000 in
theorem law_tells (l : List OpD) (x : Ak) (hr : ∀ o, o ∈ l → o.roles < 256) (hwf : ∀ o, o ∈ l → o.dot.wf) (hw : ∀ o, o ∈ l → lrow o) (hlen : l.length ≤ 9223372036854775807) (hxr : x.o.roles < 256) :
    SB Try.prog law16_TreeTells.f [ops l, .agg x.cells] [] 0 0 (fun r F => r = bl true) := by
  have hx := x.all
  refine law16_TreeTells.enter (by simp [SV.ok, SV.oks, x.ok]) (by simp [Hp.ok]) (by simp) ?_
  unfold law16_TreeTells.s
  have hG' := great_at l hw hlen
  rcases hG : greatV l with _ | _
  · rw [hG] at hG'
    have hl80 := great_len hG
    obtain ⟨a, ca, m, cm, h⟩ := tn_of l
    have ht := h.tok
    have hl4 : l.length < 4611686018427387904 := by omega
    refine SW.seq ?_
    (refine SW.regL [0, 1, 3, 4, 5, 6, 7, 8, 9, 10, 11, 12, 13, 14, 15, 16, 18, 23, 98, 106, 116] mixed ?_; (repeat (first | refine RW.ro (hx) (h := ?_) | refine RW.skip (h := ?_) | refine RW.op (hx) (h := ?_) | refine RW.opN (hx) (h := ?_) | refine RW.skip0 (h := ?_) | (refine RW.callC (h := ?_); (first | refine CallP.mk (hx) (hc := hG' _) (h := ?_) | refine CallP.mk (hx) (hc := h.newC1 (by omega)) (h := ?_))))); refine RW.nil ⟨by kernel_rfl, Pruned.mk (h := ?_)⟩)
    refine SW.seq (SW.seq ?_)
    (refine SW.regL [0, 1, 3, 4, 5, 6, 7, 8, 9, 10, 11, 12, 13, 14, 15, 16, 18, 23, 98, 106, 116] mixed ?_; (repeat (first | refine RW.ro bq_tt (h := ?_) | refine RW.skip (h := ?_) | refine RW.op bq_tt (h := ?_) | refine RW.opN bq_tt (h := ?_) | refine RW.skip0 (h := ?_) | (refine RW.callC (h := ?_); (first | refine CallP.mk bq_tt (hc := hG' _) (h := ?_) | refine CallP.mk bq_tt (hc := h.newC1 (by omega)) (h := ?_))))); refine RW.nil ⟨by kernel_rfl, Pruned.mk (h := ?_)⟩)
    refine SW.condF rfl (SW.skip ?_)
    refine SW.seq ?_
    (refine SW.regL [0, 1, 3, 4, 5, 6, 7, 8, 9, 10, 11, 12, 13, 14, 15, 16, 18, 23, 98, 106, 116] mixed ?_; (repeat (first | refine RW.ro bq_tt (h := ?_) | refine RW.skip (h := ?_) | refine RW.op bq_tt (h := ?_) | refine RW.opN bq_tt (h := ?_) | refine RW.skip0 (h := ?_) | (refine RW.callC (h := ?_); (first | refine CallP.mk bq_tt (hc := hG' _) (h := ?_) | refine CallP.mk bq_tt (hc := h.newC1 (by omega)) (h := ?_))))); refine RW.nil ⟨by kernel_rfl, Pruned.mk (h := ?_)⟩)
    refine SW.seq (SW.seq ?_)
    (refine SW.regL [0, 1, 3, 4, 5, 6, 7, 8, 9, 10, 11, 12, 13, 14, 15, 16, 18, 23, 98, 106, 116] mixed ?_; (repeat (first | refine RW.ro bq_tt (h := ?_) | refine RW.skip (h := ?_) | refine RW.op bq_tt (h := ?_) | refine RW.opN bq_tt (h := ?_) | refine RW.skip0 (h := ?_))); refine RW.nil ⟨by kernel_rfl, Pruned.mk (h := ?_)⟩)
    refine SW.condF rfl (SW.skip ?_)
    refine SW.weak (fun n => if n = 0 then 1 else if n = 1 then 2 else if n = 2 then 3 else if n = 3 then 0 else n) (st1 := ⟨[(0, ops l), (3, .ptr 3 0), (5, .ptr 2 0)], (3, .box 58 x.cells) :: H2 a ca m cm, 8⟩) (Weak.mk (And.intro hx (mapsF a m))) ?_
    obtain ⟨L, hL, hL9, _⟩ := ht.ups x.a
    obtain ⟨M, hM, hM9, _⟩ := ht.ups x.b
    have hch := h.chainC x.a L hL (by omega)
    have hrc := rchain_at hl4 hr ht x.a L hL (by omega)
    have hab := h.aboveC x.a x.b M hM (by omega)
    have hra := rabove_at hl4 hr ht x.a x.b M hM (by omega)
    rw [chainR_two] at hch hrc
    have hgt := h.getC x.a
    have hrg := rGet_at hl4 hr x.a
    rw [(ht.get x.a).1] at hrg
    have hee : (if MM.has a x.a then 0 else 7 : Int) = chE a x.a := by unfold chE; rfl
    rw [hee] at hgt
    have hrc' : ∀ k, SCd Try.prog ref16_Chain.f [ops l, .agg x.a.cells] [] k 0 (.tup [chS a x.a L, .d (.int .i64 (chE a x.a))]) [] := hrc
    have hrg' : ∀ k, SCd Try.prog ref16_Get.f [ops l, .agg x.a.cells] [] k 0 (.tup [.agg (getR l 10 x.a).1.cells, .d (.bool (MM.has a x.a))]) [] := hrg
    have hra' : ∀ k, SCd Try.prog ref16_Above.f [ops l, .agg x.a.cells, .agg x.b.cells] [] k 0 (.d (.bool (aboveR a x.a x.b M))) [] := hra
    refine SW.seq ?_
    (refine SW.regL [0, 1, 3, 4, 5, 6, 7, 8, 9, 10, 11, 12, 13, 14, 15, 16, 18, 23, 98, 106, 116] mixed ?_; (repeat (first | refine RW.ro (hx) (h := ?_) | refine RW.skip (h := ?_) | refine RW.op (hx) (h := ?_) | refine RW.opN (hx) (h := ?_) | refine RW.skip0 (h := ?_) | (refine RW.callC (h := ?_); (first | refine CallP.mk (hx) (hc := hgt _) (h := ?_) | refine CallP.mk (hx) (hc := hrg' _) (h := ?_) | refine CallP.mk (hx) (hc := hch _) (h := ?_) | refine CallP.mk (hx) (hc := hrc' _) (h := ?_))))); refine RW.nil ⟨by kernel_rfl, Pruned.mk (h := ?_)⟩)
    refine SW.seq ?_
    (refine SW.regL [0, 1, 3, 4, 5, 6, 7, 8, 9, 10, 11, 12, 13, 14, 15, 16, 18, 23, 98, 106, 116] mixed ?_; (repeat (first | refine RW.ro (hx) (h := ?_) | refine RW.skip (h := ?_) | refine RW.op (hx) (h := ?_) | refine RW.opN (hx) (h := ?_) | refine RW.skip0 (h := ?_) | (refine RW.callC (h := ?_); (first | refine CallP.mk (hx) (hc := hgt _) (h := ?_) | refine CallP.mk (hx) (hc := hrg' _) (h := ?_) | refine CallP.mk (hx) (hc := hch _) (h := ?_) | refine CallP.mk (hx) (hc := hrc' _) (h := ?_))))); refine RW.nil ⟨by kernel_rfl, Pruned.mk (h := ?_)⟩)
    refine SW.seq ?_
    (refine SW.regL [0, 1, 3, 4, 5, 6, 7, 8, 9, 10, 11, 12, 13, 14, 15, 16, 18, 23, 98, 106, 116] mixed ?_; (repeat (first | refine RW.ro (hx) (h := ?_) | refine RW.skip (h := ?_) | refine RW.op (hx) (h := ?_) | refine RW.opN (hx) (h := ?_) | refine RW.skip0 (h := ?_) | (refine RW.callC (h := ?_); (first | refine CallP.mk (hx) (hc := hgt _) (h := ?_) | refine CallP.mk (hx) (hc := hrg' _) (h := ?_) | refine CallP.mk (hx) (hc := hch _) (h := ?_) | refine CallP.mk (hx) (hc := hrc' _) (h := ?_))))); refine RW.nil ⟨by kernel_rfl, Pruned.mk (h := ?_)⟩)
    refine SW.weak id (st1 := ⟨[(0, ops l), (3, .ptr 3 0), (5, .ptr 2 0), (6, .ptr 11 0), (7, .d (.int .i64 (chE a x.a))), (8, .ptr 12 0), (9, .d (.bool (MM.has a x.a))), (10, chS a x.a L), (11, .d (.int .i64 (chE a x.a)))], (12, .box 41 (getR l 10 x.a).1.cells) :: (11, .box 41 ((MM.get a x.a).getD Cr.zero).cells) :: (3, .box 58 x.cells) :: H2 a ca m cm, 13⟩) (Weak.mk (And.intro hx (And.intro (fun r => chS_ren a x.a L r) (And.intro (fun q => chS_ok a x.a L q) (mapsF a m))))) ?_
    refine SW.seq ?_
    (refine SW.regL [0, 1, 3, 4, 5, 6, 7, 8, 9, 10, 11, 12, 13, 14, 15, 16, 18, 23, 98, 106, 116] mixed ?_; (repeat (first | refine RW.ro (hx) (h := ?_) | refine RW.skip (h := ?_) | refine RW.op (hx) (h := ?_) | refine RW.opN (hx) (h := ?_) | refine RW.skip0 (h := ?_) | (refine RW.callC (h := ?_); (first | refine CallP.mk (hx) (hc := hgt _) (h := ?_) | refine CallP.mk (hx) (hc := hrg' _) (h := ?_) | refine CallP.mk (hx) (hc := hch _) (h := ?_) | refine CallP.mk (hx) (hc := hrc' _) (h := ?_))))); refine RW.nil ⟨by kernel_rfl, Pruned.mk (h := ?_)⟩)
    refine SW.seq (SW.mono (Q := fun e st' => e = .normal ∧ ∃ ρ, Weak 0 st' ⟨[(0, ops l), (3, .ptr 3 0), (5, .ptr 2 0)], (3, .box 58 x.cells) :: H2 a ca m cm, 4⟩ ρ) ?_ ?_)
    · have e8 : decide (Cr.zero = Cr.zero) = true := decide_eq_true rfl
      rcases hv : aboveR a x.a x.b M with _ | _ <;> rw [hv] at hab hra'
      all_goals
        cases hg : MM.get a x.a with
        | none =>
          have q1 : MM.has a x.a = false := by unfold MM.has; rw [hg]; rfl
          have q2 : (MM.get a x.a).getD Cr.zero = Cr.zero := by rw [hg]; rfl
          have q3 : chS a x.a L = .d .nils := by unfold chS; rw [q1]; rfl
          have q4 : chE a x.a = 7 := by unfold chE; rw [q1]; rfl
          rw [q1, q3, q4]
          simp only [Option.getD_none]
          refine SW.seq ?_
          (refine SW.regL [0, 1, 3, 4, 5, 6, 7, 8, 9, 10, 11, 12, 13, 14, 15, 16, 18, 23, 98, 106, 116] mixed ?_; (repeat (first | refine RW.ro (And.intro (hx) (e8)) (h := ?_) | refine RW.skip (h := ?_) | refine RW.op (And.intro (hx) (e8)) (h := ?_) | refine RW.opN (And.intro (hx) (e8)) (h := ?_) | refine RW.skip0 (h := ?_) | (refine RW.callC (h := ?_); (first | refine CallP.mk (And.intro (hx) (e8)) (hc := same_nils _) (h := ?_) | refine CallP.mk (And.intro (hx) (e8)) (hc := hab _) (h := ?_) | refine CallP.mk (And.intro (hx) (e8)) (hc := hra' _) (h := ?_))))); refine RW.nil ⟨by kernel_rfl, Pruned.mk (h := ?_)⟩)
          refine SW.condF rfl (SW.skip ?_)
          exact ⟨rfl, id, Weak.mk (And.intro hx (mapsF a m))⟩
        | some c =>
          have hgc := (ht.get x.a).2 c hg
          have q1 : MM.has a x.a = true := by unfold MM.has; rw [hg]; rfl
          have q3 : chS a x.a L = dots (L.map (·.dot)) := by unfold chS; rw [q1]; rfl
          have q4 : chE a x.a = 0 := by unfold chE; rw [q1]; rfl
          have e9 : decide (c = c) = true := decide_eq_true rfl
          have hsm := same_at (L.map (·.dot)) (L.map (·.dot)) (by rw [List.length_map]; omega) (by rw [List.length_map]; omega)
          rw [decide_eq_true rfl] at hsm
          rw [q1, q3, q4, hgc]
          simp only [Option.getD_some]
          refine SW.seq ?_
          (refine SW.regL [0, 1, 3, 4, 5, 6, 7, 8, 9, 10, 11, 12, 13, 14, 15, 16, 18, 23, 98, 106, 116] mixed ?_; (repeat (first | refine RW.ro (And.intro (hx) (e9)) (h := ?_) | refine RW.skip (h := ?_) | refine RW.op (And.intro (hx) (e9)) (h := ?_) | refine RW.opN (And.intro (hx) (e9)) (h := ?_) | refine RW.skip0 (h := ?_) | (refine RW.callC (h := ?_); (first | refine CallP.mk (And.intro (hx) (e9)) (hc := hsm _) (h := ?_) | refine CallP.mk (And.intro (hx) (e9)) (hc := hab _) (h := ?_) | refine CallP.mk (And.intro (hx) (e9)) (hc := hra' _) (h := ?_))))); refine RW.nil ⟨by kernel_rfl, Pruned.mk (h := ?_)⟩)
          refine SW.condF rfl (SW.skip ?_)
          exact ⟨rfl, id, Weak.mk (And.intro hx (mapsF a m))⟩
    rintro _ st' ⟨rfl, ρ, hρ⟩
    refine SW.weak ρ hρ ?_
    have hra16 := rall_at h (by omega) hr hwf x.b
    have hall := h.allC (by omega) x.b
    have hheld := h.heldC (by omega) x.b x.who
    have hAl : (allOf a x.b).length ≤ 80 := by have := allOf_len a x.b; have := h.len; omega
    generalize allOf a x.b = A at hra16 hall hheld hAl
    refine SW.seq ?_
    (refine SW.regL [0, 1, 3, 4, 5, 6, 7, 8, 9, 10, 11, 12, 13, 14, 15, 16, 18, 23, 98, 106, 116] mixed ?_; (repeat (first | refine RW.ro (hx) (h := ?_) | refine RW.skip (h := ?_) | refine RW.op (hx) (h := ?_) | refine RW.opN (hx) (h := ?_) | refine RW.skip0 (h := ?_) | (refine RW.callC (h := ?_); (first | refine CallP.mk (hx) (hc := hra16 _) (h := ?_))))); refine RW.nil ⟨by kernel_rfl, Pruned.mk (h := ?_)⟩)
    refine SW.seq ?_
    (refine SW.regL [0, 1, 3, 4, 5, 6, 7, 8, 9, 10, 11, 12, 13, 14, 15, 16, 18, 23, 98, 106, 116] mixed ?_; (repeat (first | refine RW.ro bq_tt (h := ?_) | refine RW.skip (h := ?_) | refine RW.op bq_tt (h := ?_) | refine RW.opN bq_tt (h := ?_) | refine RW.skip0 (h := ?_))); refine RW.nil ⟨by kernel_rfl, Pruned.mk (h := ?_)⟩)
    refine SW.nilrow 15 33 2 rfl ?_
    refine SW.seq (SW.seq ?_)
    (refine SW.regL [0, 1, 3, 4, 5, 6, 7, 8, 9, 10, 11, 12, 13, 14, 15, 16, 18, 23, 98, 106, 116] mixed ?_; (repeat (first | refine RW.ro bq_tt (h := ?_) | refine RW.skip (h := ?_) | refine RW.op bq_tt (h := ?_) | refine RW.opN bq_tt (h := ?_) | refine RW.skip0 (h := ?_))); refine RW.nil ⟨by kernel_rfl, Pruned.mk (h := ?_)⟩)
    refine SW.block ?_
    refine SW.loopA (α := {i : Nat // i ≤ A.length}) (fun i => ⟨[(16, i64 i.1), (14, crs A), (15, .gs 4 (heldOf (A.take i.1) x.who).length), (0, ops l), (3, .ptr 3 0), (5, .ptr 2 0)], (4, .arr 33 2 (heldOf (A.take i.1) x.who).length (((heldOf (A.take i.1) x.who).flatMap Dt.ds).map .d)) :: (3, .box 58 x.cells) :: H2 a ca m cm, 5⟩) (fun i => A.length - i.1) ⟨0, by omega⟩ id (And.intro (show heldOf [] x.who = [] from rfl) (And.intro hx (mapsF a m))) (round := ?_)
    rintro ⟨i, hi⟩
    dsimp only
    have hhl : (heldOf (A.take i) x.who).length ≤ i := Nat.le_trans (heldOf_len _ _) (by simp; omega)
    by_cases hil : i < A.length
    · obtain ⟨c, hc⟩ := get_of_lt hil
      have h1 : decide ((i : Int) < A.length) = true := by simp; exact hil
      have e1 : A.take (i + 1) = A.take i ++ [c] := take_snoc hc
      have e2 : IntKind.i64.wrap ((i : Int) + 1) = ((i + 1 : Nat) : Int) := wrap_i64 _ (by omega)
      have hsn := heldOf_snoc (A.take i) c x.who
      rw [← e1] at hsn
      have edt : ∀ d : Dt, datas d.cells = some d.ds := fun _ => rfl
      have e3 : ((c.hold : Int) == (x.who : Int)) = decide (c.hold = x.who) := by rw [Bool.eq_iff_iff, beq_iff_eq, decide_eq_true_eq]; omega
      refine SW.seq (SW.seq ?_)
      (refine SW.regL [0, 1, 3, 4, 5, 6, 7, 8, 9, 10, 11, 12, 13, 14, 15, 16, 18, 23, 98, 106, 116] mixed ?_; (repeat (first | refine RW.ro (h1) (h := ?_) | refine RW.skip (h := ?_) | refine RW.op (h1) (h := ?_) | refine RW.opN (h1) (h := ?_) | refine RW.skip0 (h := ?_))); refine RW.nil ⟨by kernel_rfl, Pruned.mk (h := ?_)⟩)
      refine SW.condT rfl (SW.skip ?_)
      rcases hd : decide (c.hold = x.who) with _ | _
      · rw [if_neg (by simpa using hd)] at hsn
        rw [hd] at e3
        refine SW.seq (SW.block (SW.seq ?_))
        (have fx := (And.intro (cr_hold hc) (And.intro (cr_room hc) (And.intro (e3) (hx)))); refine SW.regL [0, 1, 3, 4, 5, 6, 7, 8, 9, 10, 11, 12, 13, 14, 15, 16, 18, 23, 98, 106, 116] mixed ?_; (repeat (first | refine RW.ro fx (h := ?_) | refine RW.skip (h := ?_) | refine RW.op fx (h := ?_) | refine RW.opN fx (h := ?_) | refine RW.skip0 (h := ?_))); refine RW.nil ⟨by kernel_rfl, Pruned.mk (h := ?_)⟩)
        refine SW.condF rfl (SW.skip ?_)
        (refine SW.regL [0, 1, 3, 4, 5, 6, 7, 8, 9, 10, 11, 12, 13, 14, 15, 16, 18, 23, 98, 106, 116] mixed ?_; (repeat (first | refine RW.ro (e2) (h := ?_) | refine RW.skip (h := ?_) | refine RW.op (e2) (h := ?_) | refine RW.opN (e2) (h := ?_) | refine RW.skip0 (h := ?_))); refine RW.nil ⟨by kernel_rfl, Pruned.mk (h := ?_)⟩)
        dsimp only
        exact ⟨⟨i + 1, by omega⟩, id, by show A.length - (i + 1) < _; omega, Weak.mk (And.intro hsn (And.intro hx (mapsF a m)))⟩
      · rw [if_pos (by simpa using hd)] at hsn
        rw [hd] at e3
        refine SW.seq (SW.block (SW.seq ?_))
        (have fx := (And.intro (cr_hold hc) (And.intro (cr_room hc) (And.intro (e3) (hx)))); refine SW.regL [0, 1, 3, 4, 5, 6, 7, 8, 9, 10, 11, 12, 13, 14, 15, 16, 18, 23, 98, 106, 116] mixed ?_; (repeat (first | refine RW.ro fx (h := ?_) | refine RW.skip (h := ?_) | refine RW.op fx (h := ?_) | refine RW.opN fx (h := ?_) | refine RW.skip0 (h := ?_))); refine RW.nil ⟨by kernel_rfl, Pruned.mk (h := ?_)⟩)
        refine SW.condT rfl ?_
        (have fx := (And.intro (cr_dot hc) (And.intro (cr_room hc) (edt))); refine SW.regL [0, 1, 3, 4, 5, 6, 7, 8, 9, 10, 11, 12, 13, 14, 15, 16, 18, 23, 98, 106, 116] mixed ?_; (repeat (first | refine RW.ro fx (h := ?_) | refine RW.skip (h := ?_) | refine RW.op fx (h := ?_) | refine RW.opN fx (h := ?_) | refine RW.skip0 (h := ?_))); refine RW.nil ⟨by kernel_rfl, Pruned.mk (h := ?_)⟩)
        (refine SW.regL [0, 1, 3, 4, 5, 6, 7, 8, 9, 10, 11, 12, 13, 14, 15, 16, 18, 23, 98, 106, 116] mixed ?_; (repeat (first | refine RW.ro (e2) (h := ?_) | refine RW.skip (h := ?_) | refine RW.op (e2) (h := ?_) | refine RW.opN (e2) (h := ?_) | refine RW.skip0 (h := ?_))); refine RW.nil ⟨by kernel_rfl, Pruned.mk (h := ?_)⟩)
        dsimp only
        exact ⟨⟨i + 1, by omega⟩, fun n => if n = 4 then 5 else n, by show A.length - (i + 1) < _; omega, Weak.mk (And.intro hsn (And.intro (Dt.map_ds c.dot) (And.intro hx (mapsF a m))))⟩
    · have h1 : decide ((i : Int) < A.length) = false := by simp; omega
      have h2 : i = A.length := by omega
      subst h2
      refine SW.seq (SW.seq ?_)
      (refine SW.regL [0, 1, 3, 4, 5, 6, 7, 8, 9, 10, 11, 12, 13, 14, 15, 16, 18, 23, 98, 106, 116] mixed ?_; (repeat (first | refine RW.ro (h1) (h := ?_) | refine RW.skip (h := ?_) | refine RW.op (h1) (h := ?_) | refine RW.opN (h1) (h := ?_) | refine RW.skip0 (h := ?_))); refine RW.nil ⟨by kernel_rfl, Pruned.mk (h := ?_)⟩)
      refine SW.condF rfl (SW.exit ?_)
      rw [List.take_length]
      refine SW.freeze 4 ((heldOf A x.who).flatMap Dt.ds) rfl rfl ?_
      simp only [frzE, SV.frz, List.map_cons, List.map_nil, if_true, if_false, reduceIte, hdel, Nat.reduceEqDiff]
      have hH : (heldOf A x.who).length ≤ 80 := Nat.le_trans (heldOf_len _ _) hAl
      have hcs := crsame_at A A (by omega) (by omega)
      rw [decide_eq_true rfl] at hcs
      have hds := same_at (heldOf A x.who) (heldOf A x.who) (by omega) (by omega)
      rw [decide_eq_true rfl] at hds
      have hwy := h.whyC x.o
      have hrw := rWhy_at hl4 hr x.o hxr
      rw [ht.why x.o] at hrw
      have hrw' : ∀ k, SCd Try.prog ref16_Why.f [ops l, .agg x.o.cells] [] k 0 (.d (.int .i64 (((tr2 a ca m cm).why x.o : Nat) : Int))) [] := hrw
      have hwy' : ∀ k, SCd Try.prog tree_Tree_Why.f [.ptr 2 0, .agg x.o.cells] (H2 a ca m cm) k 4 (.d (.int .i64 (((tr2 a ca m cm).why x.o : Nat) : Int))) (H2 a ca m cm) := hwy
      have e7 : ((((tr2 a ca m cm).why x.o : Nat) : Int) == (((tr2 a ca m cm).why x.o : Nat) : Int)) = true := by simp
      generalize ((tr2 a ca m cm).why x.o : Nat) = wy at hrw' hwy' e7
      generalize hHe : heldOf A x.who = Hd at hds hheld hH
      refine SW.seq ?_
      (refine SW.regL [0, 1, 3, 4, 5, 6, 7, 8, 9, 10, 11, 12, 13, 14, 15, 16, 18, 23, 98, 106, 116] mixed ?_; (repeat (first | refine RW.ro (And.intro (hx) (e7)) (h := ?_) | refine RW.skip (h := ?_) | refine RW.op (And.intro (hx) (e7)) (h := ?_) | refine RW.opN (And.intro (hx) (e7)) (h := ?_) | refine RW.skip0 (h := ?_) | (refine RW.callC (h := ?_); (first | refine CallP.mk (And.intro (hx) (e7)) (hc := hall _) (h := ?_) | refine CallP.mk (And.intro (hx) (e7)) (hc := hcs _) (h := ?_) | refine CallP.mk (And.intro (hx) (e7)) (hc := hheld _) (h := ?_) | refine CallP.mk (And.intro (hx) (e7)) (hc := hds _) (h := ?_) | refine CallP.mk (And.intro (hx) (e7)) (hc := hwy' _) (h := ?_) | refine CallP.mk (And.intro (hx) (e7)) (hc := hrw' _) (h := ?_) | refine CallP.mk (And.intro (hx) (e7)) (hc := head16_at _) (h := ?_))))); refine RW.nil ⟨by kernel_rfl, Pruned.mk (h := ?_)⟩)
      refine SW.ret ?_
      exact End.mk [] (h4 := rfl)
  · rw [hG] at hG'
    (repeat (first | refine SW.seq ?_ | refine SW.block ?_ | (refine SW.regL [0, 1, 3, 4, 5, 6, 7, 8, 9, 10, 11, 12, 13, 14, 15, 16, 18, 23, 98, 106, 116] mixed ?_; (repeat (first | refine RW.ro (hx) (h := ?_) | refine RW.skip (h := ?_) | refine RW.op (hx) (h := ?_) | refine RW.opN (hx) (h := ?_) | refine RW.skip0 (h := ?_) | (refine RW.callC (h := ?_); (first | refine CallP.mk (hx) (hc := hG' _) (h := ?_) | refine CallP.mk (hx) (hc := head16_at _) (h := ?_))))); refine RW.nil ⟨by kernel_rfl, Pruned.mk (h := ?_)⟩) | refine SW.skip ?_ | refine SW.exit ?_ | refine SW.ret ?_ | refine SW.condT rfl ?_ | refine SW.condF rfl ?_))
    exact End.mk [] (h4 := rfl)
end
end Go.Proofs.Ytmmonbnlleeloaa
