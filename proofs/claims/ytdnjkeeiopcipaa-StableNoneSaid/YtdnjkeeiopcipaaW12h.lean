/-
  Trackers: Has.
-/
import Derived.Test.YtdnjkeeiopcipaaW12g
set_option linter.unusedSectionVars false
set_option linter.unusedVariables false
set_option linter.unusedSimpArgs false
namespace Go.Proofs.Ytdnjkeeiopcipaa
open Go.Sl Go.Proofs

/-- What Has leaves, and tells. -/
def Tk.hasV (T : Tk) (v : Vec) : Tk × Nat := if T.may v = false then (T, 2) else if v.above T.has = false then (T, 9) else ((T.setH v).settle, 0)
theorem Tk.settle_bx (T : Tk) : T.settle.bx = T.bx ∧ T.settle.nm = T.nm := ⟨(T.settTo_bx T.n).1, (T.settTo_bx T.n).2.1⟩
theorem Tk.hasV_bx (T : Tk) (v : Vec) : (T.hasV v).1.bx = T.bx ∧ (T.hasV v).1.nm = T.nm := by
  unfold Tk.hasV
  split
  · exact ⟨rfl, rfl⟩
  split
  · exact ⟨rfl, rfl⟩
  · exact Tk.settle_bx (T.setH v)

theorem Tk.drop1 {T : Tk} (hs : T.sep) {k k' kx : Nat} (hlt : T.lt k) {env : List (Nat × SV)} {o : Ob} (h : k ≤ kx) : Weak k ⟨env, (k, o) :: T.hp, k'⟩ ⟨[], T.hp, kx⟩ id :=
  Weak.same h trivial (Hp.ok_less h (Tk.okk hlt)) fun x hx => lk_of_nodup (h := (k, o) :: T.hp) (by rw [List.map_cons, List.nodup_cons]; exact ⟨Tk.out hlt (Nat.le_refl _), Tk.nodup hs⟩) x (List.mem_cons_of_mem _ hx)

section
attribute [local irreducible] SW RW SCd SC CallP Pruned Tk.cells Tk.hp Tk.up Tk.setC Tk.setH Tk.settle
variable {T : Tk} (hs : T.sep) {k : Nat}
include hs in
set_option maxHeartbeats 1000000 in
theorem has_at (hlt : T.lt k) (hn0 : T.n ≠ 0) (hn : T.n ≤ 8) (ho : T.own < 8) (hww : T.ww) (v : Vec) : SCd Try.prog stable_Tracker_Has.f [.ptr T.bx 0, .agg v.cells] T.hp k 5 (i64 (T.hasV v).2) (T.hasV v).1.hp := by
  refine Tk.here hs (T.hasV_bx v).1 (T.hasV_bx v).2 (fun _ => rfl) (fun q h => by simp [SV.oks, SV.ok, h]) ?_
  have hbx := hlt.bx
  have hok0 : ∀ (T' : Tk) kx, T'.bx = T.bx → T'.nm = T.nm → k ≤ kx → Hp.ok (fun n => decide (n < kx)) T'.hp = true := fun T' kx e1 e2 h => Hp.ok_less h (Tk.okk (Tk.lt_of hlt e1 e2))
  refine stable_Tracker_Has.enter (by simp [SV.ok, SV.oks]; omega) (Tk.okk hlt) (by simp) ?_
  unfold stable_Tracker_Has.s
  have uB : List.lookup T.bx T.hp = some (.box 93 T.cells) := Tk.lkb
  have uK : List.lookup k T.hp = none := Tk.lkk hlt (Nat.le_refl _)
  have uH : (T.cells.drop 2).take 8 = T.has.cells := Tk.ldhas T
  have uL : (2 + 8 ≤ T.cells.length) = True := eq_true (by rw [Tk.cells_len]; omega)
  have uS : spl T.cells 2 v.cells = (T.setH v).cells := Tk.splhas T v
  have uR : hrep T.hp T.bx (.box 93 (T.setH v).cells) = (T.setH v).hp := Tk.hreph
  have hlt1 : T.lt (k + 1) := ⟨Nat.lt_succ_of_lt hlt.bx, fun r hr => Nat.lt_succ_of_lt (hlt.nm r hr)⟩
  have hlt2 : (T.setH v).lt (k + 2) := Tk.lt_of (T := T) ⟨by omega, fun r hr => by have := hlt.nm r hr; omega⟩ (by unfold Tk.setH; rfl) (by unfold Tk.setH; rfl)
  have f1 := ne4 (show k ≠ T.bx by omega)
  have m1 : hsets (hdels ((k, .box 25 v.cells) :: T.hp) T.hp T.hp) T.hp = (k, .box 25 v.cells) :: T.hp := Tk.mrg1 hs hlt rfl rfl
  have hS : (T.setH v).bx = T.bx ∧ (T.setH v).nm = T.nm ∧ (T.setH v).n = T.n ∧ (T.setH v).own = T.own ∧ (T.setH v).wt = T.wt := by unfold Tk.setH; exact ⟨rfl, rfl, rfl, rfl, rfl⟩
  have hsS : (T.setH v).sep := Tk.sep_of hs hS.1 hS.2.1
  have m2 : hsets (hdels ((k, .box 25 v.cells) :: (T.setH v).hp) (T.setH v).settle.hp (T.setH v).hp) (T.setH v).settle.hp = (k, .box 25 v.cells) :: (T.setH v).settle.hp :=
    Tk.mrg1 hsS (Tk.lt_of hlt hS.1 hS.2.1) (Tk.settle_bx _).1 (Tk.settle_bx _).2
  have hse := settle_at hsS (k := k + 2) (by rw [hS.2.2.1]; exact hn) (by rw [hS.2.2.2.1]; exact ho) (by unfold Tk.ww; rw [hS.2.2.2.2]; exact hww) hlt2
  rw [hS.1] at hse
  refine SW.seq ?_
  (refine SW.regL [0, 1, 3, 4, 5, 8, 13] mixed ?_; (repeat (first | refine RW.ro (uK) (h := ?_) | refine RW.skip (h := ?_) | refine RW.op (uK) (h := ?_) | refine RW.opN (uK) (h := ?_) | refine RW.skip0 (h := ?_) | (refine RW.callC (h := ?_); (first | refine CallP.mk (uK) (hs := Tk.hsub1 hlt) (hc := none_at hs hlt1 hn0) (h := ?_) | refine CallP.mk (uK) (hs := Tk.hsub1 hlt) (hc := tmay_at hs hlt1 v) (h := ?_) | refine CallP.mk (uK) (hc := above_at _ _ _) (h := ?_) | refine CallP.mk (uK) (hs := Tk.hsub1 (Tk.lt_of hlt hS.1 hS.2.1)) (hc := hse) (h := ?_))))); refine RW.nil ⟨conf_of (by kernel_rfl), Pruned.mk (h := ?_)⟩)
  refine SW.seq (SW.block (SW.seq ?_))
  (refine SW.regL [0, 1, 3, 4, 5, 8, 13] mixed ?_; (repeat (first | refine RW.ro (m1) (h := ?_) | refine RW.skip (h := ?_) | refine RW.op (m1) (h := ?_) | refine RW.opN (m1) (h := ?_) | refine RW.skip0 (h := ?_) | (refine RW.callC (h := ?_); (first | refine CallP.mk (m1) (hs := Tk.hsub1 hlt) (hc := none_at hs hlt1 hn0) (h := ?_) | refine CallP.mk (m1) (hs := Tk.hsub1 hlt) (hc := tmay_at hs hlt1 v) (h := ?_) | refine CallP.mk (m1) (hc := above_at _ _ _) (h := ?_) | refine CallP.mk (m1) (hs := Tk.hsub1 (Tk.lt_of hlt hS.1 hS.2.1)) (hc := hse) (h := ?_))))); refine RW.nil ⟨conf_of (by kernel_rfl), Pruned.mk (h := ?_)⟩)
  refine SW.condF rfl (SW.seq ?_)
  rcases hm : T.may v with _ | _
  · (refine SW.regL [0, 1, 3, 4, 5, 8, 13] mixed ?_; (repeat (first | refine RW.ro (And.intro (m1) (And.intro (hm) (f1))) (h := ?_) | refine RW.skip (h := ?_) | refine RW.op (And.intro (m1) (And.intro (hm) (f1))) (h := ?_) | refine RW.opN (And.intro (m1) (And.intro (hm) (f1))) (h := ?_) | refine RW.skip0 (h := ?_) | (refine RW.callC (h := ?_); (first | refine CallP.mk (And.intro (m1) (And.intro (hm) (f1))) (hs := Tk.hsub1 hlt) (hc := none_at hs hlt1 hn0) (h := ?_) | refine CallP.mk (And.intro (m1) (And.intro (hm) (f1))) (hs := Tk.hsub1 hlt) (hc := tmay_at hs hlt1 v) (h := ?_) | refine CallP.mk (And.intro (m1) (And.intro (hm) (f1))) (hc := above_at _ _ _) (h := ?_) | refine CallP.mk (And.intro (m1) (And.intro (hm) (f1))) (hs := Tk.hsub1 (Tk.lt_of hlt hS.1 hS.2.1)) (hc := hse) (h := ?_))))); refine RW.nil ⟨conf_of (by kernel_rfl), Pruned.mk (h := ?_)⟩)
    refine SW.condT rfl (SW.seq ?_)
    refine SW.weak id (st1 := ⟨[], T.hp, k + 5⟩) ?_ ?_
    · exact Tk.drop1 hs hlt (by omega)
    (refine SW.regL [0, 1, 3, 4, 5, 8, 13] mixed ?_; (repeat (first | refine RW.ro bq_tt (h := ?_) | refine RW.skip (h := ?_) | refine RW.op bq_tt (h := ?_) | refine RW.opN bq_tt (h := ?_) | refine RW.skip0 (h := ?_) | (refine RW.callC (h := ?_); (first | refine CallP.mk bq_tt (hs := Tk.hsub1 hlt) (hc := none_at hs hlt1 hn0) (h := ?_) | refine CallP.mk bq_tt (hs := Tk.hsub1 hlt) (hc := tmay_at hs hlt1 v) (h := ?_) | refine CallP.mk bq_tt (hc := above_at _ _ _) (h := ?_) | refine CallP.mk bq_tt (hs := Tk.hsub1 (Tk.lt_of hlt hS.1 hS.2.1)) (hc := hse) (h := ?_))))); refine RW.nil ⟨conf_of (by kernel_rfl), Pruned.mk (h := ?_)⟩)
    refine SW.ret ?_
    have e : T.hasV v = (T, 2) := by unfold Tk.hasV; rw [if_pos hm]
    rw [e]
    exact End.mk T.hp (h3 := fun _ _ h => h) (h4 := ⟨rfl, rfl⟩) (h6 := hok0 _ _ rfl rfl (by omega))
  (refine SW.regL [0, 1, 3, 4, 5, 8, 13] mixed ?_; (repeat (first | refine RW.ro (And.intro (m1) (And.intro (hm) (f1))) (h := ?_) | refine RW.skip (h := ?_) | refine RW.op (And.intro (m1) (And.intro (hm) (f1))) (h := ?_) | refine RW.opN (And.intro (m1) (And.intro (hm) (f1))) (h := ?_) | refine RW.skip0 (h := ?_) | (refine RW.callC (h := ?_); (first | refine CallP.mk (And.intro (m1) (And.intro (hm) (f1))) (hs := Tk.hsub1 hlt) (hc := none_at hs hlt1 hn0) (h := ?_) | refine CallP.mk (And.intro (m1) (And.intro (hm) (f1))) (hs := Tk.hsub1 hlt) (hc := tmay_at hs hlt1 v) (h := ?_) | refine CallP.mk (And.intro (m1) (And.intro (hm) (f1))) (hc := above_at _ _ _) (h := ?_) | refine CallP.mk (And.intro (m1) (And.intro (hm) (f1))) (hs := Tk.hsub1 (Tk.lt_of hlt hS.1 hS.2.1)) (hc := hse) (h := ?_))))); refine RW.nil ⟨conf_of (by kernel_rfl), Pruned.mk (h := ?_)⟩)
  refine SW.condF rfl (SW.seq ?_)
  rcases ha : v.above T.has with _ | _
  · (refine SW.regL [0, 1, 3, 4, 5, 8, 13] mixed ?_; (repeat (first | refine RW.ro (And.intro (uB) (And.intro (uH) (And.intro (uL) (And.intro (ha) (f1))))) (h := ?_) | refine RW.skip (h := ?_) | refine RW.op (And.intro (uB) (And.intro (uH) (And.intro (uL) (And.intro (ha) (f1))))) (h := ?_) | refine RW.opN (And.intro (uB) (And.intro (uH) (And.intro (uL) (And.intro (ha) (f1))))) (h := ?_) | refine RW.skip0 (h := ?_) | (refine RW.callC (h := ?_); (first | refine CallP.mk (And.intro (uB) (And.intro (uH) (And.intro (uL) (And.intro (ha) (f1))))) (hs := Tk.hsub1 hlt) (hc := none_at hs hlt1 hn0) (h := ?_) | refine CallP.mk (And.intro (uB) (And.intro (uH) (And.intro (uL) (And.intro (ha) (f1))))) (hs := Tk.hsub1 hlt) (hc := tmay_at hs hlt1 v) (h := ?_) | refine CallP.mk (And.intro (uB) (And.intro (uH) (And.intro (uL) (And.intro (ha) (f1))))) (hc := above_at _ _ _) (h := ?_) | refine CallP.mk (And.intro (uB) (And.intro (uH) (And.intro (uL) (And.intro (ha) (f1))))) (hs := Tk.hsub1 (Tk.lt_of hlt hS.1 hS.2.1)) (hc := hse) (h := ?_))))); refine RW.nil ⟨conf_of (by kernel_rfl), Pruned.mk (h := ?_)⟩)
    refine SW.condT rfl (SW.seq ?_)
    refine SW.weak id (st1 := ⟨[], T.hp, k + 5⟩) ?_ ?_
    · exact Tk.drop1 hs hlt (by omega)
    (refine SW.regL [0, 1, 3, 4, 5, 8, 13] mixed ?_; (repeat (first | refine RW.ro bq_tt (h := ?_) | refine RW.skip (h := ?_) | refine RW.op bq_tt (h := ?_) | refine RW.opN bq_tt (h := ?_) | refine RW.skip0 (h := ?_) | (refine RW.callC (h := ?_); (first | refine CallP.mk bq_tt (hs := Tk.hsub1 hlt) (hc := none_at hs hlt1 hn0) (h := ?_) | refine CallP.mk bq_tt (hs := Tk.hsub1 hlt) (hc := tmay_at hs hlt1 v) (h := ?_) | refine CallP.mk bq_tt (hc := above_at _ _ _) (h := ?_) | refine CallP.mk bq_tt (hs := Tk.hsub1 (Tk.lt_of hlt hS.1 hS.2.1)) (hc := hse) (h := ?_))))); refine RW.nil ⟨conf_of (by kernel_rfl), Pruned.mk (h := ?_)⟩)
    refine SW.ret ?_
    have e : T.hasV v = (T, 9) := by unfold Tk.hasV; rw [if_neg (by rw [hm]; simp), if_pos ha]
    rw [e]
    exact End.mk T.hp (h3 := fun _ _ h => h) (h4 := ⟨rfl, rfl⟩) (h6 := hok0 _ _ rfl rfl (by omega))
  (refine SW.regL [0, 1, 3, 4, 5, 8, 13] mixed ?_; (repeat (first | refine RW.ro (And.intro (uB) (And.intro (uH) (And.intro (uL) (And.intro (ha) (f1))))) (h := ?_) | refine RW.skip (h := ?_) | refine RW.op (And.intro (uB) (And.intro (uH) (And.intro (uL) (And.intro (ha) (f1))))) (h := ?_) | refine RW.opN (And.intro (uB) (And.intro (uH) (And.intro (uL) (And.intro (ha) (f1))))) (h := ?_) | refine RW.skip0 (h := ?_) | (refine RW.callC (h := ?_); (first | refine CallP.mk (And.intro (uB) (And.intro (uH) (And.intro (uL) (And.intro (ha) (f1))))) (hs := Tk.hsub1 hlt) (hc := none_at hs hlt1 hn0) (h := ?_) | refine CallP.mk (And.intro (uB) (And.intro (uH) (And.intro (uL) (And.intro (ha) (f1))))) (hs := Tk.hsub1 hlt) (hc := tmay_at hs hlt1 v) (h := ?_) | refine CallP.mk (And.intro (uB) (And.intro (uH) (And.intro (uL) (And.intro (ha) (f1))))) (hc := above_at _ _ _) (h := ?_) | refine CallP.mk (And.intro (uB) (And.intro (uH) (And.intro (uL) (And.intro (ha) (f1))))) (hs := Tk.hsub1 (Tk.lt_of hlt hS.1 hS.2.1)) (hc := hse) (h := ?_))))); refine RW.nil ⟨conf_of (by kernel_rfl), Pruned.mk (h := ?_)⟩)
  refine SW.condF rfl (SW.skip ?_)
  refine (?_ : Sl.SW _ _ _ _ _ _)
  refine SW.seq ?_
  (refine SW.regL [0, 1, 3, 4, 5, 8, 13] mixed ?_; (repeat (first | refine RW.ro (And.intro (uB) (And.intro (uS) (And.intro (uR) (And.intro (uL) (f1))))) (h := ?_) | refine RW.skip (h := ?_) | refine RW.op (And.intro (uB) (And.intro (uS) (And.intro (uR) (And.intro (uL) (f1))))) (h := ?_) | refine RW.opN (And.intro (uB) (And.intro (uS) (And.intro (uR) (And.intro (uL) (f1))))) (h := ?_) | refine RW.skip0 (h := ?_) | (refine RW.callC (h := ?_); (first | refine CallP.mk (And.intro (uB) (And.intro (uS) (And.intro (uR) (And.intro (uL) (f1))))) (hs := Tk.hsub1 hlt) (hc := none_at hs hlt1 hn0) (h := ?_) | refine CallP.mk (And.intro (uB) (And.intro (uS) (And.intro (uR) (And.intro (uL) (f1))))) (hs := Tk.hsub1 hlt) (hc := tmay_at hs hlt1 v) (h := ?_) | refine CallP.mk (And.intro (uB) (And.intro (uS) (And.intro (uR) (And.intro (uL) (f1))))) (hc := above_at _ _ _) (h := ?_) | refine CallP.mk (And.intro (uB) (And.intro (uS) (And.intro (uR) (And.intro (uL) (f1))))) (hs := Tk.hsub1 (Tk.lt_of hlt hS.1 hS.2.1)) (hc := hse) (h := ?_))))); refine RW.nil ⟨conf_of (by kernel_rfl), Pruned.mk (h := ?_)⟩)
  refine SW.seq ?_
  (refine SW.regL [0, 1, 3, 4, 5, 8, 13] mixed ?_; (repeat (first | refine RW.ro (m2) (h := ?_) | refine RW.skip (h := ?_) | refine RW.op (m2) (h := ?_) | refine RW.opN (m2) (h := ?_) | refine RW.skip0 (h := ?_) | (refine RW.callC (h := ?_); (first | refine CallP.mk (m2) (hs := Tk.hsub1 hlt) (hc := none_at hs hlt1 hn0) (h := ?_) | refine CallP.mk (m2) (hs := Tk.hsub1 hlt) (hc := tmay_at hs hlt1 v) (h := ?_) | refine CallP.mk (m2) (hc := above_at _ _ _) (h := ?_) | refine CallP.mk (m2) (hs := Tk.hsub1 (Tk.lt_of hlt hS.1 hS.2.1)) (hc := hse) (h := ?_))))); refine RW.nil ⟨conf_of (by kernel_rfl), Pruned.mk (h := ?_)⟩)
  refine SW.seq ?_
  (refine SW.regL [0, 1, 3, 4, 5, 8, 13] mixed ?_; (repeat (first | refine RW.ro bq_tt (h := ?_) | refine RW.skip (h := ?_) | refine RW.op bq_tt (h := ?_) | refine RW.opN bq_tt (h := ?_) | refine RW.skip0 (h := ?_) | (refine RW.callC (h := ?_); (first | refine CallP.mk bq_tt (hs := Tk.hsub1 hlt) (hc := none_at hs hlt1 hn0) (h := ?_) | refine CallP.mk bq_tt (hs := Tk.hsub1 hlt) (hc := tmay_at hs hlt1 v) (h := ?_) | refine CallP.mk bq_tt (hc := above_at _ _ _) (h := ?_) | refine CallP.mk bq_tt (hs := Tk.hsub1 (Tk.lt_of hlt hS.1 hS.2.1)) (hc := hse) (h := ?_))))); refine RW.nil ⟨conf_of (by kernel_rfl), Pruned.mk (h := ?_)⟩)
  refine SW.ret ?_
  have e : T.hasV v = ((T.setH v).settle, 0) := by unfold Tk.hasV; rw [if_neg (by rw [hm]; simp), if_neg (by rw [ha]; simp)]
  rw [e]
  exact End.mk (T.setH v).settle.hp (h3 := Tk.hsub1 (Tk.lt_of hlt ((Tk.settle_bx _).1.trans hS.1) ((Tk.settle_bx _).2.trans hS.2.1))) (h4 := ⟨rfl, rfl⟩) (h6 := hok0 _ _ ((Tk.settle_bx _).1.trans hS.1) ((Tk.settle_bx _).2.trans hS.2.1) (by omega))
end
end Go.Proofs.Ytdnjkeeiopcipaa
