/-
  Trackers: Own, Counts, Stable, Waits.
-/
import Derived.Test.YtdnjkeeiopcipaaW12i
import Derived.Test.YtdnjkeeiopcipaaSlC
set_option linter.unusedSectionVars false
set_option linter.unusedVariables false
set_option linter.unusedSimpArgs false
namespace Go.Proofs.Ytdnjkeeiopcipaa
open Go.Sl Go.Proofs

theorem Tk.mapsok {T : Tk} {kx : Nat} (h1 : T.lt kx) {k : Nat} {o : Ob} (h2 : k < kx) (ho : ∀ q, o.ok q = true) : Hp.ok (fun n => decide (n < kx)) ((k, o) :: T.hp) = true := by
  have := Tk.okk h1
  simp only [Hp.ok, List.all_cons, ho, Bool.and_true, Bool.and_eq_true, decide_eq_true_eq] at this ⊢
  exact ⟨h2, this⟩
theorem vbox_ok (x : Vec) (q : Nat → Bool) : (Ob.box 25 x.cells).ok q = true := rfl
theorem rvV_vec {st : St} {t k ty : Nat} {x : Vec} {r : List RV} {ss : List SV} {ob : Prop} (h1 : st.env.lookup t = some (.ptr k 0)) (h2 : lk st.hp k = some (.box ty x.cells)) (h3 : rvV st r = some (ss, ob)) :
    rvV st (.cell t (some 8) :: r) = some (.agg x.cells :: ss, ldo x.cells 0 (some 8) ∧ ob) := by
  simp only [rvV, h1, h3, cellsAt, h2, ldv, List.drop_zero, Vec.take_all]
/-- What is stable: the replicas' counts met. -/
def Tk.stab (T : Tk) : Vec := Vec.all min ((List.range T.n).map T.cnt)
theorem Tk.row (T : Tk) : ∀ {n : Nat}, n ≤ 8 → (((List.range n).map T.cnt).flatMap Vec.ds).map SV.d = (T.cells.drop 10).take (n * 8)
  | 0, _ | 1, _ | 2, _ | 3, _ | 4, _ | 5, _ | 6, _ | 7, _ | 8, _ => rfl
  | n + 9, h => by omega
theorem Tk.rowi (T : Tk) {n : Nat} (hn : n ≤ 8) (i : Nat) (x : DV) (h : (((List.range n).map T.cnt).flatMap Vec.ds)[i]? = some x) : T.cells[10 + i]? = some (.d x) := by
  have h1 : ((((List.range n).map T.cnt).flatMap Vec.ds).map SV.d)[i]? = some (.d x) := by rw [List.getElem?_map, h]; rfl
  rw [Tk.row T hn, List.getElem?_take] at h1
  split at h1
  · rw [List.getElem?_drop] at h1; exact h1
  · cases h1

section
attribute [local irreducible] SW RW SCd SC CallP Pruned Tk.cells Tk.hp Tk.up Tk.setC Tk.setH Tk.settle Tk.maps
variable {T : Tk} (hs : T.sep) {k : Nat}
include hs in
theorem meetT_at (hn0 : T.n ≠ 0) (hn : T.n ≤ 8) (k : Nat) : SCd Try.prog vector_Meet.f [.bs T.bx 10 T.n] [(T.bx, .box 93 T.cells)] k 0 (.agg T.stab.cells) [(T.bx, .box 93 T.cells)] := by
  have h := (meet_ok ((List.range T.n).map T.cnt) (by simp; omega)).sc (by rfl) k
  simp only [vecs, List.length_map, List.length_range] at h
  exact SC.borrow h (Vec.plain _) hn0 (Tk.rowi T hn)

include hs in
theorem own_at (hlt : T.lt k) (hn0 : T.n ≠ 0) : SCd Try.prog stable_Tracker_Own.f [.ptr T.bx 0] T.hp k 1 (.agg T.has.cells) T.hp := by
  refine Tk.here hs rfl rfl (fun _ => rfl) (fun q h => by simp [SV.oks, SV.ok, h]) ?_
  have hbx := hlt.bx
  refine stable_Tracker_Own.enter (by simp [SV.ok, SV.oks]; omega) (Tk.okk hlt) (by simp) ?_
  unfold stable_Tracker_Own.s
  have uB : List.lookup T.bx T.hp = some (.box 93 T.cells) := Tk.lkb
  have uK : List.lookup k T.hp = none := Tk.lkk hlt (Nat.le_refl _)
  have uH : (T.cells.drop 2).take 8 = T.has.cells := Tk.ldhas T
  have uL : (2 + 8 ≤ T.cells.length) = True := eq_true (by rw [Tk.cells_len]; omega)
  have hlt1 : T.lt (k + 1) := ⟨Nat.lt_succ_of_lt hlt.bx, fun r hr => Nat.lt_succ_of_lt (hlt.nm r hr)⟩
  have f1 := ne4 (show k ≠ T.bx by omega)
  have m1 : hsets (hdels ((k, .box 25 Vec.zero.cells) :: T.hp) T.hp T.hp) T.hp = (k, .box 25 Vec.zero.cells) :: T.hp := Tk.mrg1 hs hlt rfl rfl
  refine SW.seq ?_
  (refine SW.regL [0, 2, 4] mixed ?_; (repeat (first | refine RW.ro (uK) (h := ?_) | refine RW.skip (h := ?_) | refine RW.op (uK) (h := ?_) | refine RW.opN (uK) (h := ?_) | refine RW.skip0 (h := ?_) | (refine RW.callC (h := ?_); (first | refine CallP.mk (uK) (hs := Tk.hsub1 hlt) (hc := none_at hs hlt1 hn0) (h := ?_))))); refine RW.nil ⟨conf_of (by kernel_rfl), Pruned.mk (h := ?_)⟩)
  refine SW.seq (SW.seq ?_)
  (refine SW.regL [0, 2, 4] mixed ?_; (repeat (first | refine RW.ro (m1) (h := ?_) | refine RW.skip (h := ?_) | refine RW.op (m1) (h := ?_) | refine RW.opN (m1) (h := ?_) | refine RW.skip0 (h := ?_) | (refine RW.callC (h := ?_); (first | refine CallP.mk (m1) (hs := Tk.hsub1 hlt) (hc := none_at hs hlt1 hn0) (h := ?_))))); refine RW.nil ⟨conf_of (by kernel_rfl), Pruned.mk (h := ?_)⟩)
  refine SW.condF rfl (SW.skip ?_)
  refine SW.seq ?_
  (refine SW.regL [0, 2, 4] mixed ?_; (repeat (first | refine RW.ro (And.intro (uB) (And.intro (uH) (And.intro (uL) (f1)))) (h := ?_) | refine RW.skip (h := ?_) | refine RW.op (And.intro (uB) (And.intro (uH) (And.intro (uL) (f1)))) (h := ?_) | refine RW.opN (And.intro (uB) (And.intro (uH) (And.intro (uL) (f1)))) (h := ?_) | refine RW.skip0 (h := ?_) | (refine RW.callC (h := ?_); (first | refine CallP.mk (And.intro (uB) (And.intro (uH) (And.intro (uL) (f1)))) (hs := Tk.hsub1 hlt) (hc := none_at hs hlt1 hn0) (h := ?_))))); refine RW.nil ⟨conf_of (by kernel_rfl), Pruned.mk (h := ?_)⟩)
  refine SW.ret ?_
  exact End.mk T.hp (h1 := rvV_vec (k := k) (by simp [List.lookup]) lk_cons_same rfl) (h2 := by simp [ldo]) (h3 := Tk.hsub1 hlt) (h4 := ⟨rfl, rfl⟩) (h6 := Tk.okk hlt1)
include hs in
theorem stable_at (hlt : T.lt k) (hn0 : T.n ≠ 0) (hn : T.n ≤ 8) : SCd Try.prog stable_Tracker_Stable.f [.ptr T.bx 0] T.hp k 1 (.agg T.stab.cells) T.hp := by
  refine Tk.here hs rfl rfl (fun _ => rfl) (fun q h => by simp [SV.oks, SV.ok, h]) ?_
  have hbx := hlt.bx
  refine stable_Tracker_Stable.enter (by simp [SV.ok, SV.oks]; omega) (Tk.okk hlt) (by simp) ?_
  unfold stable_Tracker_Stable.s
  have uB : List.lookup T.bx T.hp = some (.box 93 T.cells) := Tk.lkb
  have uK : List.lookup k T.hp = none := Tk.lkk hlt (Nat.le_refl _)
  have uN : T.cells[0]? = some (.d (.int .i64 T.n)) := Tk.ldn T
  have hlt1 : T.lt (k + 1) := ⟨Nat.lt_succ_of_lt hlt.bx, fun r hr => Nat.lt_succ_of_lt (hlt.nm r hr)⟩
  have f1 := ne4 (show k ≠ T.bx by omega)
  have m1 : hsets (hdels ((k, .box 25 Vec.zero.cells) :: T.hp) T.hp T.hp) T.hp = (k, .box 25 Vec.zero.cells) :: T.hp := Tk.mrg1 hs hlt rfl rfl
  have uRb : hrep T.hp T.bx (.box 93 T.cells) = T.hp := hrep_same uB
  have e0 : ∀ n : Nat, n - 0 = n := fun _ => rfl
  have hsubb : HSub [(T.bx, Ob.box 93 T.cells)] ((k, .box 25 Vec.zero.cells) :: T.hp) := HSub.cons (by rw [lk_cons, if_neg (by omega)]; exact uB) (HSub.nil _)
  have hn2 : ((T.n : Int) ≤ 8) = True := eq_true (by omega)
  refine SW.seq ?_
  (refine SW.regL [0, 2, 4] mixed ?_; (repeat (first | refine RW.ro (uK) (h := ?_) | refine RW.skip (h := ?_) | refine RW.op (uK) (h := ?_) | refine RW.opN (uK) (h := ?_) | refine RW.skip0 (h := ?_) | (refine RW.callC (h := ?_); (first | refine CallP.mk (uK) (hs := Tk.hsub1 hlt) (hc := none_at hs hlt1 hn0) (h := ?_) | refine CallP.mk (uK) (hs := hsubb) (hc := meetT_at hs hn0 hn _) (h := ?_))))); refine RW.nil ⟨conf_of (by kernel_rfl), Pruned.mk (h := ?_)⟩)
  refine SW.seq (SW.seq ?_)
  (refine SW.regL [0, 2, 4] mixed ?_; (repeat (first | refine RW.ro (m1) (h := ?_) | refine RW.skip (h := ?_) | refine RW.op (m1) (h := ?_) | refine RW.opN (m1) (h := ?_) | refine RW.skip0 (h := ?_) | (refine RW.callC (h := ?_); (first | refine CallP.mk (m1) (hs := Tk.hsub1 hlt) (hc := none_at hs hlt1 hn0) (h := ?_) | refine CallP.mk (m1) (hs := hsubb) (hc := meetT_at hs hn0 hn _) (h := ?_))))); refine RW.nil ⟨conf_of (by kernel_rfl), Pruned.mk (h := ?_)⟩)
  refine SW.condF rfl (SW.skip ?_)
  refine SW.seq ?_
  (refine SW.regL [0, 2, 4] mixed ?_; (repeat (first | refine RW.ro (And.intro (uB) (And.intro (uN) (And.intro (uRb) (And.intro (e0) (And.intro (hn2) (f1)))))) (h := ?_) | refine RW.skip (h := ?_) | refine RW.op (And.intro (uB) (And.intro (uN) (And.intro (uRb) (And.intro (e0) (And.intro (hn2) (f1)))))) (h := ?_) | refine RW.opN (And.intro (uB) (And.intro (uN) (And.intro (uRb) (And.intro (e0) (And.intro (hn2) (f1)))))) (h := ?_) | refine RW.skip0 (h := ?_) | (refine RW.callC (h := ?_); (first | refine CallP.mk (And.intro (uB) (And.intro (uN) (And.intro (uRb) (And.intro (e0) (And.intro (hn2) (f1)))))) (hs := Tk.hsub1 hlt) (hc := none_at hs hlt1 hn0) (h := ?_) | refine CallP.mk (And.intro (uB) (And.intro (uN) (And.intro (uRb) (And.intro (e0) (And.intro (hn2) (f1)))))) (hs := hsubb) (hc := meetT_at hs hn0 hn _) (h := ?_))))); refine RW.nil ⟨conf_of (by kernel_rfl), Pruned.mk (h := ?_)⟩)
  refine SW.ret ?_
  exact End.mk T.hp (h1 := rvV_vec (k := k) (by simp [List.lookup]) lk_cons_same rfl) (h2 := by simp [ldo]) (h3 := Tk.hsub1 hlt) (h4 := ⟨rfl, rfl⟩) (h6 := Tk.okk hlt1)

/-- What Counts tells. -/
def Tk.cntV (T : Tk) (r : Nat) : Vec × Nat := if T.n ≤ r then (Vec.zero, 2) else (T.cnt r, 0)
include hs in
theorem counts_at (hlt : T.lt k) (hn0 : T.n ≠ 0) (hn : T.n ≤ 8) (r : Nat) (hr : r < 256) : SCd Try.prog stable_Tracker_Counts.f [.ptr T.bx 0, u8 r] T.hp k 1 (.tup [.agg (T.cntV r).1.cells, i64 (T.cntV r).2]) T.hp := by
  refine Tk.here hs rfl rfl (fun _ => rfl) (fun q h => by simp [SV.oks, SV.ok, h]) ?_
  have hbx := hlt.bx
  refine stable_Tracker_Counts.enter (by simp [SV.ok, SV.oks]; omega) (Tk.okk hlt) (by simp) ?_
  unfold stable_Tracker_Counts.s
  have uB : List.lookup T.bx T.hp = some (.box 93 T.cells) := Tk.lkb
  have uK : List.lookup k T.hp = none := Tk.lkk hlt (Nat.le_refl _)
  have uN : T.cells[0]? = some (.d (.int .i64 T.n)) := Tk.ldn T
  have hlt1 : T.lt (k + 1) := ⟨Nat.lt_succ_of_lt hlt.bx, fun r hr => Nat.lt_succ_of_lt (hlt.nm r hr)⟩
  have f1 := ne4 (show k ≠ T.bx by omega)
  have m1 : hsets (hdels ((k, .box 25 Vec.zero.cells) :: T.hp) T.hp T.hp) T.hp = (k, .box 25 Vec.zero.cells) :: T.hp := Tk.mrg1 hs hlt rfl rfl
  refine SW.seq ?_
  (refine SW.regL [0, 1, 4, 5, 6, 10] mixed ?_; (repeat (first | refine RW.ro (uK) (h := ?_) | refine RW.skip (h := ?_) | refine RW.op (uK) (h := ?_) | refine RW.opN (uK) (h := ?_) | refine RW.skip0 (h := ?_) | (refine RW.callC (h := ?_); (first | refine CallP.mk (uK) (hs := Tk.hsub1 hlt) (hc := none_at hs hlt1 hn0) (h := ?_))))); refine RW.nil ⟨conf_of (by kernel_rfl), Pruned.mk (h := ?_)⟩)
  refine SW.seq (SW.block (SW.seq ?_))
  (refine SW.regL [0, 1, 4, 5, 6, 10] mixed ?_; (repeat (first | refine RW.ro (m1) (h := ?_) | refine RW.skip (h := ?_) | refine RW.op (m1) (h := ?_) | refine RW.opN (m1) (h := ?_) | refine RW.skip0 (h := ?_) | (refine RW.callC (h := ?_); (first | refine CallP.mk (m1) (hs := Tk.hsub1 hlt) (hc := none_at hs hlt1 hn0) (h := ?_))))); refine RW.nil ⟨conf_of (by kernel_rfl), Pruned.mk (h := ?_)⟩)
  refine SW.condF rfl (SW.seq ?_)
  by_cases h : T.n ≤ r
  · have h1 : decide ((r : Int) ≥ T.n) = true := by simp only [decide_eq_true_eq]; omega
    (refine SW.regL [0, 1, 4, 5, 6, 10] mixed ?_; (repeat (first | refine RW.ro (And.intro (uB) (And.intro (uN) (And.intro (h1) (f1)))) (h := ?_) | refine RW.skip (h := ?_) | refine RW.op (And.intro (uB) (And.intro (uN) (And.intro (h1) (f1)))) (h := ?_) | refine RW.opN (And.intro (uB) (And.intro (uN) (And.intro (h1) (f1)))) (h := ?_) | refine RW.skip0 (h := ?_) | (refine RW.callC (h := ?_); (first | refine CallP.mk (And.intro (uB) (And.intro (uN) (And.intro (h1) (f1)))) (hs := Tk.hsub1 hlt) (hc := none_at hs hlt1 hn0) (h := ?_))))); refine RW.nil ⟨conf_of (by kernel_rfl), Pruned.mk (h := ?_)⟩)
    refine SW.condT rfl (SW.seq ?_)
    (refine SW.regL [0, 1, 4, 5, 6, 10] mixed ?_; (repeat (first | refine RW.ro bq_tt (h := ?_) | refine RW.skip (h := ?_) | refine RW.op bq_tt (h := ?_) | refine RW.opN bq_tt (h := ?_) | refine RW.skip0 (h := ?_) | (refine RW.callC (h := ?_); (first | refine CallP.mk bq_tt (hs := Tk.hsub1 hlt) (hc := none_at hs hlt1 hn0) (h := ?_))))); refine RW.nil ⟨conf_of (by kernel_rfl), Pruned.mk (h := ?_)⟩)
    refine SW.ret ?_
    have e : T.cntV r = (Vec.zero, 2) := by unfold Tk.cntV; rw [if_pos h]
    rw [e]
    exact End.mk T.hp (h1 := rvV_vec (k := k) (by simp [List.lookup]) lk_cons_same rfl) (h2 := by simp [ldo]) (h3 := Tk.hsub1 hlt) (h4 := ⟨rfl, rfl⟩) (h6 := Tk.okk hlt1)
  · have h1 : decide ((r : Int) ≥ T.n) = false := by simp only [decide_eq_false_iff_not]; omega
    have h8 : r < 8 := by omega
    have uC : (T.cells.drop (10 + r * 8)).take 8 = (T.cnt r).cells := Tk.ldcnt T h8
    have uL2 : (10 + r * 8 + 8 ≤ T.cells.length) = True := eq_true (by rw [Tk.cells_len]; omega)
    (refine SW.regL [0, 1, 4, 5, 6, 10] mixed ?_; (repeat (first | refine RW.ro (And.intro (uB) (And.intro (uN) (And.intro (h1) (f1)))) (h := ?_) | refine RW.skip (h := ?_) | refine RW.op (And.intro (uB) (And.intro (uN) (And.intro (h1) (f1)))) (h := ?_) | refine RW.opN (And.intro (uB) (And.intro (uN) (And.intro (h1) (f1)))) (h := ?_) | refine RW.skip0 (h := ?_) | (refine RW.callC (h := ?_); (first | refine CallP.mk (And.intro (uB) (And.intro (uN) (And.intro (h1) (f1)))) (hs := Tk.hsub1 hlt) (hc := none_at hs hlt1 hn0) (h := ?_))))); refine RW.nil ⟨conf_of (by kernel_rfl), Pruned.mk (h := ?_)⟩)
    refine SW.condF rfl (SW.skip ?_)
    refine (?_ : Sl.SW _ _ _ _ _ _)
    refine SW.seq ?_
    (refine SW.regL [0, 1, 4, 5, 6, 10] mixed ?_; (repeat (first | refine RW.ro (And.intro (uB) (And.intro (uC) (And.intro (uL2) (f1)))) (h := ?_) | refine RW.skip (h := ?_) | refine RW.op (And.intro (uB) (And.intro (uC) (And.intro (uL2) (f1)))) (h := ?_) | refine RW.opN (And.intro (uB) (And.intro (uC) (And.intro (uL2) (f1)))) (h := ?_) | refine RW.skip0 (h := ?_) | (refine RW.callC (h := ?_); (first | refine CallP.mk (And.intro (uB) (And.intro (uC) (And.intro (uL2) (f1)))) (hs := Tk.hsub1 hlt) (hc := none_at hs hlt1 hn0) (h := ?_))))); refine RW.nil ⟨conf_of (by kernel_rfl), Pruned.mk (h := ?_)⟩)
    refine SW.ret ?_
    have e : T.cntV r = (T.cnt r, 0) := by unfold Tk.cntV; rw [if_neg h]
    rw [e]
    exact End.mk T.hp (h1 := rvV_vec (k := k) (by simp [List.lookup]) lk_cons_same rfl) (h2 := by simp [ldo]) (h3 := Tk.hsub1 hlt) (h4 := ⟨rfl, rfl⟩) (h6 := Tk.okk hlt1)
end
end Go.Proofs.Ytdnjkeeiopcipaa
