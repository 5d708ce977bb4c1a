/-
  Trackers: none, may, Has, Counts, Own.
-/
import Derived.Test.YtdnjkeeiopcipaaQ2
import Derived.Test.YtdnjkeeiopcipaaP6
set_option linter.unusedSectionVars false
set_option linter.unusedVariables false
set_option linter.unusedSimpArgs false
namespace Go.Proofs.Ytdnjkeeiopcipaa
open Go.Sl Go.Proofs

theorem Tk.here {P : Program} {f : FuncId} {args : List SV} {T T' : Tk} {k nk : Nat} {v : SV} (hs : T.sep) (h1 : T'.bx = T.bx) (h2 : T'.nm = T.nm) (hv : ∀ q, v.ok q = true) (ha : ∀ q, q T.bx = true → SV.oks q args = true)
    (h : SB P f args T.hp k nk fun x F => x = v ∧ F = T'.hp) : SCd P f args T.hp k nk v T'.hp := by
  have a2 : (lk T.hp T.bx).isSome = true := by rw [show lk T.hp T.bx = _ from Tk.lkb]; rfl
  have a3 : ∀ r, r < 8 → (lk T.hp (T.nm r)).isSome = true := fun r hr => by rw [show lk T.hp (T.nm r) = _ from Tk.lkm hs hr]; rfl
  refine h.here (fun n => (lk T.hp n).isSome) (fun n h e => by rw [e] at h; cases h) (ha _ a2) (Tk.ok a2 a3) ?_
  rintro x F ⟨rfl, rfl⟩ _ _
  exact ⟨hv _, Tk.ok (by rw [h1]; simp only [a2, Bool.true_or]) fun r hr => by rw [h2]; simp only [a3 r hr, Bool.true_or]⟩

def Tk.may (T : Tk) (v : Vec) : Bool := (List.range 8).all fun r => decide (r < T.n) || decide (v.get r = 0)

section
attribute [local irreducible] SW RW SCd SC CallP Pruned Tk.cells Tk.hp Tk.up Tk.setC Tk.setH
variable {T : Tk} (hs : T.sep) {k : Nat}
include hs in
theorem none_at (hlt : T.lt k) (hn : T.n ≠ 0) : SCd Try.prog stable_Tracker_none.f [.ptr T.bx 0] T.hp k 0 (bl false) T.hp := by
  refine Tk.here hs rfl rfl (fun _ => rfl) (fun q h => by simp [SV.oks, SV.ok, h]) ?_
  have hbx := hlt.bx
  refine stable_Tracker_none.enter (by simp [SV.ok, SV.oks]; omega) (Tk.okk hlt) (by simp) ?_
  unfold stable_Tracker_none.s
  have uB : List.lookup T.bx T.hp = some (.box 93 T.cells) := Tk.lkb
  have uN : T.cells[0]? = some (.d (.int .i64 T.n)) := Tk.ldn T
  have h1 : ((T.n : Int) == 0) = false := by simpa using hn
  refine SW.seq ?_
  (refine SW.regL [0, 2] mixed ?_; (repeat (first | refine RW.ro bq_tt (h := ?_) | refine RW.skip (h := ?_) | refine RW.op bq_tt (h := ?_) | refine RW.opN bq_tt (h := ?_) | refine RW.skip0 (h := ?_))); refine RW.nil ⟨conf_of (by kernel_rfl), Pruned.mk (h := ?_)⟩)
  refine SW.seq ?_
  (refine SW.regL [0, 2] mixed ?_; (repeat (first | refine RW.ro (And.intro (uB) (And.intro (uN) (h1))) (h := ?_) | refine RW.skip (h := ?_) | refine RW.op (And.intro (uB) (And.intro (uN) (h1))) (h := ?_) | refine RW.opN (And.intro (uB) (And.intro (uN) (h1))) (h := ?_) | refine RW.skip0 (h := ?_))); refine RW.nil ⟨conf_of (by kernel_rfl), Pruned.mk (h := ?_)⟩)
  refine SW.ret ?_
  exact End.mk T.hp (h3 := fun _ _ h => h) (h4 := ⟨rfl, rfl⟩) (h6 := Tk.okk hlt)
include hs in
set_option maxHeartbeats 1000000 in
theorem tmay_at (hlt : T.lt k) (v : Vec) : SCd Try.prog stable_Tracker_may.f [.ptr T.bx 0, .agg v.cells] T.hp k 1 (bl (T.may v)) T.hp := by
  refine Tk.here hs rfl rfl (fun _ => rfl) (fun q h => by simp [SV.oks, SV.ok, h]) ?_
  have hbx := hlt.bx
  have hok1 : ∀ kx, k + 1 ≤ kx → Hp.ok (fun n => decide (n < kx)) ((k, .box 25 v.cells) :: T.hp) = true := fun kx h => by
    have := Hp.ok_less (show k ≤ kx by omega) (Tk.okk hlt)
    simp only [Hp.ok, List.all_cons, Ob.ok, Vec.cells_ok, Bool.and_true, Bool.and_eq_true, decide_eq_true_eq] at this ⊢
    exact ⟨by omega, this⟩
  have hn1 : (((k, .box 25 v.cells) :: T.hp : Hp).map (·.1)).Nodup := by
    rw [List.map_cons, List.nodup_cons]
    exact ⟨Tk.out hlt (Nat.le_refl _), Tk.nodup hs⟩
  refine stable_Tracker_may.enter (by simp [SV.ok, SV.oks]; omega) (Tk.okk hlt) (by simp) ?_
  unfold stable_Tracker_may.s
  have uB : List.lookup T.bx T.hp = some (.box 93 T.cells) := Tk.lkb
  have uN : T.cells[0]? = some (.d (.int .i64 T.n)) := Tk.ldn T
  have uK : List.lookup k T.hp = none := Tk.lkk hlt (Nat.le_refl _)
  have f1 := ne4 (show k ≠ T.bx by omega)
  refine SW.seq ?_
  (refine SW.regL [0, 1, 3, 4, 5, 6, 7, 8, 9, 21] mixed ?_; (repeat (first | refine RW.ro (uK) (h := ?_) | refine RW.skip (h := ?_) | refine RW.op (uK) (h := ?_) | refine RW.opN (uK) (h := ?_) | refine RW.skip0 (h := ?_))); refine RW.nil ⟨conf_of (by kernel_rfl), Pruned.mk (h := ?_)⟩)
  refine SW.seq (SW.seq ?_)
  (refine SW.regL [0, 1, 3, 4, 5, 6, 7, 8, 9, 21] mixed ?_; (repeat (first | refine RW.ro (uK) (h := ?_) | refine RW.skip (h := ?_) | refine RW.op (uK) (h := ?_) | refine RW.opN (uK) (h := ?_) | refine RW.skip0 (h := ?_))); refine RW.nil ⟨conf_of (by kernel_rfl), Pruned.mk (h := ?_)⟩)
  refine SW.block (SW.loop (α := {i : Nat // i ≤ 8 ∧ ∀ r, r < i → r < T.n ∨ v.get r = 0}) (fun i => ⟨[(8, i64 i.1), (0, .ptr T.bx 0), (7, .agg v.cells)], (k, .box 25 v.cells) :: T.hp, k + 1⟩) (fun i => 8 - i.1) ⟨0, by omega, by omega⟩ id ?_ ?_)
  · exact Weak.same (by simp) (by simp [EnvW, List.lookup, SV.ren, SV.rens, SV.ok, SV.oks, Vec.cells_ren, Vec.cells_ok]; try omega) (hok1 _ (Nat.le_refl _)) (lk_of_nodup hn1)
  rintro ⟨i, hi, hall⟩
  dsimp only
  by_cases h : i < 8
  · have h1 : decide ((i : Int) < 8) = true := by simp only [decide_eq_true_eq]; omega
    have g8 := Vec.cells_get v h
    refine SW.seq ?_
    (refine SW.regL [0, 1, 3, 4, 5, 6, 7, 8, 9, 21] mixed ?_; (repeat (first | refine RW.ro (h1) (h := ?_) | refine RW.skip (h := ?_) | refine RW.op (h1) (h := ?_) | refine RW.opN (h1) (h := ?_) | refine RW.skip0 (h := ?_))); refine RW.nil ⟨conf_of (by kernel_rfl), Pruned.mk (h := ?_)⟩)
    refine SW.seq (SW.condT rfl (SW.skip ?_))
    refine SW.seq (SW.block (SW.seq ?_))
    (refine SW.regL [0, 1, 3, 4, 5, 6, 7, 8, 9, 21] mixed ?_; (repeat (first | refine RW.ro (g8) (h := ?_) | refine RW.skip (h := ?_) | refine RW.op (g8) (h := ?_) | refine RW.opN (g8) (h := ?_) | refine RW.skip0 (h := ?_))); refine RW.nil ⟨conf_of (by kernel_rfl), Pruned.mk (h := ?_)⟩)
    by_cases h2 : T.n ≤ i ∧ v.get i ≠ 0
    · have h3 : decide ((i : Int) ≥ T.n) = true := by simp only [decide_eq_true_eq]; omega
      have h4 : decide ((v.get i : Int) > 0) = true := by simp only [decide_eq_true_eq]; omega
      refine SW.seq ?_
      (refine SW.regL [0, 1, 3, 4, 5, 6, 7, 8, 9, 21] mixed ?_; (repeat (first | refine RW.ro (And.intro (uB) (And.intro (uN) (And.intro (f1) (And.intro (h3) (h4))))) (h := ?_) | refine RW.skip (h := ?_) | refine RW.op (And.intro (uB) (And.intro (uN) (And.intro (f1) (And.intro (h3) (h4))))) (h := ?_) | refine RW.opN (And.intro (uB) (And.intro (uN) (And.intro (f1) (And.intro (h3) (h4))))) (h := ?_) | refine RW.skip0 (h := ?_))); refine RW.nil ⟨conf_of (by kernel_rfl), Pruned.mk (h := ?_)⟩)
      refine SW.condT rfl (SW.seq ?_)
      (refine SW.regL [0, 1, 3, 4, 5, 6, 7, 8, 9, 21] mixed ?_; (repeat (first | refine RW.ro bq_tt (h := ?_) | refine RW.skip (h := ?_) | refine RW.op bq_tt (h := ?_) | refine RW.opN bq_tt (h := ?_) | refine RW.skip0 (h := ?_))); refine RW.nil ⟨conf_of (by kernel_rfl), Pruned.mk (h := ?_)⟩)
      refine SW.ret ?_
      have e : T.may v = false := by
        unfold Tk.may
        rw [List.all_eq_false]
        exact ⟨i, by simpa using h, by simp; omega⟩
      rw [e]
      exact End.mk T.hp (h3 := Tk.hsub1 hlt) (h4 := ⟨rfl, rfl⟩) (h6 := Hp.ok_less (by omega) (Tk.okk hlt))
    · have hb : (if decide ((i : Int) ≥ T.n) = true then decide ((v.get i : Int) > 0) else false) = false := by
        split
        · rename_i h3
          simp only [decide_eq_true_eq] at h3
          simp only [decide_eq_false_iff_not]; omega
        · rfl
      refine SW.seq ?_
      rcases h3 : decide ((i : Int) ≥ T.n) with _ | _
      · (refine SW.regL [0, 1, 3, 4, 5, 6, 7, 8, 9, 21] mixed ?_; (repeat (first | refine RW.ro (And.intro (uB) (And.intro (uN) (And.intro (f1) (h3)))) (h := ?_) | refine RW.skip (h := ?_) | refine RW.op (And.intro (uB) (And.intro (uN) (And.intro (f1) (h3)))) (h := ?_) | refine RW.opN (And.intro (uB) (And.intro (uN) (And.intro (f1) (h3)))) (h := ?_) | refine RW.skip0 (h := ?_))); refine RW.nil ⟨conf_of (by kernel_rfl), Pruned.mk (h := ?_)⟩)
        refine SW.condF rfl (SW.skip ?_)
        (refine SW.regL [0, 1, 3, 4, 5, 6, 7, 8, 9, 21] mixed ?_; (repeat (first | refine RW.ro bq_tt (h := ?_) | refine RW.skip (h := ?_) | refine RW.op bq_tt (h := ?_) | refine RW.opN bq_tt (h := ?_) | refine RW.skip0 (h := ?_))); refine RW.nil ⟨conf_of (by kernel_rfl), Pruned.mk (h := ?_)⟩)
        exact ⟨⟨i + 1, by omega, fun r hr => by rcases Nat.lt_succ_iff_lt_or_eq.1 hr with hr | rfl; exact hall r hr; omega⟩, id, by simp; omega, Weak.same (by simp) (by simp [EnvW, List.lookup, SV.ren, SV.rens, SV.ok, SV.oks, Vec.cells_ren, Vec.cells_ok]; try omega) (hok1 _ (Nat.le_refl _)) (lk_of_nodup hn1)⟩
      · have h4 : decide ((v.get i : Int) > 0) = false := by rw [h3] at hb; simpa using hb
        (refine SW.regL [0, 1, 3, 4, 5, 6, 7, 8, 9, 21] mixed ?_; (repeat (first | refine RW.ro (And.intro (uB) (And.intro (uN) (And.intro (f1) (And.intro (h3) (h4))))) (h := ?_) | refine RW.skip (h := ?_) | refine RW.op (And.intro (uB) (And.intro (uN) (And.intro (f1) (And.intro (h3) (h4))))) (h := ?_) | refine RW.opN (And.intro (uB) (And.intro (uN) (And.intro (f1) (And.intro (h3) (h4))))) (h := ?_) | refine RW.skip0 (h := ?_))); refine RW.nil ⟨conf_of (by kernel_rfl), Pruned.mk (h := ?_)⟩)
        refine SW.condF rfl (SW.skip ?_)
        (refine SW.regL [0, 1, 3, 4, 5, 6, 7, 8, 9, 21] mixed ?_; (repeat (first | refine RW.ro bq_tt (h := ?_) | refine RW.skip (h := ?_) | refine RW.op bq_tt (h := ?_) | refine RW.opN bq_tt (h := ?_) | refine RW.skip0 (h := ?_))); refine RW.nil ⟨conf_of (by kernel_rfl), Pruned.mk (h := ?_)⟩)
        exact ⟨⟨i + 1, by omega, fun r hr => by rcases Nat.lt_succ_iff_lt_or_eq.1 hr with hr | rfl; exact hall r hr; omega⟩, id, by simp; omega, Weak.same (by simp) (by simp [EnvW, List.lookup, SV.ren, SV.rens, SV.ok, SV.oks, Vec.cells_ren, Vec.cells_ok]; try omega) (hok1 _ (Nat.le_refl _)) (lk_of_nodup hn1)⟩
  · have h1 : decide ((i : Int) < 8) = false := by simp only [decide_eq_false_iff_not]; omega
    refine SW.seq ?_
    (refine SW.regL [0, 1, 3, 4, 5, 6, 7, 8, 9, 21] mixed ?_; (repeat (first | refine RW.ro (h1) (h := ?_) | refine RW.skip (h := ?_) | refine RW.op (h1) (h := ?_) | refine RW.opN (h1) (h := ?_) | refine RW.skip0 (h := ?_))); refine RW.nil ⟨conf_of (by kernel_rfl), Pruned.mk (h := ?_)⟩)
    refine SW.seq (SW.condF rfl (SW.exit ?_))
    refine (?_ : Sl.SW _ _ _ _ _ _)
    refine SW.seq ?_
    (refine SW.regL [0, 1, 3, 4, 5, 6, 7, 8, 9, 21] mixed ?_; (repeat (first | refine RW.ro bq_tt (h := ?_) | refine RW.skip (h := ?_) | refine RW.op bq_tt (h := ?_) | refine RW.opN bq_tt (h := ?_) | refine RW.skip0 (h := ?_))); refine RW.nil ⟨conf_of (by kernel_rfl), Pruned.mk (h := ?_)⟩)
    refine SW.ret ?_
    have e : T.may v = true := by
      unfold Tk.may
      rw [List.all_eq_true]
      intro r hr
      have := hall r (by have : r < 8 := by simpa using hr
                         omega)
      simp; omega
    rw [e]
    exact End.mk T.hp (h3 := Tk.hsub1 hlt) (h4 := ⟨rfl, rfl⟩) (h6 := Hp.ok_less (by omega) (Tk.okk hlt))
end
end Go.Proofs.Ytdnjkeeiopcipaa

/-
  Trackers: Has.
-/
set_option linter.unusedSectionVars false
set_option linter.unusedVariables false
set_option linter.unusedSimpArgs false
namespace Go.Proofs.Ytdnjkeeiopcipaa
open Go.Sl Go.Proofs

/-- What Has leaves, and tells. -/
def Tk.hasV (T : Tk) (v : Vec) : Tk × Nat := if T.may v = false then (T, 2) else if v.above T.has = false then (T, 9) else ((T.setH v).settle, 0)
theorem Tk.settle_bx (T : Tk) : T.settle.bx = T.bx ∧ T.settle.nm = T.nm := ⟨(T.settTo_bx T.n).1, (T.settTo_bx T.n).2.1⟩
theorem Tk.hasV_bx (T : Tk) (v : Vec) : (T.hasV v).1.bx = T.bx ∧ (T.hasV v).1.nm = T.nm := by
  unfold Tk.hasV
  split
  · exact ⟨rfl, rfl⟩
  split
  · exact ⟨rfl, rfl⟩
  · exact Tk.settle_bx (T.setH v)

theorem Tk.drop1 {T : Tk} (hs : T.sep) {k k' kx : Nat} (hlt : T.lt k) {env : List (Nat × SV)} {o : Ob} (h : k ≤ kx) : Weak k ⟨env, (k, o) :: T.hp, k'⟩ ⟨[], T.hp, kx⟩ id :=
  Weak.same h trivial (Hp.ok_less h (Tk.okk hlt)) fun x hx => lk_of_nodup (h := (k, o) :: T.hp) (by rw [List.map_cons, List.nodup_cons]; exact ⟨Tk.out hlt (Nat.le_refl _), Tk.nodup hs⟩) x (List.mem_cons_of_mem _ hx)

section
attribute [local irreducible] SW RW SCd SC CallP Pruned Tk.cells Tk.hp Tk.up Tk.setC Tk.setH Tk.settle
variable {T : Tk} (hs : T.sep) {k : Nat}
include hs in
set_option maxHeartbeats 1000000 in
theorem has_at (hlt : T.lt k) (hn0 : T.n ≠ 0) (hn : T.n ≤ 8) (ho : T.own < 8) (hww : T.ww) (v : Vec) : SCd Try.prog stable_Tracker_Has.f [.ptr T.bx 0, .agg v.cells] T.hp k 5 (i64 (T.hasV v).2) (T.hasV v).1.hp := by
  refine Tk.here hs (T.hasV_bx v).1 (T.hasV_bx v).2 (fun _ => rfl) (fun q h => by simp [SV.oks, SV.ok, h]) ?_
  have hbx := hlt.bx
  have hok0 : ∀ (T' : Tk) kx, T'.bx = T.bx → T'.nm = T.nm → k ≤ kx → Hp.ok (fun n => decide (n < kx)) T'.hp = true := fun T' kx e1 e2 h => Hp.ok_less h (Tk.okk (Tk.lt_of hlt e1 e2))
  refine stable_Tracker_Has.enter (by simp [SV.ok, SV.oks]; omega) (Tk.okk hlt) (by simp) ?_
  unfold stable_Tracker_Has.s
  have uB : List.lookup T.bx T.hp = some (.box 93 T.cells) := Tk.lkb
  have uK : List.lookup k T.hp = none := Tk.lkk hlt (Nat.le_refl _)
  have uH : (T.cells.drop 2).take 8 = T.has.cells := Tk.ldhas T
  have uL : (2 + 8 ≤ T.cells.length) = True := eq_true (by rw [Tk.cells_len]; omega)
  have uS : spl T.cells 2 v.cells = (T.setH v).cells := Tk.splhas T v
  have uR : hrep T.hp T.bx (.box 93 (T.setH v).cells) = (T.setH v).hp := Tk.hreph
  have hlt1 : T.lt (k + 1) := ⟨Nat.lt_succ_of_lt hlt.bx, fun r hr => Nat.lt_succ_of_lt (hlt.nm r hr)⟩
  have hlt2 : (T.setH v).lt (k + 2) := Tk.lt_of (T := T) ⟨by omega, fun r hr => by have := hlt.nm r hr; omega⟩ (by unfold Tk.setH; rfl) (by unfold Tk.setH; rfl)
  have f1 := ne4 (show k ≠ T.bx by omega)
  have m1 : hsets (hdels ((k, .box 25 v.cells) :: T.hp) T.hp T.hp) T.hp = (k, .box 25 v.cells) :: T.hp := Tk.mrg1 hs hlt rfl rfl
  have hS : (T.setH v).bx = T.bx ∧ (T.setH v).nm = T.nm ∧ (T.setH v).n = T.n ∧ (T.setH v).own = T.own ∧ (T.setH v).wt = T.wt := by unfold Tk.setH; exact ⟨rfl, rfl, rfl, rfl, rfl⟩
  have hsS : (T.setH v).sep := Tk.sep_of hs hS.1 hS.2.1
  have m2 : hsets (hdels ((k, .box 25 v.cells) :: (T.setH v).hp) (T.setH v).settle.hp (T.setH v).hp) (T.setH v).settle.hp = (k, .box 25 v.cells) :: (T.setH v).settle.hp :=
    Tk.mrg1 hsS (Tk.lt_of hlt hS.1 hS.2.1) (Tk.settle_bx _).1 (Tk.settle_bx _).2
  have hse := settle_at hsS (k := k + 2) (by rw [hS.2.2.1]; exact hn) (by rw [hS.2.2.2.1]; exact ho) (by unfold Tk.ww; rw [hS.2.2.2.2]; exact hww) hlt2
  rw [hS.1] at hse
  refine SW.seq ?_
  (refine SW.regL [0, 1, 3, 4, 5, 8, 13] mixed ?_; (repeat (first | refine RW.ro (uK) (h := ?_) | refine RW.skip (h := ?_) | refine RW.op (uK) (h := ?_) | refine RW.opN (uK) (h := ?_) | refine RW.skip0 (h := ?_) | (refine RW.callC (h := ?_); (first | refine CallP.mk (uK) (hs := Tk.hsub1 hlt) (hc := none_at hs hlt1 hn0) (h := ?_) | refine CallP.mk (uK) (hs := Tk.hsub1 hlt) (hc := tmay_at hs hlt1 v) (h := ?_) | refine CallP.mk (uK) (hc := above_at _ _ _) (h := ?_) | refine CallP.mk (uK) (hs := Tk.hsub1 (Tk.lt_of hlt hS.1 hS.2.1)) (hc := hse) (h := ?_))))); refine RW.nil ⟨conf_of (by kernel_rfl), Pruned.mk (h := ?_)⟩)
  refine SW.seq (SW.block (SW.seq ?_))
  (refine SW.regL [0, 1, 3, 4, 5, 8, 13] mixed ?_; (repeat (first | refine RW.ro (m1) (h := ?_) | refine RW.skip (h := ?_) | refine RW.op (m1) (h := ?_) | refine RW.opN (m1) (h := ?_) | refine RW.skip0 (h := ?_) | (refine RW.callC (h := ?_); (first | refine CallP.mk (m1) (hs := Tk.hsub1 hlt) (hc := none_at hs hlt1 hn0) (h := ?_) | refine CallP.mk (m1) (hs := Tk.hsub1 hlt) (hc := tmay_at hs hlt1 v) (h := ?_) | refine CallP.mk (m1) (hc := above_at _ _ _) (h := ?_) | refine CallP.mk (m1) (hs := Tk.hsub1 (Tk.lt_of hlt hS.1 hS.2.1)) (hc := hse) (h := ?_))))); refine RW.nil ⟨conf_of (by kernel_rfl), Pruned.mk (h := ?_)⟩)
  refine SW.condF rfl (SW.seq ?_)
  rcases hm : T.may v with _ | _
  · (refine SW.regL [0, 1, 3, 4, 5, 8, 13] mixed ?_; (repeat (first | refine RW.ro (And.intro (m1) (And.intro (hm) (f1))) (h := ?_) | refine RW.skip (h := ?_) | refine RW.op (And.intro (m1) (And.intro (hm) (f1))) (h := ?_) | refine RW.opN (And.intro (m1) (And.intro (hm) (f1))) (h := ?_) | refine RW.skip0 (h := ?_) | (refine RW.callC (h := ?_); (first | refine CallP.mk (And.intro (m1) (And.intro (hm) (f1))) (hs := Tk.hsub1 hlt) (hc := none_at hs hlt1 hn0) (h := ?_) | refine CallP.mk (And.intro (m1) (And.intro (hm) (f1))) (hs := Tk.hsub1 hlt) (hc := tmay_at hs hlt1 v) (h := ?_) | refine CallP.mk (And.intro (m1) (And.intro (hm) (f1))) (hc := above_at _ _ _) (h := ?_) | refine CallP.mk (And.intro (m1) (And.intro (hm) (f1))) (hs := Tk.hsub1 (Tk.lt_of hlt hS.1 hS.2.1)) (hc := hse) (h := ?_))))); refine RW.nil ⟨conf_of (by kernel_rfl), Pruned.mk (h := ?_)⟩)
    refine SW.condT rfl (SW.seq ?_)
    refine SW.weak id (st1 := ⟨[], T.hp, k + 5⟩) ?_ ?_
    · exact Tk.drop1 hs hlt (by omega)
    (refine SW.regL [0, 1, 3, 4, 5, 8, 13] mixed ?_; (repeat (first | refine RW.ro bq_tt (h := ?_) | refine RW.skip (h := ?_) | refine RW.op bq_tt (h := ?_) | refine RW.opN bq_tt (h := ?_) | refine RW.skip0 (h := ?_) | (refine RW.callC (h := ?_); (first | refine CallP.mk bq_tt (hs := Tk.hsub1 hlt) (hc := none_at hs hlt1 hn0) (h := ?_) | refine CallP.mk bq_tt (hs := Tk.hsub1 hlt) (hc := tmay_at hs hlt1 v) (h := ?_) | refine CallP.mk bq_tt (hc := above_at _ _ _) (h := ?_) | refine CallP.mk bq_tt (hs := Tk.hsub1 (Tk.lt_of hlt hS.1 hS.2.1)) (hc := hse) (h := ?_))))); refine RW.nil ⟨conf_of (by kernel_rfl), Pruned.mk (h := ?_)⟩)
    refine SW.ret ?_
    have e : T.hasV v = (T, 2) := by unfold Tk.hasV; rw [if_pos hm]
    rw [e]
    exact End.mk T.hp (h3 := fun _ _ h => h) (h4 := ⟨rfl, rfl⟩) (h6 := hok0 _ _ rfl rfl (by omega))
  (refine SW.regL [0, 1, 3, 4, 5, 8, 13] mixed ?_; (repeat (first | refine RW.ro (And.intro (m1) (And.intro (hm) (f1))) (h := ?_) | refine RW.skip (h := ?_) | refine RW.op (And.intro (m1) (And.intro (hm) (f1))) (h := ?_) | refine RW.opN (And.intro (m1) (And.intro (hm) (f1))) (h := ?_) | refine RW.skip0 (h := ?_) | (refine RW.callC (h := ?_); (first | refine CallP.mk (And.intro (m1) (And.intro (hm) (f1))) (hs := Tk.hsub1 hlt) (hc := none_at hs hlt1 hn0) (h := ?_) | refine CallP.mk (And.intro (m1) (And.intro (hm) (f1))) (hs := Tk.hsub1 hlt) (hc := tmay_at hs hlt1 v) (h := ?_) | refine CallP.mk (And.intro (m1) (And.intro (hm) (f1))) (hc := above_at _ _ _) (h := ?_) | refine CallP.mk (And.intro (m1) (And.intro (hm) (f1))) (hs := Tk.hsub1 (Tk.lt_of hlt hS.1 hS.2.1)) (hc := hse) (h := ?_))))); refine RW.nil ⟨conf_of (by kernel_rfl), Pruned.mk (h := ?_)⟩)
  refine SW.condF rfl (SW.seq ?_)
  rcases ha : v.above T.has with _ | _
  · (refine SW.regL [0, 1, 3, 4, 5, 8, 13] mixed ?_; (repeat (first | refine RW.ro (And.intro (uB) (And.intro (uH) (And.intro (uL) (And.intro (ha) (f1))))) (h := ?_) | refine RW.skip (h := ?_) | refine RW.op (And.intro (uB) (And.intro (uH) (And.intro (uL) (And.intro (ha) (f1))))) (h := ?_) | refine RW.opN (And.intro (uB) (And.intro (uH) (And.intro (uL) (And.intro (ha) (f1))))) (h := ?_) | refine RW.skip0 (h := ?_) | (refine RW.callC (h := ?_); (first | refine CallP.mk (And.intro (uB) (And.intro (uH) (And.intro (uL) (And.intro (ha) (f1))))) (hs := Tk.hsub1 hlt) (hc := none_at hs hlt1 hn0) (h := ?_) | refine CallP.mk (And.intro (uB) (And.intro (uH) (And.intro (uL) (And.intro (ha) (f1))))) (hs := Tk.hsub1 hlt) (hc := tmay_at hs hlt1 v) (h := ?_) | refine CallP.mk (And.intro (uB) (And.intro (uH) (And.intro (uL) (And.intro (ha) (f1))))) (hc := above_at _ _ _) (h := ?_) | refine CallP.mk (And.intro (uB) (And.intro (uH) (And.intro (uL) (And.intro (ha) (f1))))) (hs := Tk.hsub1 (Tk.lt_of hlt hS.1 hS.2.1)) (hc := hse) (h := ?_))))); refine RW.nil ⟨conf_of (by kernel_rfl), Pruned.mk (h := ?_)⟩)
    refine SW.condT rfl (SW.seq ?_)
    refine SW.weak id (st1 := ⟨[], T.hp, k + 5⟩) ?_ ?_
    · exact Tk.drop1 hs hlt (by omega)
    (refine SW.regL [0, 1, 3, 4, 5, 8, 13] mixed ?_; (repeat (first | refine RW.ro bq_tt (h := ?_) | refine RW.skip (h := ?_) | refine RW.op bq_tt (h := ?_) | refine RW.opN bq_tt (h := ?_) | refine RW.skip0 (h := ?_) | (refine RW.callC (h := ?_); (first | refine CallP.mk bq_tt (hs := Tk.hsub1 hlt) (hc := none_at hs hlt1 hn0) (h := ?_) | refine CallP.mk bq_tt (hs := Tk.hsub1 hlt) (hc := tmay_at hs hlt1 v) (h := ?_) | refine CallP.mk bq_tt (hc := above_at _ _ _) (h := ?_) | refine CallP.mk bq_tt (hs := Tk.hsub1 (Tk.lt_of hlt hS.1 hS.2.1)) (hc := hse) (h := ?_))))); refine RW.nil ⟨conf_of (by kernel_rfl), Pruned.mk (h := ?_)⟩)
    refine SW.ret ?_
    have e : T.hasV v = (T, 9) := by unfold Tk.hasV; rw [if_neg (by rw [hm]; simp), if_pos ha]
    rw [e]
    exact End.mk T.hp (h3 := fun _ _ h => h) (h4 := ⟨rfl, rfl⟩) (h6 := hok0 _ _ rfl rfl (by omega))
  (refine SW.regL [0, 1, 3, 4, 5, 8, 13] mixed ?_; (repeat (first | refine RW.ro (And.intro (uB) (And.intro (uH) (And.intro (uL) (And.intro (ha) (f1))))) (h := ?_) | refine RW.skip (h := ?_) | refine RW.op (And.intro (uB) (And.intro (uH) (And.intro (uL) (And.intro (ha) (f1))))) (h := ?_) | refine RW.opN (And.intro (uB) (And.intro (uH) (And.intro (uL) (And.intro (ha) (f1))))) (h := ?_) | refine RW.skip0 (h := ?_) | (refine RW.callC (h := ?_); (first | refine CallP.mk (And.intro (uB) (And.intro (uH) (And.intro (uL) (And.intro (ha) (f1))))) (hs := Tk.hsub1 hlt) (hc := none_at hs hlt1 hn0) (h := ?_) | refine CallP.mk (And.intro (uB) (And.intro (uH) (And.intro (uL) (And.intro (ha) (f1))))) (hs := Tk.hsub1 hlt) (hc := tmay_at hs hlt1 v) (h := ?_) | refine CallP.mk (And.intro (uB) (And.intro (uH) (And.intro (uL) (And.intro (ha) (f1))))) (hc := above_at _ _ _) (h := ?_) | refine CallP.mk (And.intro (uB) (And.intro (uH) (And.intro (uL) (And.intro (ha) (f1))))) (hs := Tk.hsub1 (Tk.lt_of hlt hS.1 hS.2.1)) (hc := hse) (h := ?_))))); refine RW.nil ⟨conf_of (by kernel_rfl), Pruned.mk (h := ?_)⟩)
  refine SW.condF rfl (SW.skip ?_)
  refine (?_ : Sl.SW _ _ _ _ _ _)
  refine SW.seq ?_
  (refine SW.regL [0, 1, 3, 4, 5, 8, 13] mixed ?_; (repeat (first | refine RW.ro (And.intro (uB) (And.intro (uS) (And.intro (uR) (And.intro (uL) (f1))))) (h := ?_) | refine RW.skip (h := ?_) | refine RW.op (And.intro (uB) (And.intro (uS) (And.intro (uR) (And.intro (uL) (f1))))) (h := ?_) | refine RW.opN (And.intro (uB) (And.intro (uS) (And.intro (uR) (And.intro (uL) (f1))))) (h := ?_) | refine RW.skip0 (h := ?_) | (refine RW.callC (h := ?_); (first | refine CallP.mk (And.intro (uB) (And.intro (uS) (And.intro (uR) (And.intro (uL) (f1))))) (hs := Tk.hsub1 hlt) (hc := none_at hs hlt1 hn0) (h := ?_) | refine CallP.mk (And.intro (uB) (And.intro (uS) (And.intro (uR) (And.intro (uL) (f1))))) (hs := Tk.hsub1 hlt) (hc := tmay_at hs hlt1 v) (h := ?_) | refine CallP.mk (And.intro (uB) (And.intro (uS) (And.intro (uR) (And.intro (uL) (f1))))) (hc := above_at _ _ _) (h := ?_) | refine CallP.mk (And.intro (uB) (And.intro (uS) (And.intro (uR) (And.intro (uL) (f1))))) (hs := Tk.hsub1 (Tk.lt_of hlt hS.1 hS.2.1)) (hc := hse) (h := ?_))))); refine RW.nil ⟨conf_of (by kernel_rfl), Pruned.mk (h := ?_)⟩)
  refine SW.seq ?_
  (refine SW.regL [0, 1, 3, 4, 5, 8, 13] mixed ?_; (repeat (first | refine RW.ro (m2) (h := ?_) | refine RW.skip (h := ?_) | refine RW.op (m2) (h := ?_) | refine RW.opN (m2) (h := ?_) | refine RW.skip0 (h := ?_) | (refine RW.callC (h := ?_); (first | refine CallP.mk (m2) (hs := Tk.hsub1 hlt) (hc := none_at hs hlt1 hn0) (h := ?_) | refine CallP.mk (m2) (hs := Tk.hsub1 hlt) (hc := tmay_at hs hlt1 v) (h := ?_) | refine CallP.mk (m2) (hc := above_at _ _ _) (h := ?_) | refine CallP.mk (m2) (hs := Tk.hsub1 (Tk.lt_of hlt hS.1 hS.2.1)) (hc := hse) (h := ?_))))); refine RW.nil ⟨conf_of (by kernel_rfl), Pruned.mk (h := ?_)⟩)
  refine SW.seq ?_
  (refine SW.regL [0, 1, 3, 4, 5, 8, 13] mixed ?_; (repeat (first | refine RW.ro bq_tt (h := ?_) | refine RW.skip (h := ?_) | refine RW.op bq_tt (h := ?_) | refine RW.opN bq_tt (h := ?_) | refine RW.skip0 (h := ?_) | (refine RW.callC (h := ?_); (first | refine CallP.mk bq_tt (hs := Tk.hsub1 hlt) (hc := none_at hs hlt1 hn0) (h := ?_) | refine CallP.mk bq_tt (hs := Tk.hsub1 hlt) (hc := tmay_at hs hlt1 v) (h := ?_) | refine CallP.mk bq_tt (hc := above_at _ _ _) (h := ?_) | refine CallP.mk bq_tt (hs := Tk.hsub1 (Tk.lt_of hlt hS.1 hS.2.1)) (hc := hse) (h := ?_))))); refine RW.nil ⟨conf_of (by kernel_rfl), Pruned.mk (h := ?_)⟩)
  refine SW.ret ?_
  have e : T.hasV v = ((T.setH v).settle, 0) := by unfold Tk.hasV; rw [if_neg (by rw [hm]; simp), if_neg (by rw [ha]; simp)]
  rw [e]
  exact End.mk (T.setH v).settle.hp (h3 := Tk.hsub1 (Tk.lt_of hlt ((Tk.settle_bx _).1.trans hS.1) ((Tk.settle_bx _).2.trans hS.2.1))) (h4 := ⟨rfl, rfl⟩) (h6 := hok0 _ _ ((Tk.settle_bx _).1.trans hS.1) ((Tk.settle_bx _).2.trans hS.2.1) (by omega))
end
end Go.Proofs.Ytdnjkeeiopcipaa

/-
  Trackers: Hear.
-/
set_option linter.unusedSectionVars false
set_option linter.unusedVariables false
set_option linter.unusedSimpArgs false
namespace Go.Proofs.Ytdnjkeeiopcipaa
open Go.Sl Go.Proofs

/-- A replica's map, made if there is none. -/
def Tk.opn (T : Tk) (r k : Nat) : Tk := match T.wt r with
  | none => { T with nm := fun i => if i = r then k else T.nm i, wt := fun i => if i = r then some ([], 0) else T.wt i }
  | some _ => T
/-- One ack more waits. -/
def Tk.addw (T : Tk) (r : Nat) (v : Vec) : Tk := match T.wt r with
  | none => T
  | some (L, c) => T.setW r (some (MM.put L c v 1, MM.clk L c v))
/-- What Hear leaves, and tells. -/
def Tk.hearV (T : Tk) (r : Nat) (v : Vec) (k : Nat) : Tk × Nat :=
  if T.n ≤ r then (T, 2) else if T.may v = false then (T, 2) else if r = T.own then (if T.has.above v = false then (T, 9) else (T, 0)) else (((T.opn r k).addw r v).settle, 0)
theorem Tk.addw_bx (T : Tk) (r : Nat) (v : Vec) : (T.addw r v).bx = T.bx ∧ (T.addw r v).nm = T.nm ∧ (T.addw r v).n = T.n ∧ (T.addw r v).own = T.own := by unfold Tk.addw; split <;> exact ⟨rfl, rfl, rfl, rfl⟩
theorem Tk.opn_bx (T : Tk) (r k : Nat) : (T.opn r k).bx = T.bx ∧ (T.opn r k).n = T.n ∧ (T.opn r k).own = T.own ∧ (T.opn r k).has = T.has ∧ (T.opn r k).cnt = T.cnt := by unfold Tk.opn; split <;> exact ⟨rfl, rfl, rfl, rfl, rfl⟩
theorem Tk.opn_nm (T : Tk) (r k i : Nat) : (T.opn r k).nm i = T.nm i ∨ (i = r ∧ (T.opn r k).nm i = k) := by
  unfold Tk.opn
  split
  · by_cases e : i = r
    · exact .inr ⟨e, by simp [e]⟩
    · exact .inl (by simp [e])
  · exact .inl rfl
theorem Tk.opn_sep {T : Tk} (hs : T.sep) {r k : Nat} (hlt : T.lt k) : (T.opn r k).sep := by
  have hb := (T.opn_bx r k).1
  refine ⟨fun i hi => ?_, fun i j hi hj e => ?_⟩
  · rw [hb]
    rcases T.opn_nm r k i with h | ⟨_, h⟩
    · rw [h]; exact hs.bx i hi
    · rw [h]; have := hlt.bx; omega
  · rcases T.opn_nm r k i with h | ⟨h', h⟩ <;> rcases T.opn_nm r k j with g | ⟨g', g⟩ <;> rw [h, g] at e
    · exact hs.inj i j hi hj e
    · have := hlt.nm i hi; omega
    · have := hlt.nm j hj; omega
    · rw [h', g']
theorem Tk.opn_lt {T : Tk} {r k : Nat} (hlt : T.lt k) : (T.opn r k).lt (k + 1) := by
  refine ⟨by rw [(T.opn_bx r k).1]; have := hlt.bx; omega, fun i hi => ?_⟩
  rcases T.opn_nm r k i with h | ⟨_, h⟩
  · rw [h]; have := hlt.nm i hi; omega
  · rw [h]; omega
theorem Tk.opn_ww {T : Tk} (hw : T.ww) (r k : Nat) : (T.opn r k).ww := by
  unfold Tk.opn
  split
  · intro i hi L cl h
    dsimp only at h
    split at h
    · injection h with h; injection h with h1 h2; rw [← h1, ← h2]; exact MM.wf_nil
    · exact hw i hi L cl h
  · exact hw
theorem Tk.opn_some (T : Tk) (r k : Nat) : ∃ L c, (T.opn r k).wt r = some (L, c) := by
  unfold Tk.opn
  split
  · exact ⟨[], 0, by simp⟩
  · rename_i x h
    exact ⟨x.1, x.2, h⟩
theorem Tk.addw_ww {T : Tk} (hw : T.ww) {r : Nat} (hr : r < 8) (v : Vec) : (T.addw r v).ww := by
  unfold Tk.addw
  split
  · exact hw
  · rename_i L c h
    intro i hi L2 c2 h2
    simp only [Tk.setW] at h2
    split at h2
    · injection h2 with h2; injection h2 with h3 h4; rw [← h3, ← h4]; exact MM.wf_put (hw r hr L c h) v 1
    · exact hw i hi L2 c2 h2
theorem Tk.mem_hp {T : Tk} {x : Nat × Ob} (h : x ∈ T.hp) : x = (T.bx, .box 93 T.cells) ∨ ∃ r, r < 8 ∧ x = (T.nm r, wob (T.wt r)) := by
  simp only [Tk.hp, Tk.maps, List.mem_cons, List.mem_map, List.mem_range] at h
  rcases h with h | ⟨r, hr, h⟩
  · exact .inl h
  · exact .inr ⟨r, hr, h.symm⟩

theorem Tk.cons_nodup {T : Tk} (hs : T.sep) {k : Nat} {o : Ob} (h1 : T.bx ≠ k) (h2 : ∀ i, i < 8 → T.nm i ≠ k) : (((k, o) :: T.hp : Hp).map (·.1)).Nodup := by
  rw [List.map_cons, List.nodup_cons]
  refine ⟨fun hm => ?_, Tk.nodup hs⟩
  rcases Tk.names hm with e | ⟨r, hr, e⟩
  · exact h1 e.symm
  · exact h2 r hr e.symm
theorem Tk.cons_sub {T : Tk} {k : Nat} {o : Ob} (h1 : T.bx ≠ k) (h2 : ∀ i, i < 8 → T.nm i ≠ k) : HSub T.hp ((k, o) :: T.hp) := fun n ob h => by
  rw [lk_cons, if_neg fun e => ?_]
  · exact h
  · rw [e, show lk T.hp k = none from Tk.lko (Ne.symm h1) h2] at h; cases h
theorem Tk.spl_opn {T : Tk} {r k : Nat} (hw : T.wt r = none) (h : r < 8) : spl T.cells (74 + r) [.mp k] = (T.opn r k).cells := by
  rw [Tk.splw T h]
  unfold Tk.opn
  rw [hw]
  rfl
theorem Tk.lkmaps {T : Tk} (hs : T.sep) {r : Nat} (h : r < 8) : lk T.maps (T.nm r) = some (wob (T.wt r)) :=
  lookup_fam (f := fun r => wob (T.wt r)) (fun s h1 h2 => hs.inj s r (by simpa using h1) h h2) (by simpa using h)
theorem Tk.opn_lk {T : Tk} (hs : T.sep) {r k : Nat} {o : Ob} (hw : T.wt r = none) (hlt : T.lt k) : ∀ x, x ∈ ((k, o) :: (T.opn r (k + 2)).hp : Hp) → lk ((k + 2, .map [] 0) :: (k, o) :: (T.bx, .box 93 (T.opn r (k + 2)).cells) :: T.maps) x.1 = some x.2 := by
  intro x hx
  rcases List.mem_cons.1 hx with rfl | hx
  · simp [lk_cons]
  rcases Tk.mem_hp hx with rfl | ⟨i, hi, rfl⟩
  · dsimp only
    rw [(T.opn_bx r (k + 2)).1]
    have := hlt.bx
    rw [lk_cons, if_neg (by omega), lk_cons, if_neg (by omega), lk_cons, if_pos rfl]
  · dsimp only
    have e1 : (T.opn r (k + 2)).nm i = if i = r then k + 2 else T.nm i := by unfold Tk.opn; rw [hw]
    have e2 : (T.opn r (k + 2)).wt i = if i = r then some ([], 0) else T.wt i := by unfold Tk.opn; rw [hw]
    rw [e1, e2]
    by_cases e : i = r
    · rw [if_pos e, if_pos e, lk_cons, if_pos rfl]; rfl
    · rw [if_neg e, if_neg e]
      have := hlt.nm i hi
      rw [lk_cons, if_neg (by omega), lk_cons, if_neg (by omega), lk_cons, if_neg (hs.bx i hi), Tk.lkmaps hs hi]

section
attribute [local irreducible] SW RW SCd SC CallP Pruned Tk.cells Tk.hp Tk.up Tk.setC Tk.setH Tk.settle Tk.maps
variable {T : Tk} (hs : T.sep) {k : Nat}
include hs in
set_option maxHeartbeats 2000000 in
theorem hear_sb (hlt : T.lt k) (hn0 : T.n ≠ 0) (hn : T.n ≤ 8) (ho : T.own < 8) (hww : T.ww) (r : Nat) (hr : r < 256) (v : Vec) :
    SB Try.prog stable_Tracker_Hear.f [.ptr T.bx 0, u8 r, .agg v.cells] T.hp k 6 (fun x F => x = i64 (T.hearV r v (k + 2)).2 ∧ F = (T.hearV r v (k + 2)).1.hp) := by
  have hbx := hlt.bx
  have hok0 : ∀ (T' : Tk) kx, T'.bx = T.bx → T'.nm = T.nm → k ≤ kx → Hp.ok (fun n => decide (n < kx)) T'.hp = true := fun T' kx e1 e2 h => Hp.ok_less h (Tk.okk (Tk.lt_of hlt e1 e2))
  refine stable_Tracker_Hear.enter (by simp [SV.ok, SV.oks]; omega) (Tk.okk hlt) (by simp) ?_
  unfold stable_Tracker_Hear.s
  have uB : List.lookup T.bx T.hp = some (.box 93 T.cells) := Tk.lkb
  have uN : T.cells[0]? = some (.d (.int .i64 T.n)) := Tk.ldn T
  have uO : T.cells[1]? = some (.d (.int .u8 T.own)) := Tk.ldown T
  have uK : List.lookup k T.hp = none := Tk.lkk hlt (Nat.le_refl _)
  have uH : (T.cells.drop 2).take 8 = T.has.cells := Tk.ldhas T
  have uL : (2 + 8 ≤ T.cells.length) = True := eq_true (by rw [Tk.cells_len]; omega)
  have hlt1 : T.lt (k + 1) := ⟨Nat.lt_succ_of_lt hlt.bx, fun r hr => Nat.lt_succ_of_lt (hlt.nm r hr)⟩
  have hlt2 : T.lt (k + 2) := ⟨Nat.lt_succ_of_lt hlt1.bx, fun r hr => Nat.lt_succ_of_lt (hlt1.nm r hr)⟩
  have f1 := ne4 (show k ≠ T.bx by omega)
  have m1 : hsets (hdels ((k, .box 25 v.cells) :: T.hp) T.hp T.hp) T.hp = (k, .box 25 v.cells) :: T.hp := Tk.mrg1 hs hlt rfl rfl
  refine SW.seq ?_
  (refine SW.regL [0, 1, 2, 5, 6, 7, 10, 24, 40, 53] mixed ?_; (repeat (first | refine RW.ro (uK) (h := ?_) | refine RW.skip (h := ?_) | refine RW.op (uK) (h := ?_) | refine RW.opN (uK) (h := ?_) | refine RW.skip0 (h := ?_) | (refine RW.callC (h := ?_); (first | refine CallP.mk (uK) (hs := Tk.hsub1 hlt) (hc := none_at hs hlt1 hn0) (h := ?_) | refine CallP.mk (uK) (hs := Tk.hsub1 hlt) (hc := tmay_at hs hlt1 v) (h := ?_) | refine CallP.mk (uK) (hc := above_at _ _ _) (h := ?_))))); refine RW.nil ⟨conf_of (by kernel_rfl), Pruned.mk (h := ?_)⟩)
  refine SW.seq (SW.block (SW.seq ?_))
  (refine SW.regL [0, 1, 2, 5, 6, 7, 10, 24, 40, 53] mixed ?_; (repeat (first | refine RW.ro (m1) (h := ?_) | refine RW.skip (h := ?_) | refine RW.op (m1) (h := ?_) | refine RW.opN (m1) (h := ?_) | refine RW.skip0 (h := ?_) | (refine RW.callC (h := ?_); (first | refine CallP.mk (m1) (hs := Tk.hsub1 hlt) (hc := none_at hs hlt1 hn0) (h := ?_) | refine CallP.mk (m1) (hs := Tk.hsub1 hlt) (hc := tmay_at hs hlt1 v) (h := ?_) | refine CallP.mk (m1) (hc := above_at _ _ _) (h := ?_))))); refine RW.nil ⟨conf_of (by kernel_rfl), Pruned.mk (h := ?_)⟩)
  refine SW.condF rfl (SW.seq ?_)
  rcases h1 : decide ((r : Int) ≥ T.n) with _ | _
  rotate_left
  · (refine SW.regL [0, 1, 2, 5, 6, 7, 10, 24, 40, 53] mixed ?_; (repeat (first | refine RW.ro (And.intro (uB) (And.intro (uN) (And.intro (h1) (f1)))) (h := ?_) | refine RW.skip (h := ?_) | refine RW.op (And.intro (uB) (And.intro (uN) (And.intro (h1) (f1)))) (h := ?_) | refine RW.opN (And.intro (uB) (And.intro (uN) (And.intro (h1) (f1)))) (h := ?_) | refine RW.skip0 (h := ?_) | (refine RW.callC (h := ?_); (first | refine CallP.mk (And.intro (uB) (And.intro (uN) (And.intro (h1) (f1)))) (hs := Tk.hsub1 hlt) (hc := none_at hs hlt1 hn0) (h := ?_) | refine CallP.mk (And.intro (uB) (And.intro (uN) (And.intro (h1) (f1)))) (hs := Tk.hsub1 hlt) (hc := tmay_at hs hlt1 v) (h := ?_) | refine CallP.mk (And.intro (uB) (And.intro (uN) (And.intro (h1) (f1)))) (hc := above_at _ _ _) (h := ?_))))); refine RW.nil ⟨conf_of (by kernel_rfl), Pruned.mk (h := ?_)⟩)
    refine SW.condT rfl (SW.seq ?_)
    refine SW.weak id (st1 := ⟨[], T.hp, k + 6⟩) (Tk.drop1 hs hlt (by omega)) ?_
    (refine SW.regL [0, 1, 2, 5, 6, 7, 10, 24, 40, 53] mixed ?_; (repeat (first | refine RW.ro bq_tt (h := ?_) | refine RW.skip (h := ?_) | refine RW.op bq_tt (h := ?_) | refine RW.opN bq_tt (h := ?_) | refine RW.skip0 (h := ?_) | (refine RW.callC (h := ?_); (first | refine CallP.mk bq_tt (hs := Tk.hsub1 hlt) (hc := none_at hs hlt1 hn0) (h := ?_) | refine CallP.mk bq_tt (hs := Tk.hsub1 hlt) (hc := tmay_at hs hlt1 v) (h := ?_) | refine CallP.mk bq_tt (hc := above_at _ _ _) (h := ?_))))); refine RW.nil ⟨conf_of (by kernel_rfl), Pruned.mk (h := ?_)⟩)
    refine SW.ret ?_
    have e : T.hearV r v (k + 2) = (T, 2) := by unfold Tk.hearV; rw [if_pos (by simp only [decide_eq_true_eq] at h1; omega)]
    rw [e]
    exact End.mk T.hp (h3 := fun _ _ h => h) (h4 := ⟨rfl, rfl⟩) (h6 := hok0 _ _ rfl rfl (by omega))
  have hrn : r < T.n := by simp only [decide_eq_false_iff_not] at h1; omega
  rcases hm : T.may v with _ | _
  · (refine SW.regL [0, 1, 2, 5, 6, 7, 10, 24, 40, 53] mixed ?_; (repeat (first | refine RW.ro (And.intro (uB) (And.intro (uN) (And.intro (h1) (And.intro (m1) (And.intro (hm) (f1)))))) (h := ?_) | refine RW.skip (h := ?_) | refine RW.op (And.intro (uB) (And.intro (uN) (And.intro (h1) (And.intro (m1) (And.intro (hm) (f1)))))) (h := ?_) | refine RW.opN (And.intro (uB) (And.intro (uN) (And.intro (h1) (And.intro (m1) (And.intro (hm) (f1)))))) (h := ?_) | refine RW.skip0 (h := ?_) | (refine RW.callC (h := ?_); (first | refine CallP.mk (And.intro (uB) (And.intro (uN) (And.intro (h1) (And.intro (m1) (And.intro (hm) (f1)))))) (hs := Tk.hsub1 hlt) (hc := none_at hs hlt1 hn0) (h := ?_) | refine CallP.mk (And.intro (uB) (And.intro (uN) (And.intro (h1) (And.intro (m1) (And.intro (hm) (f1)))))) (hs := Tk.hsub1 hlt) (hc := tmay_at hs hlt1 v) (h := ?_) | refine CallP.mk (And.intro (uB) (And.intro (uN) (And.intro (h1) (And.intro (m1) (And.intro (hm) (f1)))))) (hc := above_at _ _ _) (h := ?_))))); refine RW.nil ⟨conf_of (by kernel_rfl), Pruned.mk (h := ?_)⟩)
    refine SW.condT rfl (SW.seq ?_)
    refine SW.weak id (st1 := ⟨[], T.hp, k + 6⟩) (Tk.drop1 hs hlt (by omega)) ?_
    (refine SW.regL [0, 1, 2, 5, 6, 7, 10, 24, 40, 53] mixed ?_; (repeat (first | refine RW.ro bq_tt (h := ?_) | refine RW.skip (h := ?_) | refine RW.op bq_tt (h := ?_) | refine RW.opN bq_tt (h := ?_) | refine RW.skip0 (h := ?_) | (refine RW.callC (h := ?_); (first | refine CallP.mk bq_tt (hs := Tk.hsub1 hlt) (hc := none_at hs hlt1 hn0) (h := ?_) | refine CallP.mk bq_tt (hs := Tk.hsub1 hlt) (hc := tmay_at hs hlt1 v) (h := ?_) | refine CallP.mk bq_tt (hc := above_at _ _ _) (h := ?_))))); refine RW.nil ⟨conf_of (by kernel_rfl), Pruned.mk (h := ?_)⟩)
    refine SW.ret ?_
    have e : T.hearV r v (k + 2) = (T, 2) := by unfold Tk.hearV; rw [if_neg (by omega), if_pos hm]
    rw [e]
    exact End.mk T.hp (h3 := fun _ _ h => h) (h4 := ⟨rfl, rfl⟩) (h6 := hok0 _ _ rfl rfl (by omega))
  (refine SW.regL [0, 1, 2, 5, 6, 7, 10, 24, 40, 53] mixed ?_; (repeat (first | refine RW.ro (And.intro (uB) (And.intro (uN) (And.intro (h1) (And.intro (m1) (And.intro (hm) (f1)))))) (h := ?_) | refine RW.skip (h := ?_) | refine RW.op (And.intro (uB) (And.intro (uN) (And.intro (h1) (And.intro (m1) (And.intro (hm) (f1)))))) (h := ?_) | refine RW.opN (And.intro (uB) (And.intro (uN) (And.intro (h1) (And.intro (m1) (And.intro (hm) (f1)))))) (h := ?_) | refine RW.skip0 (h := ?_) | (refine RW.callC (h := ?_); (first | refine CallP.mk (And.intro (uB) (And.intro (uN) (And.intro (h1) (And.intro (m1) (And.intro (hm) (f1)))))) (hs := Tk.hsub1 hlt) (hc := none_at hs hlt1 hn0) (h := ?_) | refine CallP.mk (And.intro (uB) (And.intro (uN) (And.intro (h1) (And.intro (m1) (And.intro (hm) (f1)))))) (hs := Tk.hsub1 hlt) (hc := tmay_at hs hlt1 v) (h := ?_) | refine CallP.mk (And.intro (uB) (And.intro (uN) (And.intro (h1) (And.intro (m1) (And.intro (hm) (f1)))))) (hc := above_at _ _ _) (h := ?_))))); refine RW.nil ⟨conf_of (by kernel_rfl), Pruned.mk (h := ?_)⟩)
  refine SW.condF rfl (SW.seq ?_)
  rcases h2 : ((r : Int) == T.own) with _ | _
  rotate_left
  · have hro : r = T.own := by simp at h2; omega
    rcases ha : T.has.above v with _ | _
    · (refine SW.regL [0, 1, 2, 5, 6, 7, 10, 24, 40, 53] mixed ?_; (repeat (first | refine RW.ro (And.intro (uB) (And.intro (uO) (And.intro (uH) (And.intro (uL) (And.intro (h2) (And.intro (ha) (f1))))))) (h := ?_) | refine RW.skip (h := ?_) | refine RW.op (And.intro (uB) (And.intro (uO) (And.intro (uH) (And.intro (uL) (And.intro (h2) (And.intro (ha) (f1))))))) (h := ?_) | refine RW.opN (And.intro (uB) (And.intro (uO) (And.intro (uH) (And.intro (uL) (And.intro (h2) (And.intro (ha) (f1))))))) (h := ?_) | refine RW.skip0 (h := ?_) | (refine RW.callC (h := ?_); (first | refine CallP.mk (And.intro (uB) (And.intro (uO) (And.intro (uH) (And.intro (uL) (And.intro (h2) (And.intro (ha) (f1))))))) (hs := Tk.hsub1 hlt) (hc := none_at hs hlt1 hn0) (h := ?_) | refine CallP.mk (And.intro (uB) (And.intro (uO) (And.intro (uH) (And.intro (uL) (And.intro (h2) (And.intro (ha) (f1))))))) (hs := Tk.hsub1 hlt) (hc := tmay_at hs hlt1 v) (h := ?_) | refine CallP.mk (And.intro (uB) (And.intro (uO) (And.intro (uH) (And.intro (uL) (And.intro (h2) (And.intro (ha) (f1))))))) (hc := above_at _ _ _) (h := ?_))))); refine RW.nil ⟨conf_of (by kernel_rfl), Pruned.mk (h := ?_)⟩)
      refine SW.condT rfl (SW.seq ?_)
      refine SW.weak id (st1 := ⟨[], T.hp, k + 6⟩) (Tk.drop1 hs hlt (by omega)) ?_
      (refine SW.regL [0, 1, 2, 5, 6, 7, 10, 24, 40, 53] mixed ?_; (repeat (first | refine RW.ro bq_tt (h := ?_) | refine RW.skip (h := ?_) | refine RW.op bq_tt (h := ?_) | refine RW.opN bq_tt (h := ?_) | refine RW.skip0 (h := ?_) | (refine RW.callC (h := ?_); (first | refine CallP.mk bq_tt (hs := Tk.hsub1 hlt) (hc := none_at hs hlt1 hn0) (h := ?_) | refine CallP.mk bq_tt (hs := Tk.hsub1 hlt) (hc := tmay_at hs hlt1 v) (h := ?_) | refine CallP.mk bq_tt (hc := above_at _ _ _) (h := ?_))))); refine RW.nil ⟨conf_of (by kernel_rfl), Pruned.mk (h := ?_)⟩)
      refine SW.ret ?_
      have e : T.hearV r v (k + 2) = (T, 9) := by unfold Tk.hearV; rw [if_neg (by omega), if_neg (by rw [hm]; simp), if_pos hro, if_pos ha]
      rw [e]
      exact End.mk T.hp (h3 := fun _ _ h => h) (h4 := ⟨rfl, rfl⟩) (h6 := hok0 _ _ rfl rfl (by omega))
    · (refine SW.regL [0, 1, 2, 5, 6, 7, 10, 24, 40, 53] mixed ?_; (repeat (first | refine RW.ro (And.intro (uB) (And.intro (uO) (And.intro (uH) (And.intro (uL) (And.intro (h2) (And.intro (ha) (f1))))))) (h := ?_) | refine RW.skip (h := ?_) | refine RW.op (And.intro (uB) (And.intro (uO) (And.intro (uH) (And.intro (uL) (And.intro (h2) (And.intro (ha) (f1))))))) (h := ?_) | refine RW.opN (And.intro (uB) (And.intro (uO) (And.intro (uH) (And.intro (uL) (And.intro (h2) (And.intro (ha) (f1))))))) (h := ?_) | refine RW.skip0 (h := ?_) | (refine RW.callC (h := ?_); (first | refine CallP.mk (And.intro (uB) (And.intro (uO) (And.intro (uH) (And.intro (uL) (And.intro (h2) (And.intro (ha) (f1))))))) (hs := Tk.hsub1 hlt) (hc := none_at hs hlt1 hn0) (h := ?_) | refine CallP.mk (And.intro (uB) (And.intro (uO) (And.intro (uH) (And.intro (uL) (And.intro (h2) (And.intro (ha) (f1))))))) (hs := Tk.hsub1 hlt) (hc := tmay_at hs hlt1 v) (h := ?_) | refine CallP.mk (And.intro (uB) (And.intro (uO) (And.intro (uH) (And.intro (uL) (And.intro (h2) (And.intro (ha) (f1))))))) (hc := above_at _ _ _) (h := ?_))))); refine RW.nil ⟨conf_of (by kernel_rfl), Pruned.mk (h := ?_)⟩)
      refine SW.condF rfl (SW.seq ?_)
      (refine SW.regL [0, 1, 2, 5, 6, 7, 10, 24, 40, 53] mixed ?_; (repeat (first | refine RW.ro (And.intro (uB) (And.intro (uO) (And.intro (h2) (f1)))) (h := ?_) | refine RW.skip (h := ?_) | refine RW.op (And.intro (uB) (And.intro (uO) (And.intro (h2) (f1)))) (h := ?_) | refine RW.opN (And.intro (uB) (And.intro (uO) (And.intro (h2) (f1)))) (h := ?_) | refine RW.skip0 (h := ?_) | (refine RW.callC (h := ?_); (first | refine CallP.mk (And.intro (uB) (And.intro (uO) (And.intro (h2) (f1)))) (hs := Tk.hsub1 hlt) (hc := none_at hs hlt1 hn0) (h := ?_) | refine CallP.mk (And.intro (uB) (And.intro (uO) (And.intro (h2) (f1)))) (hs := Tk.hsub1 hlt) (hc := tmay_at hs hlt1 v) (h := ?_) | refine CallP.mk (And.intro (uB) (And.intro (uO) (And.intro (h2) (f1)))) (hc := above_at _ _ _) (h := ?_))))); refine RW.nil ⟨conf_of (by kernel_rfl), Pruned.mk (h := ?_)⟩)
      refine SW.condT rfl (SW.seq ?_)
      refine SW.weak id (st1 := ⟨[], T.hp, k + 6⟩) (Tk.drop1 hs hlt (by omega)) ?_
      (refine SW.regL [0, 1, 2, 5, 6, 7, 10, 24, 40, 53] mixed ?_; (repeat (first | refine RW.ro bq_tt (h := ?_) | refine RW.skip (h := ?_) | refine RW.op bq_tt (h := ?_) | refine RW.opN bq_tt (h := ?_) | refine RW.skip0 (h := ?_) | (refine RW.callC (h := ?_); (first | refine CallP.mk bq_tt (hs := Tk.hsub1 hlt) (hc := none_at hs hlt1 hn0) (h := ?_) | refine CallP.mk bq_tt (hs := Tk.hsub1 hlt) (hc := tmay_at hs hlt1 v) (h := ?_) | refine CallP.mk bq_tt (hc := above_at _ _ _) (h := ?_))))); refine RW.nil ⟨conf_of (by kernel_rfl), Pruned.mk (h := ?_)⟩)
      refine SW.ret ?_
      have e : T.hearV r v (k + 2) = (T, 0) := by unfold Tk.hearV; rw [if_neg (by omega), if_neg (by rw [hm]; simp), if_pos hro, if_neg (by rw [ha]; simp)]
      rw [e]
      exact End.mk T.hp (h3 := fun _ _ h => h) (h4 := ⟨rfl, rfl⟩) (h6 := hok0 _ _ rfl rfl (by omega))
  (refine SW.regL [0, 1, 2, 5, 6, 7, 10, 24, 40, 53] mixed ?_; (repeat (first | refine RW.ro (And.intro (uB) (And.intro (uO) (And.intro (uH) (And.intro (uL) (And.intro (h2) (f1)))))) (h := ?_) | refine RW.skip (h := ?_) | refine RW.op (And.intro (uB) (And.intro (uO) (And.intro (uH) (And.intro (uL) (And.intro (h2) (f1)))))) (h := ?_) | refine RW.opN (And.intro (uB) (And.intro (uO) (And.intro (uH) (And.intro (uL) (And.intro (h2) (f1)))))) (h := ?_) | refine RW.skip0 (h := ?_) | (refine RW.callC (h := ?_); (first | refine CallP.mk (And.intro (uB) (And.intro (uO) (And.intro (uH) (And.intro (uL) (And.intro (h2) (f1)))))) (hs := Tk.hsub1 hlt) (hc := none_at hs hlt1 hn0) (h := ?_) | refine CallP.mk (And.intro (uB) (And.intro (uO) (And.intro (uH) (And.intro (uL) (And.intro (h2) (f1)))))) (hs := Tk.hsub1 hlt) (hc := tmay_at hs hlt1 v) (h := ?_) | refine CallP.mk (And.intro (uB) (And.intro (uO) (And.intro (uH) (And.intro (uL) (And.intro (h2) (f1)))))) (hc := above_at _ _ _) (h := ?_))))); refine RW.nil ⟨conf_of (by kernel_rfl), Pruned.mk (h := ?_)⟩)
  refine SW.condF rfl (SW.seq ?_)
  (refine SW.regL [0, 1, 2, 5, 6, 7, 10, 24, 40, 53] mixed ?_; (repeat (first | refine RW.ro (And.intro (uB) (And.intro (uO) (And.intro (h2) (f1)))) (h := ?_) | refine RW.skip (h := ?_) | refine RW.op (And.intro (uB) (And.intro (uO) (And.intro (h2) (f1)))) (h := ?_) | refine RW.opN (And.intro (uB) (And.intro (uO) (And.intro (h2) (f1)))) (h := ?_) | refine RW.skip0 (h := ?_) | (refine RW.callC (h := ?_); (first | refine CallP.mk (And.intro (uB) (And.intro (uO) (And.intro (h2) (f1)))) (hs := Tk.hsub1 hlt) (hc := none_at hs hlt1 hn0) (h := ?_) | refine CallP.mk (And.intro (uB) (And.intro (uO) (And.intro (h2) (f1)))) (hs := Tk.hsub1 hlt) (hc := tmay_at hs hlt1 v) (h := ?_) | refine CallP.mk (And.intro (uB) (And.intro (uO) (And.intro (h2) (f1)))) (hc := above_at _ _ _) (h := ?_))))); refine RW.nil ⟨conf_of (by kernel_rfl), Pruned.mk (h := ?_)⟩)
  refine SW.condF rfl (SW.skip ?_)
  refine (?_ : Sl.SW _ _ _ _ _ _)
  have h8 : r < 8 := by omega
  have hro : ¬ r = T.own := by simp at h2; omega
  have e : T.hearV r v (k + 2) = (((T.opn r (k + 2)).addw r v).settle, 0) := by unfold Tk.hearV; rw [if_neg (by omega), if_neg (by rw [hm]; simp), if_neg hro]
  rw [e]
  have uM : List.lookup (T.nm r) T.hp = some (wob (T.wt r)) := Tk.lkm hs h8
  have uW : T.cells[74 + r]? = some (.mp (T.nm r)) := Tk.ldw T h8
  have hnm := hlt.nm r h8
  have f2 := ne4 (show k ≠ T.nm r by omega)
  have f3 := ne4 (hs.bx r h8)
  have hnk : ∀ (T' : Tk) o, T'.bx = T.bx → T'.nm = T.nm → (((k, o) :: T'.hp : Hp).map (·.1)).Nodup := fun T' o e1 e2 => by
    rw [List.map_cons, List.nodup_cons]
    exact ⟨Tk.out (Tk.lt_of hlt e1 e2) (Nat.le_refl _), Tk.nodup (Tk.sep_of hs e1 e2)⟩
  have hokk : ∀ (T' : Tk) kx, T'.lt kx → k < kx → Hp.ok (fun n => decide (n < kx)) ((k, .box 25 v.cells) :: T'.hp) = true := fun T' kx h1 h2 => by
    have := Tk.okk h1
    simp only [Hp.ok, List.all_cons, Ob.ok, Vec.cells_ok, Bool.and_true, Bool.and_eq_true, decide_eq_true_eq] at this ⊢
    exact ⟨h2, this⟩
  refine SW.weak id (st1 := ⟨[(0, .ptr T.bx 0), (1, u8 r), (5, .ptr k 0)], (k, .box 25 v.cells) :: T.hp, k + 2⟩) (Weak.same (by simp) (by simp [EnvW, List.lookup, SV.ren, SV.rens, SV.ok, SV.oks]; try omega) (hokk T _ hlt2 (by simp)) (lk_of_nodup (hnk T _ rfl rfl))) ?_
  refine SW.seq (SW.seq ?_)
  obtain ⟨o1, o2, o3, o4, o5⟩ := T.opn_bx r (k + 2)
  have os := Tk.opn_sep hs (r := r) hlt2
  have ol := Tk.opn_lt (r := r) hlt2
  have ow := Tk.opn_ww hww r (k + 2)
  rcases hw : T.wt r with _ | ⟨L0, c0⟩
  · rw [hw] at uM
    have uM : List.lookup (T.nm r) T.hp = some .nomap := uM
    have uRm : hrep T.hp (T.nm r) .nomap = T.hp := hrep_same uM
    (refine SW.regL [0, 1, 2, 5, 6, 7, 10, 24, 40, 53] mixed ?_; (repeat (first | refine RW.ro (And.intro (uB) (And.intro (uW) (And.intro (uM) (And.intro (uRm) (And.intro (f1) (And.intro (f2) (f3))))))) (h := ?_) | refine RW.skip (h := ?_) | refine RW.op (And.intro (uB) (And.intro (uW) (And.intro (uM) (And.intro (uRm) (And.intro (f1) (And.intro (f2) (f3))))))) (h := ?_) | refine RW.opN (And.intro (uB) (And.intro (uW) (And.intro (uM) (And.intro (uRm) (And.intro (f1) (And.intro (f2) (f3))))))) (h := ?_) | refine RW.skip0 (h := ?_) | (refine RW.callC (h := ?_); (first | refine CallP.mk (And.intro (uB) (And.intro (uW) (And.intro (uM) (And.intro (uRm) (And.intro (f1) (And.intro (f2) (f3))))))) (hs := Tk.hsub1 hlt) (hc := none_at hs hlt1 hn0) (h := ?_) | refine CallP.mk (And.intro (uB) (And.intro (uW) (And.intro (uM) (And.intro (uRm) (And.intro (f1) (And.intro (f2) (f3))))))) (hs := Tk.hsub1 hlt) (hc := tmay_at hs hlt1 v) (h := ?_) | refine CallP.mk (And.intro (uB) (And.intro (uW) (And.intro (uM) (And.intro (uRm) (And.intro (f1) (And.intro (f2) (f3))))))) (hc := above_at _ _ _) (h := ?_))))); refine RW.nil ⟨conf_of (by kernel_rfl), Pruned.mk (h := ?_)⟩)
    have uS := Tk.spl_opn hw h8 (k := k + 2)
    have uR : ∀ c, hrep T.hp T.bx (.box 93 c) = (T.bx, .box 93 c) :: T.maps := fun _ => Tk.hrepb
    have uK2 : List.lookup (k + 2) T.hp = none := Tk.lkk hlt2 (Nat.le_refl _)
    have g1 := ne4 (show k + 2 ≠ k by omega)
    have g2 := ne4 (show k + 2 ≠ T.bx by omega)
    have uL2 : (74 + r + 1 ≤ T.cells.length) = True := eq_true (by rw [Tk.cells_len]; omega)
    refine SW.condT rfl ?_
    (refine SW.regL [0, 1, 2, 5, 6, 7, 10, 24, 40, 53] mixed ?_; (repeat (first | refine RW.ro (And.intro (uB) (And.intro (uS) (And.intro (uR) (And.intro (uK2) (And.intro (uL2) (And.intro (f1) (And.intro (g1) (g2)))))))) (h := ?_) | refine RW.skip (h := ?_) | refine RW.op (And.intro (uB) (And.intro (uS) (And.intro (uR) (And.intro (uK2) (And.intro (uL2) (And.intro (f1) (And.intro (g1) (g2)))))))) (h := ?_) | refine RW.opN (And.intro (uB) (And.intro (uS) (And.intro (uR) (And.intro (uK2) (And.intro (uL2) (And.intro (f1) (And.intro (g1) (g2)))))))) (h := ?_) | refine RW.skip0 (h := ?_) | (refine RW.callC (h := ?_); (first | refine CallP.mk (And.intro (uB) (And.intro (uS) (And.intro (uR) (And.intro (uK2) (And.intro (uL2) (And.intro (f1) (And.intro (g1) (g2)))))))) (hs := Tk.hsub1 hlt) (hc := none_at hs hlt1 hn0) (h := ?_) | refine CallP.mk (And.intro (uB) (And.intro (uS) (And.intro (uR) (And.intro (uK2) (And.intro (uL2) (And.intro (f1) (And.intro (g1) (g2)))))))) (hs := Tk.hsub1 hlt) (hc := tmay_at hs hlt1 v) (h := ?_) | refine CallP.mk (And.intro (uB) (And.intro (uS) (And.intro (uR) (And.intro (uK2) (And.intro (uL2) (And.intro (f1) (And.intro (g1) (g2)))))))) (hc := above_at _ _ _) (h := ?_))))); refine RW.nil ⟨conf_of (by kernel_rfl), Pruned.mk (h := ?_)⟩)
    refine SW.weak id (st1 := ⟨[(0, .ptr T.bx 0), (1, u8 r), (5, .ptr k 0)], (k, .box 25 v.cells) :: (T.opn r (k + 2)).hp, k + 3⟩) (Weak.same (by simp) (by simp [EnvW, List.lookup, SV.ren, SV.rens, SV.ok, SV.oks]; try omega) (hokk _ _ ol (by simp)) (Tk.opn_lk hs hw hlt)) ?_
    obtain ⟨L, c, hL⟩ := T.opn_some r (k + 2)
    have hne : ∀ i, i < 8 → (T.opn r (k + 2)).nm i ≠ k := fun i hi => by
      have := hlt.nm i hi
      rcases T.opn_nm r (k + 2) i with h | ⟨_, h⟩ <;> rw [h] <;> omega
    generalize T.opn r (k + 2) = T2 at *
    have dB : List.lookup T.bx T2.hp = some (.box 93 T2.cells) := by rw [← o1]; exact Tk.lkb
    have dW : T2.cells[74 + r]? = some (.mp (T2.nm r)) := Tk.ldw T2 h8
    have dM : List.lookup (T2.nm r) T2.hp = some (.map (mapE Vec.cells iv L) c) := by rw [Tk.lkm os h8, hL]; rfl
    have dR : hrep T2.hp (T2.nm r) (.map (mapE Vec.cells iv (MM.put L c v 1)) (MM.clk L c v)) = (T2.addw r v).hp := by
      have a3 : T2.addw r v = T2.setW r (some (MM.put L c v 1, MM.clk L c v)) := by unfold Tk.addw; rw [hL]
      rw [a3]; exact Tk.hrepm os h8 (some (MM.put L c v 1, MM.clk L c v))
    obtain ⟨b1, b2, b3, b4⟩ := T2.addw_bx r v
    have wa := Tk.addw_ww ow h8 v
    generalize T2.addw r v = T3 at *
    have hs3 : T3.sep := Tk.sep_of os b1 b2
    have hl3 : T3.lt (k + 3) := Tk.lt_of ol b1 b2
    have hse := settle_at hs3 (k := k + 3) (by rw [b3, o2]; exact hn) (by rw [b4, o3]; exact ho) wa hl3
    rw [b1, o1] at hse
    obtain ⟨z1, z2⟩ := T3.settle_bx
    have y1 : T3.bx ≠ k := by rw [b1, o1]; omega
    have y2 : ∀ i, i < 8 → T3.nm i ≠ k := by rw [b2]; exact hne
    have m2 : hsets (hdels ((k, .box 25 v.cells) :: T3.hp) T3.settle.hp T3.hp) T3.settle.hp = (k, .box 25 v.cells) :: T3.settle.hp :=
      mrg_tail (pre := [(k, .box 25 v.cells)]) (Tk.hp_same z1 z2) (Tk.cons_nodup hs3 y1 y2)
    have f7 := ne4 (hne r h8)
    have g5 := ne4 (os.bx r h8)
    rw [o1] at g5
    refine SW.seq ?_
    (refine SW.regL [0, 1, 2, 5, 6, 7, 10, 24, 40, 53] mixed ?_; (repeat (first | refine RW.ro (And.intro (dB) (And.intro (dW) (And.intro (dM) (And.intro (dR) (And.intro (f1) (And.intro (f7) (g5))))))) (h := ?_) | refine RW.skip (h := ?_) | refine RW.op (And.intro (dB) (And.intro (dW) (And.intro (dM) (And.intro (dR) (And.intro (f1) (And.intro (f7) (g5))))))) (h := ?_) | refine RW.opN (And.intro (dB) (And.intro (dW) (And.intro (dM) (And.intro (dR) (And.intro (f1) (And.intro (f7) (g5))))))) (h := ?_) | refine RW.skip0 (h := ?_) | (refine RW.callC (h := ?_); (first | refine CallP.mk (And.intro (dB) (And.intro (dW) (And.intro (dM) (And.intro (dR) (And.intro (f1) (And.intro (f7) (g5))))))) (hs := Tk.cons_sub y1 y2) (hc := hse) (h := ?_))))); refine RW.nil ⟨conf_of (by kernel_rfl), Pruned.mk (h := ?_)⟩)
    refine SW.seq ?_
    (refine SW.regL [0, 1, 2, 5, 6, 7, 10, 24, 40, 53] mixed ?_; (repeat (first | refine RW.ro (m2) (h := ?_) | refine RW.skip (h := ?_) | refine RW.op (m2) (h := ?_) | refine RW.opN (m2) (h := ?_) | refine RW.skip0 (h := ?_) | (refine RW.callC (h := ?_); (first | refine CallP.mk (m2) (hs := Tk.cons_sub y1 y2) (hc := hse) (h := ?_))))); refine RW.nil ⟨conf_of (by kernel_rfl), Pruned.mk (h := ?_)⟩)
    refine SW.seq ?_
    (refine SW.regL [0, 1, 2, 5, 6, 7, 10, 24, 40, 53] mixed ?_; (repeat (first | refine RW.ro bq_tt (h := ?_) | refine RW.skip (h := ?_) | refine RW.op bq_tt (h := ?_) | refine RW.opN bq_tt (h := ?_) | refine RW.skip0 (h := ?_) | (refine RW.callC (h := ?_); (first | refine CallP.mk bq_tt (hs := Tk.cons_sub y1 y2) (hc := hse) (h := ?_))))); refine RW.nil ⟨conf_of (by kernel_rfl), Pruned.mk (h := ?_)⟩)
    refine SW.ret ?_
    exact End.mk T3.settle.hp (h3 := Tk.cons_sub (by rw [z1]; exact y1) (by rw [z2]; exact y2)) (h4 := ⟨rfl, rfl⟩) (h6 := Hp.ok_less (by omega) (Tk.okk (Tk.lt_of hl3 z1 z2)))
  · rw [hw] at uM
    have uM : List.lookup (T.nm r) T.hp = some (.map (mapE Vec.cells iv L0) c0) := uM
    have uRm : hrep T.hp (T.nm r) (.map (mapE Vec.cells iv L0) c0) = T.hp := hrep_same uM
    (refine SW.regL [0, 1, 2, 5, 6, 7, 10, 24, 40, 53] mixed ?_; (repeat (first | refine RW.ro (And.intro (uB) (And.intro (uW) (And.intro (uM) (And.intro (uRm) (And.intro (f1) (And.intro (f2) (f3))))))) (h := ?_) | refine RW.skip (h := ?_) | refine RW.op (And.intro (uB) (And.intro (uW) (And.intro (uM) (And.intro (uRm) (And.intro (f1) (And.intro (f2) (f3))))))) (h := ?_) | refine RW.opN (And.intro (uB) (And.intro (uW) (And.intro (uM) (And.intro (uRm) (And.intro (f1) (And.intro (f2) (f3))))))) (h := ?_) | refine RW.skip0 (h := ?_) | (refine RW.callC (h := ?_); (first | refine CallP.mk (And.intro (uB) (And.intro (uW) (And.intro (uM) (And.intro (uRm) (And.intro (f1) (And.intro (f2) (f3))))))) (hs := Tk.cons_sub y1 y2) (hc := hse) (h := ?_))))); refine RW.nil ⟨conf_of (by kernel_rfl), Pruned.mk (h := ?_)⟩)
    refine SW.condF rfl (SW.skip ?_)
    have e2 : T.opn r (k + 2) = T := by unfold Tk.opn; rw [hw]
    refine SW.weak id (st1 := ⟨[(0, .ptr T.bx 0), (1, u8 r), (5, .ptr k 0)], (k, .box 25 v.cells) :: (T.opn r (k + 2)).hp, k + 3⟩) (Weak.same (by simp) (by simp [EnvW, List.lookup, SV.ren, SV.rens, SV.ok, SV.oks]; try omega) (hokk _ _ ol (by simp)) (by rw [e2]; exact lk_of_nodup (hnk T _ rfl rfl))) ?_
    obtain ⟨L, c, hL⟩ := T.opn_some r (k + 2)
    have hne : ∀ i, i < 8 → (T.opn r (k + 2)).nm i ≠ k := fun i hi => by
      have := hlt.nm i hi
      rcases T.opn_nm r (k + 2) i with h | ⟨_, h⟩ <;> rw [h] <;> omega
    generalize T.opn r (k + 2) = T2 at *
    have dB : List.lookup T.bx T2.hp = some (.box 93 T2.cells) := by rw [← o1]; exact Tk.lkb
    have dW : T2.cells[74 + r]? = some (.mp (T2.nm r)) := Tk.ldw T2 h8
    have dM : List.lookup (T2.nm r) T2.hp = some (.map (mapE Vec.cells iv L) c) := by rw [Tk.lkm os h8, hL]; rfl
    have dR : hrep T2.hp (T2.nm r) (.map (mapE Vec.cells iv (MM.put L c v 1)) (MM.clk L c v)) = (T2.addw r v).hp := by
      have a3 : T2.addw r v = T2.setW r (some (MM.put L c v 1, MM.clk L c v)) := by unfold Tk.addw; rw [hL]
      rw [a3]; exact Tk.hrepm os h8 (some (MM.put L c v 1, MM.clk L c v))
    obtain ⟨b1, b2, b3, b4⟩ := T2.addw_bx r v
    have wa := Tk.addw_ww ow h8 v
    generalize T2.addw r v = T3 at *
    have hs3 : T3.sep := Tk.sep_of os b1 b2
    have hl3 : T3.lt (k + 3) := Tk.lt_of ol b1 b2
    have hse := settle_at hs3 (k := k + 3) (by rw [b3, o2]; exact hn) (by rw [b4, o3]; exact ho) wa hl3
    rw [b1, o1] at hse
    obtain ⟨z1, z2⟩ := T3.settle_bx
    have y1 : T3.bx ≠ k := by rw [b1, o1]; omega
    have y2 : ∀ i, i < 8 → T3.nm i ≠ k := by rw [b2]; exact hne
    have m2 : hsets (hdels ((k, .box 25 v.cells) :: T3.hp) T3.settle.hp T3.hp) T3.settle.hp = (k, .box 25 v.cells) :: T3.settle.hp :=
      mrg_tail (pre := [(k, .box 25 v.cells)]) (Tk.hp_same z1 z2) (Tk.cons_nodup hs3 y1 y2)
    have f7 := ne4 (hne r h8)
    have g5 := ne4 (os.bx r h8)
    rw [o1] at g5
    refine SW.seq ?_
    (refine SW.regL [0, 1, 2, 5, 6, 7, 10, 24, 40, 53] mixed ?_; (repeat (first | refine RW.ro (And.intro (dB) (And.intro (dW) (And.intro (dM) (And.intro (dR) (And.intro (f1) (And.intro (f7) (g5))))))) (h := ?_) | refine RW.skip (h := ?_) | refine RW.op (And.intro (dB) (And.intro (dW) (And.intro (dM) (And.intro (dR) (And.intro (f1) (And.intro (f7) (g5))))))) (h := ?_) | refine RW.opN (And.intro (dB) (And.intro (dW) (And.intro (dM) (And.intro (dR) (And.intro (f1) (And.intro (f7) (g5))))))) (h := ?_) | refine RW.skip0 (h := ?_) | (refine RW.callC (h := ?_); (first | refine CallP.mk (And.intro (dB) (And.intro (dW) (And.intro (dM) (And.intro (dR) (And.intro (f1) (And.intro (f7) (g5))))))) (hs := Tk.cons_sub y1 y2) (hc := hse) (h := ?_))))); refine RW.nil ⟨conf_of (by kernel_rfl), Pruned.mk (h := ?_)⟩)
    refine SW.seq ?_
    (refine SW.regL [0, 1, 2, 5, 6, 7, 10, 24, 40, 53] mixed ?_; (repeat (first | refine RW.ro (m2) (h := ?_) | refine RW.skip (h := ?_) | refine RW.op (m2) (h := ?_) | refine RW.opN (m2) (h := ?_) | refine RW.skip0 (h := ?_) | (refine RW.callC (h := ?_); (first | refine CallP.mk (m2) (hs := Tk.cons_sub y1 y2) (hc := hse) (h := ?_))))); refine RW.nil ⟨conf_of (by kernel_rfl), Pruned.mk (h := ?_)⟩)
    refine SW.seq ?_
    (refine SW.regL [0, 1, 2, 5, 6, 7, 10, 24, 40, 53] mixed ?_; (repeat (first | refine RW.ro bq_tt (h := ?_) | refine RW.skip (h := ?_) | refine RW.op bq_tt (h := ?_) | refine RW.opN bq_tt (h := ?_) | refine RW.skip0 (h := ?_) | (refine RW.callC (h := ?_); (first | refine CallP.mk bq_tt (hs := Tk.cons_sub y1 y2) (hc := hse) (h := ?_))))); refine RW.nil ⟨conf_of (by kernel_rfl), Pruned.mk (h := ?_)⟩)
    refine SW.ret ?_
    exact End.mk T3.settle.hp (h3 := Tk.cons_sub (by rw [z1]; exact y1) (by rw [z2]; exact y2)) (h4 := ⟨rfl, rfl⟩) (h6 := Hp.ok_less (by omega) (Tk.okk (Tk.lt_of hl3 z1 z2)))
end
end Go.Proofs.Ytdnjkeeiopcipaa

/-
  Trackers: Own, Counts, Stable, Waits.
-/
set_option linter.unusedSectionVars false
set_option linter.unusedVariables false
set_option linter.unusedSimpArgs false
namespace Go.Proofs.Ytdnjkeeiopcipaa
open Go.Sl Go.Proofs

theorem Tk.mapsok {T : Tk} {kx : Nat} (h1 : T.lt kx) {k : Nat} {o : Ob} (h2 : k < kx) (ho : ∀ q, o.ok q = true) : Hp.ok (fun n => decide (n < kx)) ((k, o) :: T.hp) = true := by
  have := Tk.okk h1
  simp only [Hp.ok, List.all_cons, ho, Bool.and_true, Bool.and_eq_true, decide_eq_true_eq] at this ⊢
  exact ⟨h2, this⟩
theorem vbox_ok (x : Vec) (q : Nat → Bool) : (Ob.box 25 x.cells).ok q = true := rfl
theorem rvV_vec {st : St} {t k ty : Nat} {x : Vec} {r : List RV} {ss : List SV} {ob : Prop} (h1 : st.env.lookup t = some (.ptr k 0)) (h2 : lk st.hp k = some (.box ty x.cells)) (h3 : rvV st r = some (ss, ob)) :
    rvV st (.cell t (some 8) :: r) = some (.agg x.cells :: ss, ldo x.cells 0 (some 8) ∧ ob) := by
  simp only [rvV, h1, h3, cellsAt, h2, ldv, List.drop_zero, Vec.take_all]
/-- What is stable: the replicas' counts met. -/
def Tk.stab (T : Tk) : Vec := Vec.all min ((List.range T.n).map T.cnt)
theorem Tk.row (T : Tk) : ∀ {n : Nat}, n ≤ 8 → (((List.range n).map T.cnt).flatMap Vec.ds).map SV.d = (T.cells.drop 10).take (n * 8)
  | 0, _ | 1, _ | 2, _ | 3, _ | 4, _ | 5, _ | 6, _ | 7, _ | 8, _ => rfl
  | n + 9, h => by omega
theorem Tk.rowi (T : Tk) {n : Nat} (hn : n ≤ 8) (i : Nat) (x : DV) (h : (((List.range n).map T.cnt).flatMap Vec.ds)[i]? = some x) : T.cells[10 + i]? = some (.d x) := by
  have h1 : ((((List.range n).map T.cnt).flatMap Vec.ds).map SV.d)[i]? = some (.d x) := by rw [List.getElem?_map, h]; rfl
  rw [Tk.row T hn, List.getElem?_take] at h1
  split at h1
  · rw [List.getElem?_drop] at h1; exact h1
  · cases h1

section
attribute [local irreducible] SW RW SCd SC CallP Pruned Tk.cells Tk.hp Tk.up Tk.setC Tk.setH Tk.settle Tk.maps
variable {T : Tk} (hs : T.sep) {k : Nat}
include hs in
theorem meetT_at (hn0 : T.n ≠ 0) (hn : T.n ≤ 8) (k : Nat) : SCd Try.prog vector_Meet.f [.bs T.bx 10 T.n] [(T.bx, .box 93 T.cells)] k 0 (.agg T.stab.cells) [(T.bx, .box 93 T.cells)] := by
  have h := (meet_ok ((List.range T.n).map T.cnt) (by simp; omega)).sc (by rfl) k
  simp only [vecs, List.length_map, List.length_range] at h
  exact SC.borrow h (Vec.plain _) hn0 (Tk.rowi T hn)

include hs in
theorem own_at (hlt : T.lt k) (hn0 : T.n ≠ 0) : SCd Try.prog stable_Tracker_Own.f [.ptr T.bx 0] T.hp k 1 (.agg T.has.cells) T.hp := by
  refine Tk.here hs rfl rfl (fun _ => rfl) (fun q h => by simp [SV.oks, SV.ok, h]) ?_
  have hbx := hlt.bx
  refine stable_Tracker_Own.enter (by simp [SV.ok, SV.oks]; omega) (Tk.okk hlt) (by simp) ?_
  unfold stable_Tracker_Own.s
  have uB : List.lookup T.bx T.hp = some (.box 93 T.cells) := Tk.lkb
  have uK : List.lookup k T.hp = none := Tk.lkk hlt (Nat.le_refl _)
  have uH : (T.cells.drop 2).take 8 = T.has.cells := Tk.ldhas T
  have uL : (2 + 8 ≤ T.cells.length) = True := eq_true (by rw [Tk.cells_len]; omega)
  have hlt1 : T.lt (k + 1) := ⟨Nat.lt_succ_of_lt hlt.bx, fun r hr => Nat.lt_succ_of_lt (hlt.nm r hr)⟩
  have f1 := ne4 (show k ≠ T.bx by omega)
  have m1 : hsets (hdels ((k, .box 25 Vec.zero.cells) :: T.hp) T.hp T.hp) T.hp = (k, .box 25 Vec.zero.cells) :: T.hp := Tk.mrg1 hs hlt rfl rfl
  refine SW.seq ?_
  (refine SW.regL [0, 2, 4] mixed ?_; (repeat (first | refine RW.ro (uK) (h := ?_) | refine RW.skip (h := ?_) | refine RW.op (uK) (h := ?_) | refine RW.opN (uK) (h := ?_) | refine RW.skip0 (h := ?_) | (refine RW.callC (h := ?_); (first | refine CallP.mk (uK) (hs := Tk.hsub1 hlt) (hc := none_at hs hlt1 hn0) (h := ?_))))); refine RW.nil ⟨conf_of (by kernel_rfl), Pruned.mk (h := ?_)⟩)
  refine SW.seq (SW.seq ?_)
  (refine SW.regL [0, 2, 4] mixed ?_; (repeat (first | refine RW.ro (m1) (h := ?_) | refine RW.skip (h := ?_) | refine RW.op (m1) (h := ?_) | refine RW.opN (m1) (h := ?_) | refine RW.skip0 (h := ?_) | (refine RW.callC (h := ?_); (first | refine CallP.mk (m1) (hs := Tk.hsub1 hlt) (hc := none_at hs hlt1 hn0) (h := ?_))))); refine RW.nil ⟨conf_of (by kernel_rfl), Pruned.mk (h := ?_)⟩)
  refine SW.condF rfl (SW.skip ?_)
  refine SW.seq ?_
  (refine SW.regL [0, 2, 4] mixed ?_; (repeat (first | refine RW.ro (And.intro (uB) (And.intro (uH) (And.intro (uL) (f1)))) (h := ?_) | refine RW.skip (h := ?_) | refine RW.op (And.intro (uB) (And.intro (uH) (And.intro (uL) (f1)))) (h := ?_) | refine RW.opN (And.intro (uB) (And.intro (uH) (And.intro (uL) (f1)))) (h := ?_) | refine RW.skip0 (h := ?_) | (refine RW.callC (h := ?_); (first | refine CallP.mk (And.intro (uB) (And.intro (uH) (And.intro (uL) (f1)))) (hs := Tk.hsub1 hlt) (hc := none_at hs hlt1 hn0) (h := ?_))))); refine RW.nil ⟨conf_of (by kernel_rfl), Pruned.mk (h := ?_)⟩)
  refine SW.ret ?_
  exact End.mk T.hp (h1 := rvV_vec (k := k) (by simp [List.lookup]) lk_cons_same rfl) (h2 := by simp [ldo]) (h3 := Tk.hsub1 hlt) (h4 := ⟨rfl, rfl⟩) (h6 := Tk.okk hlt1)
include hs in
theorem stable_at (hlt : T.lt k) (hn0 : T.n ≠ 0) (hn : T.n ≤ 8) : SCd Try.prog stable_Tracker_Stable.f [.ptr T.bx 0] T.hp k 1 (.agg T.stab.cells) T.hp := by
  refine Tk.here hs rfl rfl (fun _ => rfl) (fun q h => by simp [SV.oks, SV.ok, h]) ?_
  have hbx := hlt.bx
  refine stable_Tracker_Stable.enter (by simp [SV.ok, SV.oks]; omega) (Tk.okk hlt) (by simp) ?_
  unfold stable_Tracker_Stable.s
  have uB : List.lookup T.bx T.hp = some (.box 93 T.cells) := Tk.lkb
  have uK : List.lookup k T.hp = none := Tk.lkk hlt (Nat.le_refl _)
  have uN : T.cells[0]? = some (.d (.int .i64 T.n)) := Tk.ldn T
  have hlt1 : T.lt (k + 1) := ⟨Nat.lt_succ_of_lt hlt.bx, fun r hr => Nat.lt_succ_of_lt (hlt.nm r hr)⟩
  have f1 := ne4 (show k ≠ T.bx by omega)
  have m1 : hsets (hdels ((k, .box 25 Vec.zero.cells) :: T.hp) T.hp T.hp) T.hp = (k, .box 25 Vec.zero.cells) :: T.hp := Tk.mrg1 hs hlt rfl rfl
  have uRb : hrep T.hp T.bx (.box 93 T.cells) = T.hp := hrep_same uB
  have e0 : ∀ n : Nat, n - 0 = n := fun _ => rfl
  have hsubb : HSub [(T.bx, Ob.box 93 T.cells)] ((k, .box 25 Vec.zero.cells) :: T.hp) := HSub.cons (by rw [lk_cons, if_neg (by omega)]; exact uB) (HSub.nil _)
  have hn2 : ((T.n : Int) ≤ 8) = True := eq_true (by omega)
  refine SW.seq ?_
  (refine SW.regL [0, 2, 4] mixed ?_; (repeat (first | refine RW.ro (uK) (h := ?_) | refine RW.skip (h := ?_) | refine RW.op (uK) (h := ?_) | refine RW.opN (uK) (h := ?_) | refine RW.skip0 (h := ?_) | (refine RW.callC (h := ?_); (first | refine CallP.mk (uK) (hs := Tk.hsub1 hlt) (hc := none_at hs hlt1 hn0) (h := ?_) | refine CallP.mk (uK) (hs := hsubb) (hc := meetT_at hs hn0 hn _) (h := ?_))))); refine RW.nil ⟨conf_of (by kernel_rfl), Pruned.mk (h := ?_)⟩)
  refine SW.seq (SW.seq ?_)
  (refine SW.regL [0, 2, 4] mixed ?_; (repeat (first | refine RW.ro (m1) (h := ?_) | refine RW.skip (h := ?_) | refine RW.op (m1) (h := ?_) | refine RW.opN (m1) (h := ?_) | refine RW.skip0 (h := ?_) | (refine RW.callC (h := ?_); (first | refine CallP.mk (m1) (hs := Tk.hsub1 hlt) (hc := none_at hs hlt1 hn0) (h := ?_) | refine CallP.mk (m1) (hs := hsubb) (hc := meetT_at hs hn0 hn _) (h := ?_))))); refine RW.nil ⟨conf_of (by kernel_rfl), Pruned.mk (h := ?_)⟩)
  refine SW.condF rfl (SW.skip ?_)
  refine SW.seq ?_
  (refine SW.regL [0, 2, 4] mixed ?_; (repeat (first | refine RW.ro (And.intro (uB) (And.intro (uN) (And.intro (uRb) (And.intro (e0) (And.intro (hn2) (f1)))))) (h := ?_) | refine RW.skip (h := ?_) | refine RW.op (And.intro (uB) (And.intro (uN) (And.intro (uRb) (And.intro (e0) (And.intro (hn2) (f1)))))) (h := ?_) | refine RW.opN (And.intro (uB) (And.intro (uN) (And.intro (uRb) (And.intro (e0) (And.intro (hn2) (f1)))))) (h := ?_) | refine RW.skip0 (h := ?_) | (refine RW.callC (h := ?_); (first | refine CallP.mk (And.intro (uB) (And.intro (uN) (And.intro (uRb) (And.intro (e0) (And.intro (hn2) (f1)))))) (hs := Tk.hsub1 hlt) (hc := none_at hs hlt1 hn0) (h := ?_) | refine CallP.mk (And.intro (uB) (And.intro (uN) (And.intro (uRb) (And.intro (e0) (And.intro (hn2) (f1)))))) (hs := hsubb) (hc := meetT_at hs hn0 hn _) (h := ?_))))); refine RW.nil ⟨conf_of (by kernel_rfl), Pruned.mk (h := ?_)⟩)
  refine SW.ret ?_
  exact End.mk T.hp (h1 := rvV_vec (k := k) (by simp [List.lookup]) lk_cons_same rfl) (h2 := by simp [ldo]) (h3 := Tk.hsub1 hlt) (h4 := ⟨rfl, rfl⟩) (h6 := Tk.okk hlt1)

/-- What Counts tells. -/
def Tk.cntV (T : Tk) (r : Nat) : Vec × Nat := if T.n ≤ r then (Vec.zero, 2) else (T.cnt r, 0)
include hs in
theorem counts_at (hlt : T.lt k) (hn0 : T.n ≠ 0) (hn : T.n ≤ 8) (r : Nat) (hr : r < 256) : SCd Try.prog stable_Tracker_Counts.f [.ptr T.bx 0, u8 r] T.hp k 1 (.tup [.agg (T.cntV r).1.cells, i64 (T.cntV r).2]) T.hp := by
  refine Tk.here hs rfl rfl (fun _ => rfl) (fun q h => by simp [SV.oks, SV.ok, h]) ?_
  have hbx := hlt.bx
  refine stable_Tracker_Counts.enter (by simp [SV.ok, SV.oks]; omega) (Tk.okk hlt) (by simp) ?_
  unfold stable_Tracker_Counts.s
  have uB : List.lookup T.bx T.hp = some (.box 93 T.cells) := Tk.lkb
  have uK : List.lookup k T.hp = none := Tk.lkk hlt (Nat.le_refl _)
  have uN : T.cells[0]? = some (.d (.int .i64 T.n)) := Tk.ldn T
  have hlt1 : T.lt (k + 1) := ⟨Nat.lt_succ_of_lt hlt.bx, fun r hr => Nat.lt_succ_of_lt (hlt.nm r hr)⟩
  have f1 := ne4 (show k ≠ T.bx by omega)
  have m1 : hsets (hdels ((k, .box 25 Vec.zero.cells) :: T.hp) T.hp T.hp) T.hp = (k, .box 25 Vec.zero.cells) :: T.hp := Tk.mrg1 hs hlt rfl rfl
  refine SW.seq ?_
  (refine SW.regL [0, 1, 4, 5, 6, 10] mixed ?_; (repeat (first | refine RW.ro (uK) (h := ?_) | refine RW.skip (h := ?_) | refine RW.op (uK) (h := ?_) | refine RW.opN (uK) (h := ?_) | refine RW.skip0 (h := ?_) | (refine RW.callC (h := ?_); (first | refine CallP.mk (uK) (hs := Tk.hsub1 hlt) (hc := none_at hs hlt1 hn0) (h := ?_))))); refine RW.nil ⟨conf_of (by kernel_rfl), Pruned.mk (h := ?_)⟩)
  refine SW.seq (SW.block (SW.seq ?_))
  (refine SW.regL [0, 1, 4, 5, 6, 10] mixed ?_; (repeat (first | refine RW.ro (m1) (h := ?_) | refine RW.skip (h := ?_) | refine RW.op (m1) (h := ?_) | refine RW.opN (m1) (h := ?_) | refine RW.skip0 (h := ?_) | (refine RW.callC (h := ?_); (first | refine CallP.mk (m1) (hs := Tk.hsub1 hlt) (hc := none_at hs hlt1 hn0) (h := ?_))))); refine RW.nil ⟨conf_of (by kernel_rfl), Pruned.mk (h := ?_)⟩)
  refine SW.condF rfl (SW.seq ?_)
  by_cases h : T.n ≤ r
  · have h1 : decide ((r : Int) ≥ T.n) = true := by simp only [decide_eq_true_eq]; omega
    (refine SW.regL [0, 1, 4, 5, 6, 10] mixed ?_; (repeat (first | refine RW.ro (And.intro (uB) (And.intro (uN) (And.intro (h1) (f1)))) (h := ?_) | refine RW.skip (h := ?_) | refine RW.op (And.intro (uB) (And.intro (uN) (And.intro (h1) (f1)))) (h := ?_) | refine RW.opN (And.intro (uB) (And.intro (uN) (And.intro (h1) (f1)))) (h := ?_) | refine RW.skip0 (h := ?_) | (refine RW.callC (h := ?_); (first | refine CallP.mk (And.intro (uB) (And.intro (uN) (And.intro (h1) (f1)))) (hs := Tk.hsub1 hlt) (hc := none_at hs hlt1 hn0) (h := ?_))))); refine RW.nil ⟨conf_of (by kernel_rfl), Pruned.mk (h := ?_)⟩)
    refine SW.condT rfl (SW.seq ?_)
    (refine SW.regL [0, 1, 4, 5, 6, 10] mixed ?_; (repeat (first | refine RW.ro bq_tt (h := ?_) | refine RW.skip (h := ?_) | refine RW.op bq_tt (h := ?_) | refine RW.opN bq_tt (h := ?_) | refine RW.skip0 (h := ?_) | (refine RW.callC (h := ?_); (first | refine CallP.mk bq_tt (hs := Tk.hsub1 hlt) (hc := none_at hs hlt1 hn0) (h := ?_))))); refine RW.nil ⟨conf_of (by kernel_rfl), Pruned.mk (h := ?_)⟩)
    refine SW.ret ?_
    have e : T.cntV r = (Vec.zero, 2) := by unfold Tk.cntV; rw [if_pos h]
    rw [e]
    exact End.mk T.hp (h1 := rvV_vec (k := k) (by simp [List.lookup]) lk_cons_same rfl) (h2 := by simp [ldo]) (h3 := Tk.hsub1 hlt) (h4 := ⟨rfl, rfl⟩) (h6 := Tk.okk hlt1)
  · have h1 : decide ((r : Int) ≥ T.n) = false := by simp only [decide_eq_false_iff_not]; omega
    have h8 : r < 8 := by omega
    have uC : (T.cells.drop (10 + r * 8)).take 8 = (T.cnt r).cells := Tk.ldcnt T h8
    have uL2 : (10 + r * 8 + 8 ≤ T.cells.length) = True := eq_true (by rw [Tk.cells_len]; omega)
    (refine SW.regL [0, 1, 4, 5, 6, 10] mixed ?_; (repeat (first | refine RW.ro (And.intro (uB) (And.intro (uN) (And.intro (h1) (f1)))) (h := ?_) | refine RW.skip (h := ?_) | refine RW.op (And.intro (uB) (And.intro (uN) (And.intro (h1) (f1)))) (h := ?_) | refine RW.opN (And.intro (uB) (And.intro (uN) (And.intro (h1) (f1)))) (h := ?_) | refine RW.skip0 (h := ?_) | (refine RW.callC (h := ?_); (first | refine CallP.mk (And.intro (uB) (And.intro (uN) (And.intro (h1) (f1)))) (hs := Tk.hsub1 hlt) (hc := none_at hs hlt1 hn0) (h := ?_))))); refine RW.nil ⟨conf_of (by kernel_rfl), Pruned.mk (h := ?_)⟩)
    refine SW.condF rfl (SW.skip ?_)
    refine (?_ : Sl.SW _ _ _ _ _ _)
    refine SW.seq ?_
    (refine SW.regL [0, 1, 4, 5, 6, 10] mixed ?_; (repeat (first | refine RW.ro (And.intro (uB) (And.intro (uC) (And.intro (uL2) (f1)))) (h := ?_) | refine RW.skip (h := ?_) | refine RW.op (And.intro (uB) (And.intro (uC) (And.intro (uL2) (f1)))) (h := ?_) | refine RW.opN (And.intro (uB) (And.intro (uC) (And.intro (uL2) (f1)))) (h := ?_) | refine RW.skip0 (h := ?_) | (refine RW.callC (h := ?_); (first | refine CallP.mk (And.intro (uB) (And.intro (uC) (And.intro (uL2) (f1)))) (hs := Tk.hsub1 hlt) (hc := none_at hs hlt1 hn0) (h := ?_))))); refine RW.nil ⟨conf_of (by kernel_rfl), Pruned.mk (h := ?_)⟩)
    refine SW.ret ?_
    have e : T.cntV r = (T.cnt r, 0) := by unfold Tk.cntV; rw [if_neg h]
    rw [e]
    exact End.mk T.hp (h1 := rvV_vec (k := k) (by simp [List.lookup]) lk_cons_same rfl) (h2 := by simp [ldo]) (h3 := Tk.hsub1 hlt) (h4 := ⟨rfl, rfl⟩) (h6 := Tk.okk hlt1)
end
end Go.Proofs.Ytdnjkeeiopcipaa

/-
  Trackers: Waits; Hear at the names that stand.
-/
set_option linter.unusedSectionVars false
set_option linter.unusedVariables false
set_option linter.unusedSimpArgs false
namespace Go.Proofs.Ytdnjkeeiopcipaa
open Go.Sl Go.Proofs

def Tk.mps (T : Tk) : List SV := (T.cells.drop 74).take 8
theorem Tk.mps_get (T : Tk) {r : Nat} (h : r < 8) : T.mps[r]? = some (.mp (T.nm r)) := by
  match r, h with
  | 0, _ | 1, _ | 2, _ | 3, _ | 4, _ | 5, _ | 6, _ | 7, _ => rfl
theorem Tk.mps_ok (T : Tk) {q : Nat → Bool} (h : ∀ r, r < 8 → q (T.nm r) = true) : SV.oks q T.mps = true := by
  show SV.oks q [.mp (T.nm 0), .mp (T.nm 1), .mp (T.nm 2), .mp (T.nm 3), .mp (T.nm 4), .mp (T.nm 5), .mp (T.nm 6), .mp (T.nm 7)] = true
  simp only [SV.oks, SV.ok, h 0 (by omega), h 1 (by omega), h 2 (by omega), h 3 (by omega), h 4 (by omega), h 5 (by omega), h 6 (by omega), h 7 (by omega), Bool.and_self]
/-- How many wait, of the first replicas. -/
def Tk.wsum (T : Tk) : Nat → Nat
  | 0 => 0
  | r + 1 => T.wsum r + wlen (T.wt r)
theorem Tk.hear_nm (T : Tk) (r k : Nat) (v : Vec) : (T.hearV r v k).1.bx = T.bx ∧ ∀ i, (T.hearV r v k).1.nm i = T.nm i ∨ (T.hearV r v k).1.nm i = k := by
  unfold Tk.hearV
  split
  · exact ⟨rfl, fun i => .inl rfl⟩
  split
  · exact ⟨rfl, fun i => .inl rfl⟩
  split
  · split <;> exact ⟨rfl, fun i => .inl rfl⟩
  · obtain ⟨z1, z2⟩ := ((T.opn r k).addw r v).settle_bx
    obtain ⟨b1, b2, _⟩ := (T.opn r k).addw_bx r v
    refine ⟨z1.trans (b1.trans (T.opn_bx r k).1), fun i => ?_⟩
    show ((T.opn r k).addw r v).settle.nm i = T.nm i ∨ _ = k
    rw [z2, b2]
    exact (T.opn_nm r k i).imp id fun h => h.2

section
attribute [local irreducible] SW RW SCd SC CallP Pruned Tk.cells Tk.hp Tk.up Tk.setC Tk.setH Tk.settle Tk.maps Tk.mps
variable {T : Tk} (hs : T.sep) {k : Nat}
include hs in
theorem hear_at (hlt : T.lt k) (hn0 : T.n ≠ 0) (hn : T.n ≤ 8) (ho : T.own < 8) (hww : T.ww) (r : Nat) (hr : r < 256) (v : Vec) :
    SCd Try.prog stable_Tracker_Hear.f [.ptr T.bx 0, u8 r, .agg v.cells] T.hp k 6 (i64 (T.hearV r v (k + 2)).2) (T.hearV r v (k + 2)).1.hp := by
  unfold SCd
  have a2 : (lk T.hp T.bx).isSome = true := by rw [show lk T.hp T.bx = _ from Tk.lkb]; rfl
  have a3 : ∀ r, r < 8 → (lk T.hp (T.nm r)).isSome = true := fun r hr => by rw [show lk T.hp (T.nm r) = _ from Tk.lkm hs hr]; rfl
  refine (hear_sb hs hlt hn0 hn ho hww r hr v).here (fun n => (lk T.hp n).isSome) (fun n h e => by rw [e] at h; cases h) (by simp [SV.oks, SV.ok, a2]) (Tk.ok a2 a3) ?_
  rintro x F ⟨rfl, rfl⟩ _ _
  obtain ⟨h1, h2⟩ := T.hear_nm r (k + 2) v
  refine ⟨rfl, Tk.ok (by rw [h1]; simp only [a2, Bool.true_or]) fun i hi => ?_⟩
  rcases h2 i with h | h <;> rw [h]
  · simp only [a3 i hi, Bool.true_or]
  · simp

include hs in
set_option maxHeartbeats 1000000 in
theorem waits_at (hlt : T.lt k) (hn0 : T.n ≠ 0) (hw : ∀ i, i ≤ 8 → T.wsum i < 9223372036854775808) : SCd Try.prog stable_Tracker_Waits.f [.ptr T.bx 0] T.hp k 0 (i64 (T.wsum 8)) T.hp := by
  refine Tk.here hs rfl rfl (fun _ => rfl) (fun q h => by simp [SV.oks, SV.ok, h]) ?_
  have hbx := hlt.bx
  refine stable_Tracker_Waits.enter (by simp [SV.ok, SV.oks]; omega) (Tk.okk hlt) (by simp) ?_
  unfold stable_Tracker_Waits.s
  have uB : List.lookup T.bx T.hp = some (.box 93 T.cells) := Tk.lkb
  have uK : List.lookup k T.hp = none := Tk.lkk hlt (Nat.le_refl _)
  have uN : T.cells[0]? = some (.d (.int .i64 T.n)) := Tk.ldn T
  have uP : List.take 8 (List.drop 74 T.cells) = T.mps := by unfold Tk.mps; rfl
  have uL : (74 + 8 ≤ T.cells.length) = True := eq_true (by rw [Tk.cells_len]; omega)
  have m0 : hsets (hdels T.hp T.hp T.hp) T.hp = T.hp := Tk.mrg0 hs rfl rfl
  have hm := T.mps_ok (q := fun n => decide (n < k)) fun r hr => by simpa using hlt.nm r hr
  refine SW.seq ?_
  (refine SW.regL [0, 2, 3, 5, 7, 11, 12, 13] mixed ?_; (repeat (first | refine RW.ro bq_tt (h := ?_) | refine RW.skip (h := ?_) | refine RW.op bq_tt (h := ?_) | refine RW.opN bq_tt (h := ?_) | refine RW.skip0 (h := ?_) | (refine RW.callC (h := ?_); (first | refine CallP.mk bq_tt (hs := (fun _ _ h => h)) (hc := none_at hs hlt hn0) (h := ?_))))); refine RW.nil ⟨conf_of (by kernel_rfl), Pruned.mk (h := ?_)⟩)
  refine SW.seq (SW.seq ?_)
  (refine SW.regL [0, 2, 3, 5, 7, 11, 12, 13] mixed ?_; (repeat (first | refine RW.ro (m0) (h := ?_) | refine RW.skip (h := ?_) | refine RW.op (m0) (h := ?_) | refine RW.opN (m0) (h := ?_) | refine RW.skip0 (h := ?_) | (refine RW.callC (h := ?_); (first | refine CallP.mk (m0) (hs := (fun _ _ h => h)) (hc := none_at hs hlt hn0) (h := ?_))))); refine RW.nil ⟨conf_of (by kernel_rfl), Pruned.mk (h := ?_)⟩)
  refine SW.condF rfl (SW.skip ?_)
  refine SW.seq ?_
  (refine SW.regL [0, 2, 3, 5, 7, 11, 12, 13] mixed ?_; (repeat (first | refine RW.ro bq_tt (h := ?_) | refine RW.skip (h := ?_) | refine RW.op bq_tt (h := ?_) | refine RW.opN bq_tt (h := ?_) | refine RW.skip0 (h := ?_) | (refine RW.callC (h := ?_); (first | refine CallP.mk bq_tt (hs := (fun _ _ h => h)) (hc := none_at hs hlt hn0) (h := ?_))))); refine RW.nil ⟨conf_of (by kernel_rfl), Pruned.mk (h := ?_)⟩)
  refine SW.seq (SW.seq ?_)
  (refine SW.regL [0, 2, 3, 5, 7, 11, 12, 13] mixed ?_; (repeat (first | refine RW.ro (And.intro (uB) (And.intro (uP) (uL))) (h := ?_) | refine RW.skip (h := ?_) | refine RW.op (And.intro (uB) (And.intro (uP) (uL))) (h := ?_) | refine RW.opN (And.intro (uB) (And.intro (uP) (uL))) (h := ?_) | refine RW.skip0 (h := ?_) | (refine RW.callC (h := ?_); (first | refine CallP.mk (And.intro (uB) (And.intro (uP) (uL))) (hs := (fun _ _ h => h)) (hc := none_at hs hlt hn0) (h := ?_))))); refine RW.nil ⟨conf_of (by kernel_rfl), Pruned.mk (h := ?_)⟩)
  refine SW.block (SW.loop (α := {i : Nat // i ≤ 8}) (fun i => ⟨[(12, i64 i.1), (3, i64 (T.wsum i.1)), (11, .agg T.mps)], T.hp, k⟩) (fun i => 8 - i.1) ⟨0, by omega⟩ id ?_ ?_)
  · exact Weak.same (by simp) (by simp [EnvW, List.lookup, SV.ren, SV.rens_id, SV.ok, hm, Tk.wsum]) (Tk.okk hlt) (lk_of_nodup (Tk.nodup hs))
  rintro ⟨i, hi⟩
  dsimp only
  by_cases h : i < 8
  · have h1 : decide ((i : Int) < 8) = true := by simp only [decide_eq_true_eq]; omega
    have hg := T.mps_get h
    have hsm := hw (i + 1) (by omega)
    simp only [Tk.wsum] at hsm
    have uM : List.lookup (T.nm i) T.hp = some (wob (T.wt i)) := Tk.lkm hs h
    refine SW.seq ?_
    (refine SW.regL [0, 2, 3, 5, 7, 11, 12, 13] mixed ?_; (repeat (first | refine RW.ro (h1) (h := ?_) | refine RW.skip (h := ?_) | refine RW.op (h1) (h := ?_) | refine RW.opN (h1) (h := ?_) | refine RW.skip0 (h := ?_) | (refine RW.callC (h := ?_); (first | refine CallP.mk (h1) (hs := (fun _ _ h => h)) (hc := none_at hs hlt hn0) (h := ?_))))); refine RW.nil ⟨conf_of (by kernel_rfl), Pruned.mk (h := ?_)⟩)
    refine SW.seq (SW.condT rfl (SW.skip ?_))
    refine SW.seq (SW.block (SW.seq ?_))
    (refine SW.regL [0, 2, 3, 5, 7, 11, 12, 13] mixed ?_; (repeat (first | refine RW.ro (hg) (h := ?_) | refine RW.skip (h := ?_) | refine RW.op (hg) (h := ?_) | refine RW.opN (hg) (h := ?_) | refine RW.skip0 (h := ?_) | (refine RW.callC (h := ?_); (first | refine CallP.mk (hg) (hs := (fun _ _ h => h)) (hc := none_at hs hlt hn0) (h := ?_))))); refine RW.nil ⟨conf_of (by kernel_rfl), Pruned.mk (h := ?_)⟩)
    rcases hx : T.wt i with _ | ⟨L, c⟩
    · rw [hx] at uM hsm
      have uM : List.lookup (T.nm i) T.hp = some .nomap := uM
      (refine SW.regL [0, 2, 3, 5, 7, 11, 12, 13] mixed ?_; (repeat (first | refine RW.ro (uM) (h := ?_) | refine RW.skip (h := ?_) | refine RW.op (uM) (h := ?_) | refine RW.opN (uM) (h := ?_) | refine RW.skip0 (h := ?_) | (refine RW.callC (h := ?_); (first | refine CallP.mk (uM) (hs := (fun _ _ h => h)) (hc := none_at hs hlt hn0) (h := ?_))))); refine RW.nil ⟨conf_of (by kernel_rfl), Pruned.mk (h := ?_)⟩)
      (refine SW.regL [0, 2, 3, 5, 7, 11, 12, 13] mixed ?_; (repeat (first | refine RW.ro bq_tt (h := ?_) | refine RW.skip (h := ?_) | refine RW.op bq_tt (h := ?_) | refine RW.opN bq_tt (h := ?_) | refine RW.skip0 (h := ?_) | (refine RW.callC (h := ?_); (first | refine CallP.mk bq_tt (hs := (fun _ _ h => h)) (hc := none_at hs hlt hn0) (h := ?_))))); refine RW.nil ⟨conf_of (by kernel_rfl), Pruned.mk (h := ?_)⟩)
      exact ⟨⟨i + 1, by omega⟩, id, by simp; omega, Weak.same (by simp) (by simp [EnvW, List.lookup, SV.ren, SV.rens_id, SV.ok, hm, Tk.wsum, hx, wlen]) (Tk.okk hlt) (lk_of_nodup (Tk.nodup hs))⟩
    · rw [hx] at uM hsm
      have hsm : T.wsum i + L.length < 9223372036854775808 := hsm
      have e1 : IntKind.i64.wrap ((T.wsum i : Int) + (L.length : Int)) = (T.wsum i : Int) + (L.length : Int) := wrap_i64 _ (by omega)
      have uM : List.lookup (T.nm i) T.hp = some (.map (mapE Vec.cells iv L) c) := uM
      (refine SW.regL [0, 2, 3, 5, 7, 11, 12, 13] mixed ?_; (repeat (first | refine RW.ro (And.intro (uM) (e1)) (h := ?_) | refine RW.skip (h := ?_) | refine RW.op (And.intro (uM) (e1)) (h := ?_) | refine RW.opN (And.intro (uM) (e1)) (h := ?_) | refine RW.skip0 (h := ?_) | (refine RW.callC (h := ?_); (first | refine CallP.mk (And.intro (uM) (e1)) (hs := (fun _ _ h => h)) (hc := none_at hs hlt hn0) (h := ?_))))); refine RW.nil ⟨conf_of (by kernel_rfl), Pruned.mk (h := ?_)⟩)
      (refine SW.regL [0, 2, 3, 5, 7, 11, 12, 13] mixed ?_; (repeat (first | refine RW.ro (e1) (h := ?_) | refine RW.skip (h := ?_) | refine RW.op (e1) (h := ?_) | refine RW.opN (e1) (h := ?_) | refine RW.skip0 (h := ?_) | (refine RW.callC (h := ?_); (first | refine CallP.mk (e1) (hs := (fun _ _ h => h)) (hc := none_at hs hlt hn0) (h := ?_))))); refine RW.nil ⟨conf_of (by kernel_rfl), Pruned.mk (h := ?_)⟩)
      exact ⟨⟨i + 1, by omega⟩, id, by simp; omega, Weak.same (by simp) (by simp [EnvW, List.lookup, SV.ren, SV.rens_id, SV.ok, hm, Tk.wsum, hx, wlen, e1]) (Tk.okk hlt) (lk_of_nodup (Tk.nodup hs))⟩
  · have h1 : decide ((i : Int) < 8) = false := by simp only [decide_eq_false_iff_not]; omega
    have e : i = 8 := by omega
    subst e
    refine SW.seq ?_
    (refine SW.regL [0, 2, 3, 5, 7, 11, 12, 13] mixed ?_; (repeat (first | refine RW.ro (h1) (h := ?_) | refine RW.skip (h := ?_) | refine RW.op (h1) (h := ?_) | refine RW.opN (h1) (h := ?_) | refine RW.skip0 (h := ?_) | (refine RW.callC (h := ?_); (first | refine CallP.mk (h1) (hs := (fun _ _ h => h)) (hc := none_at hs hlt hn0) (h := ?_))))); refine RW.nil ⟨conf_of (by kernel_rfl), Pruned.mk (h := ?_)⟩)
    refine SW.seq (SW.condF rfl (SW.exit ?_))
    refine (?_ : Sl.SW _ _ _ _ _ _)
    refine SW.seq ?_
    (refine SW.regL [0, 2, 3, 5, 7, 11, 12, 13] mixed ?_; (repeat (first | refine RW.ro bq_tt (h := ?_) | refine RW.skip (h := ?_) | refine RW.op bq_tt (h := ?_) | refine RW.opN bq_tt (h := ?_) | refine RW.skip0 (h := ?_) | (refine RW.callC (h := ?_); (first | refine CallP.mk bq_tt (hs := (fun _ _ h => h)) (hc := none_at hs hlt hn0) (h := ?_))))); refine RW.nil ⟨conf_of (by kernel_rfl), Pruned.mk (h := ?_)⟩)
    refine SW.ret ?_
    exact End.mk T.hp (h3 := fun _ _ h => h) (h4 := ⟨rfl, rfl⟩) (h6 := Tk.okk hlt)
end
end Go.Proofs.Ytdnjkeeiopcipaa

/-
  Trackers: New.
-/
set_option linter.unusedSectionVars false
set_option linter.unusedVariables false
set_option linter.unusedSimpArgs false
namespace Go.Proofs.Ytdnjkeeiopcipaa
open Go.Sl Go.Proofs

def newT (n own k : Nat) : Tk := ⟨k, fun r => k + 1 + r, n, own, Vec.zero, fun _ => Vec.zero, fun _ => none⟩
theorem newT_sep (n own k : Nat) : (newT n own k).sep := ⟨fun r _ => by show k + 1 + r ≠ k; omega, fun r s _ _ h => by have h : k + 1 + r = k + 1 + s := h; omega⟩
theorem newT_lt (n own k : Nat) : (newT n own k).lt (k + 9) := ⟨by show k < k + 9; omega, fun r hr => by show k + 1 + r < k + 9; omega⟩
theorem newT_ww (n own k : Nat) : (newT n own k).ww := fun r hr L cl h => by cases h
def mm (k : Nat) : Nat → Hp
  | 0 => []
  | j + 1 => (k + 1 + j, .nomap) :: mm k j
def newC (n own k j : Nat) : List SV :=
  i64 n :: u8 own :: (Vec.zero.cells ++ (Vec.zero.cells ++ (Vec.zero.cells ++ (Vec.zero.cells ++ (Vec.zero.cells ++ (Vec.zero.cells ++ (Vec.zero.cells ++ (Vec.zero.cells ++ (Vec.zero.cells ++
    ((List.range j).map (fun i => SV.mp (k + 1 + i)) ++ List.replicate (8 - j) (.d .nilm)))))))))))
theorem newC_get (n own k : Nat) : ∀ {j : Nat}, j < 8 → (newC n own k j)[74 + j]? = some (.d .nilm)
  | 0, _ | 1, _ | 2, _ | 3, _ | 4, _ | 5, _ | 6, _ | 7, _ => rfl
  | j + 8, h => by omega
theorem newC_set (n own k : Nat) : ∀ {j : Nat}, j < 8 → (newC n own k j).set (74 + j) (.mp (k + 1 + j)) = newC n own k (j + 1)
  | 0, _ | 1, _ | 2, _ | 3, _ | 4, _ | 5, _ | 6, _ | 7, _ => rfl
  | j + 8, h => by omega
theorem mm_lk (k : Nat) (o : Ob) : ∀ j, lk (mm k j ++ [(k, o)]) k = some o
  | 0 => by simp [mm, lk_cons]
  | j + 1 => by
    simp only [mm, List.cons_append]
    rw [lk_cons, if_neg (by omega)]
    exact mm_lk k o j
theorem mm_hrep (k : Nat) (o o' : Ob) : ∀ j, hrep (mm k j ++ [(k, o)]) k o' = mm k j ++ [(k, o')]
  | 0 => by simp [mm, hrep]
  | j + 1 => by
    simp only [mm, List.cons_append, hrep]
    rw [if_neg (by omega), mm_hrep k o o' j]
theorem SW.nilmaps {P : Program} {N k0 : Nat} {s : SCo} {Q : Exit → St → Prop} {env : List (Nat × SV)} (n own k : Nat) : ∀ (j : Nat), j ≤ 8 →
    Sl.SW P N k0 s ⟨env, mm k j ++ [(k, .box 93 (newC n own k j))], k + 1 + j⟩ Q → Sl.SW P N k0 s ⟨env, mm k 0 ++ [(k, .box 93 (newC n own k 0))], k + 1⟩ Q
  | 0, _, h => h
  | j + 1, hj, h => by
    refine SW.nilmaps n own k j (by omega) (SW.nilmap (st := ⟨env, mm k j ++ [(k, .box 93 (newC n own k j))], k + 1 + j⟩) k (74 + j) (mm_lk k _ j) (newC_get n own k (by omega)) ?_)
    have e : hset (mm k j ++ [(k, .box 93 (newC n own k j))]) k (.box 93 ((newC n own k j).set (74 + j) (.mp (k + 1 + j)))) = mm k j ++ [(k, .box 93 (newC n own k (j + 1)))] := by
      unfold hset
      rw [mm_lk]
      dsimp only
      rw [mm_hrep, newC_set n own k (by omega)]
    show Sl.SW P N k0 s ⟨env, (k + 1 + j, .nomap) :: hset (mm k j ++ [(k, .box 93 (newC n own k j))]) k (.box 93 ((newC n own k j).set (74 + j) (.mp (k + 1 + j)))), k + 1 + j + 1⟩ Q
    rw [e]
    exact h
theorem newC_all (n own k : Nat) : newC n own k 8 = (newT n own k).cells := rfl
theorem new_sub (n own k : Nat) : HSub (newT n own k).hp (mm k 8 ++ [(k, .box 93 (newC n own k 8))]) := fun m ob h => by
  have hm : (m, ob) ∈ (newT n own k).hp := by
    have : ∀ {h : Hp}, lk h m = some ob → (m, ob) ∈ h := by
      intro h
      induction h with
      | nil => intro h; simp [lk_nil] at h
      | cons y h ih =>
        intro hl
        rw [lk_cons] at hl
        split at hl
        · rename_i e; subst e; injection hl with hl; subst hl; simp
        · exact List.mem_cons_of_mem _ (ih hl)
    exact this h
  rcases Tk.mem_hp hm with e | ⟨r, hr, e⟩
  · injection e with e1 e2
    rw [e1, e2]
    exact mm_lk k _ 8
  · injection e with e1 e2
    rw [e1, e2]
    show lk _ (k + 1 + r) = some .nomap
    match r, hr with
    | 0, _ | 1, _ | 2, _ | 3, _ | 4, _ | 5, _ | 6, _ | 7, _ => simp [mm, lk_cons]

section
attribute [local irreducible] SW RW SCd SC CallP Pruned
set_option maxHeartbeats 1000000 in
theorem new_sb (n own : Nat) (hn : 1 ≤ n ∧ n ≤ 8) (ho : own < n) (k : Nat) : SB Try.prog stable_New.f [i64 n, u8 own] [] k 9 fun x F => x = .tup [.ptr k 0, i64 0] ∧ F = (newT n own k).hp := by
  refine stable_New.enter (by simp [SV.ok, SV.oks]) rfl (by simp) ?_
  unfold stable_New.s
  have h1 : decide ((n : Int) < 1) = false := by simp only [decide_eq_false_iff_not]; omega
  have h2 : decide ((n : Int) > 8) = false := by simp only [decide_eq_false_iff_not]; omega
  have h3 : decide ((own : Int) ≥ n) = false := by simp only [decide_eq_false_iff_not]; omega
  refine SW.seq ?_
  (refine SW.regL [0, 1, 4, 5, 17] mixed ?_; (repeat (first | refine RW.ro bq_tt (h := ?_) | refine RW.skip (h := ?_) | refine RW.op bq_tt (h := ?_) | refine RW.opN bq_tt (h := ?_) | refine RW.skip0 (h := ?_))); refine RW.nil ⟨conf_of (by kernel_rfl), Pruned.mk (h := ?_)⟩)
  refine SW.seq (SW.seq ?_)
  (refine SW.regL [0, 1, 4, 5, 17] mixed ?_; (repeat (first | refine RW.ro (And.intro (h1) (And.intro (h2) (h3))) (h := ?_) | refine RW.skip (h := ?_) | refine RW.op (And.intro (h1) (And.intro (h2) (h3))) (h := ?_) | refine RW.opN (And.intro (h1) (And.intro (h2) (h3))) (h := ?_) | refine RW.skip0 (h := ?_))); refine RW.nil ⟨conf_of (by kernel_rfl), Pruned.mk (h := ?_)⟩)
  refine SW.condF rfl (SW.skip ?_)
  refine SW.seq ?_
  have s1 : ∀ (cs : List SV) (o : Nat) (c : SV), spl cs o [c] = cs.set o c := fun _ _ _ => rfl
  have s2 : ∀ (x y : SV) (l : List SV), (x :: l).set 0 y = y :: l := fun _ _ _ => rfl
  have s3 : ∀ (x z y : SV) (l : List SV), (x :: z :: l).set 1 y = x :: y :: l := fun _ _ _ _ => rfl
  dsimp only
  (refine SW.regL [0, 1, 4, 5, 17] mixed ?_; (repeat (first | refine RW.ro (And.intro (s1) (And.intro (s2) (s3))) (h := ?_) | refine RW.skip (h := ?_) | refine RW.op (And.intro (s1) (And.intro (s2) (s3))) (h := ?_) | refine RW.opN (And.intro (s1) (And.intro (s2) (s3))) (h := ?_) | refine RW.skip0 (h := ?_))); refine RW.nil ⟨conf_of (by kernel_rfl), Pruned.mk (h := ?_)⟩)
  refine SW.nilmaps n own k 8 (by omega) (SW.ret ?_)
  refine End.mk (newT n own k).hp (h3 := new_sub n own k) (h4 := ⟨rfl, rfl⟩) (h5 := by simp [retV, SV.ok, SV.oks]) (h6 := Tk.okk (newT_lt n own k))
theorem new_at (n own : Nat) (hn : 1 ≤ n ∧ n ≤ 8) (ho : own < n) (k : Nat) : SCd Try.prog stable_New.f [i64 n, u8 own] [] k 9 (.tup [.ptr k 0, i64 0]) (newT n own k).hp := by
  unfold SCd
  refine (new_sb n own hn ho k).here (fun _ => false) (fun n h => by cases h) rfl rfl ?_
  rintro x F ⟨rfl, rfl⟩ _ _
  refine ⟨by simp [SV.ok, SV.oks], Tk.ok ?_ fun r hr => ?_⟩
  · show (false || (decide (k ≤ k) && decide (k < k + 9))) = true
    simp
  · show (false || (decide (k ≤ k + 1 + r) && decide (k + 1 + r < k + 9))) = true
    simp; omega
set_option maxHeartbeats 1000000 in
theorem new0_sb (n : Int) (own : Nat) (hn : -9223372036854775808 ≤ n ∧ n < 9223372036854775808) (ho : own < 256) (hbad : ¬ (1 ≤ n ∧ n ≤ 8 ∧ (own : Int) < n)) : Go.Sl.Pure Try.prog stable_New.f [i64 n, u8 own] (.tup [.d .nilp, i64 2]) := by
  refine stable_New.enter (by first | rfl | simp [SV.ok, SV.oks]) (by first | rfl | simp [Hp.ok, Ob.ok, SV.ok, SV.oks, Vec.cells_ok]) (by simp) ?_
  unfold stable_New.s
  refine SW.seq ?_
  (refine SW.regL [0, 1, 4, 5, 17] mixed ?_; (repeat (first | refine RW.ro bq_tt (h := ?_) | refine RW.skip (h := ?_) | refine RW.op bq_tt (h := ?_) | refine RW.opN bq_tt (h := ?_) | refine RW.skip0 (h := ?_))); refine RW.nil ⟨conf_of (by kernel_rfl), Pruned.mk (h := ?_)⟩)
  refine SW.seq (SW.seq ?_)
  rcases h1 : decide (n < 1) with _ | _
  · rcases h2 : decide (n > 8) with _ | _
    · have h3 : decide ((own : Int) ≥ n) = true := by
        simp only [decide_eq_false_iff_not, decide_eq_true_eq] at *; omega
      (refine SW.regL [0, 1, 4, 5, 17] mixed ?_; (repeat (first | refine RW.ro (And.intro (h1) (And.intro (h2) (h3))) (h := ?_) | refine RW.skip (h := ?_) | refine RW.op (And.intro (h1) (And.intro (h2) (h3))) (h := ?_) | refine RW.opN (And.intro (h1) (And.intro (h2) (h3))) (h := ?_) | refine RW.skip0 (h := ?_))); refine RW.nil ⟨conf_of (by kernel_rfl), Pruned.mk (h := ?_)⟩)
      refine SW.condT rfl (SW.seq ?_)
      (refine SW.regL [0, 1, 4, 5, 17] mixed ?_; (repeat (first | refine RW.ro bq_tt (h := ?_) | refine RW.skip (h := ?_) | refine RW.op bq_tt (h := ?_) | refine RW.opN bq_tt (h := ?_) | refine RW.skip0 (h := ?_))); refine RW.nil ⟨conf_of (by kernel_rfl), Pruned.mk (h := ?_)⟩)
      refine SW.ret ?_
      exact End.mk [] (h4 := ⟨rfl, rfl⟩)
    · (refine SW.regL [0, 1, 4, 5, 17] mixed ?_; (repeat (first | refine RW.ro (And.intro (h1) (h2)) (h := ?_) | refine RW.skip (h := ?_) | refine RW.op (And.intro (h1) (h2)) (h := ?_) | refine RW.opN (And.intro (h1) (h2)) (h := ?_) | refine RW.skip0 (h := ?_))); refine RW.nil ⟨conf_of (by kernel_rfl), Pruned.mk (h := ?_)⟩)
      refine SW.condT rfl (SW.seq ?_)
      (refine SW.regL [0, 1, 4, 5, 17] mixed ?_; (repeat (first | refine RW.ro bq_tt (h := ?_) | refine RW.skip (h := ?_) | refine RW.op bq_tt (h := ?_) | refine RW.opN bq_tt (h := ?_) | refine RW.skip0 (h := ?_))); refine RW.nil ⟨conf_of (by kernel_rfl), Pruned.mk (h := ?_)⟩)
      refine SW.ret ?_
      exact End.mk [] (h4 := ⟨rfl, rfl⟩)
  · (refine SW.regL [0, 1, 4, 5, 17] mixed ?_; (repeat (first | refine RW.ro (h1) (h := ?_) | refine RW.skip (h := ?_) | refine RW.op (h1) (h := ?_) | refine RW.opN (h1) (h := ?_) | refine RW.skip0 (h := ?_))); refine RW.nil ⟨conf_of (by kernel_rfl), Pruned.mk (h := ?_)⟩)
    refine SW.condT rfl (SW.seq ?_)
    (refine SW.regL [0, 1, 4, 5, 17] mixed ?_; (repeat (first | refine RW.ro bq_tt (h := ?_) | refine RW.skip (h := ?_) | refine RW.op bq_tt (h := ?_) | refine RW.opN bq_tt (h := ?_) | refine RW.skip0 (h := ?_))); refine RW.nil ⟨conf_of (by kernel_rfl), Pruned.mk (h := ?_)⟩)
    refine SW.ret ?_
    exact End.mk [] (h4 := ⟨rfl, rfl⟩)
end
end Go.Proofs.Ytdnjkeeiopcipaa

/-
  Trackers: what stays so, whatever is told.
-/
set_option linter.unusedSectionVars false
set_option linter.unusedVariables false
set_option linter.unusedSimpArgs false
namespace Go.Proofs.Ytdnjkeeiopcipaa
open Go.Sl Go.Proofs

structure Tk.good (T : Tk) (k : Nat) : Prop where
  sep : T.sep
  lt : T.lt k
  ww : T.ww
  n0 : T.n ≠ 0
  n8 : T.n ≤ 8
  own : T.own < T.n
theorem Tk.good.own8 {T : Tk} {k : Nat} (h : T.good k) : T.own < 8 := Nat.lt_of_lt_of_le h.own h.n8
theorem Tk.good.mono {T : Tk} {k k' : Nat} (h : T.good k) (hk : k ≤ k') : T.good k' :=
  ⟨h.sep, ⟨Nat.lt_of_lt_of_le h.lt.bx hk, fun r hr => Nat.lt_of_lt_of_le (h.lt.nm r hr) hk⟩, h.ww, h.n0, h.n8, h.own⟩
theorem newT_good {n own : Nat} (hn : 1 ≤ n ∧ n ≤ 8) (ho : own < n) (k : Nat) : (newT n own k).good (k + 9) :=
  ⟨newT_sep n own k, newT_lt n own k, newT_ww n own k, by show n ≠ 0; omega, hn.2, ho⟩
theorem Tk.settle_ww {T : Tk} (h : T.ww) : T.settle.ww := Tk.settTo_ww h T.n
theorem Tk.settle_good {T : Tk} {k : Nat} (h : T.good k) : T.settle.good k := by
  obtain ⟨b1, b2, b3, b4, b5⟩ := T.settTo_bx T.n
  have e3 : T.settle.n = T.n := b3
  have e4 : T.settle.own = T.own := b4
  exact ⟨Tk.sep_of h.sep b1 b2, Tk.lt_of h.lt b1 b2, Tk.settle_ww h.ww, by rw [e3]; exact h.n0, by rw [e3]; exact h.n8, by rw [e3, e4]; exact h.own⟩
theorem Tk.hasV_good {T : Tk} {k : Nat} (h : T.good k) (v : Vec) : (T.hasV v).1.good k := by
  unfold Tk.hasV
  split
  · exact h
  split
  · exact h
  · exact Tk.settle_good (T := T.setH v) ⟨⟨h.sep.bx, h.sep.inj⟩, ⟨h.lt.bx, h.lt.nm⟩, h.ww, h.n0, h.n8, h.own⟩
theorem Tk.hearV_good {T : Tk} {k : Nat} (h : T.good k) (r : Nat) (v : Vec) : (T.hearV r v k).1.good (k + 1) := by
  unfold Tk.hearV
  split
  · exact h.mono (Nat.le_succ _)
  rename_i hr
  split
  · exact h.mono (Nat.le_succ _)
  split
  · split <;> exact h.mono (Nat.le_succ _)
  · refine Tk.settle_good ?_
    obtain ⟨b1, b2, b3, b4⟩ := (T.opn r k).addw_bx r v
    obtain ⟨o1, o2, o3, _⟩ := T.opn_bx r k
    have := h.n8
    exact ⟨Tk.sep_of (Tk.opn_sep h.sep h.lt) b1 b2, Tk.lt_of (Tk.opn_lt h.lt) b1 b2, Tk.addw_ww (Tk.opn_ww h.ww r k) (by omega) v, by rw [b3, o2]; exact h.n0, by rw [b3, o2]; exact h.n8, by rw [b3, b4, o2, o3]; exact h.own⟩

/-- What a tracker holds, without its names. -/
structure Td where
  n : Nat
  own : Nat
  has : Vec
  cnt : Nat → Vec
  wt : Nat → List Vec
def Tk.td (T : Tk) : Td := ⟨T.n, T.own, T.has, T.cnt, fun r => match T.wt r with | none => [] | some (L, _) => MM.keys L⟩
end Go.Proofs.Ytdnjkeeiopcipaa

/-
  Trackers: the known answers (head), as data.
-/
set_option linter.unusedSectionVars false
set_option linter.unusedVariables false
set_option linter.unusedSimpArgs false
namespace Go.Proofs.Ytdnjkeeiopcipaa
open Go.Sl Go.Proofs

abbrev v2 (a b : Nat) : Vec := ⟨a, b, 0, 0, 0, 0, 0, 0⟩
def hd0 : Tk := newT 2 0 0
def hd1 : Tk := (hd0.hasV (v2 2 0)).1
def hd2 : Tk := (hd1.hearV 1 (v2 1 0) 16).1
def hd3 : Tk := (hd2.hearV 1 (v2 2 1) 24).1
def hd4 : Tk := (hd3.hasV (v2 2 1)).1
def hd5 : Tk := (hd4.hasV (v2 1 1)).1
def hd6 : Tk := (hd5.hearV 2 (v2 0 0) 44).1
theorem hd_codes : (hd0.hasV (v2 2 0)).2 = 0 ∧ (hd1.hearV 1 (v2 1 0) 16).2 = 0 ∧ (hd2.hearV 1 (v2 2 1) 24).2 = 0 ∧ (hd3.hasV (v2 2 1)).2 = 0 ∧ (hd4.hasV (v2 1 1)).2 = 9 ∧ (hd5.hearV 2 (v2 0 0) 44).2 = 2 ∧ (hd6.hearV 0 (v2 9 0) 50).2 = 9 := by
  refine ⟨?_, ?_, ?_, ?_, ?_, ?_, ?_⟩ <;> decide +kernel
theorem hd_stab : hd2.stab = v2 1 0 ∧ hd3.stab = v2 1 0 ∧ hd4.stab = v2 2 1 := by
  refine ⟨?_, ?_, ?_⟩ <;> decide +kernel
theorem hd_wait : hd3.wsum 8 = 1 ∧ hd4.wsum 8 = 0 := by
  refine ⟨?_, ?_⟩ <;> decide +kernel

section
attribute [local irreducible] SW RW SCd SC CallP Pruned
theorem v_ok (a b : Nat) : Go.Sl.Pure Try.prog law12_v.f [u32 a, u32 b] (.agg (v2 a b).cells) := by
  refine law12_v.enter (by first | rfl | simp [SV.ok, SV.oks]) (by first | rfl | simp [Hp.ok, Ob.ok, SV.ok, SV.oks, Vec.cells_ok]) (by simp) ?_
  unfold law12_v.s
  have s1 : ∀ (cs : List SV) (o : Nat) (c : SV), spl cs o [c] = cs.set o c := fun _ _ _ => rfl
  have s2 : ∀ (c : SV), Vec.zero.cells.set 0 c = [c, u32 0, u32 0, u32 0, u32 0, u32 0, u32 0, u32 0] := fun _ => rfl
  have s3 : ∀ (x z y : SV) (l : List SV), (x :: z :: l).set 1 y = x :: y :: l := fun _ _ _ _ => rfl
  have s4 : spl Vec.zero.cells 0 [u32 a, u32 b, u32 0, u32 0, u32 0, u32 0, u32 0, u32 0] = (v2 a b).cells := rfl
  (repeat (first | refine SW.seq ?_ | refine SW.block ?_ | (refine SW.regL [0, 1, 4] mixed ?_; (repeat (first | refine RW.ro (And.intro (s1) (And.intro (s2) (And.intro (s3) (s4)))) (h := ?_) | refine RW.skip (h := ?_) | refine RW.op (And.intro (s1) (And.intro (s2) (And.intro (s3) (s4)))) (h := ?_) | refine RW.opN (And.intro (s1) (And.intro (s2) (And.intro (s3) (s4)))) (h := ?_) | refine RW.skip0 (h := ?_))); refine RW.nil ⟨by kernel_rfl, Pruned.mk (h := ?_)⟩) | refine SW.skip ?_ | refine SW.exit ?_ | refine SW.ret ?_ | refine SW.condT rfl ?_ | refine SW.condF rfl ?_))
  exact End.mk [] (h4 := ⟨rfl, rfl⟩)
theorem v_at (a b k : Nat) : SCd Try.prog law12_v.f [.d (.int .u32 (a : Int)), .d (.int .u32 (b : Int))] [] k 0 (.agg (v2 a b).cells) [] := (v_ok a b).sc rfl k
end
end Go.Proofs.Ytdnjkeeiopcipaa

/-
  Trackers: head.
-/
set_option linter.unusedSectionVars false
set_option linter.unusedVariables false
set_option linter.unusedSimpArgs false
namespace Go.Proofs.Ytdnjkeeiopcipaa
open Go.Sl Go.Proofs

theorem hmrg_self {h : Hp} : ∀ {F : Hp}, (∀ x, x ∈ F → lk h x.1 = some x.2) → hsets h F = h
  | [], _ => rfl
  | (n, o) :: F, hx => by
    simp only [hsets]
    rw [hmrg_self fun x h => hx x (List.mem_cons_of_mem _ h)]
    exact hset_same (hx (n, o) (by simp))
theorem Tk.selfX {T : Tk} (hs : T.sep) {X : Hp} (h : HSub T.hp X) : hsets (hdels X T.hp T.hp) T.hp = X := by
  rw [hdels_same fun n hn => by obtain ⟨o, ho⟩ := lk_of_mem hn; rw [ho]; rfl]
  exact hmrg_self fun x hx => h _ _ (lk_of_nodup (Tk.nodup hs) x hx)
theorem lkX {H F F' : Hp} (hs : HSub F H) : lk (hsets (hdels H F' F) F') = mrg (lk H) (lk F) (lk F') := by
  have := lk_hmrg (ro := false) hs (F' := F') (fun h => by cases h)
  exact this
theorem subX {H F F' : Hp} (hs : HSub F H) : HSub F' (hsets (hdels H F' F) F') := fun n ob h => by
  rw [lkX hs, mrg_in (.inr (by rw [h]; simp)), h]
theorem outX {H F F' : Hp} (hs : HSub F H) {n : Nat} (h1 : lk F n = none) (h2 : lk F' n = none) : lk (hsets (hdels H F' F) F') n = lk H n := by
  rw [lkX hs, mrg_out h1 h2]

theorem g0 : hd0.good 9 := newT_good (by omega) (by omega) 0
theorem g1 : hd1.good 9 := Tk.hasV_good g0 _
theorem g2 : hd2.good 17 := Tk.hearV_good (k := 16) (g1.mono (by omega)) 1 _
theorem g3 : hd3.good 25 := Tk.hearV_good (k := 24) (g2.mono (by omega)) 1 _
theorem g4 : hd4.good 25 := Tk.hasV_good g3 _
theorem g5 : hd5.good 25 := Tk.hasV_good g4 _
theorem g6 : hd6.good 45 := Tk.hearV_good (k := 44) (g5.mono (by omega)) 2 _
theorem b0 : hd0.bx = 0 := rfl
theorem b1 : hd1.bx = 0 := (hd0.hasV_bx _).1.trans b0
theorem b2 : hd2.bx = 0 := (hd1.hear_nm _ _ _).1.trans b1
theorem b3 : hd3.bx = 0 := (hd2.hear_nm _ _ _).1.trans b2
theorem b4 : hd4.bx = 0 := (hd3.hasV_bx _).1.trans b3
theorem b5 : hd5.bx = 0 := (hd4.hasV_bx _).1.trans b4
theorem b6 : hd6.bx = 0 := (hd5.hear_nm _ _ _).1.trans b5

section
attribute [local irreducible] SW RW SCd SC CallP Pruned
theorem c1 : SCd Try.prog stable_Tracker_Has.f [.ptr 0 0, .agg (v2 2 0).cells] hd0.hp 9 5 (.d (.int .i64 0)) hd1.hp := by
  have h := has_at g0.sep g0.lt g0.n0 g0.n8 g0.own8 g0.ww (v2 2 0)
  rw [hd_codes.1, b0] at h; exact h
theorem c2 : SCd Try.prog stable_Tracker_Hear.f [.ptr 0 0, .d (.int .u8 1), .agg (v2 1 0).cells] hd1.hp 14 6 (.d (.int .i64 0)) hd2.hp := by
  have g := g1.mono (k' := 14) (by omega)
  have h := hear_at g.sep g.lt g.n0 g.n8 g.own8 g.ww 1 (by omega) (v2 1 0)
  rw [show (14 + 2 : Nat) = 16 from rfl, hd_codes.2.1, b1] at h; exact h
theorem c3 : SCd Try.prog stable_Tracker_Stable.f [.ptr 0 0] hd2.hp 20 1 (.agg (v2 1 0).cells) hd2.hp := by
  have g := g2.mono (k' := 20) (by omega)
  have h := stable_at g.sep g.lt g.n0 g.n8
  rw [hd_stab.1, b2] at h; exact h
theorem c4 : SCd Try.prog stable_Tracker_Hear.f [.ptr 0 0, .d (.int .u8 1), .agg (v2 2 1).cells] hd2.hp 22 6 (.d (.int .i64 0)) hd3.hp := by
  have g := g2.mono (k' := 22) (by omega)
  have h := hear_at g.sep g.lt g.n0 g.n8 g.own8 g.ww 1 (by omega) (v2 2 1)
  rw [show (22 + 2 : Nat) = 24 from rfl, hd_codes.2.2.1, b2] at h; exact h
theorem c5 : SCd Try.prog stable_Tracker_Stable.f [.ptr 0 0] hd3.hp 28 1 (.agg (v2 1 0).cells) hd3.hp := by
  have g := g3.mono (k' := 28) (by omega)
  have h := stable_at g.sep g.lt g.n0 g.n8
  rw [hd_stab.2.1, b3] at h; exact h
theorem wle {T : Tk} {i : Nat} (h : ∀ i, i < 9 → T.wsum i < 100) : ∀ i, i ≤ 8 → T.wsum i < 9223372036854775808 := fun i hi => by have := h i (by omega); omega
theorem w3 : ∀ i, i < 9 → hd3.wsum i < 100 := by decide +kernel
theorem w4 : ∀ i, i < 9 → hd4.wsum i < 100 := by decide +kernel
theorem c6 : SCd Try.prog stable_Tracker_Waits.f [.ptr 0 0] hd3.hp 29 0 (.d (.int .i64 1)) hd3.hp := by
  have g := g3.mono (k' := 29) (by omega)
  have h := waits_at g.sep g.lt g.n0 (wle (i := 0) w3)
  rw [hd_wait.1, b3] at h; exact h
theorem c7 : SCd Try.prog stable_Tracker_Has.f [.ptr 0 0, .agg (v2 2 1).cells] hd3.hp 30 5 (.d (.int .i64 0)) hd4.hp := by
  have g := g3.mono (k' := 30) (by omega)
  have h := has_at g.sep g.lt g.n0 g.n8 g.own8 g.ww (v2 2 1)
  rw [hd_codes.2.2.2.1, b3] at h; exact h
theorem c8 : SCd Try.prog stable_Tracker_Stable.f [.ptr 0 0] hd4.hp 35 1 (.agg (v2 2 1).cells) hd4.hp := by
  have g := g4.mono (k' := 35) (by omega)
  have h := stable_at g.sep g.lt g.n0 g.n8
  rw [hd_stab.2.2, b4] at h; exact h
theorem c9 : SCd Try.prog stable_Tracker_Waits.f [.ptr 0 0] hd4.hp 36 0 (.d (.int .i64 0)) hd4.hp := by
  have g := g4.mono (k' := 36) (by omega)
  have h := waits_at g.sep g.lt g.n0 (wle (i := 0) w4)
  rw [hd_wait.2, b4] at h; exact h
theorem c10 : SCd Try.prog stable_Tracker_Has.f [.ptr 0 0, .agg (v2 1 1).cells] hd4.hp 37 5 (.d (.int .i64 9)) hd5.hp := by
  have g := g4.mono (k' := 37) (by omega)
  have h := has_at g.sep g.lt g.n0 g.n8 g.own8 g.ww (v2 1 1)
  rw [hd_codes.2.2.2.2.1, b4] at h; exact h
theorem c11 : SCd Try.prog stable_Tracker_Hear.f [.ptr 0 0, .d (.int .u8 2), .agg (v2 0 0).cells] hd5.hp 42 6 (.d (.int .i64 2)) hd6.hp := by
  have g := g5.mono (k' := 42) (by omega)
  have h := hear_at g.sep g.lt g.n0 g.n8 g.own8 g.ww 2 (by omega) (v2 0 0)
  rw [show (42 + 2 : Nat) = 44 from rfl, hd_codes.2.2.2.2.2.1, b5] at h; exact h
theorem c12 : SCd Try.prog stable_Tracker_Hear.f [.ptr 0 0, .d (.int .u8 0), .agg (v2 9 0).cells] hd6.hp 48 6 (.d (.int .i64 9)) (hd6.hearV 0 (v2 9 0) 50).1.hp := by
  have g := g6.mono (k' := 48) (by omega)
  have h := hear_at g.sep g.lt g.n0 g.n8 g.own8 g.ww 0 (by omega) (v2 9 0)
  rw [show (48 + 2 : Nat) = 50 from rfl, hd_codes.2.2.2.2.2.2, b6] at h; exact h
end
end Go.Proofs.Ytdnjkeeiopcipaa
