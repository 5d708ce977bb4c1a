/-
  Trackers: none, may, Has, Counts, Own.
-/
import Derived.Test.YtdnjkeeiopcipaaW12f
set_option linter.unusedSectionVars false
set_option linter.unusedVariables false
set_option linter.unusedSimpArgs false
namespace Go.Proofs.Ytdnjkeeiopcipaa
open Go.Sl Go.Proofs

theorem Tk.here {P : Program} {f : FuncId} {args : List SV} {T T' : Tk} {k nk : Nat} {v : SV} (hs : T.sep) (h1 : T'.bx = T.bx) (h2 : T'.nm = T.nm) (hv : ∀ q, v.ok q = true) (ha : ∀ q, q T.bx = true → SV.oks q args = true)
    (h : SB P f args T.hp k nk fun x F => x = v ∧ F = T'.hp) : SCd P f args T.hp k nk v T'.hp := by
  have a2 : (lk T.hp T.bx).isSome = true := by rw [show lk T.hp T.bx = _ from Tk.lkb]; rfl
  have a3 : ∀ r, r < 8 → (lk T.hp (T.nm r)).isSome = true := fun r hr => by rw [show lk T.hp (T.nm r) = _ from Tk.lkm hs hr]; rfl
  refine h.here (fun n => (lk T.hp n).isSome) (fun n h e => by rw [e] at h; cases h) (ha _ a2) (Tk.ok a2 a3) ?_
  rintro x F ⟨rfl, rfl⟩ _ _
  exact ⟨hv _, Tk.ok (by rw [h1]; simp only [a2, Bool.true_or]) fun r hr => by rw [h2]; simp only [a3 r hr, Bool.true_or]⟩

def Tk.may (T : Tk) (v : Vec) : Bool := (List.range 8).all fun r => decide (r < T.n) || decide (v.get r = 0)

section
attribute [local irreducible] SW RW SCd SC CallP Pruned Tk.cells Tk.hp Tk.up Tk.setC Tk.setH
variable {T : Tk} (hs : T.sep) {k : Nat}
include hs in
theorem none_at (hlt : T.lt k) (hn : T.n ≠ 0) : SCd Try.prog stable_Tracker_none.f [.ptr T.bx 0] T.hp k 0 (bl false) T.hp := by
  refine Tk.here hs rfl rfl (fun _ => rfl) (fun q h => by simp [SV.oks, SV.ok, h]) ?_
  have hbx := hlt.bx
  refine stable_Tracker_none.enter (by simp [SV.ok, SV.oks]; omega) (Tk.okk hlt) (by simp) ?_
  unfold stable_Tracker_none.s
  have uB : List.lookup T.bx T.hp = some (.box 93 T.cells) := Tk.lkb
  have uN : T.cells[0]? = some (.d (.int .i64 T.n)) := Tk.ldn T
  have h1 : ((T.n : Int) == 0) = false := by simpa using hn
  refine SW.seq ?_
  (refine SW.regL [0, 2] mixed ?_; (repeat (first | refine RW.ro bq_tt (h := ?_) | refine RW.skip (h := ?_) | refine RW.op bq_tt (h := ?_) | refine RW.opN bq_tt (h := ?_) | refine RW.skip0 (h := ?_))); refine RW.nil ⟨conf_of (by kernel_rfl), Pruned.mk (h := ?_)⟩)
  refine SW.seq ?_
  (refine SW.regL [0, 2] mixed ?_; (repeat (first | refine RW.ro (And.intro (uB) (And.intro (uN) (h1))) (h := ?_) | refine RW.skip (h := ?_) | refine RW.op (And.intro (uB) (And.intro (uN) (h1))) (h := ?_) | refine RW.opN (And.intro (uB) (And.intro (uN) (h1))) (h := ?_) | refine RW.skip0 (h := ?_))); refine RW.nil ⟨conf_of (by kernel_rfl), Pruned.mk (h := ?_)⟩)
  refine SW.ret ?_
  exact End.mk T.hp (h3 := fun _ _ h => h) (h4 := ⟨rfl, rfl⟩) (h6 := Tk.okk hlt)
include hs in
set_option maxHeartbeats 1000000 in
theorem tmay_at (hlt : T.lt k) (v : Vec) : SCd Try.prog stable_Tracker_may.f [.ptr T.bx 0, .agg v.cells] T.hp k 1 (bl (T.may v)) T.hp := by
  refine Tk.here hs rfl rfl (fun _ => rfl) (fun q h => by simp [SV.oks, SV.ok, h]) ?_
  have hbx := hlt.bx
  have hok1 : ∀ kx, k + 1 ≤ kx → Hp.ok (fun n => decide (n < kx)) ((k, .box 25 v.cells) :: T.hp) = true := fun kx h => by
    have := Hp.ok_less (show k ≤ kx by omega) (Tk.okk hlt)
    simp only [Hp.ok, List.all_cons, Ob.ok, Vec.cells_ok, Bool.and_true, Bool.and_eq_true, decide_eq_true_eq] at this ⊢
    exact ⟨by omega, this⟩
  have hn1 : (((k, .box 25 v.cells) :: T.hp : Hp).map (·.1)).Nodup := by
    rw [List.map_cons, List.nodup_cons]
    exact ⟨Tk.out hlt (Nat.le_refl _), Tk.nodup hs⟩
  refine stable_Tracker_may.enter (by simp [SV.ok, SV.oks]; omega) (Tk.okk hlt) (by simp) ?_
  unfold stable_Tracker_may.s
  have uB : List.lookup T.bx T.hp = some (.box 93 T.cells) := Tk.lkb
  have uN : T.cells[0]? = some (.d (.int .i64 T.n)) := Tk.ldn T
  have uK : List.lookup k T.hp = none := Tk.lkk hlt (Nat.le_refl _)
  have f1 := ne4 (show k ≠ T.bx by omega)
  refine SW.seq ?_
  (refine SW.regL [0, 1, 3, 4, 5, 6, 7, 8, 9, 21] mixed ?_; (repeat (first | refine RW.ro (uK) (h := ?_) | refine RW.skip (h := ?_) | refine RW.op (uK) (h := ?_) | refine RW.opN (uK) (h := ?_) | refine RW.skip0 (h := ?_))); refine RW.nil ⟨conf_of (by kernel_rfl), Pruned.mk (h := ?_)⟩)
  refine SW.seq (SW.seq ?_)
  (refine SW.regL [0, 1, 3, 4, 5, 6, 7, 8, 9, 21] mixed ?_; (repeat (first | refine RW.ro (uK) (h := ?_) | refine RW.skip (h := ?_) | refine RW.op (uK) (h := ?_) | refine RW.opN (uK) (h := ?_) | refine RW.skip0 (h := ?_))); refine RW.nil ⟨conf_of (by kernel_rfl), Pruned.mk (h := ?_)⟩)
  refine SW.block (SW.loop (α := {i : Nat // i ≤ 8 ∧ ∀ r, r < i → r < T.n ∨ v.get r = 0}) (fun i => ⟨[(8, i64 i.1), (0, .ptr T.bx 0), (7, .agg v.cells)], (k, .box 25 v.cells) :: T.hp, k + 1⟩) (fun i => 8 - i.1) ⟨0, by omega, by omega⟩ id ?_ ?_)
  · exact Weak.same (by simp) (by simp [EnvW, List.lookup, SV.ren, SV.rens, SV.ok, SV.oks, Vec.cells_ren, Vec.cells_ok]; try omega) (hok1 _ (Nat.le_refl _)) (lk_of_nodup hn1)
  rintro ⟨i, hi, hall⟩
  dsimp only
  by_cases h : i < 8
  · have h1 : decide ((i : Int) < 8) = true := by simp only [decide_eq_true_eq]; omega
    have g8 := Vec.cells_get v h
    refine SW.seq ?_
    (refine SW.regL [0, 1, 3, 4, 5, 6, 7, 8, 9, 21] mixed ?_; (repeat (first | refine RW.ro (h1) (h := ?_) | refine RW.skip (h := ?_) | refine RW.op (h1) (h := ?_) | refine RW.opN (h1) (h := ?_) | refine RW.skip0 (h := ?_))); refine RW.nil ⟨conf_of (by kernel_rfl), Pruned.mk (h := ?_)⟩)
    refine SW.seq (SW.condT rfl (SW.skip ?_))
    refine SW.seq (SW.block (SW.seq ?_))
    (refine SW.regL [0, 1, 3, 4, 5, 6, 7, 8, 9, 21] mixed ?_; (repeat (first | refine RW.ro (g8) (h := ?_) | refine RW.skip (h := ?_) | refine RW.op (g8) (h := ?_) | refine RW.opN (g8) (h := ?_) | refine RW.skip0 (h := ?_))); refine RW.nil ⟨conf_of (by kernel_rfl), Pruned.mk (h := ?_)⟩)
    by_cases h2 : T.n ≤ i ∧ v.get i ≠ 0
    · have h3 : decide ((i : Int) ≥ T.n) = true := by simp only [decide_eq_true_eq]; omega
      have h4 : decide ((v.get i : Int) > 0) = true := by simp only [decide_eq_true_eq]; omega
      refine SW.seq ?_
      (refine SW.regL [0, 1, 3, 4, 5, 6, 7, 8, 9, 21] mixed ?_; (repeat (first | refine RW.ro (And.intro (uB) (And.intro (uN) (And.intro (f1) (And.intro (h3) (h4))))) (h := ?_) | refine RW.skip (h := ?_) | refine RW.op (And.intro (uB) (And.intro (uN) (And.intro (f1) (And.intro (h3) (h4))))) (h := ?_) | refine RW.opN (And.intro (uB) (And.intro (uN) (And.intro (f1) (And.intro (h3) (h4))))) (h := ?_) | refine RW.skip0 (h := ?_))); refine RW.nil ⟨conf_of (by kernel_rfl), Pruned.mk (h := ?_)⟩)
      refine SW.condT rfl (SW.seq ?_)
      (refine SW.regL [0, 1, 3, 4, 5, 6, 7, 8, 9, 21] mixed ?_; (repeat (first | refine RW.ro bq_tt (h := ?_) | refine RW.skip (h := ?_) | refine RW.op bq_tt (h := ?_) | refine RW.opN bq_tt (h := ?_) | refine RW.skip0 (h := ?_))); refine RW.nil ⟨conf_of (by kernel_rfl), Pruned.mk (h := ?_)⟩)
      refine SW.ret ?_
      have e : T.may v = false := by
        unfold Tk.may
        rw [List.all_eq_false]
        exact ⟨i, by simpa using h, by simp; omega⟩
      rw [e]
      exact End.mk T.hp (h3 := Tk.hsub1 hlt) (h4 := ⟨rfl, rfl⟩) (h6 := Hp.ok_less (by omega) (Tk.okk hlt))
    · have hb : (if decide ((i : Int) ≥ T.n) = true then decide ((v.get i : Int) > 0) else false) = false := by
        split
        · rename_i h3
          simp only [decide_eq_true_eq] at h3
          simp only [decide_eq_false_iff_not]; omega
        · rfl
      refine SW.seq ?_
      rcases h3 : decide ((i : Int) ≥ T.n) with _ | _
      · (refine SW.regL [0, 1, 3, 4, 5, 6, 7, 8, 9, 21] mixed ?_; (repeat (first | refine RW.ro (And.intro (uB) (And.intro (uN) (And.intro (f1) (h3)))) (h := ?_) | refine RW.skip (h := ?_) | refine RW.op (And.intro (uB) (And.intro (uN) (And.intro (f1) (h3)))) (h := ?_) | refine RW.opN (And.intro (uB) (And.intro (uN) (And.intro (f1) (h3)))) (h := ?_) | refine RW.skip0 (h := ?_))); refine RW.nil ⟨conf_of (by kernel_rfl), Pruned.mk (h := ?_)⟩)
        refine SW.condF rfl (SW.skip ?_)
        (refine SW.regL [0, 1, 3, 4, 5, 6, 7, 8, 9, 21] mixed ?_; (repeat (first | refine RW.ro bq_tt (h := ?_) | refine RW.skip (h := ?_) | refine RW.op bq_tt (h := ?_) | refine RW.opN bq_tt (h := ?_) | refine RW.skip0 (h := ?_))); refine RW.nil ⟨conf_of (by kernel_rfl), Pruned.mk (h := ?_)⟩)
        exact ⟨⟨i + 1, by omega, fun r hr => by rcases Nat.lt_succ_iff_lt_or_eq.1 hr with hr | rfl; exact hall r hr; omega⟩, id, by simp; omega, Weak.same (by simp) (by simp [EnvW, List.lookup, SV.ren, SV.rens, SV.ok, SV.oks, Vec.cells_ren, Vec.cells_ok]; try omega) (hok1 _ (Nat.le_refl _)) (lk_of_nodup hn1)⟩
      · have h4 : decide ((v.get i : Int) > 0) = false := by rw [h3] at hb; simpa using hb
        (refine SW.regL [0, 1, 3, 4, 5, 6, 7, 8, 9, 21] mixed ?_; (repeat (first | refine RW.ro (And.intro (uB) (And.intro (uN) (And.intro (f1) (And.intro (h3) (h4))))) (h := ?_) | refine RW.skip (h := ?_) | refine RW.op (And.intro (uB) (And.intro (uN) (And.intro (f1) (And.intro (h3) (h4))))) (h := ?_) | refine RW.opN (And.intro (uB) (And.intro (uN) (And.intro (f1) (And.intro (h3) (h4))))) (h := ?_) | refine RW.skip0 (h := ?_))); refine RW.nil ⟨conf_of (by kernel_rfl), Pruned.mk (h := ?_)⟩)
        refine SW.condF rfl (SW.skip ?_)
        (refine SW.regL [0, 1, 3, 4, 5, 6, 7, 8, 9, 21] mixed ?_; (repeat (first | refine RW.ro bq_tt (h := ?_) | refine RW.skip (h := ?_) | refine RW.op bq_tt (h := ?_) | refine RW.opN bq_tt (h := ?_) | refine RW.skip0 (h := ?_))); refine RW.nil ⟨conf_of (by kernel_rfl), Pruned.mk (h := ?_)⟩)
        exact ⟨⟨i + 1, by omega, fun r hr => by rcases Nat.lt_succ_iff_lt_or_eq.1 hr with hr | rfl; exact hall r hr; omega⟩, id, by simp; omega, Weak.same (by simp) (by simp [EnvW, List.lookup, SV.ren, SV.rens, SV.ok, SV.oks, Vec.cells_ren, Vec.cells_ok]; try omega) (hok1 _ (Nat.le_refl _)) (lk_of_nodup hn1)⟩
  · have h1 : decide ((i : Int) < 8) = false := by simp only [decide_eq_false_iff_not]; omega
    refine SW.seq ?_
    (refine SW.regL [0, 1, 3, 4, 5, 6, 7, 8, 9, 21] mixed ?_; (repeat (first | refine RW.ro (h1) (h := ?_) | refine RW.skip (h := ?_) | refine RW.op (h1) (h := ?_) | refine RW.opN (h1) (h := ?_) | refine RW.skip0 (h := ?_))); refine RW.nil ⟨conf_of (by kernel_rfl), Pruned.mk (h := ?_)⟩)
    refine SW.seq (SW.condF rfl (SW.exit ?_))
    refine (?_ : Sl.SW _ _ _ _ _ _)
    refine SW.seq ?_
    (refine SW.regL [0, 1, 3, 4, 5, 6, 7, 8, 9, 21] mixed ?_; (repeat (first | refine RW.ro bq_tt (h := ?_) | refine RW.skip (h := ?_) | refine RW.op bq_tt (h := ?_) | refine RW.opN bq_tt (h := ?_) | refine RW.skip0 (h := ?_))); refine RW.nil ⟨conf_of (by kernel_rfl), Pruned.mk (h := ?_)⟩)
    refine SW.ret ?_
    have e : T.may v = true := by
      unfold Tk.may
      rw [List.all_eq_true]
      intro r hr
      have := hall r (by have : r < 8 := by simpa using hr
                         omega)
      simp; omega
    rw [e]
    exact End.mk T.hp (h3 := Tk.hsub1 hlt) (h4 := ⟨rfl, rfl⟩) (h6 := Hp.ok_less (by omega) (Tk.okk hlt))
end
end Go.Proofs.Ytdnjkeeiopcipaa
