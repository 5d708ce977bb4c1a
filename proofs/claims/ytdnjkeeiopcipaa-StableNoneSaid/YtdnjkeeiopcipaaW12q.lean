/-
  Trackers that are none.
-/
import Derived.Test.YtdnjkeeiopcipaaW12p
set_option linter.unusedSectionVars false
set_option linter.unusedVariables false
set_option linter.unusedSimpArgs false
namespace Go.Proofs.Ytdnjkeeiopcipaa
open Go.Sl Go.Proofs

def zC : List SV := newC 0 0 0 0
theorem zC0 : zC[0]? = some (.d (.int .i64 0)) := rfl
theorem zC_ok (q : Nat → Bool) : SV.oks q zC = true := rfl
section
attribute [local irreducible] SW RW SCd SC CallP Pruned zC
theorem none0_ok : Go.Sl.Pure Try.prog stable_Tracker_none.f [.d .nilp] (bl true) := by
  refine stable_Tracker_none.enter (by first | rfl | simp [SV.ok, SV.oks]) (by first | rfl | simp [Hp.ok, Ob.ok, SV.ok, SV.oks, Vec.cells_ok]) (by simp) ?_
  unfold stable_Tracker_none.s
  (repeat (first | refine SW.seq ?_ | refine SW.block ?_ | (refine SW.regL [0, 2] mixed ?_; (repeat (first | refine RW.ro bq_tt (h := ?_) | refine RW.skip (h := ?_) | refine RW.op bq_tt (h := ?_) | refine RW.opN bq_tt (h := ?_) | refine RW.skip0 (h := ?_))); refine RW.nil ⟨by kernel_rfl, Pruned.mk (h := ?_)⟩) | refine SW.skip ?_ | refine SW.exit ?_ | refine SW.ret ?_ | refine SW.condT rfl ?_ | refine SW.condF rfl ?_))
  exact End.mk [] (h4 := ⟨rfl, rfl⟩)
theorem none0_at (k : Nat) : SCd Try.prog stable_Tracker_none.f [.d .nilp] [] k 0 (bl true) [] := none0_ok.sc rfl k
/-- A tracker of no replica, at its own name. -/
abbrev Zh (b : Nat) : Hp := [(b, .box 93 zC)]
theorem Zh_ok {b k : Nat} (h : b < k) : (Zh b).ok (fun n => decide (n < k)) = true := by
  simp only [Zh, Hp.ok, List.all_cons, List.all_nil, Ob.ok, zC_ok, Bool.and_true, decide_eq_true_eq]; exact h
theorem Zh_here {P : Program} {f : FuncId} {args : List SV} {b k nk : Nat} {v : SV} (hv : ∀ q, v.ok q = true) (ha : ∀ q, q b = true → SV.oks q args = true)
    (h : SB P f args (Zh b) k nk fun x F => x = v ∧ F = Zh b) : SCd P f args (Zh b) k nk v (Zh b) := by
  unfold SCd
  have a2 : (lk (Zh b) b).isSome = true := by simp [lk_cons]
  have ok : ∀ q : Nat → Bool, q b = true → (Zh b).ok q = true := fun q h => by simp only [Zh, Hp.ok, List.all_cons, List.all_nil, Ob.ok, zC_ok, h, Bool.and_true]
  refine h.here (fun n => (lk (Zh b) n).isSome) (fun n h e => by rw [e] at h; cases h) (ha _ a2) (ok _ a2) ?_
  rintro x F ⟨rfl, rfl⟩ _ _
  exact ⟨hv _, ok _ (by simp only [a2, Bool.true_or])⟩
theorem zsub {b k : Nat} {o : Ob} (h : b < k) : HSub (Zh b) ((k, o) :: Zh b) := fun n ob hn => by
  rw [lk_cons, if_neg fun e => ?_]
  · exact hn
  · rw [e, lk_cons, if_neg (by omega)] at hn; simp [lk_nil] at hn
theorem nonez_at {b k : Nat} (hb : b < k) : SCd Try.prog stable_Tracker_none.f [.ptr b 0] (Zh b) k 0 (bl true) (Zh b) := by
  refine Zh_here (fun _ => rfl) (fun q h => by simp [SV.oks, SV.ok, h]) ?_
  refine stable_Tracker_none.enter (by simp [SV.ok, SV.oks]; omega) (Zh_ok hb) (by simp) ?_
  unfold stable_Tracker_none.s
  have z := zC0
  (repeat (first | refine SW.seq ?_ | refine SW.block ?_ | (refine SW.regL [0, 2] mixed ?_; (repeat (first | refine RW.ro (z) (h := ?_) | refine RW.skip (h := ?_) | refine RW.op (z) (h := ?_) | refine RW.opN (z) (h := ?_) | refine RW.skip0 (h := ?_))); refine RW.nil ⟨conf_of (by kernel_rfl), Pruned.mk (h := ?_)⟩) | refine SW.skip ?_ | refine SW.exit ?_ | refine SW.ret ?_ | refine SW.condT rfl ?_ | refine SW.condF rfl ?_))
  exact End.mk (Zh b) (h3 := fun _ _ h => h) (h4 := ⟨rfl, rfl⟩) (h6 := Zh_ok hb)
theorem counts0_ok (r : Nat) (hr : r < 256) : Go.Sl.Pure Try.prog stable_Tracker_Counts.f [.d .nilp, u8 r] (.tup [.agg Vec.zero.cells, i64 1]) := by
  refine stable_Tracker_Counts.enter (by first | rfl | simp [SV.ok, SV.oks]) (by first | rfl | simp [Hp.ok, Ob.ok, SV.ok, SV.oks, Vec.cells_ok]) (by simp) ?_
  unfold stable_Tracker_Counts.s
  (repeat (first | refine SW.seq ?_ | refine SW.block ?_ | (refine SW.regL [0, 1, 4, 5, 6, 10] mixed ?_; (repeat (first | refine RW.ro bq_tt (h := ?_) | refine RW.skip (h := ?_) | refine RW.op bq_tt (h := ?_) | refine RW.opN bq_tt (h := ?_) | refine RW.skip0 (h := ?_) | (refine RW.callC (h := ?_); (first | refine CallP.mk bq_tt (hc := none0_at _) (h := ?_))))); refine RW.nil ⟨conf_of (by kernel_rfl), Pruned.mk (h := ?_)⟩) | refine SW.skip ?_ | refine SW.exit ?_ | refine SW.ret ?_ | refine SW.condT rfl ?_ | refine SW.condF rfl ?_))
  exact End.mk [] (h1 := rvV_vec (k := 0) (by simp [List.lookup]) lk_cons_same rfl) (h2 := by simp [ldo]) (h4 := ⟨rfl, rfl⟩)
theorem counts0_at (r : Nat) (hr : r < 256) (k : Nat) : SCd Try.prog stable_Tracker_Counts.f [.d .nilp, u8 r] [] k 0 (.tup [.agg Vec.zero.cells, i64 1]) [] := (counts0_ok r hr).sc rfl k
theorem countsz_at (r : Nat) (hr : r < 256) {b k : Nat} (hb : b < k) : SCd Try.prog stable_Tracker_Counts.f [.ptr b 0, u8 r] (Zh b) k 0 (.tup [.agg Vec.zero.cells, i64 1]) (Zh b) := by
  refine Zh_here (fun _ => rfl) (fun q h => by simp [SV.oks, SV.ok, h]) ?_
  refine stable_Tracker_Counts.enter (by simp [SV.ok, SV.oks]; try omega) (Zh_ok hb) (by simp) ?_
  unfold stable_Tracker_Counts.s
  have f1 := ne4 (show k ≠ b by omega)
  (repeat (first | refine SW.seq ?_ | refine SW.block ?_ | (refine SW.regL [0, 1, 4, 5, 6, 10] mixed ?_; (repeat (first | refine RW.ro (f1) (h := ?_) | refine RW.skip (h := ?_) | refine RW.op (f1) (h := ?_) | refine RW.opN (f1) (h := ?_) | refine RW.skip0 (h := ?_) | (refine RW.callC (h := ?_); (first | refine CallP.mk (f1) (hs := (by first | exact fun _ _ h => h | exact zsub (by omega))) (hc := nonez_at (by omega)) (h := ?_))))); refine RW.nil ⟨conf_of (by kernel_rfl), Pruned.mk (h := ?_)⟩) | refine SW.skip ?_ | refine SW.exit ?_ | refine SW.ret ?_ | refine SW.condT rfl ?_ | refine SW.condF rfl ?_))
  exact End.mk (Zh b) (h1 := rvV_vec (k := k) (by simp [List.lookup]) lk_cons_same rfl) (h2 := by simp [ldo]) (h3 := by first | exact fun _ _ h => h | exact zsub (by omega)) (h4 := ⟨rfl, rfl⟩) (h6 := Zh_ok (by omega))
theorem has0_ok (v : Vec) : Go.Sl.Pure Try.prog stable_Tracker_Has.f [.d .nilp, .agg v.cells] (i64 1) := by
  refine stable_Tracker_Has.enter (by first | rfl | simp [SV.ok, SV.oks]) (by first | rfl | simp [Hp.ok, Ob.ok, SV.ok, SV.oks, Vec.cells_ok]) (by simp) ?_
  unfold stable_Tracker_Has.s
  (repeat (first | refine SW.seq ?_ | refine SW.block ?_ | (refine SW.regL [0, 1, 3, 4, 5, 8, 13] mixed ?_; (repeat (first | refine RW.ro bq_tt (h := ?_) | refine RW.skip (h := ?_) | refine RW.op bq_tt (h := ?_) | refine RW.opN bq_tt (h := ?_) | refine RW.skip0 (h := ?_) | (refine RW.callC (h := ?_); (first | refine CallP.mk bq_tt (hc := none0_at _) (h := ?_))))); refine RW.nil ⟨conf_of (by kernel_rfl), Pruned.mk (h := ?_)⟩) | refine SW.skip ?_ | refine SW.exit ?_ | refine SW.ret ?_ | refine SW.condT rfl ?_ | refine SW.condF rfl ?_))
  exact End.mk [] (h4 := ⟨rfl, rfl⟩)
theorem has0_at (v : Vec) (k : Nat) : SCd Try.prog stable_Tracker_Has.f [.d .nilp, .agg v.cells] [] k 0 (i64 1) [] := (has0_ok v).sc rfl k
theorem hasz_at (v : Vec) {b k : Nat} (hb : b < k) : SCd Try.prog stable_Tracker_Has.f [.ptr b 0, .agg v.cells] (Zh b) k 0 (i64 1) (Zh b) := by
  refine Zh_here (fun _ => rfl) (fun q h => by simp [SV.oks, SV.ok, h]) ?_
  refine stable_Tracker_Has.enter (by simp [SV.ok, SV.oks]; try omega) (Zh_ok hb) (by simp) ?_
  unfold stable_Tracker_Has.s
  have f1 := ne4 (show k ≠ b by omega)
  (repeat (first | refine SW.seq ?_ | refine SW.block ?_ | (refine SW.regL [0, 1, 3, 4, 5, 8, 13] mixed ?_; (repeat (first | refine RW.ro (f1) (h := ?_) | refine RW.skip (h := ?_) | refine RW.op (f1) (h := ?_) | refine RW.opN (f1) (h := ?_) | refine RW.skip0 (h := ?_) | (refine RW.callC (h := ?_); (first | refine CallP.mk (f1) (hs := (by first | exact fun _ _ h => h | exact zsub (by omega))) (hc := nonez_at (by omega)) (h := ?_))))); refine RW.nil ⟨conf_of (by kernel_rfl), Pruned.mk (h := ?_)⟩) | refine SW.skip ?_ | refine SW.exit ?_ | refine SW.ret ?_ | refine SW.condT rfl ?_ | refine SW.condF rfl ?_))
  exact End.mk (Zh b) (h3 := by first | exact fun _ _ h => h | exact zsub (by omega)) (h4 := ⟨rfl, rfl⟩) (h6 := Zh_ok (by omega))
theorem hear0_ok (r : Nat) (hr : r < 256) (v : Vec) : Go.Sl.Pure Try.prog stable_Tracker_Hear.f [.d .nilp, u8 r, .agg v.cells] (i64 1) := by
  refine stable_Tracker_Hear.enter (by first | rfl | simp [SV.ok, SV.oks]) (by first | rfl | simp [Hp.ok, Ob.ok, SV.ok, SV.oks, Vec.cells_ok]) (by simp) ?_
  unfold stable_Tracker_Hear.s
  (repeat (first | refine SW.seq ?_ | refine SW.block ?_ | (refine SW.regL [0, 1, 2, 5, 6, 7, 10, 24, 40, 53] mixed ?_; (repeat (first | refine RW.ro bq_tt (h := ?_) | refine RW.skip (h := ?_) | refine RW.op bq_tt (h := ?_) | refine RW.opN bq_tt (h := ?_) | refine RW.skip0 (h := ?_) | (refine RW.callC (h := ?_); (first | refine CallP.mk bq_tt (hc := none0_at _) (h := ?_))))); refine RW.nil ⟨conf_of (by kernel_rfl), Pruned.mk (h := ?_)⟩) | refine SW.skip ?_ | refine SW.exit ?_ | refine SW.ret ?_ | refine SW.condT rfl ?_ | refine SW.condF rfl ?_))
  exact End.mk [] (h4 := ⟨rfl, rfl⟩)
theorem hear0_at (r : Nat) (hr : r < 256) (v : Vec) (k : Nat) : SCd Try.prog stable_Tracker_Hear.f [.d .nilp, u8 r, .agg v.cells] [] k 0 (i64 1) [] := (hear0_ok r hr v).sc rfl k
theorem hearz_at (r : Nat) (hr : r < 256) (v : Vec) {b k : Nat} (hb : b < k) : SCd Try.prog stable_Tracker_Hear.f [.ptr b 0, u8 r, .agg v.cells] (Zh b) k 0 (i64 1) (Zh b) := by
  refine Zh_here (fun _ => rfl) (fun q h => by simp [SV.oks, SV.ok, h]) ?_
  refine stable_Tracker_Hear.enter (by simp [SV.ok, SV.oks]; try omega) (Zh_ok hb) (by simp) ?_
  unfold stable_Tracker_Hear.s
  have f1 := ne4 (show k ≠ b by omega)
  (repeat (first | refine SW.seq ?_ | refine SW.block ?_ | (refine SW.regL [0, 1, 2, 5, 6, 7, 10, 24, 40, 53] mixed ?_; (repeat (first | refine RW.ro (f1) (h := ?_) | refine RW.skip (h := ?_) | refine RW.op (f1) (h := ?_) | refine RW.opN (f1) (h := ?_) | refine RW.skip0 (h := ?_) | (refine RW.callC (h := ?_); (first | refine CallP.mk (f1) (hs := (by first | exact fun _ _ h => h | exact zsub (by omega))) (hc := nonez_at (by omega)) (h := ?_))))); refine RW.nil ⟨conf_of (by kernel_rfl), Pruned.mk (h := ?_)⟩) | refine SW.skip ?_ | refine SW.exit ?_ | refine SW.ret ?_ | refine SW.condT rfl ?_ | refine SW.condF rfl ?_))
  exact End.mk (Zh b) (h3 := by first | exact fun _ _ h => h | exact zsub (by omega)) (h4 := ⟨rfl, rfl⟩) (h6 := Zh_ok (by omega))
theorem stable0_ok  : Go.Sl.Pure Try.prog stable_Tracker_Stable.f [.d .nilp] (.agg Vec.zero.cells) := by
  refine stable_Tracker_Stable.enter (by first | rfl | simp [SV.ok, SV.oks]) (by first | rfl | simp [Hp.ok, Ob.ok, SV.ok, SV.oks, Vec.cells_ok]) (by simp) ?_
  unfold stable_Tracker_Stable.s
  (repeat (first | refine SW.seq ?_ | refine SW.block ?_ | (refine SW.regL [0, 2, 4] mixed ?_; (repeat (first | refine RW.ro bq_tt (h := ?_) | refine RW.skip (h := ?_) | refine RW.op bq_tt (h := ?_) | refine RW.opN bq_tt (h := ?_) | refine RW.skip0 (h := ?_) | (refine RW.callC (h := ?_); (first | refine CallP.mk bq_tt (hc := none0_at _) (h := ?_))))); refine RW.nil ⟨conf_of (by kernel_rfl), Pruned.mk (h := ?_)⟩) | refine SW.skip ?_ | refine SW.exit ?_ | refine SW.ret ?_ | refine SW.condT rfl ?_ | refine SW.condF rfl ?_))
  exact End.mk [] (h1 := rvV_vec (k := 0) (by simp [List.lookup]) lk_cons_same rfl) (h2 := by simp [ldo]) (h4 := ⟨rfl, rfl⟩)
theorem stable0_at  (k : Nat) : SCd Try.prog stable_Tracker_Stable.f [.d .nilp] [] k 0 (.agg Vec.zero.cells) [] := (stable0_ok ).sc rfl k
theorem stablez_at  {b k : Nat} (hb : b < k) : SCd Try.prog stable_Tracker_Stable.f [.ptr b 0] (Zh b) k 0 (.agg Vec.zero.cells) (Zh b) := by
  refine Zh_here (fun _ => rfl) (fun q h => by simp [SV.oks, SV.ok, h]) ?_
  refine stable_Tracker_Stable.enter (by simp [SV.ok, SV.oks]; try omega) (Zh_ok hb) (by simp) ?_
  unfold stable_Tracker_Stable.s
  have f1 := ne4 (show k ≠ b by omega)
  (repeat (first | refine SW.seq ?_ | refine SW.block ?_ | (refine SW.regL [0, 2, 4] mixed ?_; (repeat (first | refine RW.ro (f1) (h := ?_) | refine RW.skip (h := ?_) | refine RW.op (f1) (h := ?_) | refine RW.opN (f1) (h := ?_) | refine RW.skip0 (h := ?_) | (refine RW.callC (h := ?_); (first | refine CallP.mk (f1) (hs := (by first | exact fun _ _ h => h | exact zsub (by omega))) (hc := nonez_at (by omega)) (h := ?_))))); refine RW.nil ⟨conf_of (by kernel_rfl), Pruned.mk (h := ?_)⟩) | refine SW.skip ?_ | refine SW.exit ?_ | refine SW.ret ?_ | refine SW.condT rfl ?_ | refine SW.condF rfl ?_))
  exact End.mk (Zh b) (h1 := rvV_vec (k := k) (by simp [List.lookup]) lk_cons_same rfl) (h2 := by simp [ldo]) (h3 := by first | exact fun _ _ h => h | exact zsub (by omega)) (h4 := ⟨rfl, rfl⟩) (h6 := Zh_ok (by omega))
theorem own0_ok  : Go.Sl.Pure Try.prog stable_Tracker_Own.f [.d .nilp] (.agg Vec.zero.cells) := by
  refine stable_Tracker_Own.enter (by first | rfl | simp [SV.ok, SV.oks]) (by first | rfl | simp [Hp.ok, Ob.ok, SV.ok, SV.oks, Vec.cells_ok]) (by simp) ?_
  unfold stable_Tracker_Own.s
  (repeat (first | refine SW.seq ?_ | refine SW.block ?_ | (refine SW.regL [0, 2, 4] mixed ?_; (repeat (first | refine RW.ro bq_tt (h := ?_) | refine RW.skip (h := ?_) | refine RW.op bq_tt (h := ?_) | refine RW.opN bq_tt (h := ?_) | refine RW.skip0 (h := ?_) | (refine RW.callC (h := ?_); (first | refine CallP.mk bq_tt (hc := none0_at _) (h := ?_))))); refine RW.nil ⟨conf_of (by kernel_rfl), Pruned.mk (h := ?_)⟩) | refine SW.skip ?_ | refine SW.exit ?_ | refine SW.ret ?_ | refine SW.condT rfl ?_ | refine SW.condF rfl ?_))
  exact End.mk [] (h1 := rvV_vec (k := 0) (by simp [List.lookup]) lk_cons_same rfl) (h2 := by simp [ldo]) (h4 := ⟨rfl, rfl⟩)
theorem own0_at  (k : Nat) : SCd Try.prog stable_Tracker_Own.f [.d .nilp] [] k 0 (.agg Vec.zero.cells) [] := (own0_ok ).sc rfl k
theorem ownz_at  {b k : Nat} (hb : b < k) : SCd Try.prog stable_Tracker_Own.f [.ptr b 0] (Zh b) k 0 (.agg Vec.zero.cells) (Zh b) := by
  refine Zh_here (fun _ => rfl) (fun q h => by simp [SV.oks, SV.ok, h]) ?_
  refine stable_Tracker_Own.enter (by simp [SV.ok, SV.oks]; try omega) (Zh_ok hb) (by simp) ?_
  unfold stable_Tracker_Own.s
  have f1 := ne4 (show k ≠ b by omega)
  (repeat (first | refine SW.seq ?_ | refine SW.block ?_ | (refine SW.regL [0, 2, 4] mixed ?_; (repeat (first | refine RW.ro (f1) (h := ?_) | refine RW.skip (h := ?_) | refine RW.op (f1) (h := ?_) | refine RW.opN (f1) (h := ?_) | refine RW.skip0 (h := ?_) | (refine RW.callC (h := ?_); (first | refine CallP.mk (f1) (hs := (by first | exact fun _ _ h => h | exact zsub (by omega))) (hc := nonez_at (by omega)) (h := ?_))))); refine RW.nil ⟨conf_of (by kernel_rfl), Pruned.mk (h := ?_)⟩) | refine SW.skip ?_ | refine SW.exit ?_ | refine SW.ret ?_ | refine SW.condT rfl ?_ | refine SW.condF rfl ?_))
  exact End.mk (Zh b) (h1 := rvV_vec (k := k) (by simp [List.lookup]) lk_cons_same rfl) (h2 := by simp [ldo]) (h3 := by first | exact fun _ _ h => h | exact zsub (by omega)) (h4 := ⟨rfl, rfl⟩) (h6 := Zh_ok (by omega))
theorem waits0_ok  : Go.Sl.Pure Try.prog stable_Tracker_Waits.f [.d .nilp] (i64 0) := by
  refine stable_Tracker_Waits.enter (by first | rfl | simp [SV.ok, SV.oks]) (by first | rfl | simp [Hp.ok, Ob.ok, SV.ok, SV.oks, Vec.cells_ok]) (by simp) ?_
  unfold stable_Tracker_Waits.s
  (repeat (first | refine SW.seq ?_ | refine SW.block ?_ | (refine SW.regL [0, 2, 3, 5, 7, 11, 12, 13] mixed ?_; (repeat (first | refine RW.ro bq_tt (h := ?_) | refine RW.skip (h := ?_) | refine RW.op bq_tt (h := ?_) | refine RW.opN bq_tt (h := ?_) | refine RW.skip0 (h := ?_) | (refine RW.callC (h := ?_); (first | refine CallP.mk bq_tt (hc := none0_at _) (h := ?_))))); refine RW.nil ⟨conf_of (by kernel_rfl), Pruned.mk (h := ?_)⟩) | refine SW.skip ?_ | refine SW.exit ?_ | refine SW.ret ?_ | refine SW.condT rfl ?_ | refine SW.condF rfl ?_))
  exact End.mk [] (h4 := ⟨rfl, rfl⟩)
theorem waits0_at  (k : Nat) : SCd Try.prog stable_Tracker_Waits.f [.d .nilp] [] k 0 (i64 0) [] := (waits0_ok ).sc rfl k
theorem waitsz_at  {b k : Nat} (hb : b < k) : SCd Try.prog stable_Tracker_Waits.f [.ptr b 0] (Zh b) k 0 (i64 0) (Zh b) := by
  refine Zh_here (fun _ => rfl) (fun q h => by simp [SV.oks, SV.ok, h]) ?_
  refine stable_Tracker_Waits.enter (by simp [SV.ok, SV.oks]; try omega) (Zh_ok hb) (by simp) ?_
  unfold stable_Tracker_Waits.s
  have f1 := ne4 (show k ≠ b by omega)
  (repeat (first | refine SW.seq ?_ | refine SW.block ?_ | (refine SW.regL [0, 2, 3, 5, 7, 11, 12, 13] mixed ?_; (repeat (first | refine RW.ro (f1) (h := ?_) | refine RW.skip (h := ?_) | refine RW.op (f1) (h := ?_) | refine RW.opN (f1) (h := ?_) | refine RW.skip0 (h := ?_) | (refine RW.callC (h := ?_); (first | refine CallP.mk (f1) (hs := (by first | exact fun _ _ h => h | exact zsub (by omega))) (hc := nonez_at (by omega)) (h := ?_))))); refine RW.nil ⟨conf_of (by kernel_rfl), Pruned.mk (h := ?_)⟩) | refine SW.skip ?_ | refine SW.exit ?_ | refine SW.ret ?_ | refine SW.condT rfl ?_ | refine SW.condF rfl ?_))
  exact End.mk (Zh b) (h3 := by first | exact fun _ _ h => h | exact zsub (by omega)) (h4 := ⟨rfl, rfl⟩) (h6 := Zh_ok (by omega))
theorem copy0_ok  : Go.Sl.Pure Try.prog stable_Tracker_Copy.f [.d .nilp] (.d .nilp) := by
  refine stable_Tracker_Copy.enter (by first | rfl | simp [SV.ok, SV.oks]) (by first | rfl | simp [Hp.ok, Ob.ok, SV.ok, SV.oks, Vec.cells_ok]) (by simp) ?_
  unfold stable_Tracker_Copy.s
  (repeat (first | refine SW.seq ?_ | refine SW.block ?_ | (refine SW.regL [0, 2, 3, 4, 5, 7, 14, 15, 16] mixed ?_; (repeat (first | refine RW.ro bq_tt (h := ?_) | refine RW.skip (h := ?_) | refine RW.op bq_tt (h := ?_) | refine RW.opN bq_tt (h := ?_) | refine RW.skip0 (h := ?_) | (refine RW.callC (h := ?_); (first | refine CallP.mk bq_tt (hc := none0_at _) (h := ?_))))); refine RW.nil ⟨conf_of (by kernel_rfl), Pruned.mk (h := ?_)⟩) | refine SW.skip ?_ | refine SW.exit ?_ | refine SW.ret ?_ | refine SW.condT rfl ?_ | refine SW.condF rfl ?_))
  exact End.mk [] (h4 := ⟨rfl, rfl⟩)
theorem copy0_at  (k : Nat) : SCd Try.prog stable_Tracker_Copy.f [.d .nilp] [] k 0 (.d .nilp) [] := (copy0_ok ).sc rfl k
theorem copyz_at  {b k : Nat} (hb : b < k) : SCd Try.prog stable_Tracker_Copy.f [.ptr b 0] (Zh b) k 0 (.d .nilp) (Zh b) := by
  refine Zh_here (fun _ => rfl) (fun q h => by simp [SV.oks, SV.ok, h]) ?_
  refine stable_Tracker_Copy.enter (by simp [SV.ok, SV.oks]; try omega) (Zh_ok hb) (by simp) ?_
  unfold stable_Tracker_Copy.s
  have f1 := ne4 (show k ≠ b by omega)
  (repeat (first | refine SW.seq ?_ | refine SW.block ?_ | (refine SW.regL [0, 2, 3, 4, 5, 7, 14, 15, 16] mixed ?_; (repeat (first | refine RW.ro (f1) (h := ?_) | refine RW.skip (h := ?_) | refine RW.op (f1) (h := ?_) | refine RW.opN (f1) (h := ?_) | refine RW.skip0 (h := ?_) | (refine RW.callC (h := ?_); (first | refine CallP.mk (f1) (hs := (by first | exact fun _ _ h => h | exact zsub (by omega))) (hc := nonez_at (by omega)) (h := ?_))))); refine RW.nil ⟨conf_of (by kernel_rfl), Pruned.mk (h := ?_)⟩) | refine SW.skip ?_ | refine SW.exit ?_ | refine SW.ret ?_ | refine SW.condT rfl ?_ | refine SW.condF rfl ?_))
  exact End.mk (Zh b) (h3 := by first | exact fun _ _ h => h | exact zsub (by omega)) (h4 := ⟨rfl, rfl⟩) (h6 := Zh_ok (by omega))
end
end Go.Proofs.Ytdnjkeeiopcipaa
