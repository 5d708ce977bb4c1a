/-
  Trees that are none.
-/
import Derived.Test.YtmmonbnlleeloaaQ4
set_option linter.unusedSectionVars false
set_option linter.unusedVariables false
set_option linter.unusedSimpArgs false
namespace Go.Proofs.Ytmmonbnlleeloaa
open Go.Sl Go.Proofs
attribute [local irreducible] SW RW SCd SC CallP Pruned

/-- An empty tree's box. -/
abbrev Zt (b : Nat) : Hp := [(b, .box 74 [.d .nilm, .d .nilm])]
theorem Zt_ok (b k : Nat) (h : b < k) : (Zt b).ok (fun n => decide (n < k)) = true := by simp [Hp.ok, Ob.ok, SV.oks, SV.ok, h]
theorem Zt_ne : ∀ i, i < 1 → lk (Zt 0) i ≠ none := fun i h => by
  have : i = 0 := by omega
  subst this; simp [lk_cons]
theorem tnone0_ok  : Go.Sl.Pure Try.prog tree_Tree_none.f [.d .nilp] (bl true) := by
  refine tree_Tree_none.enter (by first | rfl | simp [SV.ok, SV.oks]) (by first | rfl | simp [Hp.ok, Ob.ok, SV.ok, SV.oks, Vec.cells_ok]) (by simp) ?_
  unfold tree_Tree_none.s
  (repeat (first | refine SW.seq ?_ | refine SW.block ?_ | (refine SW.regL [0, 2] mixed ?_; (repeat (first | refine RW.ro bq_tt (h := ?_) | refine RW.skip (h := ?_) | refine RW.op bq_tt (h := ?_) | refine RW.opN bq_tt (h := ?_) | refine RW.skip0 (h := ?_))); refine RW.nil ⟨by kernel_rfl, Pruned.mk (h := ?_)⟩) | refine SW.skip ?_ | refine SW.exit ?_ | refine SW.ret ?_ | refine SW.condT rfl ?_ | refine SW.condF rfl ?_))
  exact End.mk [] (h4 := ⟨rfl, rfl⟩)
theorem tnone0_at  (k : Nat) : SCd Try.prog tree_Tree_none.f [.d .nilp] [] k 0 (bl true) [] := (tnone0_ok ).sc rfl k
theorem tnonez_ok  : SB Try.prog tree_Tree_none.f [.ptr 0 0] (Zt 0) 1 0 (fun r F' => r = bl true ∧ F' = Zt 0) := by
  refine tree_Tree_none.enter (by simp [SV.oks, SV.ok]) (Zt_ok 0 1 (by omega)) (by simp) ?_
  unfold tree_Tree_none.s
  (repeat (first | refine SW.seq ?_ | refine SW.block ?_ | (refine SW.regL [0, 2] mixed ?_; (repeat (first | refine RW.ro bq_tt (h := ?_) | refine RW.skip (h := ?_) | refine RW.op bq_tt (h := ?_) | refine RW.opN bq_tt (h := ?_) | refine RW.skip0 (h := ?_))); refine RW.nil ⟨by kernel_rfl, Pruned.mk (h := ?_)⟩) | refine SW.skip ?_ | refine SW.exit ?_ | refine SW.ret ?_ | refine SW.condT rfl ?_ | refine SW.condF rfl ?_))
  exact End.mk (Zt 0) (h3 := by first | exact fun _ _ h => h | (intro n ob hn; cases n with | zero => simpa [lk_cons] using hn | succ n => simp [lk_cons, lk_nil] at hn)) (h4 := ⟨rfl, rfl⟩) (h6 := Zt_ok 0 _ (by omega))
theorem tnonez_at (b : Nat)  (k : Nat) : SCd Try.prog tree_Tree_none.f [.ptr b 0] (Zt b) k 0 (bl true) (Zt b) := by
  have h := SB.atL [b] (tnonez_ok ) (by simp) Zt_ne k
  simpa [SV.rens, SV.ren, Hp.ren, Ob.ren, atN, Dt.cells_ren, Cr.cells_ren, OpD.cells_ren, bl, i64] using h
theorem tget0_ok (d : Dt) : Go.Sl.Pure Try.prog tree_Tree_Get.f [.d .nilp, .agg d.cells] (.tup [.agg Cr.zero.cells, i64 1]) := by
  refine tree_Tree_Get.enter (by first | rfl | simp [SV.ok, SV.oks]) (by first | rfl | simp [Hp.ok, Ob.ok, SV.ok, SV.oks, Vec.cells_ok]) (by simp) ?_
  unfold tree_Tree_Get.s
  (repeat (first | refine SW.seq ?_ | refine SW.block ?_ | (refine SW.regL [0, 1, 3, 4, 5, 6, 7, 9, 21] mixed ?_; (repeat (first | refine RW.ro bq_tt (h := ?_) | refine RW.skip (h := ?_) | refine RW.op bq_tt (h := ?_) | refine RW.opN bq_tt (h := ?_) | refine RW.skip0 (h := ?_) | (refine RW.callC (h := ?_); (first | refine CallP.mk bq_tt (hc := tnone0_at _) (h := ?_))))); refine RW.nil ⟨by kernel_rfl, Pruned.mk (h := ?_)⟩) | refine SW.skip ?_ | refine SW.exit ?_ | refine SW.ret ?_ | refine SW.condT rfl ?_ | refine SW.condF rfl ?_))
  exact End.mk [] (h4 := ⟨rfl, rfl⟩)
theorem tget0_at (d : Dt) (k : Nat) : SCd Try.prog tree_Tree_Get.f [.d .nilp, .agg d.cells] [] k 0 (.tup [.agg Cr.zero.cells, i64 1]) [] := (tget0_ok d).sc rfl k
theorem tgetz_ok (d : Dt) : SB Try.prog tree_Tree_Get.f [.ptr 0 0, .agg d.cells] (Zt 0) 1 0 (fun r F' => r = .tup [.agg Cr.zero.cells, i64 1] ∧ F' = Zt 0) := by
  refine tree_Tree_Get.enter (by simp [SV.oks, SV.ok]) (Zt_ok 0 1 (by omega)) (by simp) ?_
  unfold tree_Tree_Get.s
  (repeat (first | refine SW.seq ?_ | refine SW.block ?_ | (refine SW.regL [0, 1, 3, 4, 5, 6, 7, 9, 21] mixed ?_; (repeat (first | refine RW.ro bq_tt (h := ?_) | refine RW.skip (h := ?_) | refine RW.op bq_tt (h := ?_) | refine RW.opN bq_tt (h := ?_) | refine RW.skip0 (h := ?_) | (refine RW.callC (h := ?_); (first | refine CallP.mk bq_tt (hc := tnonez_at 0 _) (h := ?_))))); refine RW.nil ⟨by kernel_rfl, Pruned.mk (h := ?_)⟩) | refine SW.skip ?_ | refine SW.exit ?_ | refine SW.ret ?_ | refine SW.condT rfl ?_ | refine SW.condF rfl ?_))
  exact End.mk (Zt 0) (h3 := by first | exact fun _ _ h => h | (intro n ob hn; cases n with | zero => simpa [lk_cons] using hn | succ n => simp [lk_cons, lk_nil] at hn)) (h4 := ⟨rfl, rfl⟩) (h6 := Zt_ok 0 _ (by omega))
theorem tgetz_at (b : Nat) (d : Dt) (k : Nat) : SCd Try.prog tree_Tree_Get.f [.ptr b 0, .agg d.cells] (Zt b) k 0 (.tup [.agg Cr.zero.cells, i64 1]) (Zt b) := by
  have h := SB.atL [b] (tgetz_ok d) (by simp) Zt_ne k
  simpa [SV.rens, SV.ren, Hp.ren, Ob.ren, atN, Dt.cells_ren, Cr.cells_ren, OpD.cells_ren, bl, i64] using h
theorem tchain0_ok (d : Dt) : Go.Sl.Pure Try.prog tree_Tree_Chain.f [.d .nilp, .agg d.cells] (.tup [.d .nils, i64 1]) := by
  refine tree_Tree_Chain.enter (by first | rfl | simp [SV.ok, SV.oks]) (by first | rfl | simp [Hp.ok, Ob.ok, SV.ok, SV.oks, Vec.cells_ok]) (by simp) ?_
  unfold tree_Tree_Chain.s
  (repeat (first | refine SW.seq ?_ | refine SW.block ?_ | (refine SW.regL [0, 1, 3, 4, 5, 7, 8, 9, 17, 21, 22] mixed ?_; (repeat (first | refine RW.ro bq_tt (h := ?_) | refine RW.skip (h := ?_) | refine RW.op bq_tt (h := ?_) | refine RW.opN bq_tt (h := ?_) | refine RW.skip0 (h := ?_) | (refine RW.callC (h := ?_); (first | refine CallP.mk bq_tt (hc := tget0_at _ _) (h := ?_))))); refine RW.nil ⟨by kernel_rfl, Pruned.mk (h := ?_)⟩) | refine SW.skip ?_ | refine SW.exit ?_ | refine SW.ret ?_ | refine SW.condT rfl ?_ | refine SW.condF rfl ?_))
  exact End.mk [] (h4 := ⟨rfl, rfl⟩)
theorem tchain0_at (d : Dt) (k : Nat) : SCd Try.prog tree_Tree_Chain.f [.d .nilp, .agg d.cells] [] k 0 (.tup [.d .nils, i64 1]) [] := (tchain0_ok d).sc rfl k
theorem tchainz_ok (d : Dt) : SB Try.prog tree_Tree_Chain.f [.ptr 0 0, .agg d.cells] (Zt 0) 1 0 (fun r F' => r = .tup [.d .nils, i64 1] ∧ F' = Zt 0) := by
  refine tree_Tree_Chain.enter (by simp [SV.oks, SV.ok]) (Zt_ok 0 1 (by omega)) (by simp) ?_
  unfold tree_Tree_Chain.s
  (repeat (first | refine SW.seq ?_ | refine SW.block ?_ | (refine SW.regL [0, 1, 3, 4, 5, 7, 8, 9, 17, 21, 22] mixed ?_; (repeat (first | refine RW.ro bq_tt (h := ?_) | refine RW.skip (h := ?_) | refine RW.op bq_tt (h := ?_) | refine RW.opN bq_tt (h := ?_) | refine RW.skip0 (h := ?_) | (refine RW.callC (h := ?_); (first | refine CallP.mk bq_tt (hc := tgetz_at 0 _ _) (h := ?_))))); refine RW.nil ⟨by kernel_rfl, Pruned.mk (h := ?_)⟩) | refine SW.skip ?_ | refine SW.exit ?_ | refine SW.ret ?_ | refine SW.condT rfl ?_ | refine SW.condF rfl ?_))
  exact End.mk (Zt 0) (h3 := by first | exact fun _ _ h => h | (intro n ob hn; cases n with | zero => simpa [lk_cons] using hn | succ n => simp [lk_cons, lk_nil] at hn)) (h4 := ⟨rfl, rfl⟩) (h6 := Zt_ok 0 _ (by omega))
theorem tchainz_at (b : Nat) (d : Dt) (k : Nat) : SCd Try.prog tree_Tree_Chain.f [.ptr b 0, .agg d.cells] (Zt b) k 0 (.tup [.d .nils, i64 1]) (Zt b) := by
  have h := SB.atL [b] (tchainz_ok d) (by simp) Zt_ne k
  simpa [SV.rens, SV.ren, Hp.ren, Ob.ren, atN, Dt.cells_ren, Cr.cells_ren, OpD.cells_ren, bl, i64] using h
theorem tabove0_ok (d e : Dt) : Go.Sl.Pure Try.prog tree_Tree_Above.f [.d .nilp, .agg d.cells, .agg e.cells] (bl false) := by
  refine tree_Tree_Above.enter (by first | rfl | simp [SV.ok, SV.oks]) (by first | rfl | simp [Hp.ok, Ob.ok, SV.ok, SV.oks, Vec.cells_ok]) (by simp) ?_
  unfold tree_Tree_Above.s
  (repeat (first | refine SW.seq ?_ | refine SW.block ?_ | (refine SW.regL [0, 1, 2, 4, 5, 6, 7, 14, 17, 18, 22] mixed ?_; (repeat (first | refine RW.ro bq_tt (h := ?_) | refine RW.skip (h := ?_) | refine RW.op bq_tt (h := ?_) | refine RW.opN bq_tt (h := ?_) | refine RW.skip0 (h := ?_) | (refine RW.callC (h := ?_); (first | refine CallP.mk bq_tt (hc := tnone0_at _) (h := ?_))))); refine RW.nil ⟨by kernel_rfl, Pruned.mk (h := ?_)⟩) | refine SW.skip ?_ | refine SW.exit ?_ | refine SW.ret ?_ | refine SW.condT rfl ?_ | refine SW.condF rfl ?_))
  exact End.mk [] (h4 := ⟨rfl, rfl⟩)
theorem tabove0_at (d e : Dt) (k : Nat) : SCd Try.prog tree_Tree_Above.f [.d .nilp, .agg d.cells, .agg e.cells] [] k 0 (bl false) [] := (tabove0_ok d e).sc rfl k
theorem tabovez_ok (d e : Dt) : SB Try.prog tree_Tree_Above.f [.ptr 0 0, .agg d.cells, .agg e.cells] (Zt 0) 1 0 (fun r F' => r = bl false ∧ F' = Zt 0) := by
  refine tree_Tree_Above.enter (by simp [SV.oks, SV.ok]) (Zt_ok 0 1 (by omega)) (by simp) ?_
  unfold tree_Tree_Above.s
  (repeat (first | refine SW.seq ?_ | refine SW.block ?_ | (refine SW.regL [0, 1, 2, 4, 5, 6, 7, 14, 17, 18, 22] mixed ?_; (repeat (first | refine RW.ro bq_tt (h := ?_) | refine RW.skip (h := ?_) | refine RW.op bq_tt (h := ?_) | refine RW.opN bq_tt (h := ?_) | refine RW.skip0 (h := ?_) | (refine RW.callC (h := ?_); (first | refine CallP.mk bq_tt (hc := tnonez_at 0 _) (h := ?_))))); refine RW.nil ⟨by kernel_rfl, Pruned.mk (h := ?_)⟩) | refine SW.skip ?_ | refine SW.exit ?_ | refine SW.ret ?_ | refine SW.condT rfl ?_ | refine SW.condF rfl ?_))
  exact End.mk (Zt 0) (h3 := by first | exact fun _ _ h => h | (intro n ob hn; cases n with | zero => simpa [lk_cons] using hn | succ n => simp [lk_cons, lk_nil] at hn)) (h4 := ⟨rfl, rfl⟩) (h6 := Zt_ok 0 _ (by omega))
theorem tabovez_at (b : Nat) (d e : Dt) (k : Nat) : SCd Try.prog tree_Tree_Above.f [.ptr b 0, .agg d.cells, .agg e.cells] (Zt b) k 0 (bl false) (Zt b) := by
  have h := SB.atL [b] (tabovez_ok d e) (by simp) Zt_ne k
  simpa [SV.rens, SV.ren, Hp.ren, Ob.ren, atN, Dt.cells_ren, Cr.cells_ren, OpD.cells_ren, bl, i64] using h
theorem tall0_ok (d : Dt) : Go.Sl.Pure Try.prog tree_Tree_All.f [.d .nilp, .agg d.cells] (.d .nils) := by
  refine tree_Tree_All.enter (by first | rfl | simp [SV.ok, SV.oks]) (by first | rfl | simp [Hp.ok, Ob.ok, SV.ok, SV.oks, Vec.cells_ok]) (by simp) ?_
  unfold tree_Tree_All.s
  (repeat (first | refine SW.seq ?_ | refine SW.block ?_ | (refine SW.regL [0, 1, 3, 4, 5, 7, 9, 14, 16, 22] mixed ?_; (repeat (first | refine RW.ro bq_tt (h := ?_) | refine RW.skip (h := ?_) | refine RW.op bq_tt (h := ?_) | refine RW.opN bq_tt (h := ?_) | refine RW.skip0 (h := ?_) | (refine RW.callC (h := ?_); (first | refine CallP.mk bq_tt (hc := tnone0_at _) (h := ?_))))); refine RW.nil ⟨by kernel_rfl, Pruned.mk (h := ?_)⟩) | refine SW.skip ?_ | refine SW.exit ?_ | refine SW.ret ?_ | refine SW.condT rfl ?_ | refine SW.condF rfl ?_))
  exact End.mk [] (h4 := ⟨rfl, rfl⟩)
theorem tall0_at (d : Dt) (k : Nat) : SCd Try.prog tree_Tree_All.f [.d .nilp, .agg d.cells] [] k 0 (.d .nils) [] := (tall0_ok d).sc rfl k
theorem tallz_ok (d : Dt) : SB Try.prog tree_Tree_All.f [.ptr 0 0, .agg d.cells] (Zt 0) 1 0 (fun r F' => r = .d .nils ∧ F' = Zt 0) := by
  refine tree_Tree_All.enter (by simp [SV.oks, SV.ok]) (Zt_ok 0 1 (by omega)) (by simp) ?_
  unfold tree_Tree_All.s
  (repeat (first | refine SW.seq ?_ | refine SW.block ?_ | (refine SW.regL [0, 1, 3, 4, 5, 7, 9, 14, 16, 22] mixed ?_; (repeat (first | refine RW.ro bq_tt (h := ?_) | refine RW.skip (h := ?_) | refine RW.op bq_tt (h := ?_) | refine RW.opN bq_tt (h := ?_) | refine RW.skip0 (h := ?_) | (refine RW.callC (h := ?_); (first | refine CallP.mk bq_tt (hc := tnonez_at 0 _) (h := ?_))))); refine RW.nil ⟨by kernel_rfl, Pruned.mk (h := ?_)⟩) | refine SW.skip ?_ | refine SW.exit ?_ | refine SW.ret ?_ | refine SW.condT rfl ?_ | refine SW.condF rfl ?_))
  exact End.mk (Zt 0) (h3 := by first | exact fun _ _ h => h | (intro n ob hn; cases n with | zero => simpa [lk_cons] using hn | succ n => simp [lk_cons, lk_nil] at hn)) (h4 := ⟨rfl, rfl⟩) (h6 := Zt_ok 0 _ (by omega))
theorem tallz_at (b : Nat) (d : Dt) (k : Nat) : SCd Try.prog tree_Tree_All.f [.ptr b 0, .agg d.cells] (Zt b) k 0 (.d .nils) (Zt b) := by
  have h := SB.atL [b] (tallz_ok d) (by simp) Zt_ne k
  simpa [SV.rens, SV.ren, Hp.ren, Ob.ren, atN, Dt.cells_ren, Cr.cells_ren, OpD.cells_ren, bl, i64] using h
theorem theld0_ok (d : Dt) (w : Nat) : Go.Sl.Pure Try.prog tree_Tree_Held.f [.d .nilp, .agg d.cells, u32 w] (.d .nils) := by
  refine tree_Tree_Held.enter (by first | rfl | simp [SV.ok, SV.oks]) (by first | rfl | simp [Hp.ok, Ob.ok, SV.ok, SV.oks, Vec.cells_ok]) (by simp) ?_
  unfold tree_Tree_Held.s
  (repeat (first | refine SW.seq ?_ | refine SW.block ?_ | (refine SW.regL [0, 1, 2, 4, 6, 7, 9, 12, 13, 14, 15, 21] mixed ?_; (repeat (first | refine RW.ro bq_tt (h := ?_) | refine RW.skip (h := ?_) | refine RW.op bq_tt (h := ?_) | refine RW.opN bq_tt (h := ?_) | refine RW.skip0 (h := ?_) | (refine RW.callC (h := ?_); (first | refine CallP.mk bq_tt (hc := tall0_at _ _) (h := ?_))))); refine RW.nil ⟨by kernel_rfl, Pruned.mk (h := ?_)⟩) | refine SW.skip ?_ | refine SW.exit ?_ | refine SW.ret ?_ | refine SW.condT rfl ?_ | refine SW.condF rfl ?_))
  refine SW.loopA (α := Unit) (fun _ => ⟨[(14, i64 0), (13, i64 0), (7, .d .nils)], [], 0⟩) (fun _ => 0) () id bq_tt (round := ?_)
  rintro ⟨⟩
  (repeat (first | refine SW.seq ?_ | refine SW.block ?_ | (refine SW.regL [0, 1, 2, 4, 6, 7, 9, 12, 13, 14, 15, 21] mixed ?_; (repeat (first | refine RW.ro bq_tt (h := ?_) | refine RW.skip (h := ?_) | refine RW.op bq_tt (h := ?_) | refine RW.opN bq_tt (h := ?_) | refine RW.skip0 (h := ?_) | (refine RW.callC (h := ?_); (first | refine CallP.mk bq_tt (hc := tall0_at _ _) (h := ?_))))); refine RW.nil ⟨by kernel_rfl, Pruned.mk (h := ?_)⟩) | refine SW.skip ?_ | refine SW.exit ?_ | refine SW.ret ?_ | refine SW.condT rfl ?_ | refine SW.condF rfl ?_))
  exact End.mk [] (h4 := ⟨rfl, rfl⟩)
theorem theld0_at (d : Dt) (w : Nat) (k : Nat) : SCd Try.prog tree_Tree_Held.f [.d .nilp, .agg d.cells, u32 w] [] k 0 (.d .nils) [] := (theld0_ok d w).sc rfl k
theorem theldz_ok (d : Dt) (w : Nat) : SB Try.prog tree_Tree_Held.f [.ptr 0 0, .agg d.cells, u32 w] (Zt 0) 1 0 (fun r F' => r = .d .nils ∧ F' = Zt 0) := by
  refine tree_Tree_Held.enter (by simp [SV.oks, SV.ok]) (Zt_ok 0 1 (by omega)) (by simp) ?_
  unfold tree_Tree_Held.s
  (repeat (first | refine SW.seq ?_ | refine SW.block ?_ | (refine SW.regL [0, 1, 2, 4, 6, 7, 9, 12, 13, 14, 15, 21] mixed ?_; (repeat (first | refine RW.ro bq_tt (h := ?_) | refine RW.skip (h := ?_) | refine RW.op bq_tt (h := ?_) | refine RW.opN bq_tt (h := ?_) | refine RW.skip0 (h := ?_) | (refine RW.callC (h := ?_); (first | refine CallP.mk bq_tt (hc := tallz_at 0 _ _) (h := ?_))))); refine RW.nil ⟨by kernel_rfl, Pruned.mk (h := ?_)⟩) | refine SW.skip ?_ | refine SW.exit ?_ | refine SW.ret ?_ | refine SW.condT rfl ?_ | refine SW.condF rfl ?_))
  refine SW.loopA (α := Unit) (fun _ => ⟨[(14, i64 0), (13, i64 0), (7, .d .nils)], Zt 0, 1⟩) (fun _ => 0) () id bq_tt (round := ?_)
  rintro ⟨⟩
  (repeat (first | refine SW.seq ?_ | refine SW.block ?_ | (refine SW.regL [0, 1, 2, 4, 6, 7, 9, 12, 13, 14, 15, 21] mixed ?_; (repeat (first | refine RW.ro bq_tt (h := ?_) | refine RW.skip (h := ?_) | refine RW.op bq_tt (h := ?_) | refine RW.opN bq_tt (h := ?_) | refine RW.skip0 (h := ?_) | (refine RW.callC (h := ?_); (first | refine CallP.mk bq_tt (hc := tallz_at 0 _ _) (h := ?_))))); refine RW.nil ⟨by kernel_rfl, Pruned.mk (h := ?_)⟩) | refine SW.skip ?_ | refine SW.exit ?_ | refine SW.ret ?_ | refine SW.condT rfl ?_ | refine SW.condF rfl ?_))
  exact End.mk (Zt 0) (h3 := by first | exact fun _ _ h => h | (intro n ob hn; cases n with | zero => simpa [lk_cons] using hn | succ n => simp [lk_cons, lk_nil] at hn)) (h4 := ⟨rfl, rfl⟩) (h6 := Zt_ok 0 _ (by omega))
theorem theldz_at (b : Nat) (d : Dt) (w : Nat) (k : Nat) : SCd Try.prog tree_Tree_Held.f [.ptr b 0, .agg d.cells, u32 w] (Zt b) k 0 (.d .nils) (Zt b) := by
  have h := SB.atL [b] (theldz_ok d w) (by simp) Zt_ne k
  simpa [SV.rens, SV.ren, Hp.ren, Ob.ren, atN, Dt.cells_ren, Cr.cells_ren, OpD.cells_ren, bl, i64] using h
theorem twhy0_ok (o : OpD) : Go.Sl.Pure Try.prog tree_Tree_Why.f [.d .nilp, .agg o.cells] (i64 1) := by
  refine tree_Tree_Why.enter (by first | rfl | simp [SV.ok, SV.oks]) (by first | rfl | simp [Hp.ok, Ob.ok, SV.ok, SV.oks, Vec.cells_ok]) (by simp) ?_
  unfold tree_Tree_Why.s
  (repeat (first | refine SW.seq ?_ | refine SW.block ?_ | (refine SW.regL [0, 1, 2, 3, 4, 5, 6, 8, 10, 31, 32, 33, 37] mixed ?_; (repeat (first | refine RW.ro bq_tt (h := ?_) | refine RW.skip (h := ?_) | refine RW.op bq_tt (h := ?_) | refine RW.opN bq_tt (h := ?_) | refine RW.skip0 (h := ?_) | (refine RW.callC (h := ?_); (first | refine CallP.mk bq_tt (hc := tnone0_at _) (h := ?_))))); refine RW.nil ⟨by kernel_rfl, Pruned.mk (h := ?_)⟩) | refine SW.skip ?_ | refine SW.exit ?_ | refine SW.ret ?_ | refine SW.condT rfl ?_ | refine SW.condF rfl ?_))
  exact End.mk [] (h4 := ⟨rfl, rfl⟩)
theorem twhy0_at (o : OpD) (k : Nat) : SCd Try.prog tree_Tree_Why.f [.d .nilp, .agg o.cells] [] k 0 (i64 1) [] := (twhy0_ok o).sc rfl k
theorem twhyz_ok (o : OpD) : SB Try.prog tree_Tree_Why.f [.ptr 0 0, .agg o.cells] (Zt 0) 1 0 (fun r F' => r = i64 1 ∧ F' = Zt 0) := by
  refine tree_Tree_Why.enter (by simp [SV.oks, SV.ok]) (Zt_ok 0 1 (by omega)) (by simp) ?_
  unfold tree_Tree_Why.s
  (repeat (first | refine SW.seq ?_ | refine SW.block ?_ | (refine SW.regL [0, 1, 2, 3, 4, 5, 6, 8, 10, 31, 32, 33, 37] mixed ?_; (repeat (first | refine RW.ro bq_tt (h := ?_) | refine RW.skip (h := ?_) | refine RW.op bq_tt (h := ?_) | refine RW.opN bq_tt (h := ?_) | refine RW.skip0 (h := ?_) | (refine RW.callC (h := ?_); (first | refine CallP.mk bq_tt (hc := tnonez_at 0 _) (h := ?_))))); refine RW.nil ⟨by kernel_rfl, Pruned.mk (h := ?_)⟩) | refine SW.skip ?_ | refine SW.exit ?_ | refine SW.ret ?_ | refine SW.condT rfl ?_ | refine SW.condF rfl ?_))
  exact End.mk (Zt 0) (h3 := by first | exact fun _ _ h => h | (intro n ob hn; cases n with | zero => simpa [lk_cons] using hn | succ n => simp [lk_cons, lk_nil] at hn)) (h4 := ⟨rfl, rfl⟩) (h6 := Zt_ok 0 _ (by omega))
theorem twhyz_at (b : Nat) (o : OpD) (k : Nat) : SCd Try.prog tree_Tree_Why.f [.ptr b 0, .agg o.cells] (Zt b) k 0 (i64 1) (Zt b) := by
  have h := SB.atL [b] (twhyz_ok o) (by simp) Zt_ne k
  simpa [SV.rens, SV.ren, Hp.ren, Ob.ren, atN, Dt.cells_ren, Cr.cells_ren, OpD.cells_ren, bl, i64] using h
end Go.Proofs.Ytmmonbnlleeloaa

/-
  Trees of credentials: what is asked of a tree; the law of trees that are none.
-/
set_option linter.unusedSectionVars false
set_option linter.unusedVariables false
set_option linter.unusedSimpArgs false
namespace Go.Proofs.Ytmmonbnlleeloaa
open Go.Sl Go.Proofs
attribute [local irreducible] SW RW SCd SC CallP Pruned

/-- What is asked. -/
structure Ak where
  a : Dt
  b : Dt
  who : Nat
  o : OpD
def Ak.ds (x : Ak) : List DV := x.a.ds ++ (x.b.ds ++ (.int .u32 x.who :: x.o.ds))
def Ak.cells (x : Ak) : List SV := x.ds.map .d
theorem Ak.gA (x : Ak) : x.cells.take 2 = x.a.cells := rfl
theorem Ak.gB (x : Ak) : (x.cells.drop 2).take 2 = x.b.cells := rfl
theorem Ak.gW (x : Ak) : x.cells[4]? = some (u32 x.who) := rfl
theorem Ak.gO (x : Ak) : (x.cells.drop 5).take 29 = x.o.cells := rfl
theorem Ak.one (x : Ak) : x.cells.all SV.isOne = true := by simp [Ak.cells, SV.isOne]
theorem Ak.len (x : Ak) : x.cells.length = 34 := rfl
theorem Ak.ok (x : Ak) (q : Nat → Bool) : SV.oks q x.cells = true := SV.oks_d _
theorem Ak.ren (x : Ak) (r : Nat → Nat) : SV.rens r x.cells = x.cells := SV.rens_d _
/-- All that a walk asks of it. -/
theorem Ak.all (x : Ak) : x.cells.take 2 = x.a.cells ∧ (x.cells.drop 2).take 2 = x.b.cells ∧ x.cells[4]? = some (u32 x.who) ∧ (x.cells.drop 5).take 29 = x.o.cells ∧ x.cells.all SV.isOne = true ∧ x.cells.length = 34 ∧ (∀ q, SV.oks q x.cells = true) ∧ (∀ r, SV.rens r x.cells = x.cells) := ⟨rfl, rfl, rfl, rfl, x.one, rfl, x.ok, x.ren⟩
section
attribute [local irreducible] Ak.cells
theorem spl2n (a b : SV) : spl (spl [.d .nilp, .d .nilp] 0 [a]) 1 [b] = [a, b] := rfl
set_option maxHeartbeats 4000000 in
theorem law_none (x : Ak) : Go.Sl.Pure Try.prog law16_TreeNone.f [.agg x.cells] (bl true) := by
  have hx := x.all
  refine law16_TreeNone.enter (by simp [SV.ok, SV.oks, x.ok]) (by simp [Hp.ok]) (by simp) ?_
  unfold law16_TreeNone.s
  refine SW.seq ?_
  (refine SW.regL [0, 1, 2, 3, 4, 5, 6, 8, 10, 16, 75] mixed ?_; (repeat (first | refine RW.ro (hx) (h := ?_) | refine RW.skip (h := ?_) | refine RW.op (hx) (h := ?_) | refine RW.opN (hx) (h := ?_) | refine RW.skip0 (h := ?_))); refine RW.nil ⟨by kernel_rfl, Pruned.mk (h := ?_)⟩)
  refine SW.seq ?_
  (refine SW.regL [0, 1, 2, 3, 4, 5, 6, 8, 10, 16, 75] mixed ?_; (repeat (first | refine RW.ro (hx) (h := ?_) | refine RW.skip (h := ?_) | refine RW.op (hx) (h := ?_) | refine RW.opN (hx) (h := ?_) | refine RW.skip0 (h := ?_))); refine RW.nil ⟨by kernel_rfl, Pruned.mk (h := ?_)⟩)
  refine SW.seq ?_
  (refine SW.regL [0, 1, 2, 3, 4, 5, 6, 8, 10, 16, 75] mixed ?_; (repeat (first | refine RW.ro (And.intro (hx) (spl2n)) (h := ?_) | refine RW.skip (h := ?_) | refine RW.op (And.intro (hx) (spl2n)) (h := ?_) | refine RW.opN (And.intro (hx) (spl2n)) (h := ?_) | refine RW.skip0 (h := ?_) | refine RW.lit (And.intro hx spl2n) (h := ?_))); refine RW.nil ⟨by kernel_rfl, Pruned.mk (h := ?_)⟩)
  refine SW.seq (SW.seq ?_)
  (refine SW.regL [0, 1, 2, 3, 4, 5, 6, 8, 10, 16, 75] mixed ?_; (repeat (first | refine RW.ro bq_tt (h := ?_) | refine RW.skip (h := ?_) | refine RW.op bq_tt (h := ?_) | refine RW.opN bq_tt (h := ?_) | refine RW.skip0 (h := ?_))); refine RW.nil ⟨by kernel_rfl, Pruned.mk (h := ?_)⟩)
  refine SW.block ?_
  refine SW.loopA (α := {i : Nat // i ≤ 2}) (fun i => ⟨[(5, i64 i.1), (4, .gs 2 2), (1, .ptr 0 0)], [(0, .box 58 x.cells), (1, .box 74 [.d .nilm, .d .nilm]), (2, .arr 25 1 2 [.d .nilp, .ptr 1 0])], 3⟩) (fun i => 2 - i.1) ⟨0, by omega⟩ id hx (round := ?_)
  rintro ⟨i, hi⟩
  match i, hi with
  | 0, _ =>
    refine SW.seq (SW.seq ?_)
    (refine SW.regL [0, 1, 2, 3, 4, 5, 6, 8, 10, 16, 75] mixed ?_; (repeat (first | refine RW.ro bq_tt (h := ?_) | refine RW.skip (h := ?_) | refine RW.op bq_tt (h := ?_) | refine RW.opN bq_tt (h := ?_) | refine RW.skip0 (h := ?_) | (refine RW.callC (h := ?_); (first | refine CallP.mk bq_tt (hc := tget0_at _ _) (h := ?_) | refine CallP.mk bq_tt (hc := tchain0_at _ _) (h := ?_) | refine CallP.mk bq_tt (hc := tabove0_at _ _ _) (h := ?_) | refine CallP.mk bq_tt (hc := tall0_at _ _) (h := ?_) | refine CallP.mk bq_tt (hc := theld0_at _ _ _) (h := ?_) | refine CallP.mk bq_tt (hc := twhy0_at _ _) (h := ?_))))); refine RW.nil ⟨by kernel_rfl, Pruned.mk (h := ?_)⟩)
    refine SW.condT rfl (SW.skip ?_)
    refine SW.seq (SW.block (SW.seq ?_))
    (refine SW.regL [0, 1, 2, 3, 4, 5, 6, 8, 10, 16, 75] mixed ?_; (repeat (first | refine RW.ro bq_tt (h := ?_) | refine RW.skip (h := ?_) | refine RW.op bq_tt (h := ?_) | refine RW.opN bq_tt (h := ?_) | refine RW.skip0 (h := ?_) | (refine RW.callC (h := ?_); (first | refine CallP.mk bq_tt (hc := tget0_at _ _) (h := ?_) | refine CallP.mk bq_tt (hc := tchain0_at _ _) (h := ?_) | refine CallP.mk bq_tt (hc := tabove0_at _ _ _) (h := ?_) | refine CallP.mk bq_tt (hc := tall0_at _ _) (h := ?_) | refine CallP.mk bq_tt (hc := theld0_at _ _ _) (h := ?_) | refine CallP.mk bq_tt (hc := twhy0_at _ _) (h := ?_))))); refine RW.nil ⟨by kernel_rfl, Pruned.mk (h := ?_)⟩)
    refine SW.seq ?_
    (refine SW.regL [0, 1, 2, 3, 4, 5, 6, 8, 10, 16, 75] mixed ?_; (repeat (first | refine RW.ro (hx) (h := ?_) | refine RW.skip (h := ?_) | refine RW.op (hx) (h := ?_) | refine RW.opN (hx) (h := ?_) | refine RW.skip0 (h := ?_) | (refine RW.callC (h := ?_); (first | refine CallP.mk (hx) (hc := tget0_at _ _) (h := ?_) | refine CallP.mk (hx) (hc := tchain0_at _ _) (h := ?_) | refine CallP.mk (hx) (hc := tabove0_at _ _ _) (h := ?_) | refine CallP.mk (hx) (hc := tall0_at _ _) (h := ?_) | refine CallP.mk (hx) (hc := theld0_at _ _ _) (h := ?_) | refine CallP.mk (hx) (hc := twhy0_at _ _) (h := ?_))))); refine RW.nil ⟨by kernel_rfl, Pruned.mk (h := ?_)⟩)
    refine SW.seq ?_
    (refine SW.regL [0, 1, 2, 3, 4, 5, 6, 8, 10, 16, 75] mixed ?_; (repeat (first | refine RW.ro (hx) (h := ?_) | refine RW.skip (h := ?_) | refine RW.op (hx) (h := ?_) | refine RW.opN (hx) (h := ?_) | refine RW.skip0 (h := ?_) | (refine RW.callC (h := ?_); (first | refine CallP.mk (hx) (hc := tget0_at _ _) (h := ?_) | refine CallP.mk (hx) (hc := tchain0_at _ _) (h := ?_) | refine CallP.mk (hx) (hc := tabove0_at _ _ _) (h := ?_) | refine CallP.mk (hx) (hc := tall0_at _ _) (h := ?_) | refine CallP.mk (hx) (hc := theld0_at _ _ _) (h := ?_) | refine CallP.mk (hx) (hc := twhy0_at _ _) (h := ?_))))); refine RW.nil ⟨by kernel_rfl, Pruned.mk (h := ?_)⟩)
    refine SW.seq ?_
    (refine SW.regL [0, 1, 2, 3, 4, 5, 6, 8, 10, 16, 75] mixed ?_; (repeat (first | refine RW.ro (hx) (h := ?_) | refine RW.skip (h := ?_) | refine RW.op (hx) (h := ?_) | refine RW.opN (hx) (h := ?_) | refine RW.skip0 (h := ?_) | (refine RW.callC (h := ?_); (first | refine CallP.mk (hx) (hc := tget0_at _ _) (h := ?_) | refine CallP.mk (hx) (hc := tchain0_at _ _) (h := ?_) | refine CallP.mk (hx) (hc := tabove0_at _ _ _) (h := ?_) | refine CallP.mk (hx) (hc := tall0_at _ _) (h := ?_) | refine CallP.mk (hx) (hc := theld0_at _ _ _) (h := ?_) | refine CallP.mk (hx) (hc := twhy0_at _ _) (h := ?_))))); refine RW.nil ⟨by kernel_rfl, Pruned.mk (h := ?_)⟩)
    refine SW.condF rfl (SW.skip ?_)
    (refine SW.regL [0, 1, 2, 3, 4, 5, 6, 8, 10, 16, 75] mixed ?_; (repeat (first | refine RW.ro bq_tt (h := ?_) | refine RW.skip (h := ?_) | refine RW.op bq_tt (h := ?_) | refine RW.opN bq_tt (h := ?_) | refine RW.skip0 (h := ?_) | (refine RW.callC (h := ?_); (first | refine CallP.mk bq_tt (hc := tget0_at _ _) (h := ?_) | refine CallP.mk bq_tt (hc := tchain0_at _ _) (h := ?_) | refine CallP.mk bq_tt (hc := tabove0_at _ _ _) (h := ?_) | refine CallP.mk bq_tt (hc := tall0_at _ _) (h := ?_) | refine CallP.mk bq_tt (hc := theld0_at _ _ _) (h := ?_) | refine CallP.mk bq_tt (hc := twhy0_at _ _) (h := ?_))))); refine RW.nil ⟨by kernel_rfl, Pruned.mk (h := ?_)⟩)
    dsimp only
    exact ⟨⟨1, by omega⟩, id, by show 2 - 1 < 2 - 0; decide, Weak.mk hx⟩
  | 1, _ =>
    refine SW.seq (SW.seq ?_)
    (refine SW.regL [0, 1, 2, 3, 4, 5, 6, 8, 10, 16, 75] mixed ?_; (repeat (first | refine RW.ro bq_tt (h := ?_) | refine RW.skip (h := ?_) | refine RW.op bq_tt (h := ?_) | refine RW.opN bq_tt (h := ?_) | refine RW.skip0 (h := ?_) | (refine RW.callC (h := ?_); (first | refine CallP.mk bq_tt (hc := tgetz_at 1 _ _) (h := ?_) | refine CallP.mk bq_tt (hc := tchainz_at 1 _ _) (h := ?_) | refine CallP.mk bq_tt (hc := tabovez_at 1 _ _ _) (h := ?_) | refine CallP.mk bq_tt (hc := tallz_at 1 _ _) (h := ?_) | refine CallP.mk bq_tt (hc := theldz_at 1 _ _ _) (h := ?_) | refine CallP.mk bq_tt (hc := twhyz_at 1 _ _) (h := ?_))))); refine RW.nil ⟨by kernel_rfl, Pruned.mk (h := ?_)⟩)
    refine SW.condT rfl (SW.skip ?_)
    refine SW.seq (SW.block (SW.seq ?_))
    (refine SW.regL [0, 1, 2, 3, 4, 5, 6, 8, 10, 16, 75] mixed ?_; (repeat (first | refine RW.ro bq_tt (h := ?_) | refine RW.skip (h := ?_) | refine RW.op bq_tt (h := ?_) | refine RW.opN bq_tt (h := ?_) | refine RW.skip0 (h := ?_) | (refine RW.callC (h := ?_); (first | refine CallP.mk bq_tt (hc := tgetz_at 1 _ _) (h := ?_) | refine CallP.mk bq_tt (hc := tchainz_at 1 _ _) (h := ?_) | refine CallP.mk bq_tt (hc := tabovez_at 1 _ _ _) (h := ?_) | refine CallP.mk bq_tt (hc := tallz_at 1 _ _) (h := ?_) | refine CallP.mk bq_tt (hc := theldz_at 1 _ _ _) (h := ?_) | refine CallP.mk bq_tt (hc := twhyz_at 1 _ _) (h := ?_))))); refine RW.nil ⟨by kernel_rfl, Pruned.mk (h := ?_)⟩)
    refine SW.seq ?_
    (refine SW.regL [0, 1, 2, 3, 4, 5, 6, 8, 10, 16, 75] mixed ?_; (repeat (first | refine RW.ro (hx) (h := ?_) | refine RW.skip (h := ?_) | refine RW.op (hx) (h := ?_) | refine RW.opN (hx) (h := ?_) | refine RW.skip0 (h := ?_) | (refine RW.callC (h := ?_); (first | refine CallP.mk (hx) (hc := tgetz_at 1 _ _) (h := ?_) | refine CallP.mk (hx) (hc := tchainz_at 1 _ _) (h := ?_) | refine CallP.mk (hx) (hc := tabovez_at 1 _ _ _) (h := ?_) | refine CallP.mk (hx) (hc := tallz_at 1 _ _) (h := ?_) | refine CallP.mk (hx) (hc := theldz_at 1 _ _ _) (h := ?_) | refine CallP.mk (hx) (hc := twhyz_at 1 _ _) (h := ?_))))); refine RW.nil ⟨by kernel_rfl, Pruned.mk (h := ?_)⟩)
    refine SW.seq ?_
    (refine SW.regL [0, 1, 2, 3, 4, 5, 6, 8, 10, 16, 75] mixed ?_; (repeat (first | refine RW.ro (hx) (h := ?_) | refine RW.skip (h := ?_) | refine RW.op (hx) (h := ?_) | refine RW.opN (hx) (h := ?_) | refine RW.skip0 (h := ?_) | (refine RW.callC (h := ?_); (first | refine CallP.mk (hx) (hc := tgetz_at 1 _ _) (h := ?_) | refine CallP.mk (hx) (hc := tchainz_at 1 _ _) (h := ?_) | refine CallP.mk (hx) (hc := tabovez_at 1 _ _ _) (h := ?_) | refine CallP.mk (hx) (hc := tallz_at 1 _ _) (h := ?_) | refine CallP.mk (hx) (hc := theldz_at 1 _ _ _) (h := ?_) | refine CallP.mk (hx) (hc := twhyz_at 1 _ _) (h := ?_))))); refine RW.nil ⟨by kernel_rfl, Pruned.mk (h := ?_)⟩)
    refine SW.seq ?_
    (refine SW.regL [0, 1, 2, 3, 4, 5, 6, 8, 10, 16, 75] mixed ?_; (repeat (first | refine RW.ro (hx) (h := ?_) | refine RW.skip (h := ?_) | refine RW.op (hx) (h := ?_) | refine RW.opN (hx) (h := ?_) | refine RW.skip0 (h := ?_) | (refine RW.callC (h := ?_); (first | refine CallP.mk (hx) (hc := tgetz_at 1 _ _) (h := ?_) | refine CallP.mk (hx) (hc := tchainz_at 1 _ _) (h := ?_) | refine CallP.mk (hx) (hc := tabovez_at 1 _ _ _) (h := ?_) | refine CallP.mk (hx) (hc := tallz_at 1 _ _) (h := ?_) | refine CallP.mk (hx) (hc := theldz_at 1 _ _ _) (h := ?_) | refine CallP.mk (hx) (hc := twhyz_at 1 _ _) (h := ?_))))); refine RW.nil ⟨by kernel_rfl, Pruned.mk (h := ?_)⟩)
    refine SW.condF rfl (SW.skip ?_)
    (refine SW.regL [0, 1, 2, 3, 4, 5, 6, 8, 10, 16, 75] mixed ?_; (repeat (first | refine RW.ro bq_tt (h := ?_) | refine RW.skip (h := ?_) | refine RW.op bq_tt (h := ?_) | refine RW.opN bq_tt (h := ?_) | refine RW.skip0 (h := ?_) | (refine RW.callC (h := ?_); (first | refine CallP.mk bq_tt (hc := tgetz_at 1 _ _) (h := ?_) | refine CallP.mk bq_tt (hc := tchainz_at 1 _ _) (h := ?_) | refine CallP.mk bq_tt (hc := tabovez_at 1 _ _ _) (h := ?_) | refine CallP.mk bq_tt (hc := tallz_at 1 _ _) (h := ?_) | refine CallP.mk bq_tt (hc := theldz_at 1 _ _ _) (h := ?_) | refine CallP.mk bq_tt (hc := twhyz_at 1 _ _) (h := ?_))))); refine RW.nil ⟨by kernel_rfl, Pruned.mk (h := ?_)⟩)
    dsimp only
    exact ⟨⟨2, by omega⟩, id, by show 2 - 2 < 2 - 1; decide, Weak.mk hx⟩
  | 2, _ =>
    (repeat (first | refine SW.seq ?_ | refine SW.block ?_ | (refine SW.regL [0, 1, 2, 3, 4, 5, 6, 8, 10, 16, 75] mixed ?_; (repeat (first | refine RW.ro bq_tt (h := ?_) | refine RW.skip (h := ?_) | refine RW.op bq_tt (h := ?_) | refine RW.opN bq_tt (h := ?_) | refine RW.skip0 (h := ?_) | (refine RW.callC (h := ?_); (first | refine CallP.mk bq_tt (hc := head16_at _) (h := ?_))))); refine RW.nil ⟨by kernel_rfl, Pruned.mk (h := ?_)⟩) | refine SW.skip ?_ | refine SW.exit ?_ | refine SW.ret ?_ | refine SW.condT rfl ?_ | refine SW.condF rfl ?_))
    exact End.mk [] (h4 := ⟨rfl, rfl⟩)
end
end Go.Proofs.Ytmmonbnlleeloaa
