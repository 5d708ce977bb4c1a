/-
  Trees of credentials: Why and Get at any names; put.
-/
import Derived.Test.YtmmonbnlleeloaaKA
import Derived.Test.YtmmonbnlleeloaaK6
import Derived.Test.YtmmonbnlleeloaaK5
set_option linter.unusedSectionVars false
set_option linter.unusedVariables false
set_option linter.unusedSimpArgs false
namespace Go.Proofs.Ytmmonbnlleeloaa
open Go.Sl Go.Proofs
theorem hp0_ren (T : Tr) (k : Nat) : Hp.ren (atN [T.bx, T.ma, T.mm] k) (hp0 T.at_ T.ca T.made T.cm) = T.hp := by
  simp only [Hp.ren, hp0, List.map_cons, List.map_nil, Ob.ren, SV.rens, SV.ren, cmap_ren, omap_ren, Tr.hp]
  rfl
theorem Tr.nd3 {T : Tr} (h : T.sep) : ([T.bx, T.ma, T.mm] : List Nat).Nodup := Tr.nd h
theorem hp0_ne (a : MM Dt Cr) (ca : Nat) (m : MM Dt OpD) (cm : Nat) : ∀ i, i < 3 → lk (hp0 a ca m cm) i ≠ none := fun i hi => by
  rcases (show i = 0 ∨ i = 1 ∨ i = 2 by omega) with rfl | rfl | rfl <;> simp [lk_cons]
theorem why_at {T : Tr} (hs : T.sep) (o : OpD) (k : Nat) : SCd Try.prog tree_Tree_Why.f [.ptr T.bx 0, .agg o.cells] T.hp k 4 (i64 (T.why o)) T.hp := by
  have h := SB.atL [T.bx, T.ma, T.mm] (why_sb T.at_ T.ca T.made T.cm o) (Tr.nd3 hs) (hp0_ne _ _ _ _) k
  rw [hp0_ren] at h
  simp only [SV.rens, SV.ren, OpD.cells_ren] at h
  exact h
section
attribute [local irreducible] SW RW SCd SC CallP Pruned
theorem get_sb (a : MM Dt Cr) (ca : Nat) (m : MM Dt OpD) (cm : Nat) (d : Dt) : SB Try.prog tree_Tree_Get.f [.ptr 0 0, .agg d.cells] (hp0 a ca m cm) 3 3 (fun r F' => r = .tup [.agg ((MM.get a d).getD Cr.zero).cells, i64 (if MM.has a d then 0 else 7)] ∧ F' = hp0 a ca m cm) := by
  refine tree_Tree_Get.enter (by simp [SV.oks, SV.ok]) (hp0_ok a ca m cm (Nat.le_refl 3)) (by simp) ?_
  unfold tree_Tree_Get.s
  rcases hh : MM.has a d with _ | _
  · (repeat (first | refine SW.seq ?_ | refine SW.block ?_ | (refine SW.regL [0, 1, 3, 4, 5, 6, 7, 9, 21] mixed ?_; (repeat (first | refine RW.ro (hh) (h := ?_) | refine RW.skip (h := ?_) | refine RW.op (hh) (h := ?_) | refine RW.opN (hh) (h := ?_) | refine RW.skip0 (h := ?_) | (refine RW.callC (h := ?_); (first | refine CallP.mk (hh) (hc := none0_at a ca m cm (by omega)) (h := ?_))))); refine RW.nil ⟨by kernel_rfl, Pruned.mk (h := ?_)⟩) | refine SW.skip ?_ | refine SW.exit ?_ | refine SW.ret ?_ | refine SW.condT rfl ?_ | refine SW.condF rfl ?_))
    have e : MM.get a d = none := by simpa [MM.has] using hh
    rw [e]
    refine End.mk (hp0 a ca m cm) (h4 := ⟨rfl, rfl⟩) (h6 := hp0_ok a ca m cm (by omega))
  · (repeat (first | refine SW.seq ?_ | refine SW.block ?_ | (refine SW.regL [0, 1, 3, 4, 5, 6, 7, 9, 21] mixed ?_; (repeat (first | refine RW.ro (hh) (h := ?_) | refine RW.skip (h := ?_) | refine RW.op (hh) (h := ?_) | refine RW.opN (hh) (h := ?_) | refine RW.skip0 (h := ?_) | (refine RW.callC (h := ?_); (first | refine CallP.mk (hh) (hc := none0_at a ca m cm (by omega)) (h := ?_))))); refine RW.nil ⟨by kernel_rfl, Pruned.mk (h := ?_)⟩) | refine SW.skip ?_ | refine SW.exit ?_ | refine SW.ret ?_ | refine SW.condT rfl ?_ | refine SW.condF rfl ?_))
    refine End.mk (hp0 a ca m cm) (h4 := ⟨rfl, rfl⟩) (h6 := hp0_ok a ca m cm (by omega))
theorem get_at {T : Tr} (hs : T.sep) (d : Dt) (k : Nat) : SCd Try.prog tree_Tree_Get.f [.ptr T.bx 0, .agg d.cells] T.hp k 3 (.tup [.agg ((MM.get T.at_ d).getD Cr.zero).cells, i64 (if MM.has T.at_ d then 0 else 7)]) T.hp := by
  have h := SB.atL [T.bx, T.ma, T.mm] (get_sb T.at_ T.ca T.made T.cm d) (Tr.nd3 hs) (hp0_ne _ _ _ _) k
  rw [hp0_ren] at h
  simp only [SV.rens, SV.ren, Dt.cells_ren, Cr.cells_ren] at h
  exact h
end
@[simp] theorem splz_1 (d : Dt) : (spl Cr.zero.cells 0 d.cells).length = 11 := rfl
@[simp] theorem splz_2 (d e : Dt) : (spl (spl Cr.zero.cells 0 d.cells) 2 e.cells).length = 11 := rfl
@[simp] theorem splz_3 (d e f : Dt) : (spl (spl (spl Cr.zero.cells 0 d.cells) 2 e.cells) 4 f.cells).length = 11 := rfl
def rootC (o : OpD) : Cr := ⟨o.dot, o.dot, ⟨0, 0⟩, o.who, 7, 8, 1099511627776, 0⟩
def grantC (T : Tr) (o : OpD) : Cr := ⟨o.dot, o.cart, o.cred, o.to, o.roles, o.depth, o.cap, IntKind.i64.wrap ((T.by o).level + 1)⟩
def Tr.refuses (T : Tr) (o : OpD) : Bool := (decide (o.kind = 0) && !decide (o.cart = o.dot)) || (decide (o.kind = 1) && decide (T.why o ≠ 0))
def Tr.made1 (T : Tr) (o : OpD) : Cr := if o.kind = 1 then grantC T o else rootC o
def Tr.put (T : Tr) (o : OpD) : Tr × Bool := if T.refuses o then (T, false) else
  ({ T with at_ := MM.put T.at_ T.ca o.dot (T.made1 o), ca := MM.clk T.at_ T.ca o.dot, made := MM.put T.made T.cm o.dot o, cm := MM.clk T.made T.cm o.dot }, true)
theorem rootC_bld (d : Dt) (who : Nat) : spl (spl (spl (spl (spl (spl Cr.zero.cells 0 d.cells) 2 d.cells) 6 [.d (.int .u32 (who : Int))]) 7 [.d (.int .u8 7)]) 8 [.d (.int .u8 8)]) 9 [.d (.int .u64 1099511627776)] = (⟨d, d, ⟨0, 0⟩, who, 7, 8, 1099511627776, 0⟩ : Cr).cells := rfl
theorem grantC_bld (d e f : Dt) (a b c g : Nat) (l : Int) : spl (spl (spl (spl (spl (spl (spl (spl Cr.zero.cells 0 d.cells) 2 e.cells) 4 f.cells) 6 [.d (.int .u32 (a : Int))]) 7 [.d (.int .u8 (b : Int))]) 8 [.d (.int .u8 (c : Int))]) 9 [.d (.int .u64 (g : Int))]) 10 [.d (.int .i64 l)] = (⟨d, e, f, a, b, c, g, l⟩ : Cr).cells := rfl
section
attribute [local irreducible] SW RW SCd SC CallP Pruned Tr.why
set_option maxHeartbeats 4000000 in
theorem put_sb (a : MM Dt Cr) (ca : Nat) (m : MM Dt OpD) (cm : Nat) (hw1 : MM.wf a ca) (hw2 : MM.wf m cm) (o : OpD) :
    SB Try.prog tree_Tree_put.f [.ptr 0 0, .agg o.cells] (hp0 a ca m cm) 3 2 (fun r F' => r = bl ((tr0 a ca m cm).put o).2 ∧ F' = hp0 ((tr0 a ca m cm).put o).1.at_ ((tr0 a ca m cm).put o).1.ca ((tr0 a ca m cm).put o).1.made ((tr0 a ca m cm).put o).1.cm) := by
  refine tree_Tree_put.enter (by simp [SV.oks, SV.ok]) (hp0_ok a ca m cm (Nat.le_refl 3)) (by simp) ?_
  unfold tree_Tree_put.s
  obtain ⟨W, hW⟩ : ∃ W, (tr0 a ca m cm).why o = W := ⟨_, rfl⟩
  have cw : SCd Try.prog tree_Tree_Why.f [.ptr 0 0, .agg o.cells] (hp0 a ca m cm) 5 4 (i64 W) (hp0 a ca m cm) := by
    rw [← hW]; exact why_at (tr0_sep a ca m cm) o 5
  refine SW.seq ?_
  (refine SW.regL [0, 1, 3, 4, 5, 13, 35] mixed ?_; (repeat (first | refine RW.ro bq_tt (h := ?_) | refine RW.skip (h := ?_) | refine RW.op bq_tt (h := ?_) | refine RW.opN bq_tt (h := ?_) | refine RW.skip0 (h := ?_) | (refine RW.callC (h := ?_); (first | refine CallP.mk bq_tt (hc := none0_at a ca m cm (by omega)) (h := ?_))))); refine RW.nil ⟨by kernel_rfl, Pruned.mk (h := ?_)⟩)
  refine SW.seq ?_
  (refine SW.regL [0, 1, 3, 4, 5, 13, 35] mixed ?_; (repeat (first | refine RW.ro (rootC_bld) (h := ?_) | refine RW.skip (h := ?_) | refine RW.op (rootC_bld) (h := ?_) | refine RW.opN (rootC_bld) (h := ?_) | refine RW.skip0 (h := ?_) | (refine RW.callC (h := ?_); (first | refine CallP.mk (rootC_bld) (hc := none0_at a ca m cm (by omega)) (h := ?_))))); refine RW.nil ⟨by kernel_rfl, Pruned.mk (h := ?_)⟩)
  refine SW.seq ?_
  have ok9 : ∀ (a' : MM Dt Cr) ca' (m' : MM Dt OpD) cm', Hp.ok (fun x => decide (x < 3 + 2)) (hp0 a' ca' m' cm') = true := fun a' ca' m' cm' => hp0_ok a' ca' m' cm' (by omega)
  have hR : ∀ v, (tr0 a ca m cm).refuses o = v → ((decide (o.kind = 0) && !decide (o.cart = o.dot)) || (decide (o.kind = 1) && decide (W ≠ 0))) = v := fun v h => by rw [← h]; unfold Tr.refuses; rw [hW]
  have k0 : (((o.kind : Nat) : Int) == 0) = decide (o.kind = 0) := by rw [Bool.eq_iff_iff]; simp only [beq_iff_eq, decide_eq_true_eq]; omega
  have k1 : (((o.kind : Nat) : Int) == 1) = decide (o.kind = 1) := by rw [Bool.eq_iff_iff]; simp only [beq_iff_eq, decide_eq_true_eq]; omega
  have kW : (((W : Nat) : Int) != 0) = decide (W ≠ 0) := by rw [Bool.eq_iff_iff]; simp only [bne_iff_ne, decide_eq_true_eq]; omega
  have fe1 := mstor_E (vs := cv) (kc := Dt.cells) hw1 o.dot Cr.zero
  have fe2 := mstor_E (vs := ov) (kc := Dt.cells) hw2 o.dot OpD.zero
  have gb := fun l => grantC_bld o.dot o.cart o.cred o.to o.roles o.depth o.cap l
  have ee : (MM.get a o.cred).getD Cr.zero = (tr0 a ca m cm).by o := rfl
  -- it is refused
  have fin0 : ∀ env, (tr0 a ca m cm).refuses o = true → (env : List (Nat × SV)).lookup 4 = some (bl false) → ∀ X : Hp, HSub (hp0 a ca m cm) X → ∀ K, 5 ≤ K → Sl.Fin 3 2 tree_Tree_put.rv (fun r F' => r = bl ((tr0 a ca m cm).put o).2 ∧ F' = hp0 ((tr0 a ca m cm).put o).1.at_ ((tr0 a ca m cm).put o).1.ca ((tr0 a ca m cm).put o).1.made ((tr0 a ca m cm).put o).1.cm) ⟨env, X, K⟩ := fun env hr he X hX K hK => by
    have e : (tr0 a ca m cm).put o = (tr0 a ca m cm, false) := by unfold Tr.put; rw [if_pos hr]
    rw [e]
    exact End.mk (ss := [bl false]) (ob := True) (hp0 a ca m cm) (h1 := by simp [tree_Tree_put.rv, rvV, he]) (h2 := trivial) (h3 := hX) (h4 := ⟨rfl, rfl⟩) (h5 := rfl) (h6 := ok9 _ _ _ _) (h7 := by simpa using hK)
  rcases (Bool.eq_false_or_eq_true (decide (o.kind = 0))).symm with d0 | d0
  · rcases (Bool.eq_false_or_eq_true (decide (o.kind = 1))).symm with d1 | d1
    · skip
      have hr : (tr0 a ca m cm).refuses o = false := by unfold Tr.refuses; rw [hW, d0, d1]; rfl
      have e : (tr0 a ca m cm).put o = (({ tr0 a ca m cm with at_ := MM.put a ca o.dot (rootC o), ca := MM.clk a ca o.dot, made := MM.put m cm o.dot o, cm := MM.clk m cm o.dot } : Tr), true) := by
        unfold Tr.put Tr.made1; rw [if_neg (by rw [hr]; simp), if_neg (by simpa using d1)]
      rw [e]
      (repeat (first | refine SW.seq ?_ | refine SW.block ?_ | (have fx := (And.intro (k0) (And.intro (k1) (And.intro (kW) (And.intro (d0) (And.intro (d1) (And.intro (fe1) (fe2))))))); refine SW.regL [0, 1, 3, 4, 5, 13, 35] mixed ?_; (repeat (first | refine RW.ro fx (h := ?_) | refine RW.skip (h := ?_) | refine RW.op fx (h := ?_) | refine RW.opN fx (h := ?_) | refine RW.skip0 (h := ?_) | (refine RW.callC (h := ?_); (first | refine CallP.mk fx (hc := cw) (h := ?_))))); refine RW.nil ⟨by kernel_rfl, Pruned.mk (h := ?_)⟩) | refine SW.skip ?_ | refine SW.exit ?_ | refine SW.ret ?_ | refine SW.condT rfl ?_ | refine SW.condF rfl ?_))
      exact End.mk (hp0 _ _ _ _) (h4 := ⟨rfl, rfl⟩) (h6 := ok9 _ _ _ _)
    · rcases (Bool.eq_false_or_eq_true (decide (W ≠ 0))).symm with dW | dW
      · skip
        have hr : (tr0 a ca m cm).refuses o = false := by unfold Tr.refuses; rw [hW, d0, d1, dW]; rfl
        have e : (tr0 a ca m cm).put o = (({ tr0 a ca m cm with at_ := MM.put a ca o.dot (grantC (tr0 a ca m cm) o), ca := MM.clk a ca o.dot, made := MM.put m cm o.dot o, cm := MM.clk m cm o.dot } : Tr), true) := by
          unfold Tr.put Tr.made1; rw [if_neg (by rw [hr]; simp), if_pos (by simpa using d1)]
        rw [e]
        (repeat (first | refine SW.seq ?_ | refine SW.block ?_ | (have fx := (And.intro (k0) (And.intro (k1) (And.intro (kW) (And.intro (d0) (And.intro (d1) (And.intro (dW) (And.intro (gb) (And.intro (ee) (And.intro (fe1) (fe2)))))))))); refine SW.regL [0, 1, 3, 4, 5, 13, 35] mixed ?_; (repeat (first | refine RW.ro fx (h := ?_) | refine RW.skip (h := ?_) | refine RW.op fx (h := ?_) | refine RW.opN fx (h := ?_) | refine RW.skip0 (h := ?_) | (refine RW.callC (h := ?_); (first | refine CallP.mk fx (hc := cw) (h := ?_))))); refine RW.nil ⟨by kernel_rfl, Pruned.mk (h := ?_)⟩) | refine SW.skip ?_ | refine SW.exit ?_ | refine SW.ret ?_ | refine SW.condT rfl ?_ | refine SW.condF rfl ?_))
        exact End.mk (hp0 _ _ _ _) (h4 := ⟨rfl, rfl⟩) (h6 := ok9 _ _ _ _)
      · have hr : (tr0 a ca m cm).refuses o = true := by unfold Tr.refuses; rw [hW, d0, d1, dW]; rfl
        (repeat (first | refine SW.seq ?_ | refine SW.block ?_ | (have fx := (And.intro (k0) (And.intro (k1) (And.intro (kW) (And.intro (d0) (And.intro (d1) (dW)))))); refine SW.regL [0, 1, 3, 4, 5, 13, 35] mixed ?_; (repeat (first | refine RW.ro fx (h := ?_) | refine RW.skip (h := ?_) | refine RW.op fx (h := ?_) | refine RW.opN fx (h := ?_) | refine RW.skip0 (h := ?_) | (refine RW.callC (h := ?_); (first | refine CallP.mk fx (hc := cw) (h := ?_))))); refine RW.nil ⟨by kernel_rfl, Pruned.mk (h := ?_)⟩) | refine SW.skip ?_ | refine SW.exit ?_ | refine SW.ret ?_ | refine SW.condT rfl ?_ | refine SW.condF rfl ?_))
        exact fin0 _ hr rfl _ (by repeat (first | exact HSub.nil _ | refine HSub.cons (by rfl) ?_)) _ (by simp)
  · rcases (Bool.eq_false_or_eq_true (decide (o.cart = o.dot))).symm with dc | dc
    · have hr : (tr0 a ca m cm).refuses o = true := by unfold Tr.refuses; rw [d0, dc]; rfl
      (repeat (first | refine SW.seq ?_ | refine SW.block ?_ | (have fx := (And.intro (k0) (And.intro (k1) (And.intro (kW) (And.intro (d0) (dc))))); refine SW.regL [0, 1, 3, 4, 5, 13, 35] mixed ?_; (repeat (first | refine RW.ro fx (h := ?_) | refine RW.skip (h := ?_) | refine RW.op fx (h := ?_) | refine RW.opN fx (h := ?_) | refine RW.skip0 (h := ?_) | (refine RW.callC (h := ?_); (first | refine CallP.mk fx (hc := cw) (h := ?_))))); refine RW.nil ⟨by kernel_rfl, Pruned.mk (h := ?_)⟩) | refine SW.skip ?_ | refine SW.exit ?_ | refine SW.ret ?_ | refine SW.condT rfl ?_ | refine SW.condF rfl ?_))
      exact fin0 _ hr rfl _ (by repeat (first | exact HSub.nil _ | refine HSub.cons (by rfl) ?_)) _ (by simp)
    · have d1 : decide (o.kind = 1) = false := by simp at d0 ⊢; omega
      have hr : (tr0 a ca m cm).refuses o = false := by unfold Tr.refuses; rw [d0, d1, dc]; rfl
      have e : (tr0 a ca m cm).put o = (({ tr0 a ca m cm with at_ := MM.put a ca o.dot (rootC o), ca := MM.clk a ca o.dot, made := MM.put m cm o.dot o, cm := MM.clk m cm o.dot } : Tr), true) := by
        unfold Tr.put Tr.made1; rw [if_neg (by rw [hr]; simp), if_neg (by simpa using d1)]
      rw [e]
      (repeat (first | refine SW.seq ?_ | refine SW.block ?_ | (have fx := (And.intro (k0) (And.intro (k1) (And.intro (kW) (And.intro (d0) (And.intro (d1) (And.intro (dc) (And.intro (fe1) (fe2)))))))); refine SW.regL [0, 1, 3, 4, 5, 13, 35] mixed ?_; (repeat (first | refine RW.ro fx (h := ?_) | refine RW.skip (h := ?_) | refine RW.op fx (h := ?_) | refine RW.opN fx (h := ?_) | refine RW.skip0 (h := ?_) | (refine RW.callC (h := ?_); (first | refine CallP.mk fx (hc := cw) (h := ?_))))); refine RW.nil ⟨by kernel_rfl, Pruned.mk (h := ?_)⟩) | refine SW.skip ?_ | refine SW.exit ?_ | refine SW.ret ?_ | refine SW.condT rfl ?_ | refine SW.condF rfl ?_))
      exact End.mk (hp0 _ _ _ _) (h4 := ⟨rfl, rfl⟩) (h6 := ok9 _ _ _ _)
end
end Go.Proofs.Ytmmonbnlleeloaa
namespace Go.Proofs.Ytmmonbnlleeloaa
open Go.Sl Go.Proofs
theorem Tr.put_eq (T : Tr) (o : OpD) : T.put o = ({ T with at_ := ((tr0 T.at_ T.ca T.made T.cm).put o).1.at_, ca := ((tr0 T.at_ T.ca T.made T.cm).put o).1.ca, made := ((tr0 T.at_ T.ca T.made T.cm).put o).1.made, cm := ((tr0 T.at_ T.ca T.made T.cm).put o).1.cm }, ((tr0 T.at_ T.ca T.made T.cm).put o).2) := by
  have e : T.refuses o = (tr0 T.at_ T.ca T.made T.cm).refuses o := rfl
  have e2 : T.made1 o = (tr0 T.at_ T.ca T.made T.cm).made1 o := rfl
  unfold Tr.put
  rw [e]
  by_cases h : (tr0 T.at_ T.ca T.made T.cm).refuses o = true
  · rw [if_pos h, if_pos h]
  · rw [if_neg h, if_neg h, e2]
theorem Tr.put_nm (T : Tr) (o : OpD) : (T.put o).1.bx = T.bx ∧ (T.put o).1.ma = T.ma ∧ (T.put o).1.mm = T.mm := by rw [Tr.put_eq]; exact ⟨rfl, rfl, rfl⟩
theorem put_at {T : Tr} (hs : T.sep) (hw1 : MM.wf T.at_ T.ca) (hw2 : MM.wf T.made T.cm) (o : OpD) (k : Nat) : SCd Try.prog tree_Tree_put.f [.ptr T.bx 0, .agg o.cells] T.hp k 2 (bl (T.put o).2) (T.put o).1.hp := by
  have h := SB.atL [T.bx, T.ma, T.mm] (put_sb T.at_ T.ca T.made T.cm hw1 hw2 o) (Tr.nd3 hs) (hp0_ne _ _ _ _) k
  rw [hp0_ren] at h
  have h2 := hp0_ren (T.put o).1 k
  obtain ⟨n1, n2, n3⟩ := T.put_nm o
  rw [n1, n2, n3] at h2
  have e := T.put_eq o
  simp only [SV.rens, SV.ren, OpD.cells_ren] at h
  rw [← h2]
  rw [e]
  exact h
theorem Tr.put_wf {T : Tr} (hw1 : MM.wf T.at_ T.ca) (hw2 : MM.wf T.made T.cm) (o : OpD) : MM.wf (T.put o).1.at_ (T.put o).1.ca ∧ MM.wf (T.put o).1.made (T.put o).1.cm := by
  unfold Tr.put
  split
  · exact ⟨hw1, hw2⟩
  · exact ⟨MM.wf_put hw1 _ _, MM.wf_put hw2 _ _⟩
structure TrS (b a m : Nat) where
  T : Tr
  e1 : T.bx = b
  e2 : T.ma = a
  e3 : T.mm = m
def TrS.step {b a m : Nat} (s : TrS b a m) (o : OpD) : TrS b a m × Bool := (⟨(s.T.put o).1, (s.T.put_nm o).1.trans s.e1, (s.T.put_nm o).2.1.trans s.e2, (s.T.put_nm o).2.2.trans s.e3⟩, (s.T.put o).2)
theorem put_del {b a m : Nat} (h1 : a ≠ b) (h2 : m ≠ b) (h3 : a ≠ m) (B : Nat) :
    DelOk Try.prog 76 [.ptr b 0] [] (fun s : TrS b a m => s.T.hp) TrS.step 2 (fun _ s => MM.wf s.T.at_ s.T.ca ∧ MM.wf s.T.made s.T.cm) (fun _ => True) B where
  nd s := Tr.nd ⟨by rw [s.e1, s.e2]; exact h1, by rw [s.e1, s.e3]; exact h2, by rw [s.e2, s.e3]; exact h3⟩
  nm s x := by
    obtain ⟨n1, n2, n3⟩ := s.T.put_nm x
    show ((s.T.put x).1.hp).map (·.1) = s.T.hp.map (·.1)
    rw [Tr.names, Tr.names, n1, n2, n3]
  nx i s x hI _ _ := Tr.put_wf hI.1 hI.2 x
  ok s x q h := by
    obtain ⟨n1, n2, n3⟩ := s.T.put_nm x
    simp only [Hp.ok, List.all_eq_true, Bool.and_eq_true] at h
    have hm : ∀ n, n ∈ s.T.hp.map (·.1) → q n = true := fun n hn => by
      obtain ⟨y, hy, rfl⟩ := List.mem_map.1 hn
      exact (h y hy).1
    rw [Tr.names] at hm
    exact Tr.okq (by rw [show (s.step x).1.T.bx = s.T.bx from n1]; exact hm _ (by simp)) (by rw [show (s.step x).1.T.ma = s.T.ma from n2]; exact hm _ (by simp)) (by rw [show (s.step x).1.T.mm = s.T.mm from n3]; exact hm _ (by simp))
  call i s x k hI _ _ _ := by
    have := put_at (T := s.T) ⟨by rw [s.e1, s.e2]; exact h1, by rw [s.e1, s.e3]; exact h2, by rw [s.e2, s.e3]; exact h3⟩ hI.1 hI.2 x k
    rw [s.e1] at this
    exact this
  a1 s q h := by
    simp only [Hp.ok, List.all_eq_true, Bool.and_eq_true] at h
    have := (h (s.T.bx, _) (lk_mem s.T.lkb)).1
    rw [s.e1] at this
    exact ⟨by simp only [SV.oks, SV.ok, Bool.and_true]; exact this, rfl⟩
structure On where
  L : MM Dt Int
  c : Nat
def On.hp (b m : Nat) (s : On) : Hp := [(b, .box 120 [.mp m]), (m, .map (mapE Dt.cells iv s.L) s.c)]
def On.cnt (s : On) (d : Dt) : Int := (MM.get s.L d).getD 0
def On.step (s : On) (o : OpD) : On × Bool := (⟨MM.put s.L s.c o.dot (s.cnt o.dot + 1), MM.clk s.L s.c o.dot⟩, decide (s.cnt o.dot + 1 > 1) || decide (o.kind > 1))
section
attribute [local irreducible] SW RW SCd SC CallP Pruned
set_option maxHeartbeats 1000000 in
theorem once_sb (s : On) (hw : MM.wf s.L s.c) (o : OpD) (hb : 0 ≤ s.cnt o.dot ∧ s.cnt o.dot < 1000000000) : SB Try.prog tree_New_1.f [.agg o.cells, .ptr 0 0] [(0, .box 120 [.mp 1]), (1, .map (mapE Dt.cells iv s.L) s.c)] 2 1
    (fun r F' => r = bl (s.step o).2 ∧ F' = [(0, .box 120 [.mp 1]), (1, .map (mapE Dt.cells iv (s.step o).1.L) (s.step o).1.c)]) := by
  refine tree_New_1.enter (by simp [SV.oks, SV.ok]) (by simp [Hp.ok, Ob.ok, SV.oks, SV.ok, dmap_ok]) (by simp) ?_
  unfold tree_New_1.s
  have fe := mstor_E (vs := iv) (kc := Dt.cells) hw o.dot 0
  have e0 : (MM.get s.L o.dot).getD 0 = s.cnt o.dot := rfl
  have e1 : IntKind.i64.wrap (s.cnt o.dot + 1) = s.cnt o.dot + 1 := wrap_i64 _ (by omega)
  have e2 : (MM.get (MM.put s.L s.c o.dot (s.cnt o.dot + 1)) o.dot).getD 0 = s.cnt o.dot + 1 := by rw [MM.get_put, if_pos rfl]; rfl
  have e3 : decide ((o.kind : Int) > 1) = decide (o.kind > 1) := by rw [Bool.eq_iff_iff]; simp only [decide_eq_true_eq]; omega
  refine SW.seq ?_
  (refine SW.regL [0, 1, 2, 3] mixed ?_; (repeat (first | refine RW.ro bq_tt (h := ?_) | refine RW.skip (h := ?_) | refine RW.op bq_tt (h := ?_) | refine RW.opN bq_tt (h := ?_) | refine RW.skip0 (h := ?_))); refine RW.nil ⟨by kernel_rfl, Pruned.mk (h := ?_)⟩)
  refine SW.cut (stM := ⟨[(2, .ptr 2 0), (1, .ptr 0 0)], [(2, .box 39 o.cells), (0, .box 120 [.mp 1]), (1, .map (mapE Dt.cells iv (s.step o).1.L) (s.step o).1.c)], 3⟩) id (SW.tree mixed ?_) ?_
  · have e3' : (MM.get (MM.ent s.L s.c o.dot 0) o.dot).getD 0 = s.cnt o.dot := by
      unfold MM.ent On.cnt
      cases hh : MM.idx s.L o.dot with
      | none =>
        have h1 := MM.idx_none.1 hh
        have h2 : s.L.find? (fun x => decide (o.dot = x.2.1)) = none := by
          unfold MM.get at h1
          simpa using h1
        rw [h1]
        simp [MM.get, List.find?_append, h2]
      | some i => rfl
    repeat' (first
      | refine SWt.s1 _ (h1 := ?_)
      | refine SWt.s2 _ _ (h1 := ?_) (h2 := ?_)
      | refine SWt.s3 _ _ _ (h1 := ?_) (h2 := ?_) (h3 := ?_)
      | refine Oa.mk (And.intro fe (And.intro e0 (And.intro e1 e3'))) (h := ?_))
    all_goals (refine SWt.done (by kernel_rfl) (Weak.same (by simp) (by simp [EnvW, List.lookup, SV.ren, SV.ok]) (by simp [Hp.ok, Ob.ok, SV.oks, SV.ok, dmap_ok]) (fun x hx => ?_)))
    all_goals (simp only [List.mem_cons, List.not_mem_nil, or_false] at hx; rcases hx with rfl | rfl | rfl <;> rfl)
  have hE : ∀ b, (s.step o).2 = b → ∀ env : List (Nat × SV), env.lookup 3 = some (bl b) → Sl.Fin 2 1 tree_New_1.rv (fun r F' => r = bl (s.step o).2 ∧ F' = [(0, .box 120 [.mp 1]), (1, .map (mapE Dt.cells iv (s.step o).1.L) (s.step o).1.c)]) ⟨env, [(2, .box 39 o.cells), (0, .box 120 [.mp 1]), (1, .map (mapE Dt.cells iv (s.step o).1.L) (s.step o).1.c)], 3⟩ := fun b hb env he =>
    End.mk (ss := [bl b]) (ob := True) [(0, .box 120 [.mp 1]), (1, .map (mapE Dt.cells iv (s.step o).1.L) (s.step o).1.c)] (h1 := by simp [tree_New_1.rv, rvV, he]) (h2 := trivial) (h3 := by repeat (first | exact HSub.nil _ | refine HSub.cons (by rfl) ?_)) (h4 := ⟨by rw [hb]; rfl, rfl⟩) (h5 := rfl) (h6 := by simp [Hp.ok, Ob.ok, SV.oks, SV.ok, dmap_ok])
  have e5 : (MM.get (s.step o).1.L o.dot).getD 0 = s.cnt o.dot + 1 := e2
  rcases (Bool.eq_false_or_eq_true (decide (s.cnt o.dot + 1 > 1))).symm with h1 | h1
  · have er : (s.step o).2 = decide (o.kind > 1) := by unfold On.step; rw [h1]; rfl
    (repeat (first | refine SW.seq ?_ | refine SW.block ?_ | (have fx := (And.intro (e5) (And.intro (e3) (h1))); refine SW.regL [0, 1, 2, 3] mixed ?_; (repeat (first | refine RW.ro fx (h := ?_) | refine RW.skip (h := ?_) | refine RW.op fx (h := ?_) | refine RW.opN fx (h := ?_) | refine RW.skip0 (h := ?_))); refine RW.nil ⟨by kernel_rfl, Pruned.mk (h := ?_)⟩) | refine SW.skip ?_ | refine SW.exit ?_ | refine SW.ret ?_ | refine SW.condT rfl ?_ | refine SW.condF rfl ?_))
    exact hE _ er _ rfl
  · have er : (s.step o).2 = true := by unfold On.step; rw [h1]; rfl
    (repeat (first | refine SW.seq ?_ | refine SW.block ?_ | (have fx := (And.intro (e5) (And.intro (e3) (h1))); refine SW.regL [0, 1, 2, 3] mixed ?_; (repeat (first | refine RW.ro fx (h := ?_) | refine RW.skip (h := ?_) | refine RW.op fx (h := ?_) | refine RW.opN fx (h := ?_) | refine RW.skip0 (h := ?_))); refine RW.nil ⟨by kernel_rfl, Pruned.mk (h := ?_)⟩) | refine SW.skip ?_ | refine SW.exit ?_ | refine SW.ret ?_ | refine SW.condT rfl ?_ | refine SW.condF rfl ?_))
    exact hE _ er _ rfl
end
theorem On.names (b m : Nat) (s : On) : (s.hp b m).map (·.1) = [b, m] := rfl
theorem once_at {b m : Nat} (h1 : m ≠ b) (s : On) (hw : MM.wf s.L s.c) (o : OpD) (hb : 0 ≤ s.cnt o.dot ∧ s.cnt o.dot < 1000000000) (k : Nat) : SCd Try.prog tree_New_1.f [.agg o.cells, .ptr b 0] (s.hp b m) k 1 (bl (s.step o).2) ((s.step o).1.hp b m) := by
  have h := SB.atL [b, m] (once_sb s hw o hb) (by simp; exact Ne.symm h1) (fun i hi => by
    rcases (show i = 0 ∨ i = 1 by simp at hi; omega) with rfl | rfl <;> simp [lk_cons]) k
  simp only [SV.rens, SV.ren, OpD.cells_ren, Hp.ren, List.map_cons, List.map_nil, Ob.ren, dmap_ren] at h
  exact h
theorem once_del {b m : Nat} (h1 : m ≠ b) :
    DelOk Try.prog 75 [] [.ptr b 0] (On.hp b m) On.step 1 (fun i s => MM.wf s.L s.c ∧ ∀ d, 0 ≤ s.cnt d ∧ s.cnt d ≤ (i : Int)) (fun _ => True) 1000000000 where
  nd s := by rw [On.names]; simp; exact Ne.symm h1
  nm s x := rfl
  nx i s x hI _ hi := by
    refine ⟨MM.wf_put hI.1 _ _, fun d => ?_⟩
    have hx := hI.2 x.dot
    show 0 ≤ (MM.get (MM.put s.L s.c x.dot (s.cnt x.dot + 1)) d).getD 0 ∧ (MM.get (MM.put s.L s.c x.dot (s.cnt x.dot + 1)) d).getD 0 ≤ ((i + 1 : Nat) : Int)
    rw [MM.get_put]
    split
    · simp only [Option.getD_some]; omega
    · have := hI.2 d
      unfold On.cnt at this
      omega
  ok s x q h := by
    simp only [Hp.ok, On.hp, List.all_cons, List.all_nil, Ob.ok, SV.oks, SV.ok, dmap_ok, Bool.and_true] at h ⊢
    exact h
  call i s x k hI _ hi _ := once_at h1 s hI.1 x (by have := hI.2 x.dot; omega) k
  a1 s q h := by
    simp only [Hp.ok, On.hp, List.all_cons, List.all_nil, Ob.ok, SV.oks, SV.ok, dmap_ok, Bool.and_true, Bool.and_eq_true] at h ⊢
    exact ⟨trivial, h.1.1⟩
end Go.Proofs.Ytmmonbnlleeloaa
namespace Go.Proofs.Ytmmonbnlleeloaa
open Go.Sl Go.Proofs
abbrev TS := TrS 2 0 1
def ts0 : TS := ⟨⟨2, 0, 1, [], 0, [], 0⟩, rfl, rfl, rfl⟩
def grow : Nat → TS → List OpD → TS
  | 0, s, W => s
  | f + 1, s, W => if (keepD TrS.step s W).1.length < W.length then grow f (keepD TrS.step s W).2 (keepD TrS.step s W).1 else (keepD TrS.step s W).2
theorem grow_fuel : ∀ (f g : Nat) (s : TS) (W : List OpD), W.length < f → W.length < g → grow f s W = grow g s W
  | 0, g, s, W, h, _ => by omega
  | f + 1, 0, s, W, _, h => by omega
  | f + 1, g + 1, s, W, h1, h2 => by
    simp only [grow]
    split
    · exact grow_fuel f g _ _ (by omega) (by omega)
    · rfl
theorem grow_more {s : TS} {W : List OpD} (h : (keepD TrS.step s W).1.length < W.length) : grow (W.length + 1) s W = grow ((keepD TrS.step s W).1.length + 1) (keepD TrS.step s W).2 (keepD TrS.step s W).1 := by
  rw [show grow (W.length + 1) s W = grow W.length (keepD TrS.step s W).2 (keepD TrS.step s W).1 by simp only [grow]; rw [if_pos h]]
  exact grow_fuel _ _ _ _ h (Nat.lt_succ_self _)
theorem grow_end {s : TS} {W : List OpD} (h : ¬ (keepD TrS.step s W).1.length < W.length) : grow (W.length + 1) s W = (keepD TrS.step s W).2 := by
  simp only [grow]; rw [if_neg h]
def firsts (l : List OpD) : List OpD := (keepD On.step ⟨[], 0⟩ l).1
def newTr (l : List OpD) : Tr := (grow ((firsts l).length + 1) ts0 (firsts l)).T
theorem TrS.sep (s : TrS 2 0 1) : s.T.sep := ⟨by rw [s.e1, s.e2]; decide, by rw [s.e1, s.e3]; decide, by rw [s.e2, s.e3]; decide⟩
theorem TrS.lt (s : TrS 2 0 1) {k : Nat} (h : 3 ≤ k) : s.T.lt k := ⟨by rw [s.e1]; omega, by rw [s.e2]; omega, by rw [s.e3]; omega⟩
def TrS.wf (s : TrS 2 0 1) : Prop := MM.wf s.T.at_ s.T.ca ∧ MM.wf s.T.made s.T.cm
theorem ts0_wf : ts0.wf := ⟨MM.wf_nil, MM.wf_nil⟩
theorem keep_wf : ∀ (W : List OpD) (s : TS), s.wf → (keepD TrS.step s W).2.wf
  | [], s, h => h
  | x :: W, s, h => keep_wf W _ (Tr.put_wf h.1 h.2 x)
theorem ts0_hp : ts0.T.hp = [(2, .box 74 [.mp 0, .mp 1]), (0, .map [] 0), (1, .map [] 0)] := rfl
section
attribute [local irreducible] SW RW SCd SC CallP Pruned Tr.hp
set_option maxHeartbeats 4000000 in
theorem new_sb (l : List OpD) (hl : l.length < 1000000000) : SB Try.prog tree_New.f [ops l] [] 0 7 (fun r F' => r = .ptr 2 0 ∧ F' = (newTr l).hp) := by
  refine tree_New.enter (by first | rfl | simp [SV.ok, SV.oks]) (by first | rfl | simp [Hp.ok, Ob.ok, SV.ok, SV.oks, Vec.cells_ok]) (by simp) ?_
  unfold tree_New.s
  have spl1 : ∀ (x y : SV), spl [x] 0 [y] = [y] := fun _ _ => rfl
  have splm : ∀ (x y a b : SV), spl (spl [x, y] 0 [a]) 1 [b] = [a, b] := fun _ _ _ _ => rfl
  refine SW.seq ?_
  (refine SW.regL [0, 2, 3, 4, 5, 6, 7, 17] mixed ?_; (repeat (first | refine RW.ro bq_tt (h := ?_) | refine RW.skip (h := ?_) | refine RW.op bq_tt (h := ?_) | refine RW.opN bq_tt (h := ?_) | refine RW.skip0 (h := ?_))); refine RW.nil ⟨by kernel_rfl, Pruned.mk (h := ?_)⟩)
  refine SW.seq ?_
  (refine SW.regL [0, 2, 3, 4, 5, 6, 7, 17] mixed ?_; (repeat (first | refine RW.ro (splm) (h := ?_) | refine RW.skip (h := ?_) | refine RW.op (splm) (h := ?_) | refine RW.opN (splm) (h := ?_) | refine RW.skip0 (h := ?_))); refine RW.nil ⟨by kernel_rfl, Pruned.mk (h := ?_)⟩)
  refine SW.seq ?_
  (refine SW.regL [0, 2, 3, 4, 5, 6, 7, 17] mixed ?_; (repeat (first | refine RW.ro (spl1) (h := ?_) | refine RW.skip (h := ?_) | refine RW.op (spl1) (h := ?_) | refine RW.opN (spl1) (h := ?_) | refine RW.skip0 (h := ?_))); refine RW.nil ⟨by kernel_rfl, Pruned.mk (h := ?_)⟩)
  have ho : (On.hp 4 3 ⟨[], 0⟩) = [(4, .box 120 [.mp 3]), (3, .map [] 0)] := rfl
  have h0 : Here (On.hp 4 3) 6 7 ⟨[], 0⟩ ⟨[], 0⟩ := ⟨rfl, by decide, by rw [ho]; rfl⟩
  have cD := deleteF_at (once_del (b := 4) (m := 3) (by omega)) l ⟨[], 0⟩ hl (Nat.le_of_lt hl) (fun _ _ => trivial) ⟨MM.wf_nil, fun d => by simp [On.cnt, MM.get]⟩ 6 7 (by omega) h0 (by decide)
  obtain ⟨s1, hs1⟩ : ∃ s1, (keepD On.step ⟨[], 0⟩ l).2 = s1 := ⟨_, rfl⟩
  have hf : (keepD On.step ⟨[], 0⟩ l).1 = firsts l := rfl
  rw [hs1, hf] at cD
  have cD : SCd Try.prog slices_DeleteFunc_Lapi_Op_api_Op.f [.gs 6 l.length, .fn (.func 75) [] [.ptr 4 0]] [(6, .arr 39 29 l.length (opc l)), (4, .box 120 [.mp 3]), (3, .map [] 0)] 7 (l.length * 1 + l.length * (1 + 1)) (.gs 6 (firsts l).length)
      [(6, .arr 39 29 (firsts l).length (opc (firsts l))), (4, .box 120 [.mp 3]), (3, .map (mapE Dt.cells iv s1.L) s1.c)] := cD
  refine SW.seq ?_
  (refine SW.regL [0, 2, 3, 4, 5, 6, 7, 17] mixed ?_; (repeat (first | refine RW.ro bq_tt (h := ?_) | refine RW.skip (h := ?_) | refine RW.op bq_tt (h := ?_) | refine RW.opN bq_tt (h := ?_) | refine RW.skip0 (h := ?_) | (refine RW.callC (h := ?_); (first | refine CallP.mk bq_tt (hc := clone_at l hl 5) (h := ?_) | refine CallP.mk bq_tt (hc := cD) (h := ?_))))); refine RW.nil ⟨by kernel_rfl, Pruned.mk (h := ?_)⟩)
  obtain ⟨K, hK, hK7⟩ : ∃ K, 7 + (l.length * 1 + l.length * (1 + 1)) = K ∧ 7 ≤ K := ⟨_, rfl, by omega⟩
  rw [hK]
  have hlen : (firsts l).length ≤ l.length := keepD_len On.step l ⟨[], 0⟩
  refine SW.weak id (st1 := ⟨[(3, .ptr 2 0), (5, .gs 6 (firsts l).length)], (6, .arr 39 29 (firsts l).length (opc (firsts l))) :: ts0.T.hp, K⟩) (Weak.same (by simp) (by simp [EnvW, List.lookup, SV.ren, SV.ok]; omega) (ok_cons (by simp; omega) (SV.oks_d _) (Tr.okk (ts0.lt (by show 3 ≤ K; omega)))) (fun x hx => ?_)) ?_
  · rcases List.mem_cons.1 hx with rfl | hx
    · rfl
    · rw [ts0_hp] at hx
      simp only [List.mem_cons, List.not_mem_nil, or_false] at hx
      rcases hx with rfl | rfl | rfl <;> rfl
  refine SW.seq (SW.seq ?_)
  (refine SW.regL [0, 2, 3, 4, 5, 6, 7, 17] mixed ?_; (repeat (first | refine RW.ro bq_tt (h := ?_) | refine RW.skip (h := ?_) | refine RW.op bq_tt (h := ?_) | refine RW.opN bq_tt (h := ?_) | refine RW.skip0 (h := ?_))); refine RW.nil ⟨by kernel_rfl, Pruned.mk (h := ?_)⟩)
  refine SW.block ?_
  let Inv : Bool → List OpD → TS → Prop := fun b W s => W.length ≤ l.length ∧ s.wf ∧ (if b then grow (W.length + 1) s W else s).T = newTr l
  have hok : ∀ (W : List OpD) (s : TS) (k : Nat), 7 ≤ k → Hp.ok (fun n => decide (n < k)) ((6, .arr 39 29 W.length (opc W)) :: s.T.hp) = true := fun W s k hk => ok_cons (by simp; omega) (SV.oks_d _) (Tr.okk (s.lt (by omega)))
  have h6 : ∀ s : TS, lk s.T.hp 6 = none := fun s => Tr.lkk (s.lt (Nat.le_refl 3)) (by omega)
  have hnd : ∀ (W : List OpD) (s : TS), (((6, Ob.arr 39 29 W.length (opc W)) :: s.T.hp : Hp).map (·.1)).Nodup := fun W s => nd_cons (h6 s) (Tr.nd s.sep)
  refine SW.loop (α := {x : Bool × List OpD × TS × Nat // Inv x.1 x.2.1 x.2.2.1 ∧ 7 ≤ x.2.2.2}) (fun x => ⟨[(6, bl x.1.1), (3, .ptr 2 0), (5, .gs 6 x.1.2.1.length)], (6, .arr 39 29 x.1.2.1.length (opc x.1.2.1)) :: x.1.2.2.1.T.hp, x.1.2.2.2⟩) (fun x => 2 * x.1.2.1.length + (if x.1.1 then 1 else 0))
    ⟨(true, firsts l, ts0, K), ⟨hlen, ts0_wf, rfl⟩, hK7⟩ id ?_ ?_
  · exact Weak.same (by simp) (by simp [EnvW, List.lookup, SV.ren, SV.ok]; omega) (hok _ _ _ hK7) (lk_of_nodup (hnd _ _))
  rintro ⟨⟨b, W, s, k⟩, ⟨hW, hwf, hfin⟩, hk7⟩
  dsimp only at hW hwf hfin hk7 ⊢
  cases b with
  | false =>
    refine SW.seq (SW.seq ?_)
    (refine SW.regL [0, 2, 3, 4, 5, 6, 7, 17] mixed ?_; (repeat (first | refine RW.ro bq_tt (h := ?_) | refine RW.skip (h := ?_) | refine RW.op bq_tt (h := ?_) | refine RW.opN bq_tt (h := ?_) | refine RW.skip0 (h := ?_))); refine RW.nil ⟨by kernel_rfl, Pruned.mk (h := ?_)⟩)
    refine SW.condF rfl (SW.exit ?_)
    refine (?_ : Sl.SW _ _ _ _ _ _)
    refine SW.seq ?_
    (refine SW.regL [0, 2, 3, 4, 5, 6, 7, 17] mixed ?_; (repeat (first | refine RW.ro bq_tt (h := ?_) | refine RW.skip (h := ?_) | refine RW.op bq_tt (h := ?_) | refine RW.opN bq_tt (h := ?_) | refine RW.skip0 (h := ?_))); refine RW.nil ⟨by kernel_rfl, Pruned.mk (h := ?_)⟩)
    refine SW.ret ?_
    have hfin : s.T = newTr l := hfin
    rw [← hfin]
    exact End.mk s.T.hp (h3 := sub_cons (h6 s) fun _ _ h => h) (h4 := ⟨rfl, rfl⟩) (h6 := Tr.okk (s.lt (by omega))) (h7 := by simpa using hk7)
  | true =>
    have hfin : (grow (W.length + 1) s W).T = newTr l := hfin
    have hH : Here (fun s : TS => s.T.hp) 6 k s s := ⟨rfl, Tr.okk (s.lt (by omega)), h6 s⟩
    have cP := deleteF_at (put_del (b := 2) (a := 0) (m := 1) (by omega) (by omega) (by omega) 1000000000) W s (by omega) (by omega) (fun _ _ => trivial) hwf 6 k (by omega) hH (Tr.cl s.sep)
    have hwf' := keep_wf W s hwf
    have hkl := keepD_len TrS.step W s
    have hmore := grow_more (s := s) (W := W)
    have hend := grow_end (s := s) (W := W)
    obtain ⟨W', hW'⟩ : ∃ W', (keepD TrS.step s W).1 = W' := ⟨_, rfl⟩
    obtain ⟨s', hs'⟩ : ∃ s', (keepD TrS.step s W).2 = s' := ⟨_, rfl⟩
    rw [hW', hs'] at cP hmore hend
    rw [hW'] at hkl
    rw [hs'] at hwf'
    have hm : hsets (hdels ((6, Ob.arr 39 29 W.length (opc W)) :: s.T.hp) ((6, Ob.arr 39 29 W'.length (opc W')) :: s'.T.hp) s.T.hp) s'.T.hp = (6, Ob.arr 39 29 W.length (opc W)) :: s'.T.hp :=
      mrg_tail1 (by rw [Tr.names, Tr.names, s.e1, s.e2, s.e3, s'.e1, s'.e2, s'.e3]) (hnd W s)
    refine SW.seq (SW.seq ?_)
    (refine SW.regL [0, 2, 3, 4, 5, 6, 7, 17] mixed ?_; (repeat (first | refine RW.ro bq_tt (h := ?_) | refine RW.skip (h := ?_) | refine RW.op bq_tt (h := ?_) | refine RW.opN bq_tt (h := ?_) | refine RW.skip0 (h := ?_))); refine RW.nil ⟨by kernel_rfl, Pruned.mk (h := ?_)⟩)
    refine SW.condT rfl (SW.skip ?_)
    refine (?_ : Sl.SW _ _ _ _ _ _)
    refine SW.block (SW.seq ?_)
    (refine SW.regL [0, 2, 3, 4, 5, 6, 7, 17] mixed ?_; (repeat (first | refine RW.ro bq_tt (h := ?_) | refine RW.skip (h := ?_) | refine RW.op bq_tt (h := ?_) | refine RW.opN bq_tt (h := ?_) | refine RW.skip0 (h := ?_))); refine RW.nil ⟨by kernel_rfl, Pruned.mk (h := ?_)⟩)
    refine SW.seq ?_
    (refine SW.regL [0, 2, 3, 4, 5, 6, 7, 17] mixed ?_; (repeat (first | refine RW.ro (hm) (h := ?_) | refine RW.skip (h := ?_) | refine RW.op (hm) (h := ?_) | refine RW.opN (hm) (h := ?_) | refine RW.skip0 (h := ?_) | (refine RW.callC (h := ?_); (first | refine CallP.mk (hm) (hs := (fun _ _ h => h)) (hc := cP) (h := ?_))))); refine RW.nil ⟨by kernel_rfl, Pruned.mk (h := ?_)⟩)
    have e1 : decide ((W'.length : Int) < (W.length : Int)) = decide (W'.length < W.length) := by rw [Bool.eq_iff_iff]; simp only [decide_eq_true_eq]; omega
    (refine SW.regL [0, 2, 3, 4, 5, 6, 7, 17] mixed ?_; (repeat (first | refine RW.ro (e1) (h := ?_) | refine RW.skip (h := ?_) | refine RW.op (e1) (h := ?_) | refine RW.opN (e1) (h := ?_) | refine RW.skip0 (h := ?_))); refine RW.nil ⟨by kernel_rfl, Pruned.mk (h := ?_)⟩)
    refine ⟨⟨(decide (W'.length < W.length), W', s', k + (W.length * 2 + W.length * (2 + 1))), ⟨by show W'.length ≤ l.length; omega, hwf', ?_⟩, by show 7 ≤ k + _; omega⟩, id, ?_, Weak.same (by simp) (by simp [EnvW, List.lookup, SV.ren, SV.ok]; omega) (hok W' s' _ (by show 7 ≤ k + _; omega)) (lk_of_nodup (hnd W' s'))⟩
    · rw [← hfin]
      by_cases h : W'.length < W.length
      · rw [decide_eq_true h, hmore h]; rfl
      · rw [decide_eq_false h, hend h]; rfl
    · show 2 * W'.length + (if decide (W'.length < W.length) = true then 1 else 0) < 2 * W.length + (if true = true then 1 else 0)
      by_cases h : W'.length < W.length
      · simp [h] <;> omega
      · simp [h] <;> omega
end
def Tr.sh (T : Tr) (k : Nat) : Tr := { T with bx := k + T.bx, ma := k + T.ma, mm := k + T.mm }
theorem Tr.sh_hp (T : Tr) (k : Nat) : T.hp.ren (atN [] k) = (T.sh k).hp := by
  simp only [Tr.hp, Hp.ren, List.map_cons, List.map_nil, Ob.ren, SV.rens, SV.ren, cmap_ren, omap_ren, Tr.sh, atN, List.getElem?_nil, List.length_nil, Nat.sub_zero, Nat.add_comm]
def newTr' (l : List OpD) (k : Nat) : Tr := (newTr l).sh k
theorem new_at (l : List OpD) (hl : l.length < 1000000000) (k : Nat) : SCd Try.prog tree_New.f [ops l] [] k 7 (.ptr (newTr' l k).bx 0) (newTr' l k).hp := by
  have h := SB.new (new_sb l hl) k
  rw [Tr.sh_hp] at h
  have e : (newTr l).bx = 2 := (grow ((firsts l).length + 1) ts0 (firsts l)).e1
  have e2 : (newTr' l k).bx = k + 2 := by show k + (newTr l).bx = _; rw [e]
  rw [e2]
  simp only [SV.ren, atN, List.getElem?_nil, List.length_nil, Nat.sub_zero] at h
  rw [Nat.add_comm k 2]
  exact h
end Go.Proofs.Ytmmonbnlleeloaa
namespace Go.Proofs.Ytmmonbnlleeloaa
open Go.Sl Go.Proofs
def rnarrow (o : OpD) (c : Cr) : Bool := ((!withinV o.roles c.roles || ((o.to : Int) == 0)) || decide ((o.depth : Int) ≥ c.depth)) || decide ((o.cap : Int) > c.cap)
def rnoCred (l : List OpD) (g : Cr × Bool) (o : OpD) : Bool := (!g.2 || !decide (g.1.cart = o.cart)) || !((findO l o.cred).getD OpD.zero).before o
def whyOf (l : List OpD) (g : Cr × Bool) (o : OpD) : Cr × Nat :=
  if o.kind ≠ 1 then (Cr.zero, 2) else (g.1, if rnoCred l g o then 272 else if g.1.hold ≠ o.who then 273 else if hasB g.1.roles 1 = false then 274 else if rnarrow o g.1 then 275 else 0)
def getR (l : List OpD) : Nat → Dt → Cr × Bool
  | 0, _ => (Cr.zero, false)
  | m + 1, d => match findO l d with
    | none => (Cr.zero, false)
    | some o => if o.kind = 0 then (⟨d, d, ⟨0, 0⟩, o.who, 7, 8, 1099511627776, 0⟩, decide (o.cart = d)) else
      if (whyOf l (getR l m o.cred) o).2 ≠ 0 then (Cr.zero, false) else (⟨d, o.cart, o.cred, o.to, o.roles, o.depth, o.cap, IntKind.i64.wrap ((whyOf l (getR l m o.cred) o).1.level + 1)⟩, true)
theorem getR_roles {l : List OpD} (hl : ∀ x, x ∈ l → x.roles < 256) (m : Nat) (d : Dt) : (getR l m d).1.roles < 256 := by
  cases m with
  | zero => show (0 : Nat) < 256; omega
  | succ m =>
    simp only [getR]
    split
    · show (0 : Nat) < 256; omega
    · rename_i o ho
      split
      · show (7 : Nat) < 256; omega
      · split
        · show (0 : Nat) < 256; omega
        · exact hl o (List.mem_of_find?_eq_some ho)
section
attribute [local irreducible] SW RW SCd SC CallP Pruned getR
variable {l : List OpD} (hlen : l.length < 4611686018427387904) (hl : ∀ x, x ∈ l → x.roles < 256)
include hlen hl
set_option maxHeartbeats 4000000 in
theorem rwhy_ok (m : Nat) (hm : m < 1000) (o : OpD) (ho : o.roles < 256) (hg : ∀ d k, SCd Try.prog ref16_get.f [ops l, .agg d.cells, i64 m] [] k 0 (.tup [.agg (getR l m d).1.cells, bl (getR l m d).2]) []) :
    Go.Sl.Pure Try.prog ref16_why.f [ops l, .agg o.cells, i64 ((m + 1 : Nat) : Int)] (.tup [.agg (whyOf l (getR l m o.cred) o).1.cells, i64 (whyOf l (getR l m o.cred) o).2]) := by
  refine ref16_why.enter (by first | rfl | simp [SV.ok, SV.oks]) (by first | rfl | simp [Hp.ok, Ob.ok, SV.ok, SV.oks, Vec.cells_ok]) (by simp) ?_
  unfold ref16_why.s
  have hgr := getR_roles hl m o.cred
  have hgc := hg o.cred
  obtain ⟨g, hgd⟩ : ∃ g, getR l m o.cred = g := ⟨_, rfl⟩
  rw [hgd] at hgr hgc ⊢
  have em : IntKind.i64.wrap (((m + 1 : Nat) : Int) - 1) = (m : Int) := by rw [wrap_i64 _ (by omega)]; omega
  have k1 : (((o.kind : Nat) : Int) != 1) = decide (o.kind ≠ 1) := by rw [Bool.eq_iff_iff]; simp only [bne_iff_ne, decide_eq_true_eq]; omega
  obtain ⟨mk, hmk⟩ : ∃ mk, (findO l o.cred).getD OpD.zero = mk := ⟨_, rfl⟩
  have hfd : ∀ k, SCd Try.prog ref10_Find.f [ops l, .agg o.cred.cells] [] k 0 (.tup [.agg mk.cells, bl (findO l o.cred).isSome]) [] := fun k => by rw [← hmk]; exact find_at l hlen o.cred k
  have hw : whyOf l g o = if o.kind ≠ 1 then (Cr.zero, 2) else (g.1, if (!g.2 || !decide (g.1.cart = o.cart)) || !mk.before o then 272 else if g.1.hold ≠ o.who then 273 else if hasB g.1.roles 1 = false then 274 else if rnarrow o g.1 then 275 else 0) := by
    unfold whyOf rnoCred; rw [hmk]
  have kh : (((g.1.hold : Nat) : Int) != ((o.who : Nat) : Int)) = decide (g.1.hold ≠ o.who) := by rw [Bool.eq_iff_iff]; simp only [bne_iff_ne, decide_eq_true_eq]; omega
  rw [hw]
  rcases (Bool.eq_false_or_eq_true (decide (o.kind ≠ 1))).symm with h1 | h1
  case inr =>
    rw [if_pos (by simpa using h1)]
    (repeat (first | refine SW.seq ?_ | refine SW.block ?_ | (refine SW.regL [0, 1, 2, 4, 6, 7, 8, 9, 10, 14, 46, 52, 57, 83] mixed ?_; (repeat (first | refine RW.ro (And.intro (k1) (h1)) (h := ?_) | refine RW.skip (h := ?_) | refine RW.op (And.intro (k1) (h1)) (h := ?_) | refine RW.opN (And.intro (k1) (h1)) (h := ?_) | refine RW.skip0 (h := ?_))); refine RW.nil ⟨by kernel_rfl, Pruned.mk (h := ?_)⟩) | refine SW.skip ?_ | refine SW.exit ?_ | refine SW.ret ?_ | refine SW.condT rfl ?_ | refine SW.condF rfl ?_))
    exact End.mk [] (h4 := ⟨rfl, rfl⟩)
  rw [if_neg (by simpa using h1)]
  obtain ⟨c, is⟩ := g
  dsimp only at *
  cases is with
  | false =>
    (repeat (first | refine SW.seq ?_ | refine SW.block ?_ | (have fx := (And.intro (k1) (And.intro (h1) (And.intro (em) (kh)))); refine SW.regL [0, 1, 2, 4, 6, 7, 8, 9, 10, 14, 46, 52, 57, 83] mixed ?_; (repeat (first | refine RW.ro fx (h := ?_) | refine RW.skip (h := ?_) | refine RW.op fx (h := ?_) | refine RW.opN fx (h := ?_) | refine RW.skip0 (h := ?_) | (refine RW.callC (h := ?_); (first | refine CallP.mk fx (hc := hgc _) (h := ?_) | refine CallP.mk fx (hc := hfd _) (h := ?_) | refine CallP.mk fx (hc := rbefore_at _ _ _) (h := ?_) | refine CallP.mk fx (hc := has_at _ 1 hgr ⟨by omega, by omega⟩ _) (h := ?_) | refine CallP.mk fx (hc := within_at _ _ ho hgr _) (h := ?_))))); refine RW.nil ⟨by kernel_rfl, Pruned.mk (h := ?_)⟩) | refine SW.skip ?_ | refine SW.exit ?_ | refine SW.ret ?_ | refine SW.condT rfl ?_ | refine SW.condF rfl ?_))
    exact End.mk [] (h4 := ⟨by simp only [Bool.not_false, Bool.not_false, Bool.not_true, Bool.true_or, Bool.false_or, Bool.or_true, Bool.or_false, if_true, if_false, Bool.false_eq_true, reduceIte]; rfl, rfl⟩)
  | true =>
    rcases (Bool.eq_false_or_eq_true (decide (c.cart = o.cart))).symm with h2 | h2
    · skip
      (repeat (first | refine SW.seq ?_ | refine SW.block ?_ | (have fx := (And.intro (k1) (And.intro (h1) (And.intro (em) (And.intro (kh) (h2))))); refine SW.regL [0, 1, 2, 4, 6, 7, 8, 9, 10, 14, 46, 52, 57, 83] mixed ?_; (repeat (first | refine RW.ro fx (h := ?_) | refine RW.skip (h := ?_) | refine RW.op fx (h := ?_) | refine RW.opN fx (h := ?_) | refine RW.skip0 (h := ?_) | (refine RW.callC (h := ?_); (first | refine CallP.mk fx (hc := hgc _) (h := ?_) | refine CallP.mk fx (hc := hfd _) (h := ?_) | refine CallP.mk fx (hc := rbefore_at _ _ _) (h := ?_) | refine CallP.mk fx (hc := has_at _ 1 hgr ⟨by omega, by omega⟩ _) (h := ?_) | refine CallP.mk fx (hc := within_at _ _ ho hgr _) (h := ?_))))); refine RW.nil ⟨by kernel_rfl, Pruned.mk (h := ?_)⟩) | refine SW.skip ?_ | refine SW.exit ?_ | refine SW.ret ?_ | refine SW.condT rfl ?_ | refine SW.condF rfl ?_))
      exact End.mk [] (h4 := ⟨by simp only [h2, Bool.not_false, Bool.not_true, Bool.true_or, Bool.false_or, Bool.or_true, Bool.or_false, if_true, if_false, Bool.false_eq_true, reduceIte]; rfl, rfl⟩)
    · skip
      rcases (Bool.eq_false_or_eq_true (mk.before o)).symm with h3 | h3
      · skip
        (repeat (first | refine SW.seq ?_ | refine SW.block ?_ | (have fx := (And.intro (k1) (And.intro (h1) (And.intro (em) (And.intro (kh) (And.intro (h2) (h3)))))); refine SW.regL [0, 1, 2, 4, 6, 7, 8, 9, 10, 14, 46, 52, 57, 83] mixed ?_; (repeat (first | refine RW.ro fx (h := ?_) | refine RW.skip (h := ?_) | refine RW.op fx (h := ?_) | refine RW.opN fx (h := ?_) | refine RW.skip0 (h := ?_) | (refine RW.callC (h := ?_); (first | refine CallP.mk fx (hc := hgc _) (h := ?_) | refine CallP.mk fx (hc := hfd _) (h := ?_) | refine CallP.mk fx (hc := rbefore_at _ _ _) (h := ?_) | refine CallP.mk fx (hc := has_at _ 1 hgr ⟨by omega, by omega⟩ _) (h := ?_) | refine CallP.mk fx (hc := within_at _ _ ho hgr _) (h := ?_))))); refine RW.nil ⟨by kernel_rfl, Pruned.mk (h := ?_)⟩) | refine SW.skip ?_ | refine SW.exit ?_ | refine SW.ret ?_ | refine SW.condT rfl ?_ | refine SW.condF rfl ?_))
        exact End.mk [] (h4 := ⟨by simp only [h2, h3, Bool.not_false, Bool.not_true, Bool.true_or, Bool.false_or, Bool.or_true, Bool.or_false, if_true, if_false, Bool.false_eq_true, reduceIte]; rfl, rfl⟩)
      · skip
        rcases (Bool.eq_false_or_eq_true (decide (c.hold ≠ o.who))).symm with h4 | h4
        rotate_left
        · skip
          (repeat (first | refine SW.seq ?_ | refine SW.block ?_ | (have fx := (And.intro (k1) (And.intro (h1) (And.intro (em) (And.intro (kh) (And.intro (h2) (And.intro (h3) (h4))))))); refine SW.regL [0, 1, 2, 4, 6, 7, 8, 9, 10, 14, 46, 52, 57, 83] mixed ?_; (repeat (first | refine RW.ro fx (h := ?_) | refine RW.skip (h := ?_) | refine RW.op fx (h := ?_) | refine RW.opN fx (h := ?_) | refine RW.skip0 (h := ?_) | (refine RW.callC (h := ?_); (first | refine CallP.mk fx (hc := hgc _) (h := ?_) | refine CallP.mk fx (hc := hfd _) (h := ?_) | refine CallP.mk fx (hc := rbefore_at _ _ _) (h := ?_) | refine CallP.mk fx (hc := has_at _ 1 hgr ⟨by omega, by omega⟩ _) (h := ?_) | refine CallP.mk fx (hc := within_at _ _ ho hgr _) (h := ?_))))); refine RW.nil ⟨by kernel_rfl, Pruned.mk (h := ?_)⟩) | refine SW.skip ?_ | refine SW.exit ?_ | refine SW.ret ?_ | refine SW.condT rfl ?_ | refine SW.condF rfl ?_))
          exact End.mk [] (h4 := ⟨by simp only [h2, h3, ne_eq, not_false_eq_true, show ¬ c.hold = o.who by simpa using h4, Bool.not_false, Bool.not_true, Bool.true_or, Bool.false_or, Bool.or_true, Bool.or_false, if_true, if_false, Bool.false_eq_true, reduceIte]; rfl, rfl⟩)
        · skip
          rcases (Bool.eq_false_or_eq_true (hasB c.roles 1)).symm with h5 | h5
          · skip
            (repeat (first | refine SW.seq ?_ | refine SW.block ?_ | (have fx := (And.intro (k1) (And.intro (h1) (And.intro (em) (And.intro (kh) (And.intro (h2) (And.intro (h3) (And.intro (h4) (h5)))))))); refine SW.regL [0, 1, 2, 4, 6, 7, 8, 9, 10, 14, 46, 52, 57, 83] mixed ?_; (repeat (first | refine RW.ro fx (h := ?_) | refine RW.skip (h := ?_) | refine RW.op fx (h := ?_) | refine RW.opN fx (h := ?_) | refine RW.skip0 (h := ?_) | (refine RW.callC (h := ?_); (first | refine CallP.mk fx (hc := hgc _) (h := ?_) | refine CallP.mk fx (hc := hfd _) (h := ?_) | refine CallP.mk fx (hc := rbefore_at _ _ _) (h := ?_) | refine CallP.mk fx (hc := has_at _ 1 hgr ⟨by omega, by omega⟩ _) (h := ?_) | refine CallP.mk fx (hc := within_at _ _ ho hgr _) (h := ?_))))); refine RW.nil ⟨by kernel_rfl, Pruned.mk (h := ?_)⟩) | refine SW.skip ?_ | refine SW.exit ?_ | refine SW.ret ?_ | refine SW.condT rfl ?_ | refine SW.condF rfl ?_))
            exact End.mk [] (h4 := ⟨by simp only [h2, h3, show ¬ c.hold ≠ o.who by simpa using h4, h5, Bool.not_false, Bool.not_true, Bool.true_or, Bool.false_or, Bool.or_true, Bool.or_false, if_true, if_false, Bool.false_eq_true, reduceIte]; rfl, rfl⟩)
          · skip
            rcases (Bool.eq_false_or_eq_true (withinV o.roles c.roles)).symm with h6 | h6
            · skip
              have hn : rnarrow o c = true := by unfold rnarrow; rw [h6]; rfl
              (repeat (first | refine SW.seq ?_ | refine SW.block ?_ | (have fx := (And.intro (k1) (And.intro (h1) (And.intro (em) (And.intro (kh) (And.intro (h2) (And.intro (h3) (And.intro (h4) (And.intro (h5) (h6))))))))); refine SW.regL [0, 1, 2, 4, 6, 7, 8, 9, 10, 14, 46, 52, 57, 83] mixed ?_; (repeat (first | refine RW.ro fx (h := ?_) | refine RW.skip (h := ?_) | refine RW.op fx (h := ?_) | refine RW.opN fx (h := ?_) | refine RW.skip0 (h := ?_) | (refine RW.callC (h := ?_); (first | refine CallP.mk fx (hc := hgc _) (h := ?_) | refine CallP.mk fx (hc := hfd _) (h := ?_) | refine CallP.mk fx (hc := rbefore_at _ _ _) (h := ?_) | refine CallP.mk fx (hc := has_at _ 1 hgr ⟨by omega, by omega⟩ _) (h := ?_) | refine CallP.mk fx (hc := within_at _ _ ho hgr _) (h := ?_))))); refine RW.nil ⟨by kernel_rfl, Pruned.mk (h := ?_)⟩) | refine SW.skip ?_ | refine SW.exit ?_ | refine SW.ret ?_ | refine SW.condT rfl ?_ | refine SW.condF rfl ?_))
              exact End.mk [] (h4 := ⟨by simp only [h2, h3, show ¬ c.hold ≠ o.who by simpa using h4, h5, hn, Bool.not_false, Bool.not_true, Bool.true_or, Bool.false_or, Bool.or_true, Bool.or_false, if_true, if_false, Bool.false_eq_true, reduceIte]; rfl, rfl⟩)
            · skip
              rcases (Bool.eq_false_or_eq_true (((o.to : Int) == 0))).symm with h7 | h7
              rotate_left
              · skip
                have hn : rnarrow o c = true := by unfold rnarrow; rw [h6, h7]; simp
                (repeat (first | refine SW.seq ?_ | refine SW.block ?_ | (have fx := (And.intro (k1) (And.intro (h1) (And.intro (em) (And.intro (kh) (And.intro (h2) (And.intro (h3) (And.intro (h4) (And.intro (h5) (And.intro (h6) (h7)))))))))); refine SW.regL [0, 1, 2, 4, 6, 7, 8, 9, 10, 14, 46, 52, 57, 83] mixed ?_; (repeat (first | refine RW.ro fx (h := ?_) | refine RW.skip (h := ?_) | refine RW.op fx (h := ?_) | refine RW.opN fx (h := ?_) | refine RW.skip0 (h := ?_) | (refine RW.callC (h := ?_); (first | refine CallP.mk fx (hc := hgc _) (h := ?_) | refine CallP.mk fx (hc := hfd _) (h := ?_) | refine CallP.mk fx (hc := rbefore_at _ _ _) (h := ?_) | refine CallP.mk fx (hc := has_at _ 1 hgr ⟨by omega, by omega⟩ _) (h := ?_) | refine CallP.mk fx (hc := within_at _ _ ho hgr _) (h := ?_))))); refine RW.nil ⟨by kernel_rfl, Pruned.mk (h := ?_)⟩) | refine SW.skip ?_ | refine SW.exit ?_ | refine SW.ret ?_ | refine SW.condT rfl ?_ | refine SW.condF rfl ?_))
                exact End.mk [] (h4 := ⟨by simp only [h2, h3, show ¬ c.hold ≠ o.who by simpa using h4, h5, hn, Bool.not_false, Bool.not_true, Bool.true_or, Bool.false_or, Bool.or_true, Bool.or_false, if_true, if_false, Bool.false_eq_true, reduceIte]; rfl, rfl⟩)
              · skip
                rcases (Bool.eq_false_or_eq_true (decide ((o.depth : Int) ≥ c.depth))).symm with h8 | h8
                rotate_left
                · skip
                  have hn : rnarrow o c = true := by unfold rnarrow; rw [h6, h7, h8]; simp
                  (repeat (first | refine SW.seq ?_ | refine SW.block ?_ | (have fx := (And.intro (k1) (And.intro (h1) (And.intro (em) (And.intro (kh) (And.intro (h2) (And.intro (h3) (And.intro (h4) (And.intro (h5) (And.intro (h6) (And.intro (h7) (h8))))))))))); refine SW.regL [0, 1, 2, 4, 6, 7, 8, 9, 10, 14, 46, 52, 57, 83] mixed ?_; (repeat (first | refine RW.ro fx (h := ?_) | refine RW.skip (h := ?_) | refine RW.op fx (h := ?_) | refine RW.opN fx (h := ?_) | refine RW.skip0 (h := ?_) | (refine RW.callC (h := ?_); (first | refine CallP.mk fx (hc := hgc _) (h := ?_) | refine CallP.mk fx (hc := hfd _) (h := ?_) | refine CallP.mk fx (hc := rbefore_at _ _ _) (h := ?_) | refine CallP.mk fx (hc := has_at _ 1 hgr ⟨by omega, by omega⟩ _) (h := ?_) | refine CallP.mk fx (hc := within_at _ _ ho hgr _) (h := ?_))))); refine RW.nil ⟨by kernel_rfl, Pruned.mk (h := ?_)⟩) | refine SW.skip ?_ | refine SW.exit ?_ | refine SW.ret ?_ | refine SW.condT rfl ?_ | refine SW.condF rfl ?_))
                  exact End.mk [] (h4 := ⟨by simp only [h2, h3, show ¬ c.hold ≠ o.who by simpa using h4, h5, hn, Bool.not_false, Bool.not_true, Bool.true_or, Bool.false_or, Bool.or_true, Bool.or_false, if_true, if_false, Bool.false_eq_true, reduceIte]; rfl, rfl⟩)
                · skip
                  rcases (Bool.eq_false_or_eq_true (decide ((o.cap : Int) > c.cap))).symm with h9 | h9
                  rotate_left
                  · skip
                    have hn : rnarrow o c = true := by unfold rnarrow; rw [h6, h7, h8, h9]; simp
                    (repeat (first | refine SW.seq ?_ | refine SW.block ?_ | (have fx := (And.intro (k1) (And.intro (h1) (And.intro (em) (And.intro (kh) (And.intro (h2) (And.intro (h3) (And.intro (h4) (And.intro (h5) (And.intro (h6) (And.intro (h7) (And.intro (h8) (h9)))))))))))); refine SW.regL [0, 1, 2, 4, 6, 7, 8, 9, 10, 14, 46, 52, 57, 83] mixed ?_; (repeat (first | refine RW.ro fx (h := ?_) | refine RW.skip (h := ?_) | refine RW.op fx (h := ?_) | refine RW.opN fx (h := ?_) | refine RW.skip0 (h := ?_) | (refine RW.callC (h := ?_); (first | refine CallP.mk fx (hc := hgc _) (h := ?_) | refine CallP.mk fx (hc := hfd _) (h := ?_) | refine CallP.mk fx (hc := rbefore_at _ _ _) (h := ?_) | refine CallP.mk fx (hc := has_at _ 1 hgr ⟨by omega, by omega⟩ _) (h := ?_) | refine CallP.mk fx (hc := within_at _ _ ho hgr _) (h := ?_))))); refine RW.nil ⟨by kernel_rfl, Pruned.mk (h := ?_)⟩) | refine SW.skip ?_ | refine SW.exit ?_ | refine SW.ret ?_ | refine SW.condT rfl ?_ | refine SW.condF rfl ?_))
                    exact End.mk [] (h4 := ⟨by simp only [h2, h3, show ¬ c.hold ≠ o.who by simpa using h4, h5, hn, Bool.not_false, Bool.not_true, Bool.true_or, Bool.false_or, Bool.or_true, Bool.or_false, if_true, if_false, Bool.false_eq_true, reduceIte]; rfl, rfl⟩)
                  · skip
                    have hn : rnarrow o c = false := by unfold rnarrow; rw [h6, h7, h8, h9]; rfl
                    (repeat (first | refine SW.seq ?_ | refine SW.block ?_ | (have fx := (And.intro (k1) (And.intro (h1) (And.intro (em) (And.intro (kh) (And.intro (h2) (And.intro (h3) (And.intro (h4) (And.intro (h5) (And.intro (h6) (And.intro (h7) (And.intro (h8) (h9)))))))))))); refine SW.regL [0, 1, 2, 4, 6, 7, 8, 9, 10, 14, 46, 52, 57, 83] mixed ?_; (repeat (first | refine RW.ro fx (h := ?_) | refine RW.skip (h := ?_) | refine RW.op fx (h := ?_) | refine RW.opN fx (h := ?_) | refine RW.skip0 (h := ?_) | (refine RW.callC (h := ?_); (first | refine CallP.mk fx (hc := hgc _) (h := ?_) | refine CallP.mk fx (hc := hfd _) (h := ?_) | refine CallP.mk fx (hc := rbefore_at _ _ _) (h := ?_) | refine CallP.mk fx (hc := has_at _ 1 hgr ⟨by omega, by omega⟩ _) (h := ?_) | refine CallP.mk fx (hc := within_at _ _ ho hgr _) (h := ?_))))); refine RW.nil ⟨by kernel_rfl, Pruned.mk (h := ?_)⟩) | refine SW.skip ?_ | refine SW.exit ?_ | refine SW.ret ?_ | refine SW.condT rfl ?_ | refine SW.condF rfl ?_))
                    exact End.mk [] (h4 := ⟨by simp only [h2, h3, show ¬ c.hold ≠ o.who by simpa using h4, h5, hn, Bool.not_false, Bool.not_true, Bool.true_or, Bool.false_or, Bool.or_true, Bool.or_false, if_true, if_false, Bool.false_eq_true, reduceIte]; rfl, rfl⟩)
end
end Go.Proofs.Ytmmonbnlleeloaa
namespace Go.Proofs.Ytmmonbnlleeloaa
open Go.Sl Go.Proofs
section
attribute [local irreducible] SW RW SCd SC CallP Pruned getR whyOf
variable {l : List OpD} (hlen : l.length < 4611686018427387904) (hl : ∀ x, x ∈ l → x.roles < 256)
include hlen hl
set_option maxHeartbeats 4000000 in
theorem rget_ok0 (d : Dt) : Go.Sl.Pure Try.prog ref16_get.f [ops l, .agg d.cells, i64 ((0 : Nat) : Int)] (.tup [.agg (getR l 0 d).1.cells, bl (getR l 0 d).2]) := by
  refine ref16_get.enter (by first | rfl | simp [SV.ok, SV.oks]) (by first | rfl | simp [Hp.ok, Ob.ok, SV.ok, SV.oks, Vec.cells_ok]) (by simp) ?_
  unfold ref16_get.s
  have e : getR l 0 d = (Cr.zero, false) := by unfold getR; rfl
  rw [e]
  rcases hh : (findO l d).isSome with _ | _
  · (repeat (first | refine SW.seq ?_ | refine SW.block ?_ | (refine SW.regL [0, 1, 2, 4, 6, 7, 8, 9, 10, 11, 23, 27, 45] mixed ?_; (repeat (first | refine RW.ro (hh) (h := ?_) | refine RW.skip (h := ?_) | refine RW.op (hh) (h := ?_) | refine RW.opN (hh) (h := ?_) | refine RW.skip0 (h := ?_) | (refine RW.callC (h := ?_); (first | refine CallP.mk (hh) (hc := find_at l hlen _ _) (h := ?_))))); refine RW.nil ⟨by kernel_rfl, Pruned.mk (h := ?_)⟩) | refine SW.skip ?_ | refine SW.exit ?_ | refine SW.ret ?_ | refine SW.condT rfl ?_ | refine SW.condF rfl ?_))
    exact End.mk [] (h4 := ⟨rfl, rfl⟩)
  · (repeat (first | refine SW.seq ?_ | refine SW.block ?_ | (refine SW.regL [0, 1, 2, 4, 6, 7, 8, 9, 10, 11, 23, 27, 45] mixed ?_; (repeat (first | refine RW.ro (hh) (h := ?_) | refine RW.skip (h := ?_) | refine RW.op (hh) (h := ?_) | refine RW.opN (hh) (h := ?_) | refine RW.skip0 (h := ?_) | (refine RW.callC (h := ?_); (first | refine CallP.mk (hh) (hc := find_at l hlen _ _) (h := ?_))))); refine RW.nil ⟨by kernel_rfl, Pruned.mk (h := ?_)⟩) | refine SW.skip ?_ | refine SW.exit ?_ | refine SW.ret ?_ | refine SW.condT rfl ?_ | refine SW.condF rfl ?_))
    exact End.mk [] (h4 := ⟨rfl, rfl⟩)
set_option maxHeartbeats 4000000 in
theorem rget_ok1 (m : Nat) (hm : m < 1000) (d : Dt) (hw : ∀ o k, o ∈ l → SCd Try.prog ref16_why.f [ops l, .agg o.cells, i64 ((m + 1 : Nat) : Int)] [] k 0 (.tup [.agg (whyOf l (getR l m o.cred) o).1.cells, i64 (whyOf l (getR l m o.cred) o).2]) []) :
    Go.Sl.Pure Try.prog ref16_get.f [ops l, .agg d.cells, i64 ((m + 1 : Nat) : Int)] (.tup [.agg (getR l (m + 1) d).1.cells, bl (getR l (m + 1) d).2]) := by
  refine ref16_get.enter (by first | rfl | simp [SV.ok, SV.oks]) (by first | rfl | simp [Hp.ok, Ob.ok, SV.ok, SV.oks, Vec.cells_ok]) (by simp) ?_
  unfold ref16_get.s
  have k1 : (((m + 1 : Nat) : Int) == 0) = false := by rw [Bool.eq_false_iff]; intro h; have := beq_iff_eq.mp h; omega
  have hgr : getR l (m + 1) d = (match findO l d with
    | none => (Cr.zero, false)
    | some o => if o.kind = 0 then (⟨d, d, ⟨0, 0⟩, o.who, 7, 8, 1099511627776, 0⟩, decide (o.cart = d)) else
      if (whyOf l (getR l m o.cred) o).2 ≠ 0 then (Cr.zero, false) else (⟨d, o.cart, o.cred, o.to, o.roles, o.depth, o.cap, IntKind.i64.wrap ((whyOf l (getR l m o.cred) o).1.level + 1)⟩, true)) := by
    first | (rw [getR]; done) | (rw [getR]; cases findO l d <;> rfl)
  rw [hgr]
  have hf := find_at l hlen d
  rcases hh : findO l d with _ | o
  · rw [hh] at hf
    simp only [Option.getD_none, Option.isSome_none] at hf
    (repeat (first | refine SW.seq ?_ | refine SW.block ?_ | (refine SW.regL [0, 1, 2, 4, 6, 7, 8, 9, 10, 11, 23, 27, 45] mixed ?_; (repeat (first | refine RW.ro (k1) (h := ?_) | refine RW.skip (h := ?_) | refine RW.op (k1) (h := ?_) | refine RW.opN (k1) (h := ?_) | refine RW.skip0 (h := ?_) | (refine RW.callC (h := ?_); (first | refine CallP.mk (k1) (hc := hf _) (h := ?_))))); refine RW.nil ⟨by kernel_rfl, Pruned.mk (h := ?_)⟩) | refine SW.skip ?_ | refine SW.exit ?_ | refine SW.ret ?_ | refine SW.condT rfl ?_ | refine SW.condF rfl ?_))
    exact End.mk [] (h4 := ⟨rfl, rfl⟩)
  · rw [hh] at hf
    simp only [Option.getD_some, Option.isSome_some] at hf
    have ho : o ∈ l := List.mem_of_find?_eq_some hh
    have hw' := fun k => hw o k ho
    dsimp only
    have k0 : (((o.kind : Nat) : Int) == 0) = decide (o.kind = 0) := by rw [Bool.eq_iff_iff]; simp only [beq_iff_eq, decide_eq_true_eq]; omega
    rcases (Bool.eq_false_or_eq_true (decide (o.kind = 0))).symm with h1 | h1
    rotate_left
    · rw [if_pos (by simpa using h1)]
      (repeat (first | refine SW.seq ?_ | refine SW.block ?_ | (have fx := (And.intro (k1) (And.intro (k0) (And.intro (h1) (rootC_bld)))); refine SW.regL [0, 1, 2, 4, 6, 7, 8, 9, 10, 11, 23, 27, 45] mixed ?_; (repeat (first | refine RW.ro fx (h := ?_) | refine RW.skip (h := ?_) | refine RW.op fx (h := ?_) | refine RW.opN fx (h := ?_) | refine RW.skip0 (h := ?_) | (refine RW.callC (h := ?_); (first | refine CallP.mk fx (hc := hf _) (h := ?_) | refine CallP.mk fx (hc := hw' _) (h := ?_))))); refine RW.nil ⟨by kernel_rfl, Pruned.mk (h := ?_)⟩) | refine SW.skip ?_ | refine SW.exit ?_ | refine SW.ret ?_ | refine SW.condT rfl ?_ | refine SW.condF rfl ?_))
      exact End.mk [] (h4 := ⟨rfl, rfl⟩)
    · rw [if_neg (by simpa using h1)]
      obtain ⟨r, hr⟩ : ∃ r, whyOf l (getR l m o.cred) o = r := ⟨_, rfl⟩
      rw [hr] at hw' ⊢
      have k2 : (((r.2 : Nat) : Int) != 0) = decide (r.2 ≠ 0) := by rw [Bool.eq_iff_iff]; simp only [bne_iff_ne, decide_eq_true_eq]; omega
      rcases (Bool.eq_false_or_eq_true (decide (r.2 ≠ 0))).symm with h2 | h2
      rotate_left
      · rw [if_pos (by simpa using h2)]
        (repeat (first | refine SW.seq ?_ | refine SW.block ?_ | (have fx := (And.intro (k1) (And.intro (k0) (And.intro (h1) (And.intro (k2) (And.intro (h2) (grantC_bld)))))); refine SW.regL [0, 1, 2, 4, 6, 7, 8, 9, 10, 11, 23, 27, 45] mixed ?_; (repeat (first | refine RW.ro fx (h := ?_) | refine RW.skip (h := ?_) | refine RW.op fx (h := ?_) | refine RW.opN fx (h := ?_) | refine RW.skip0 (h := ?_) | (refine RW.callC (h := ?_); (first | refine CallP.mk fx (hc := hf _) (h := ?_) | refine CallP.mk fx (hc := hw' _) (h := ?_))))); refine RW.nil ⟨by kernel_rfl, Pruned.mk (h := ?_)⟩) | refine SW.skip ?_ | refine SW.exit ?_ | refine SW.ret ?_ | refine SW.condT rfl ?_ | refine SW.condF rfl ?_))
        exact End.mk [] (h4 := ⟨rfl, rfl⟩)
      · rw [if_neg (by simpa using h2)]
        (repeat (first | refine SW.seq ?_ | refine SW.block ?_ | (have fx := (And.intro (k1) (And.intro (k0) (And.intro (h1) (And.intro (k2) (And.intro (h2) (grantC_bld)))))); refine SW.regL [0, 1, 2, 4, 6, 7, 8, 9, 10, 11, 23, 27, 45] mixed ?_; (repeat (first | refine RW.ro fx (h := ?_) | refine RW.skip (h := ?_) | refine RW.op fx (h := ?_) | refine RW.opN fx (h := ?_) | refine RW.skip0 (h := ?_) | (refine RW.callC (h := ?_); (first | refine CallP.mk fx (hc := hf _) (h := ?_) | refine CallP.mk fx (hc := hw' _) (h := ?_))))); refine RW.nil ⟨by kernel_rfl, Pruned.mk (h := ?_)⟩) | refine SW.skip ?_ | refine SW.exit ?_ | refine SW.ret ?_ | refine SW.condT rfl ?_ | refine SW.condF rfl ?_))
        exact End.mk [] (h4 := ⟨rfl, rfl⟩)
theorem rget_ok (m : Nat) (hm : m < 1000) : ∀ d, Go.Sl.Pure Try.prog ref16_get.f [ops l, .agg d.cells, i64 (m : Int)] (.tup [.agg (getR l m d).1.cells, bl (getR l m d).2]) := by
  induction m with
  | zero => intro d; exact rget_ok0 hlen hl d
  | succ m ih =>
    intro d
    exact rget_ok1 hlen hl m (by omega) d fun o k ho => (rwhy_ok hlen hl m (by omega) o (hl o ho) fun d k => (ih (by omega) d).sc rfl k).sc rfl k
theorem rget_at (m : Nat) (hm : m < 1000) (d : Dt) (k : Nat) : SCd Try.prog ref16_get.f [ops l, .agg d.cells, i64 (m : Int)] [] k 0 (.tup [.agg (getR l m d).1.cells, bl (getR l m d).2]) [] := (rget_ok hlen hl m hm d).sc rfl k
theorem rGet_ok (d : Dt) : Go.Sl.Pure Try.prog ref16_Get.f [ops l, .agg d.cells] (.tup [.agg (getR l 10 d).1.cells, bl (getR l 10 d).2]) := by
  have hg := fun k => rget_at hlen hl 10 (by omega) d k
  refine ref16_Get.enter (by first | rfl | simp [SV.ok, SV.oks]) (by first | rfl | simp [Hp.ok, Ob.ok, SV.ok, SV.oks, Vec.cells_ok]) (by simp) ?_
  unfold ref16_Get.s
  (repeat (first | refine SW.seq ?_ | refine SW.block ?_ | (refine SW.regL [0, 1, 3, 4, 5] mixed ?_; (repeat (first | refine RW.ro bq_tt (h := ?_) | refine RW.skip (h := ?_) | refine RW.op bq_tt (h := ?_) | refine RW.opN bq_tt (h := ?_) | refine RW.skip0 (h := ?_) | (refine RW.callC (h := ?_); (first | refine CallP.mk bq_tt (hc := hg _) (h := ?_))))); refine RW.nil ⟨by kernel_rfl, Pruned.mk (h := ?_)⟩) | refine SW.skip ?_ | refine SW.exit ?_ | refine SW.ret ?_ | refine SW.condT rfl ?_ | refine SW.condF rfl ?_))
  exact End.mk [] (h4 := ⟨rfl, rfl⟩)
end
section
variable {l : List OpD} (hlen : l.length < 4611686018427387904) (hl : ∀ x, x ∈ l → x.roles < 256)
include hlen hl
theorem rGet_at (d : Dt) (k : Nat) : SCd Try.prog ref16_Get.f [ops l, .agg d.cells] [] k 0 (.tup [.agg (getR l 10 d).1.cells, bl (getR l 10 d).2]) [] := (rGet_ok hlen hl d).sc rfl k
end
end Go.Proofs.Ytmmonbnlleeloaa
namespace Go.Proofs.Ytmmonbnlleeloaa
open Go.Sl Go.Proofs
attribute [local irreducible] SW RW SCd SC CallP Pruned
inductive Ups (a : MM Dt Cr) : Option Cr → List Cr → Prop where
  | none : Ups a none []
  | root (c : Cr) : ¬ 0 < c.level → Ups a (some c) [c]
  | more (c : Cr) (L : List Cr) : 0 < c.level → Ups a (MM.get a c.par) L → Ups a (some c) (c :: L)
def TF (T : Tr) (F : Hp) : Hp := T.hp ++ F
structure Off (T : Tr) (b q : Nat) (F : Hp) : Prop where
  b : lk F b = none
  q : lk F q = none
  x : lk F T.bx = none
  a : lk F T.ma = none
  m : lk F T.mm = none
theorem TF.lkT {T : Tr} {F : Hp} {n : Nat} {ob : Ob} (h : lk T.hp n = some ob) : lk (TF T F) n = some ob := by
  show List.lookup n (T.hp ++ F) = some ob
  rw [List.lookup_append, show List.lookup n T.hp = some ob from h]; rfl
theorem TF.lkF {T : Tr} {F : Hp} {n : Nat} (h : lk T.hp n = none) : lk (TF T F) n = lk F n := by
  show List.lookup n (T.hp ++ F) = _
  rw [List.lookup_append, show List.lookup n T.hp = none from h]; rfl
theorem TF.ok {T : Tr} {F : Hp} {k : Nat} (h1 : T.lt k) (h2 : F.ok (fun n => decide (n < k)) = true) : (TF T F).ok (fun n => decide (n < k)) = true := by
  have h1 := Tr.okk h1
  unfold Hp.ok at *
  rw [TF, List.all_append, h1, h2]; rfl
structure UInv {σ : Type} (Fh : σ → Hp) (Step : σ → Cr → σ → Prop) (go : σ → Bool) (T : Tr) (nky b q k : Nat) (L : List Cr) (s0 s : σ) (xs : List Cr) (oc : Option Cr) (rest : List Cr) (cn kk : Nat) : Prop where
  p1 : OnBy Step s0 xs s
  p2 : go s = true
  p3 : xs ++ rest = L
  p4 : Ups T.at_ oc rest
  p5 : k ≤ cn ∧ cn < kk
  p6 : kk ≤ k + 1 + xs.length * (1 + nky)
  p7 : (Fh s).ok (fun n => decide (n < kk)) = true
  p8 : Off T b q (Fh s)
  p9 : lk (Fh s) cn = none
set_option maxHeartbeats 2000000 in
theorem up1_sb {σ : Type} {Fh : σ → Hp} {Step : σ → Cr → σ → Prop} {go : σ → Bool} {nky y b q k : Nat} {T : Tr} {L : List Cr} {d : Dt} (hT : T.sep) (hL : Ups T.at_ (MM.get T.at_ d) L) (s0 : σ) (hy : YieldOk Try.prog y (fun x : Cr => .agg x.cells) nky Fh Step go s0 L.length) (h0 : (Fh s0).ok (fun n => decide (n < k)) = true)
    (hb : b < k) (hq : q < k) (hbq : b ≠ q) (hTk : T.lt k) (hTb : lk T.hp b = none) (hTq : lk T.hp q = none) (hoff : Off T b q (Fh s0)) (hgo : go s0 = true) :
    SB Try.prog tree_Tree_up_1.f [.yl y, .ptr b 0, .ptr q 0] ((b, .box 25 [.ptr T.bx 0]) :: (q, .box 33 d.cells) :: TF T (Fh s0)) k (1 + L.length * (1 + nky))
      fun r F => r = .tup [] ∧ ∃ (xs : List Cr) (s' : σ), OnBy Step s0 xs s' ∧ xs <+: L ∧ (go s' = true → xs = L) ∧ Off T b q (Fh s') ∧ F = (b, .box 25 [.ptr T.bx 0]) :: (q, .box 33 d.cells) :: TF T (Fh s') := by
  have hyk : y < k := by
    obtain ⟨ob, ho⟩ := Option.ne_none_iff_exists'.1 (hy.isin s0)
    simpa using (Hp.ok_lk h0 ho).1
  have hokT : ∀ (s : σ) (kx : Nat), k ≤ kx → (Fh s).ok (fun n => decide (n < kx)) = true → Hp.ok (fun n => decide (n < kx)) ((b, .box 25 [.ptr T.bx 0]) :: (q, .box 33 d.cells) :: TF T (Fh s)) = true := fun s kx hkx h => by
    have h1 := TF.ok (T := T) ⟨Nat.lt_of_lt_of_le hTk.b hkx, Nat.lt_of_lt_of_le hTk.a hkx, Nat.lt_of_lt_of_le hTk.m hkx⟩ h
    have := hTk.b
    unfold Hp.ok at *
    simp only [List.all_cons, Ob.ok, SV.oks, SV.ok, Dt.cells_ok, Bool.and_true, Bool.and_eq_true, decide_eq_true_eq]
    exact ⟨⟨by omega, by omega⟩, by omega, h1⟩
  refine tree_Tree_up_1.enter (by simp [SV.ok, SV.oks]; omega) (hokT s0 k (Nat.le_refl _) h0) (by simp) ?_
  unfold tree_Tree_up_1.s
  have f1 := ne4 hbq
  have tb : T.bx ≠ b := fun e => by rw [← e, Tr.lkb] at hTb; cases hTb
  have tq : T.bx ≠ q := fun e => by rw [← e, Tr.lkb] at hTq; cases hTq
  have ta : T.ma ≠ b := fun e => by rw [← e, Tr.lka hT] at hTb; cases hTb
  have taq : T.ma ≠ q := fun e => by rw [← e, Tr.lka hT] at hTq; cases hTq
  have f2 := ne4 tb
  have f3 := ne4 tq
  have f4 := ne4 ta
  have f5 := ne4 taq
  have u1 : ∀ F, List.lookup T.bx (TF T F) = some (.box 74 [.mp T.ma, .mp T.mm]) := fun F => TF.lkT T.lkb
  have u2 : ∀ F, List.lookup T.ma (TF T F) = some T.oa := fun F => TF.lkT (Tr.lka hT)
  have g0 : List.lookup k (TF T (Fh s0)) = none := Hp.out (TF.ok hTk h0) (Nat.le_refl _)
  have g1 := ne4 (show k ≠ b by omega)
  have g2 := ne4 (show k ≠ q by omega)
  have := hTk.b; have := hTk.a; have := hTk.m
  have g3 := ne4 (show k ≠ T.bx by omega)
  have g4 := ne4 (show k ≠ T.ma by omega)
  refine SW.seq ?_
  (have fx := (And.intro (f1) (And.intro (f2) (And.intro (f3) (And.intro (f4) (And.intro (f5) (And.intro (u1) (And.intro (u2) (And.intro (g0) (And.intro (g1) (g2)))))))))); refine SW.regL [0, 1, 2, 4, 5, 25, 36] mixed ?_; (repeat (first | refine RW.ro fx (h := ?_) | refine RW.skip (h := ?_) | refine RW.op fx (h := ?_) | refine RW.opN fx (h := ?_) | refine RW.skip0 (h := ?_))); refine RW.nil ⟨conf_of (by simp [noConf2, all2, ordB, roOf, List.range, List.range.loop, f1, f2, f3, f4, f5, g1, g2, g3, g4] <;> decide), Pruned.mk (h := ?_)⟩)
  refine SW.block ?_
  have hnd : ∀ (s : σ) (xs : List Cr) (cn kk : Nat) (cs : List SV), k ≤ cn → cn < kk → (Fh s).ok (fun n => decide (n < kk)) = true → lk (Fh s) cn = none → Off T b q (Fh s) → ∀ x, x ∈ ((cn, Ob.box 41 cs) :: (b, .box 25 [.ptr T.bx 0]) :: (q, .box 33 d.cells) :: TF T (Fh s)) → lk ((cn, Ob.box 41 cs) :: (b, .box 25 [.ptr T.bx 0]) :: (q, .box 33 d.cells) :: TF T (Fh s)) x.1 = some x.2 := by
    intro s xs cn kk cs h1 h2 h3 h4 h5 x hx
    have := hTk.b; have := hTk.a; have := hTk.m
    have c1 := ne4 (show cn ≠ b by omega)
    have c2 := ne4 (show cn ≠ q by omega)
    have c3 := ne4 (show b ≠ q from hbq)
    simp only [List.mem_cons] at hx
    rcases hx with rfl | rfl | rfl | hx
    · simp [lk_cons]
    · simp [lk_cons, c1]
    · simp [lk_cons, c2, c3]
    · rcases List.mem_append.1 hx with hx | hx
      · have hl := lk_of_nodup (Tr.nd hT) x hx
        have c4 : x.1 ≠ b := fun e => by rw [e, hTb] at hl; cases hl
        have c5 : x.1 ≠ q := fun e => by rw [e, hTq] at hl; cases hl
        have c6 : x.1 ≠ cn := fun e => by
          have := (Hp.ok_lk (Tr.okk hTk) hl).1
          simp at this; omega
        rw [lk_cons, if_neg c6, lk_cons, if_neg c4, lk_cons, if_neg c5]
        exact TF.lkT hl
      · have hl := hy.nd s x hx
        have c4 : x.1 ≠ b := fun e => by rw [e, h5.b] at hl; cases hl
        have c5 : x.1 ≠ q := fun e => by rw [e, h5.q] at hl; cases hl
        have c6 : x.1 ≠ cn := fun e => by rw [e, h4] at hl; cases hl
        have c7 : lk T.hp x.1 = none := by
          have e1 : x.1 ≠ T.bx := fun e => by rw [e, h5.x] at hl; cases hl
          have e2 : x.1 ≠ T.ma := fun e => by rw [e, h5.a] at hl; cases hl
          have e3 : x.1 ≠ T.mm := fun e => by rw [e, h5.m] at hl; cases hl
          rw [Tr.hp, lk_cons, if_neg e1, lk_cons, if_neg e2, lk_cons, if_neg e3]; rfl
        rw [lk_cons, if_neg c6, lk_cons, if_neg c4, lk_cons, if_neg c5, TF.lkF c7]
        exact hl
  have g5 : lk (Fh s0) k = none := Hp.out h0 (Nat.le_refl _)
  have hokC : ∀ (s : σ) (cn kk : Nat) (c : Cr), k ≤ cn → cn < kk → (Fh s).ok (fun n => decide (n < kk)) = true → Hp.ok (fun n => decide (n < kk)) ((cn, Ob.box 41 c.cells) :: (b, .box 25 [.ptr T.bx 0]) :: (q, .box 33 d.cells) :: TF T (Fh s)) = true := fun s cn kk c h1 h2 h3 => by
    have h4 := hokT s kk (by omega) h3
    unfold Hp.ok at *
    rw [List.all_cons, h4]
    simp only [Ob.ok, Cr.cells_ok, Bool.and_true, decide_eq_true_eq]
    exact h2
  refine SW.loop (α := {i : σ × List Cr × Option Cr × List Cr × Nat × Nat // UInv Fh Step go T nky b q k L s0 i.1 i.2.1 i.2.2.1 i.2.2.2.1 i.2.2.2.2.1 i.2.2.2.2.2})
    (fun i => ⟨[(5, bl i.1.2.2.1.isSome), (4, .ptr i.1.2.2.2.2.1 0), (0, .yl y), (1, .ptr b 0), (2, .ptr q 0)], (i.1.2.2.2.2.1, .box 41 (i.1.2.2.1.getD Cr.zero).cells) :: (b, .box 25 [.ptr T.bx 0]) :: (q, .box 33 d.cells) :: TF T (Fh i.1.1), i.1.2.2.2.2.2⟩)
    (fun i => i.1.2.2.2.1.length) ⟨(s0, [], MM.get T.at_ d, L, k, k + 1), ⟨.nil, hgo, rfl, hL, ⟨Nat.le_refl _, Nat.lt_succ_self _⟩, by simp, Hp.ok_less (by simp) h0, hoff, ?_⟩⟩ id ?_ ?_
  · exact g5
  · refine Weak.same (by simp) (by simp [EnvW, argE, List.lookup, SV.ren, SV.ok, MM.has]; omega) ?_ (hnd s0 [] k (k + 1) _ (Nat.le_refl _) (Nat.lt_succ_self _) (Hp.ok_less (by simp) h0) g5 hoff)
    exact hokC s0 k (k + 1) _ (Nat.le_refl _) (Nat.lt_succ_self _) (Hp.ok_less (by simp) h0)
  · rintro ⟨⟨s, xs, oc, rest, cn, kk⟩, hi⟩
    have hi : UInv Fh Step go T nky b q k L s0 s xs oc rest cn kk := hi
    obtain ⟨p1, p2, p3, p4, p5, p6, p7, p8, p9⟩ := hi
    dsimp only at *
    have hlen : xs.length + rest.length = L.length := by rw [← p3, List.length_append]
    have hpos : ∀ n : Nat, n ≤ L.length → n * (1 + nky) ≤ L.length * (1 + nky) := fun n h => Nat.mul_le_mul_right _ h
    have c1 := ne4 (show cn ≠ b by omega)
    have c2 := ne4 (show cn ≠ q by omega)
    have c3 := ne4 (show cn ≠ T.bx by omega)
    have c4 := ne4 (show cn ≠ T.ma by omega)
    have hout := hnd s xs cn kk
    have w1 := hpos xs.length (by omega)
    have hcn : lk ((b, Ob.box 25 [.ptr T.bx 0]) :: (q, .box 33 d.cells) :: TF T (Fh s)) cn = none := by
      rw [lk_cons, if_neg (by omega), lk_cons, if_neg (by omega), TF.lkF (by
        rw [Tr.hp, lk_cons, if_neg (by omega), lk_cons, if_neg (by omega), lk_cons, if_neg (by omega)]; rfl)]
      exact p9
    have hend : ∀ (s' : σ) (xs' : List Cr) (env : List (Nat × SV)) (kk' cn' : Nat) (cs : List SV) (Q : Exit → St → Prop), k ≤ cn' → cn' < kk' → kk' ≤ k + (1 + L.length * (1 + nky)) → (Fh s').ok (fun n => decide (n < kk')) = true → lk (Fh s') cn' = none → Off T b q (Fh s') →
        (Q (.exit 0) ⟨[], (b, Ob.box 25 [.ptr T.bx 0]) :: (q, .box 33 d.cells) :: TF T (Fh s'), k + (1 + L.length * (1 + nky))⟩) → Go.Sl.SW Try.prog 37 k (.exit 0) ⟨env, (cn', Ob.box 41 cs) :: (b, .box 25 [.ptr T.bx 0]) :: (q, .box 33 d.cells) :: TF T (Fh s'), kk'⟩ Q := by
      intro s' xs' env kk' cn' cs Q h1 h2 h3 h4 h5 h6 h7
      refine SW.weak id (st1 := ⟨[], (b, Ob.box 25 [.ptr T.bx 0]) :: (q, .box 33 d.cells) :: TF T (Fh s'), k + (1 + L.length * (1 + nky))⟩) (Weak.same (Nat.le_add_right _ _) trivial (hokT s' _ (Nat.le_add_right _ _) (Hp.ok_less h3 h4)) fun x hx => ?_) (SW.exit h7)
      exact hnd s' [] cn' kk' cs h1 h2 h4 h5 h6 x (List.mem_cons_of_mem _ hx)
    have hfin : ∀ (s' : σ) (xs' : List Cr), OnBy Step s0 xs' s' → xs' <+: L → (go s' = true → xs' = L) → Off T b q (Fh s') → (Fh s').ok (fun n => decide (n < k + (1 + L.length * (1 + nky)))) = true →
        Go.Sl.Fin k (1 + L.length * (1 + nky)) [] (fun r F => r = .tup [] ∧ ∃ (xs : List Cr) (s' : σ), OnBy Step s0 xs s' ∧ xs <+: L ∧ (go s' = true → xs = L) ∧ Off T b q (Fh s') ∧ F = (b, .box 25 [.ptr T.bx 0]) :: (q, .box 33 d.cells) :: TF T (Fh s')) ⟨[], (b, Ob.box 25 [.ptr T.bx 0]) :: (q, .box 33 d.cells) :: TF T (Fh s'), k + (1 + L.length * (1 + nky))⟩ := by
      intro s' xs' h1 h2 h3 h4 h5
      exact End.mk ((b, Ob.box 25 [.ptr T.bx 0]) :: (q, .box 33 d.cells) :: TF T (Fh s')) (h3 := fun _ _ h => h) (h4 := ⟨rfl, xs', s', h1, h2, h3, h4, rfl⟩) (h6 := hokT s' _ (Nat.le_add_right _ _) h5) (h7 := Nat.le_refl _)
    have hc : (oc = none ∧ rest = []) ∨ ∃ c R, oc = some c ∧ rest = c :: R ∧ (0 < c.level → Ups T.at_ (MM.get T.at_ c.par) R) ∧ (¬ 0 < c.level → R = []) := by
      cases p4 with
      | none => exact .inl ⟨rfl, rfl⟩
      | root c hc => exact .inr ⟨c, [], rfl, rfl, fun h => absurd h hc, fun _ => rfl⟩
      | more c R hc hR => exact .inr ⟨c, R, rfl, rfl, fun _ => hR, fun h => absurd hc h⟩
    rcases hc with ⟨rfl, rfl⟩ | ⟨c, R, rfl, rfl, hm, hr⟩
    · refine SW.seq (SW.seq ?_)
      (refine SW.regL [0, 1, 2, 4, 5, 25, 36] mixed ?_; (repeat (first | refine RW.ro bq_tt (h := ?_) | refine RW.skip (h := ?_) | refine RW.op bq_tt (h := ?_) | refine RW.opN bq_tt (h := ?_) | refine RW.skip0 (h := ?_))); refine RW.nil ⟨conf_of (by simp [noConf2, all2, ordB, roOf, List.range, List.range.loop, f1, f2, f3, f4, f5, g1, g2, g3, g4] <;> decide), Pruned.mk (h := ?_)⟩)
      refine SW.condF rfl (hend s xs _ kk cn _ _ p5.1 p5.2 (by omega) p7 p9 p8 ?_)
      dsimp only
      rw [if_pos rfl]
      exact hfin s xs p1 (by rw [← p3, List.append_nil]; exact List.prefix_rfl) (fun _ => by rw [← p3, List.append_nil]) p8 (Hp.ok_less (by omega) p7)
    · simp only [List.length_cons] at hlen
      have w2 := hpos (xs.length + 1) (by omega)
      rw [Nat.add_mul, Nat.one_mul] at w2
      refine SW.seq (SW.seq (SW.ofN ?_))
      (repeat (first | refine SWn.op bq_tt (h := ?_) | refine SWn.opN bq_tt (h := ?_) | refine SWn.skip (h := ?_)))
      have hsub : HSub (Fh s) ((cn, Ob.box 41 c.cells) :: (b, .box 25 [.ptr T.bx 0]) :: (q, .box 33 d.cells) :: TF T (Fh s)) := fun n ob hn => by
        have h1 : n ≠ cn := fun e => by rw [e, p9] at hn; cases hn
        have h2 : n ≠ b := fun e => by rw [e, p8.b] at hn; cases hn
        have h3 : n ≠ q := fun e => by rw [e, p8.q] at hn; cases hn
        have h4 : n ≠ T.bx := fun e => by rw [e, p8.x] at hn; cases hn
        have h5 : n ≠ T.ma := fun e => by rw [e, p8.a] at hn; cases hn
        have h6 : n ≠ T.mm := fun e => by rw [e, p8.m] at hn; cases hn
        rw [lk_cons, if_neg h1, lk_cons, if_neg h2, lk_cons, if_neg h3, TF.lkF (by rw [Tr.hp, lk_cons, if_neg h4, lk_cons, if_neg h5, lk_cons, if_neg h6]; rfl)]
        exact hn
      refine SWn.yieldG (by simp only [List.lookup, Nat.reduceBEq] <;> rfl) (by simp only [ev, List.lookup, Nat.reduceBEq] <;> rfl) (by simp only [ev, evs, List.lookup, Nat.reduceBEq] <;> rfl) (hy.isin s) (hy.call s xs c kk p1 (by omega) p7 p2) hsub ?_
      rintro v F' ⟨s', hstep, rfl, rfl, hok', hnm⟩
      rw [upd_eq]
      have hno : ∀ n, n < kk → lk (Fh s) n = none → lk (Fh s') n = none := fun n h1 h2 => Classical.byContradiction fun hn => (hnm n hn).elim (fun h => h h2) (fun h => by omega)
      have q8 : Off T b q (Fh s') := ⟨hno _ (by omega) p8.b, hno _ (by omega) p8.q, hno _ (by omega) p8.x, hno _ (by omega) p8.a, hno _ (by omega) p8.m⟩
      have q9 := hno cn (by omega) p9
      have q1 := OnBy.snoc p1 hstep
      have hlk := lk_hmrg (ro := false) hsub (F' := Fh s') (fun h => by cases h)
      have hin : ∀ z, z ∈ ((cn, Ob.box 41 c.cells) :: (b, .box 25 [.ptr T.bx 0]) :: (q, .box 33 d.cells) :: TF T (Fh s')) → lk (hmrg false ((cn, Ob.box 41 c.cells) :: (b, .box 25 [.ptr T.bx 0]) :: (q, .box 33 d.cells) :: TF T (Fh s)) (Fh s) (Fh s')) z.1 = some z.2 := by
        intro z hz
        rw [hlk]
        simp only [List.mem_cons] at hz
        rcases hz with rfl | rfl | rfl | hz
        · rw [mrg_out p9 q9]; simp [lk_cons]
        · rw [mrg_out p8.b q8.b]; exact hnd s xs cn kk c.cells p5.1 p5.2 p7 p9 p8 (b, Ob.box 25 [.ptr T.bx 0]) (by simp)
        · rw [mrg_out p8.q q8.q]; exact hnd s xs cn kk c.cells p5.1 p5.2 p7 p9 p8 (q, Ob.box 33 d.cells) (by simp)
        · rcases List.mem_append.1 hz with hz | hz
          · have hx : z.1 = T.bx ∨ z.1 = T.ma ∨ z.1 = T.mm := by
              simp only [Tr.hp, List.mem_cons, List.not_mem_nil, or_false] at hz
              rcases hz with rfl | rfl | rfl <;> simp
            have e1 : lk (Fh s) z.1 = none := by rcases hx with e | e | e <;> rw [e] <;> first | exact p8.x | exact p8.a | exact p8.m
            have e2 : lk (Fh s') z.1 = none := by rcases hx with e | e | e <;> rw [e] <;> first | exact q8.x | exact q8.a | exact q8.m
            rw [mrg_out e1 e2]
            exact hnd s xs cn kk c.cells p5.1 p5.2 p7 p9 p8 _ (by simp only [List.mem_cons]; exact .inr (.inr (.inr (List.mem_append_left _ hz))))
          · have := hy.nd s' z hz
            rw [mrg_in (.inr (by rw [this]; simp)), this]
      refine SW.toN (st1 := ⟨[(19, bl (go s')), (16, bl true), (5, bl true), (4, .ptr cn 0), (0, .yl y), (1, .ptr b 0), (2, .ptr q 0)], (cn, Ob.box 41 c.cells) :: (b, .box 25 [.ptr T.bx 0]) :: (q, .box 33 d.cells) :: TF T (Fh s'), kk + nky⟩) (Weak.same (by show k ≤ kk + nky; omega) (by simp [EnvW, argE, consO, List.lookup, SV.ren, SV.ok]; omega) (hokC s' cn (kk + nky) c p5.1 (by omega) hok') hin) ?_
      rcases hg : go s' with _ | _
      · (repeat (first | refine SWn.op bq_tt (h := ?_) | refine SWn.opN bq_tt (h := ?_) | refine SWn.skip (h := ?_)))
        refine SWn.nil ?_
        refine SW.condF rfl (hend s' (xs ++ [c]) _ (kk + nky) cn _ _ p5.1 (by omega) (by omega) hok' q9 q8 ?_)
        dsimp only
        rw [if_pos rfl]
        exact hfin s' (xs ++ [c]) q1 (by rw [← p3]; exact ⟨R, by simp⟩) (fun h => by rw [hg] at h; cases h) q8 (Hp.ok_less (by omega) hok')
      · rcases hlv : decide (c.level > 0) with _ | _
        · (repeat (first | refine SWn.op (hlv) (h := ?_) | refine SWn.opN (hlv) (h := ?_) | refine SWn.skip (h := ?_)))
          refine SWn.nil ?_
          refine SW.condF rfl (hend s' (xs ++ [c]) _ (kk + nky) cn _ _ p5.1 (by omega) (by omega) hok' q9 q8 ?_)
          dsimp only
          rw [if_pos rfl]
          have hR := hr (by simpa using hlv)
          exact hfin s' (xs ++ [c]) q1 (by rw [← p3, hR]; exact List.prefix_rfl) (fun _ => by rw [← p3, hR]) q8 (Hp.ok_less (by omega) hok')
        · (repeat (first | refine SWn.op (hlv) (h := ?_) | refine SWn.opN (hlv) (h := ?_) | refine SWn.skip (h := ?_)))
          refine SWn.nil ?_
          refine SW.condT rfl (SW.skip ?_)
          have z1 := ne4 (show kk + nky ≠ cn by omega)
          have z2 := ne4 (show kk + nky ≠ b by omega)
          have z3 := ne4 (show kk + nky ≠ q by omega)
          have z4 : List.lookup (kk + nky) (TF T (Fh s')) = none := Hp.out (TF.ok (T := T) ⟨by omega, by omega, by omega⟩ hok') (Nat.le_refl _)
          refine SW.seq (SW.block ?_)
          (have fx := (And.intro (c1) (And.intro (c2) (And.intro (c3) (And.intro (c4) (And.intro (f1) (And.intro (f2) (And.intro (f3) (And.intro (f4) (And.intro (f5) (And.intro (u1) (u2))))))))))); refine SW.regL [0, 1, 2, 4, 5, 25, 36] mixed ?_; (repeat (first | refine RW.ro fx (h := ?_) | refine RW.skip (h := ?_) | refine RW.op fx (h := ?_) | refine RW.opN fx (h := ?_) | refine RW.skip0 (h := ?_))); refine RW.nil ⟨conf_of (by simp [noConf2, all2, ordB, roOf, List.range, List.range.loop, c1, c2, c3, c4, f1, f2, f3, f4, f5] <;> decide), Pruned.mk (h := ?_)⟩)
          refine SW.seq ?_
          (refine SW.regL [0, 1, 2, 4, 5, 25, 36] mixed ?_; (repeat (first | refine RW.ro bq_tt (h := ?_) | refine RW.skip (h := ?_) | refine RW.op bq_tt (h := ?_) | refine RW.opN bq_tt (h := ?_) | refine RW.skip0 (h := ?_))); refine RW.nil ⟨conf_of (by simp [noConf2, all2, ordB, roOf, List.range, List.range.loop, c1, c2, c3, c4, f1, f2, f3, f4, f5] <;> decide), Pruned.mk (h := ?_)⟩)
          (have fx := (And.intro (z1) (And.intro (z2) (And.intro (z3) (And.intro (z4) (f1))))); refine SW.regL [0, 1, 2, 4, 5, 25, 36] mixed ?_; (repeat (first | refine RW.ro fx (h := ?_) | refine RW.skip (h := ?_) | refine RW.op fx (h := ?_) | refine RW.opN fx (h := ?_) | refine RW.skip0 (h := ?_))); refine RW.nil ⟨conf_of (by simp [noConf2, all2, ordB, roOf, List.range, List.range.loop, c1, c2, c3, c4, f1, f2, f3, f4, f5] <;> decide), Pruned.mk (h := ?_)⟩)
          refine ⟨⟨(s', xs ++ [c], MM.get T.at_ c.par, R, kk + nky, kk + nky + 1), q1, hg, by rw [← p3]; simp, hm (by simpa using hlv), ⟨by show k ≤ kk + nky; omega, Nat.lt_succ_self _⟩, by
            show kk + nky + 1 ≤ k + 1 + (xs ++ [c]).length * (1 + nky)
            rw [List.length_append, List.length_singleton, Nat.add_mul, Nat.one_mul]; omega, Hp.ok_less (by simp) hok', q8, Hp.out hok' (Nat.le_refl _)⟩, id, Nat.lt_succ_self _, Weak.same (by show k ≤ kk + nky + 1; omega) (by simp [EnvW, List.lookup, SV.ren, SV.ok, MM.has]; omega) (hokC s' (kk + nky) (kk + nky + 1) _ (by omega) (Nat.lt_succ_self _) (Hp.ok_less (by simp) hok')) (fun x hx => ?_)⟩
          have hx : x ∈ ((kk + nky, Ob.box 41 ((MM.get T.at_ c.par).getD Cr.zero).cells) :: (b, .box 25 [.ptr T.bx 0]) :: (q, .box 33 d.cells) :: TF T (Fh s')) := hx
          rcases List.mem_cons.1 hx with rfl | hx
          · exact lk_cons_same
          · have h1 := hnd s' [] cn (kk + nky) ((MM.get T.at_ c.par).getD Cr.zero).cells p5.1 (by omega) hok' q9 q8 x (List.mem_cons_of_mem _ hx)
            have h2 := (Hp.ok_lk (hokC s' cn (kk + nky) ((MM.get T.at_ c.par).getD Cr.zero) p5.1 (by omega) hok') h1).1
            rw [lk_cons, if_neg (by simp at h2; omega)]
            exact h1
end Go.Proofs.Ytmmonbnlleeloaa
namespace Go.Proofs.Ytmmonbnlleeloaa
open Go.Sl Go.Proofs
attribute [local irreducible] SW RW SCd SC CallP Pruned
structure RowU (y bx : Nat) where
  l : List Dt
  rn : Nat
  h1 : rn ≠ y
  h2 : rn ≠ bx
def rowU (y bx N : Nat) (ts ps : List Nat) (ca cb : Code) (s : RowU y bx) : Hp :=
  [(y, .rcd N ts [.ptr bx 0] ps ca cb .ready none), (bx, .box 27 [.gs s.rn s.l.length]), (s.rn, .arr 33 2 s.l.length ((s.l.flatMap Dt.ds).map .d))]
set_option maxHeartbeats 1000000 in
theorem chainBody {y bx B : Nat} (hyb : y ≠ bx) (s0 : RowU y bx) (hB : s0.l.length + B < 4611686018427) {ca cb : Code}
    (hca : cK Try.prog 29 ca = some (.reg [⟨some 9, .alloc 41 [.d (.int .u8 0), .d (.int .u32 0), .d (.int .u8 0), .d (.int .u32 0), .d (.int .u8 0), .d (.int .u32 0), .d (.int .u32 0), .d (.int .u8 0), .d (.int .u8 0), .d (.int .u64 0), .d (.int .i64 0)], none⟩, ⟨none, .store 11 (.t 9) (.t 22), none⟩] (fullB 2) false))
    (hcb : cK Try.prog 29 cb = some (.block 1 (.reg [⟨some 23, .load none (.t 8), none⟩, ⟨some 24, .fld 0 (.t 9), none⟩, ⟨some 25, .load (some 2) (.t 24), none⟩, ⟨some 26, .bsl 33 2 1 [.d (.int .u8 0), .d (.int .u32 0)] [(0, 2, .t 25)], none⟩, ⟨some 27, .app 33 2 8 (.t 23) (.t 26), none⟩, ⟨none, .store 1 (.t 8) (.t 27), none⟩] (fullB 6) false))) :
    YieldOk Try.prog y (fun x : Cr => .agg x.cells) 2 (rowU y bx 29 [8] [22] ca cb) (fun s x s' => s'.l = s.l ++ [x.dot]) (fun _ => true) s0 B := by
  refine ⟨fun s => by simp [rowU, lk_cons], fun s x hx => ?_, fun s xs x k hon hlt hok _ => ?_⟩
  · have f1 := ne4 hyb
    have f2 := ne4 s.h1
    have f3 := ne4 s.h2
    simp only [rowU, List.mem_cons, List.not_mem_nil, or_false] at hx
    rcases hx with rfl | rfl | rfl <;> simp [rowU, lk_cons, f1, f2, f3]
  · have hlen : s.l.length = s0.l.length + xs.length := by
      clear hlt hok
      induction hon with
      | nil => rfl
      | snoc _ h ih => rw [h]; simp [ih]; omega
    obtain ⟨l, rn, h1, h2⟩ := s
    simp only at hlen
    simp only [rowU, Hp.ok, List.all_cons, List.all_nil, Ob.ok, SV.oks, SV.ok, SV.oks_d, Bool.and_true, Bool.and_eq_true, decide_eq_true_eq] at hok
    obtain ⟨⟨k1, _⟩, ⟨k2, _⟩, k3⟩ := hok
    have f1 := ne4 hyb
    have f2 := ne4 h1
    have f3 := ne4 h2
    have g1 := ne4 (show k ≠ y by omega)
    have g2 := ne4 (show k ≠ bx by omega)
    have g3 := ne4 (show k ≠ rn by omega)
    have g4 := ne4 (show k + 1 ≠ k by omega)
    have g5 := ne4 (show k + 1 ≠ y by omega)
    have g6 := ne4 (show k + 1 ≠ bx by omega)
    have g7 := ne4 (show k + 1 ≠ rn by omega)
    refine SYB.here (fun n => n == y || n == bx || n == rn) (SYB.of_code (cs := [.ptr bx 0]) (H := [(bx, .box 27 [.gs rn l.length]), (rn, .arr 33 2 l.length ((l.flatMap Dt.ds).map .d))]) hca hcb rfl rfl rfl (by simp) k1 (by simp [lk_cons, lk_nil, f1, f2]) (by simp [SV.oks, SV.ok]) (by simp [Hp.ok, Ob.ok, SV.oks, SV.ok, SV.oks_d]; omega) (by simp [SV.oks, SV.ok]; omega) ?_) ?_ (by simp [SV.oks, SV.ok]) (by simp [rowU, Hp.ok, Ob.ok, SV.oks, SV.ok, SV.oks_d]) ?_
    · skip
      show Go.Sl.SW _ _ _ _ ⟨[(22, .agg x.cells), (8, .ptr bx 0)], _, _⟩ _
      (have fx := (And.intro (f1) (And.intro (f2) (And.intro (f3) (And.intro (g1) (And.intro (g2) (g3)))))); refine SW.regL [8, 9, 22] mixed ?_; (repeat (first | refine RW.ro fx (h := ?_) | refine RW.skip (h := ?_) | refine RW.op fx (h := ?_) | refine RW.opN fx (h := ?_) | refine RW.skip0 (h := ?_))); refine RW.nil ⟨by kernel_rfl, Pruned.mk (h := ?_)⟩)
      refine ⟨rfl, SW.block ?_⟩
      (have fx := (And.intro (f1) (And.intro (f2) (And.intro (f3) (And.intro (g1) (And.intro (g2) (And.intro (g3) (And.intro (g4) (And.intro (g5) (And.intro (g6) (g7)))))))))); refine SW.regL [8, 9, 22] mixed ?_; (repeat (first | refine RW.ro fx (h := ?_) | refine RW.skip (h := ?_) | refine RW.op fx (h := ?_) | refine RW.opN fx (h := ?_) | refine RW.skip0 (h := ?_))); refine RW.nil ⟨by kernel_rfl, Pruned.mk (h := ?_)⟩)
      have e2 : ((l ++ [x.dot]).flatMap Dt.ds).map SV.d = (List.flatMap Dt.ds l).map SV.d ++ x.dot.ds.map SV.d := by simp
      refine ⟨none, true, [(bx, .box 27 [.gs (k + 1) (l ++ [x.dot]).length]), (k + 1, .arr 33 2 (l ++ [x.dot]).length (((l ++ [x.dot]).flatMap Dt.ds).map .d))], ⟨rfl, rfl⟩, ?_, ?_, by simp, ⟨⟨l ++ [x.dot], k + 1, by omega, by omega⟩, rfl, rfl, rfl, ?_, ?_⟩⟩
      · refine HSub.cons ?_ (HSub.cons ?_ (HSub.nil _))
        · simp [lk_cons, f1, f2, f3, g1, g2, g3, g4, g5, g6, g7, spl]
        · rw [e2]; simp [lk_cons]
      · simp [Hp.ok, Ob.ok, SV.oks, SV.ok, SV.oks_d, -List.flatMap_append, -List.map_append]; omega
      · simp [rowU, Hp.ok, Ob.ok, SV.oks, SV.ok, SV.oks_d, -List.flatMap_append, -List.map_append]; omega
      · intro n hn
        by_cases hy' : n = y
        · exact .inl (by simp [rowU, lk_cons, hy'])
        · by_cases hbx : n = bx
          · exact .inl (by simp [rowU, lk_cons, hbx, f1])
          · refine .inr ?_
            have : n = k + 1 := Classical.byContradiction fun hne => hn (by simp [rowU, lk_cons, lk_nil, hy', hbx, hne])
            omega
    · intro n hn
      simp only [Bool.or_eq_true, beq_iff_eq] at hn
      rcases hn with (rfl | rfl) | rfl <;> simp [rowU, lk_cons, f1, f2, f3]
    · rintro r F' ⟨s', hs', rfl, rfl, hok', hnm⟩ _ _
      obtain ⟨l', rn', h1', h2'⟩ := s'
      refine ⟨rfl, ?_⟩
      simp [rowU, Hp.ok, Ob.ok, SV.oks, SV.ok, SV.oks_d]
      have hh := hnm rn' (by simp [rowU, lk_cons, h1', h2'])
      rcases hh with hh | ⟨hh1, hh2⟩
      · have : rn' = rn := by
          refine Classical.byContradiction fun hne => hh ?_
          simp [rowU, lk_cons, lk_nil, h1', h2', hne]
        simp [this]
      · simp [hh1]; omega
end Go.Proofs.Ytmmonbnlleeloaa
namespace Go.Proofs.Ytmmonbnlleeloaa
open Go.Sl Go.Proofs
attribute [local irreducible] SW RW SCd SC CallP Pruned
theorem up_sb (a : MM Dt Cr) (ca : Nat) (m : MM Dt OpD) (cm : Nat) (d : Dt) : SB Try.prog tree_Tree_up.f [.ptr 0 0, .agg d.cells] (hp0 a ca m cm) 3 2 (fun r F' => r = .fn (.func tree_Tree_up_1.f) [] [.ptr 3 0, .ptr 4 0] ∧ F' = (4, .box 33 d.cells) :: (3, .box 25 [.ptr 0 0]) :: hp0 a ca m cm) := by
  refine tree_Tree_up.enter (by simp [SV.oks, SV.ok]) (hp0_ok a ca m cm (Nat.le_refl 3)) (by simp) ?_
  unfold tree_Tree_up.s
  (repeat (first | refine SW.seq ?_ | refine SW.block ?_ | (refine SW.regL [0, 1, 2, 3, 4] mixed ?_; (repeat (first | refine RW.ro bq_tt (h := ?_) | refine RW.skip (h := ?_) | refine RW.op bq_tt (h := ?_) | refine RW.opN bq_tt (h := ?_) | refine RW.skip0 (h := ?_))); refine RW.nil ⟨by kernel_rfl, Pruned.mk (h := ?_)⟩) | refine SW.skip ?_ | refine SW.exit ?_ | refine SW.ret ?_ | refine SW.condT rfl ?_ | refine SW.condF rfl ?_))
  refine End.mk ((4, .box 33 d.cells) :: (3, .box 25 [.ptr 0 0]) :: hp0 a ca m cm) (h3 := fun _ _ h => h) (h4 := ⟨rfl, rfl⟩) (h6 := ?_)
  exact ok_cons (by simp) (by simp [Ob.ok, SV.oks_d, Dt.cells, SV.oks, SV.ok]) (ok_cons (by simp) (by simp [Ob.ok, SV.oks, SV.ok]) (hp0_ok a ca m cm (by omega)))
theorem up_at (a : MM Dt Cr) (ca : Nat) (m : MM Dt OpD) (cm : Nat) (d : Dt) (k : Nat) (hk : 3 ≤ k) : SCd Try.prog tree_Tree_up.f [.ptr 0 0, .agg d.cells] (hp0 a ca m cm) k 2 (.fn (.func tree_Tree_up_1.f) [] [.ptr k 0, .ptr (k + 1) 0]) ((k + 1, .box 33 d.cells) :: (k, .box 25 [.ptr 0 0]) :: hp0 a ca m cm) := by
  have h := SB.atL [0, 1, 2] (up_sb a ca m cm d) (by decide) (hp0_ne _ _ _ _) k
  have e : Hp.ren (atN [0, 1, 2] k) (hp0 a ca m cm) = hp0 a ca m cm := hp0_ren ⟨0, 1, 2, a, ca, m, cm⟩ k
  have e3 : atN [0, 1, 2] k 3 = k := by simp [atN]
  have e4 : atN [0, 1, 2] k 4 = k + 1 := by simp [atN]; omega
  have e0 : atN [0, 1, 2] k 0 = 0 := rfl
  have e5 : ∀ x y : Nat × Ob, Hp.ren (atN [0, 1, 2] k) (x :: y :: hp0 a ca m cm) = (atN [0, 1, 2] k x.1, x.2.ren (atN [0, 1, 2] k)) :: (atN [0, 1, 2] k y.1, y.2.ren (atN [0, 1, 2] k)) :: Hp.ren (atN [0, 1, 2] k) (hp0 a ca m cm) := fun _ _ => rfl
  rw [e5, e] at h
  simp only [SV.rens, SV.ren, Ob.ren, Dt.cells_ren, e0, e3, e4, List.length_cons, List.length_nil] at h
  exact h
theorem onBy_rowU {y bx : Nat} {s0 s : RowU y bx} {xs : List Cr} (h : OnBy (fun (s : RowU y bx) (x : Cr) s' => s'.l = s.l ++ [x.dot]) s0 xs s) : s.l = s0.l ++ xs.map (·.dot) := by
  induction h with
  | nil => simp
  | snoc _ h ih => rw [h, ih]; simp
def chainR (a : MM Dt Cr) (d : Dt) (L : List Cr) : SV := if MM.has a d then .tup [.d (.sl L.length ((L.map (·.dot)).flatMap Dt.ds)), .d (.int .i64 0)] else .tup [.d .nils, .d (.int .i64 7)]
set_option maxHeartbeats 4000000 in
theorem chain_sb (a : MM Dt Cr) (ca : Nat) (m : MM Dt OpD) (cm : Nat) (d : Dt) (L : List Cr) (hL : Ups a (MM.get a d) L) (hlen : L.length < 1000000) :
    SB Try.prog tree_Tree_Chain.f [.ptr 0 0, .agg d.cells] (hp0 a ca m cm) 3 (6 + L.length * (1 + 2)) (fun r F' => r = chainR a d L ∧ F' = hp0 a ca m cm) := by
  refine tree_Tree_Chain.enter (by simp [SV.oks, SV.ok]) (hp0_ok a ca m cm (Nat.le_refl 3)) (by simp) ?_
  unfold tree_Tree_Chain.s
  have hget : ∀ k, SCd Try.prog tree_Tree_Get.f [.ptr 0 0, .agg d.cells] (hp0 a ca m cm) k 3 (.tup [.agg ((MM.get a d).getD Cr.zero).cells, i64 (if MM.has a d then 0 else 7)]) (hp0 a ca m cm) := fun k => get_at (tr0_sep a ca m cm) d k
  have hup : SCd Try.prog tree_Tree_up.f [.ptr 0 0, .agg d.cells] (hp0 a ca m cm) 9 2 (.fn (.func tree_Tree_up_1.f) [] [.ptr 9 0, .ptr 10 0]) ((10, .box 33 d.cells) :: (9, .box 25 [.ptr 0 0]) :: hp0 a ca m cm) := up_at a ca m cm d 9 (by omega)
  unfold chainR
  rcases hh : MM.has a d with _ | _
  · rw [hh] at hget
    simp only [Bool.false_eq_true, if_false] at hget ⊢
    refine SW.seq ?_
    (refine SW.regL [0, 1, 3, 4, 5, 7, 8, 9, 17, 21, 22] mixed ?_; (repeat (first | refine RW.ro (hh) (h := ?_) | refine RW.skip (h := ?_) | refine RW.op (hh) (h := ?_) | refine RW.opN (hh) (h := ?_) | refine RW.skip0 (h := ?_) | (refine RW.callC (h := ?_); (first | refine CallP.mk (hh) (hc := hget _) (h := ?_) | refine CallP.mk (hh) (hc := hup) (h := ?_))))); refine RW.nil ⟨by kernel_rfl, Pruned.mk (h := ?_)⟩)
    refine SW.seq (SW.seq ?_)
    (refine SW.regL [0, 1, 3, 4, 5, 7, 8, 9, 17, 21, 22] mixed ?_; (repeat (first | refine RW.ro (hh) (h := ?_) | refine RW.skip (h := ?_) | refine RW.op (hh) (h := ?_) | refine RW.opN (hh) (h := ?_) | refine RW.skip0 (h := ?_) | (refine RW.callC (h := ?_); (first | refine CallP.mk (hh) (hc := hget _) (h := ?_) | refine CallP.mk (hh) (hc := hup) (h := ?_))))); refine RW.nil ⟨by kernel_rfl, Pruned.mk (h := ?_)⟩)
    refine SW.seq ?_
    (refine SW.regL [0, 1, 3, 4, 5, 7, 8, 9, 17, 21, 22] mixed ?_; (repeat (first | refine RW.ro (hh) (h := ?_) | refine RW.skip (h := ?_) | refine RW.op (hh) (h := ?_) | refine RW.opN (hh) (h := ?_) | refine RW.skip0 (h := ?_) | (refine RW.callC (h := ?_); (first | refine CallP.mk (hh) (hc := hget _) (h := ?_) | refine CallP.mk (hh) (hc := hup) (h := ?_))))); refine RW.nil ⟨by kernel_rfl, Pruned.mk (h := ?_)⟩)
    refine SW.condT rfl (SW.seq ?_)
    (refine SW.regL [0, 1, 3, 4, 5, 7, 8, 9, 17, 21, 22] mixed ?_; (repeat (first | refine RW.ro (hh) (h := ?_) | refine RW.skip (h := ?_) | refine RW.op (hh) (h := ?_) | refine RW.opN (hh) (h := ?_) | refine RW.skip0 (h := ?_) | (refine RW.callC (h := ?_); (first | refine CallP.mk (hh) (hc := hget _) (h := ?_) | refine CallP.mk (hh) (hc := hup) (h := ?_))))); refine RW.nil ⟨by kernel_rfl, Pruned.mk (h := ?_)⟩)
    refine SW.weak id (st1 := ⟨[(4, .d .nils), (5, .d (.int .i64 7))], hp0 a ca m cm, 3 + (6 + L.length * (1 + 2))⟩) (Weak.same (by show 3 ≤ 3 + _; omega) (by simp [EnvW, List.lookup, SV.ren, SV.ok]) (hp0_ok a ca m cm (by show 3 ≤ 3 + (6 + L.length * (1 + 2)); omega)) (fun x hx => ?_)) (SW.ret ?_)
    · simp only [List.mem_cons, List.not_mem_nil, or_false] at hx
      rcases hx with rfl | rfl | rfl <;> rfl
    · exact End.mk (hp0 a ca m cm) (h3 := fun _ _ h => h) (h4 := ⟨rfl, rfl⟩) (h6 := hp0_ok a ca m cm (by omega)) (h7 := Nat.le_refl _)
  · rw [hh] at hget
    simp only [if_true] at hget ⊢
    (repeat (first | refine SW.seq ?_ | refine SW.block ?_ | (refine SW.regL [0, 1, 3, 4, 5, 7, 8, 9, 17, 21, 22] mixed ?_; (repeat (first | refine RW.ro (hh) (h := ?_) | refine RW.skip (h := ?_) | refine RW.op (hh) (h := ?_) | refine RW.opN (hh) (h := ?_) | refine RW.skip0 (h := ?_) | (refine RW.callC (h := ?_); (first | refine CallP.mk (hh) (hc := hget _) (h := ?_) | refine CallP.mk (hh) (hc := hup) (h := ?_))))); refine RW.nil ⟨by kernel_rfl, Pruned.mk (h := ?_)⟩) | refine SW.skip ?_ | refine SW.exit ?_ | refine SW.ret ?_ | refine SW.condT rfl ?_ | refine SW.condF rfl ?_))
    refine SW.nilbox 8 27 33 2 (by rfl) ?_
    let s0 : RowU 7 3 := ⟨[], 6, by decide, by decide⟩
    refine SW.weak (fun n => if n = 3 then 8 else if n = 4 then 9 else if n = 5 then 10 else if n = 6 then 11 else n) (st1 := ⟨[(21, .fn (.func tree_Tree_up_1.f) [] [.ptr 4 0, .ptr 5 0]), (8, .ptr 3 0)], (3, .box 27 [.gs 6 0]) :: (6, .arr 33 2 0 []) :: (4, .box 25 [.ptr 0 0]) :: (5, .box 33 d.cells) :: hp0 a ca m cm, 7⟩) ⟨by show (3 : Nat) ≤ 7; decide, fun n hn => ?_, ?_, ?_, ?_⟩ ?_
    · show (if n = 3 then 8 else if n = 4 then 9 else if n = 5 then 10 else if n = 6 then 11 else n) = n
      rw [if_neg (by omega), if_neg (by omega), if_neg (by omega), if_neg (by omega)]
    · simp [EnvW, List.lookup, SV.ren, SV.ok, SV.rens, SV.oks]
    · simp [HpW, lk_cons, Ob.ren, SV.rens, SV.ren, SV.rens_d, SV.oks_d, Ob.ok, SV.oks, SV.ok, Dt.cells_ren, Dt.cells_ok, cmap_ren, cmap_ok, omap_ren, omap_ok]
    · intro x hx y hy e
      simp only [List.map_cons, List.map_nil, List.mem_cons, List.not_mem_nil, or_false] at hx hy
      rcases hx with rfl | rfl | rfl | rfl | rfl | rfl | rfl <;> rcases hy with rfl | rfl | rfl | rfl | rfl | rfl | rfl <;> simp at e <;> rfl
    refine SW.rfun (nk := 1 + L.length * (1 + 2)) [8] [.ptr 3 0] rfl ⟨rfl, trivial⟩ fun ca' cb' hca hcb => ?_
    have hy := chainBody (y := 7) (bx := 3) (B := L.length) (by decide) s0 (by simp [s0]; omega) hca hcb
    have hsb := up1_sb (y := 7) (b := 4) (q := 5) (k := 8) (T := tr0 a ca m cm) (d := d) (tr0_sep a ca m cm) hL s0 hy (by simp [rowU, s0, Hp.ok, Ob.ok, SV.oks, SV.ok]) (by decide) (by decide) (by decide) (tr0_lt a ca m cm (by decide)) (by rfl) (by rfl) ⟨by rfl, by rfl, by rfl, by rfl, by rfl⟩ rfl
    have hsubF : HSub ((4, Ob.box 25 [.ptr 0 0]) :: (5, .box 33 d.cells) :: TF (tr0 a ca m cm) (rowU 7 3 29 [8] [22] ca' cb' s0)) ((7, .rcd 29 [8] [.ptr 3 0] [22] ca' cb' .ready none) :: (3, .box 27 [.gs 6 0]) :: (6, .arr 33 2 0 []) :: (4, .box 25 [.ptr 0 0]) :: (5, .box 33 d.cells) :: hp0 a ca m cm) := by
      intro n ob hn
      match n with
      | 0 | 1 | 2 | 3 | 4 | 5 | 6 | 7 => simpa [TF, Tr.hp, rowU, s0, lk_cons] using hn
      | n + 8 => simp [TF, Tr.hp, rowU, s0, lk_cons, lk_nil] at hn
    have hsc := (hsb.here (fun n => decide (n < 8)) (fun n hn => ?_) (by simp [SV.oks, SV.ok]) ?_ ?_).frame hsubF
    · refine hsc.mono ?_
      rintro r F' ⟨F1, ⟨rfl, xs, s', hon, hpre, hall, hoff, rfl⟩, rfl⟩
      have hl := onBy_rowU hon
      have hxs : xs = L := hall rfl
      obtain ⟨l, rn, hr1, hr2⟩ := s'
      have hl : l = L.map (·.dot) := by rw [← hxs]; simpa [s0] using hl
      obtain ⟨o1, o2, o3, o4, o5⟩ := hoff
      have hn4 : rn ≠ 4 := fun e => by simp [rowU, e, lk_cons] at o1
      have hn5 : rn ≠ 5 := fun e => by simp [rowU, e, lk_cons] at o2
      have hn0 : rn ≠ 0 := fun e => by simp [rowU, e, lk_cons] at o3
      have hn1 : rn ≠ 1 := fun e => by simp [rowU, e, lk_cons] at o4
      have hn2 : rn ≠ 2 := fun e => by simp [rowU, e, lk_cons] at o5
      have hll : l.length = L.length := by rw [hl, List.length_map]
      have hlk := lk_hmrg (ro := false) (F' := (4, Ob.box 25 [.ptr 0 0]) :: (5, .box 33 d.cells) :: TF (tr0 a ca m cm) (rowU 7 3 29 [8] [22] ca' cb' ⟨l, rn, hr1, hr2⟩)) hsubF (fun h => by cases h)
      generalize hmrg false _ _ _ = G at hlk
      have hG : ∀ n ob, lk ((4, Ob.box 25 [.ptr 0 0]) :: (5, .box 33 d.cells) :: TF (tr0 a ca m cm) (rowU 7 3 29 [8] [22] ca' cb' ⟨l, rn, hr1, hr2⟩)) n = some ob → lk G n = some ob := fun n ob h => by
        rw [hlk, mrg_in (.inr (by rw [h]; simp)), h]
      refine ⟨none, hG 7 _ (by simp [TF, Tr.hp, rowU, lk_cons, recSt]), ?_⟩
      refine SW.weak (fun n => if n = 6 then rn else n) (st1 := ⟨[(8, .ptr 3 0)], (3, .box 27 [.gs 6 L.length]) :: (6, .arr 33 2 L.length ((l.flatMap Dt.ds).map .d)) :: hp0 a ca m cm, 7 + 1 + (1 + L.length * (1 + 2))⟩) ?_ ?_
      · have q3 := hG 3 (.box 27 [.gs rn l.length]) (by simp [TF, Tr.hp, rowU, lk_cons])
        have q6 := hG rn (.arr 33 2 l.length ((l.flatMap Dt.ds).map .d)) (by simp [TF, Tr.hp, rowU, lk_cons, hn0, hn1, hn2, hn4, hn5, hr1, hr2])
        have q0 := hG 0 (.box 74 [.mp 1, .mp 2]) (by simp [TF, Tr.hp, lk_cons])
        have q1 := hG 1 (.map (mapE Dt.cells cv a) ca) (by simp [TF, Tr.hp, lk_cons])
        have q2 := hG 2 (.map (mapE Dt.cells ov m) cm) (by simp [TF, Tr.hp, lk_cons])
        rw [hll] at q3 q6
        refine ⟨by show 3 ≤ 7 + 1 + (1 + L.length * (1 + 2)); omega, fun n hn => if_neg (by omega), ?_, ?_, ?_⟩
        · simp [EnvW, List.lookup, SV.ren, SV.ok]; omega
        · simp [HpW, lk_hdel, Ob.ren, SV.rens, SV.ren, SV.rens_d, SV.oks_d, Ob.ok, SV.oks, SV.ok, q3, q6, q2, q0, q1, hr1, cmap_ren, cmap_ok, omap_ren, omap_ok]; omega
        · intro x hx y hy e
          simp only [List.map_cons, List.map_nil, List.mem_cons, List.not_mem_nil, or_false] at hx hy
          rcases hx with rfl | rfl | rfl | rfl | rfl <;> rcases hy with rfl | rfl | rfl | rfl | rfl <;> simp at e <;> first | rfl | omega
      · refine SW.seq ?_
        (refine SW.regL [0, 1, 3, 4, 5, 7, 8, 9, 17, 21, 22] mixed ?_; (repeat (first | refine RW.ro bq_tt (h := ?_) | refine RW.skip (h := ?_) | refine RW.op bq_tt (h := ?_) | refine RW.opN bq_tt (h := ?_) | refine RW.skip0 (h := ?_))); refine RW.nil ⟨by kernel_rfl, Pruned.mk (h := ?_)⟩)
        refine SW.freeze 6 (l.flatMap Dt.ds) rfl rfl (SW.ret ?_)
        rw [← hl]
        exact End.mk (hp0 a ca m cm) (h4 := ⟨by simp [retV, SV.frz], rfl⟩) (h5 := by simp [retV, SV.frz, SV.ok, SV.oks]) (h6 := hp0_ok a ca m cm (by omega)) (h7 := by show 3 + (6 + L.length * (1 + 2)) ≤ 7 + 1 + (1 + L.length * (1 + 2)); omega)
    · match n, hn with
      | 0, _ | 1, _ | 2, _ | 3, _ | 4, _ | 5, _ | 6, _ | 7, _ => simp [TF, Tr.hp, rowU, s0, lk_cons]
      | n + 8, h => have : n + 8 < 8 := by simpa using h
                    omega
    · refine ok_cons rfl (by simp [Ob.ok, SV.oks, SV.ok]) (ok_cons rfl (by simp [Ob.ok, Dt.cells_ok]) ?_)
      have h1 : (tr0 a ca m cm).hp.ok (fun n => decide (n < 8)) = true := Tr.okk (tr0_lt a ca m cm (by decide))
      have h2 : (rowU 7 3 29 [8] [22] ca' cb' s0).ok (fun n => decide (n < 8)) = true := by simp [rowU, s0, Hp.ok, Ob.ok, SV.oks, SV.ok, SV.oks_d]
      unfold Hp.ok at *
      rw [TF, List.all_append, h1, h2]; rfl
    · rintro r F' _ h1 h2
      refine ⟨SV.ok_more (fun n hn => ?_) _ h1, Hp.ok_mono (fun n hn => ?_) h2⟩ <;> (simp at hn ⊢; omega)
theorem chainR_ren (f : Nat → Nat) (a : MM Dt Cr) (d : Dt) (L : List Cr) : (chainR a d L).ren f = chainR a d L := by
  unfold chainR; split <;> rfl
theorem chain_at {T : Tr} (hs : T.sep) (d : Dt) (L : List Cr) (hL : Ups T.at_ (MM.get T.at_ d) L) (hlen : L.length < 1000000) (k : Nat) : SCd Try.prog tree_Tree_Chain.f [.ptr T.bx 0, .agg d.cells] T.hp k (6 + L.length * (1 + 2)) (chainR T.at_ d L) T.hp := by
  have h := SB.atL [T.bx, T.ma, T.mm] (chain_sb T.at_ T.ca T.made T.cm d L hL hlen) (Tr.nd3 hs) (hp0_ne _ _ _ _) k
  rw [hp0_ren, chainR_ren] at h
  simp only [SV.rens, SV.ren, Dt.cells_ren] at h
  exact h
end Go.Proofs.Ytmmonbnlleeloaa
namespace Go.Proofs.Ytmmonbnlleeloaa
open Go.Sl Go.Proofs
attribute [local irreducible] SW RW SCd SC CallP Pruned
end Go.Proofs.Ytmmonbnlleeloaa
namespace Go.Proofs.Ytmmonbnlleeloaa
open Go.Sl Go.Proofs
def Falls (a : MM Dt Cr) : Prop := ∀ d c p, MM.get a d = some c → 0 < c.level → MM.get a c.par = some p → p.level < c.level
end Go.Proofs.Ytmmonbnlleeloaa
