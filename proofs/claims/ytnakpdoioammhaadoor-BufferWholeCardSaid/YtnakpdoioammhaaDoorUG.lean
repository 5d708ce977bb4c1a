/-
  Buffers: in two rows, or at once.
-/
import Derived.Test.YtnakpdoioammhaaDoorUF
set_option linter.unusedSectionVars false
set_option linter.unusedVariables false
set_option linter.unusedSimpArgs false
namespace Go.Proofs.YtnakpdoioammhaaDoor
open Go.Sl Go.Proofs
attribute [local irreducible] SW RW SCd SC CallP Pruned
theorem ops_fm_take : ∀ (l : List OpD) (i : Nat), (l.flatMap OpD.ds).take (i * 29) = (l.take i).flatMap OpD.ds
  | [], i => by simp
  | x :: l, 0 => by simp
  | x :: l, i + 1 => by
    have := ops_fm_take l i
    rw [List.take_succ_cons, List.flatMap_cons, List.flatMap_cons, List.take_append, ← this, OpD.ds_len, show (i + 1) * 29 - 29 = i * 29 by omega, List.take_of_length_le (by rw [OpD.ds_len]; omega)]
theorem ops_fm_drop : ∀ (l : List OpD) (i : Nat), (l.flatMap OpD.ds).drop (i * 29) = (l.drop i).flatMap OpD.ds
  | [], i => by simp
  | x :: l, 0 => by simp
  | x :: l, i + 1 => by
    have := ops_fm_drop l i
    rw [List.drop_succ_cons, ← this, List.flatMap_cons, List.drop_append]
    rw [show (i + 1) * 29 - x.ds.length = i * 29 by rw [OpD.ds_len]; omega, List.drop_of_length_le (by rw [OpD.ds_len]; omega)]
    rfl
theorem ops_suf (l : List OpD) (i : Nat) : ops (l.drop i) = .d (.sl (l.length - i) (List.take ((l.length - i) * 29) (List.drop (i * 29) (l.flatMap OpD.ds)))) := by
  unfold ops
  rw [ops_fm_drop, List.length_drop, List.take_of_length_le]
  rw [ops_len]; simp
theorem uniq_snoc {t : List OpD} {x : OpD} (h : Uniq t) (hx : ∀ y, y ∈ t → y.dot ≠ x.dot) : Uniq (t ++ [x]) :=
  uniq_app h (by simp [Uniq]) fun a b ha hb => by simp at hb; rw [hb]; exact hx a ha
theorem drained_len {S x L : List OpD} {h h0 : Vec} (hx : Drained S h0 (x, h, L)) : x.length ≤ S.length := hx.nd.nd.length_le_of_subset fun o ho => ((hx.mem o).1 ho).1
theorem any_part {n : Nat} {l : List OpD} (k : Nat) (h : l.any (badF n) = false) : (l.take k).any (badF n) = false ∧ (l.drop k).any (badF n) = false := by
  rw [← List.take_append_drop k l, List.any_append, Bool.or_eq_false_iff] at h
  exact h
abbrev twoH (m : Nat) : Hp := [(5, .box 58 (bfc m Vec.zero 4)), (4, .map [] 0), (2, .box 58 (bfc m Vec.zero 1)), (1, .map [] 0)]
end Go.Proofs.YtnakpdoioammhaaDoor
namespace Go.Proofs.YtnakpdoioammhaaDoor
open Go.Sl Go.Proofs
attribute [local irreducible] SW RW SCd SC CallP Pruned
theorem ahead_ok (a b : OpD) : Go.Sl.Pure Tryd.prog ref11_Ahead.f [.agg a.cells, .agg b.cells] (bl (a.lt b)) := by
  refine ref11_Ahead.enter (by first | rfl | simp [SV.ok, SV.oks]) (by first | rfl | simp [Hp.ok, Ob.ok, SV.ok, SV.oks, Vec.cells_ok]) (by simp) ?_
  dsimp only [ref11_Ahead.s, Co.M, Co.G, Co.J, Co.H, Co.N, Co.F, Co.C, Co.Z, Co.B, Co.b8, Co.b32, Co.b64, Co.i6, Co.z8, Co.z29]
  by_cases h1 : a.time = b.time
  · have e1 : ((a.time : Int) != (b.time : Int)) = false := by simp; omega
    by_cases h2 : a.dot.r = b.dot.r
    · have e2 : ((a.dot.r : Int) != (b.dot.r : Int)) = false := by simp; omega
      have e : a.lt b = decide ((a.dot.n : Int) < (b.dot.n : Int)) := by
        rw [Bool.eq_iff_iff, OpD.lt_iff, decide_eq_true_eq]; omega
      rw [e]
      (repeat (first | refine SW.seq ?_ | refine SW.block ?_ | (refine SW.regL [0, 1, 2, 3, 4, 9, 21] mixed ?_; (repeat (first | refine RW.ro (And.intro (e1) (e2)) (h := ?_) | refine RW.skip (h := ?_) | refine RW.op (And.intro (e1) (e2)) (h := ?_) | refine RW.opN (And.intro (e1) (e2)) (h := ?_) | refine RW.skip0 (h := ?_))); refine RW.nil ⟨by kernel_rfl, Pruned.mk (h := ?_)⟩) | refine SW.skip ?_ | refine SW.exit ?_ | refine SW.ret ?_ | refine SW.condT rfl ?_ | refine SW.condF rfl ?_))
      exact End.mk [] (h4 := ⟨rfl, rfl⟩)
    · have e2 : ((a.dot.r : Int) != (b.dot.r : Int)) = true := by simp; omega
      have e : a.lt b = decide ((a.dot.r : Int) < (b.dot.r : Int)) := by
        rw [Bool.eq_iff_iff, OpD.lt_iff, decide_eq_true_eq]; omega
      rw [e]
      (repeat (first | refine SW.seq ?_ | refine SW.block ?_ | (refine SW.regL [0, 1, 2, 3, 4, 9, 21] mixed ?_; (repeat (first | refine RW.ro (And.intro (e1) (e2)) (h := ?_) | refine RW.skip (h := ?_) | refine RW.op (And.intro (e1) (e2)) (h := ?_) | refine RW.opN (And.intro (e1) (e2)) (h := ?_) | refine RW.skip0 (h := ?_))); refine RW.nil ⟨by kernel_rfl, Pruned.mk (h := ?_)⟩) | refine SW.skip ?_ | refine SW.exit ?_ | refine SW.ret ?_ | refine SW.condT rfl ?_ | refine SW.condF rfl ?_))
      exact End.mk [] (h4 := ⟨rfl, rfl⟩)
  · have e1 : ((a.time : Int) != (b.time : Int)) = true := by simp; omega
    have e : a.lt b = decide ((a.time : Int) < (b.time : Int)) := by
      rw [Bool.eq_iff_iff, OpD.lt_iff, decide_eq_true_eq]; omega
    rw [e]
    (repeat (first | refine SW.seq ?_ | refine SW.block ?_ | (refine SW.regL [0, 1, 2, 3, 4, 9, 21] mixed ?_; (repeat (first | refine RW.ro (e1) (h := ?_) | refine RW.skip (h := ?_) | refine RW.op (e1) (h := ?_) | refine RW.opN (e1) (h := ?_) | refine RW.skip0 (h := ?_))); refine RW.nil ⟨by kernel_rfl, Pruned.mk (h := ?_)⟩) | refine SW.skip ?_ | refine SW.exit ?_ | refine SW.ret ?_ | refine SW.condT rfl ?_ | refine SW.condF rfl ?_))
    exact End.mk [] (h4 := ⟨rfl, rfl⟩)
theorem ahead_at (a b : OpD) (k : Nat) : SCd Tryd.prog ref11_Ahead.f [.agg a.cells, .agg b.cells] [] k 0 (bl (a.lt b)) [] := (ahead_ok a b).sc rfl k
theorem ops_drop : ∀ (l : List OpD) (i : Nat), (l.flatMap OpD.ds).drop (i * 29) = (l.drop i).flatMap OpD.ds
  | [], i => by simp
  | x :: l, 0 => by simp
  | x :: l, i + 1 => by
    have := ops_drop l i
    rw [List.drop_succ_cons, ← this, List.flatMap_cons, List.drop_append]
    rw [show (i + 1) * 29 - x.ds.length = i * 29 by rw [OpD.ds_len]; omega, List.drop_of_length_le (by rw [OpD.ds_len]; omega)]
    rfl
theorem ops_rest (l : List OpD) (i : Nat) : ((l.flatMap OpD.ds).drop (i * 29)).take ((l.length - i) * 29) = (l.drop i).flatMap OpD.ds := by
  rw [ops_drop, List.take_of_length_le]
  rw [ops_len]; simp
theorem ops_take : ∀ (l : List OpD) (i : Nat), (l.flatMap OpD.ds).take (i * 29) = (l.take i).flatMap OpD.ds
  | [], i => by simp
  | x :: l, 0 => by simp
  | x :: l, i + 1 => by
    have := ops_take l i
    rw [List.take_succ_cons, List.flatMap_cons, List.flatMap_cons, List.take_append, ← this, OpD.ds_len, show (i + 1) * 29 - 29 = i * 29 by omega, List.take_of_length_le (by rw [OpD.ds_len]; omega)]
set_option maxHeartbeats 4000000 in
theorem rsorted_ok (l : List OpD) (hl : l.length ≤ 1048576) : Go.Sl.Pure Tryd.prog ref11_Sorted.f [ops l] (ops (sortedR l)) := by
  refine ref11_Sorted.enter (by first | rfl | simp [SV.ok, SV.oks]) (by first | rfl | simp [Hp.ok, Ob.ok, SV.ok, SV.oks, Vec.cells_ok]) (by simp) ?_
  dsimp only [ref11_Sorted.s, Co.M, Co.G, Co.J, Co.H, Co.N, Co.F, Co.C, Co.Z, Co.B, Co.b8, Co.b32, Co.b64, Co.i6, Co.z8, Co.z29]
  refine SW.seq ?_
  (refine SW.regL [0, 2, 3, 4, 5, 9, 26] mixed ?_; (repeat (first | refine RW.ro bq_tt (h := ?_) | refine RW.skip (h := ?_) | refine RW.op bq_tt (h := ?_) | refine RW.opN bq_tt (h := ?_) | refine RW.skip0 (h := ?_) | refine lit1 rfl rfl (h := ?_) | (refine RW.callC (h := ?_); (first | refine CallP.mk bq_tt (hc := ahead_at _ _ _) (h := ?_))))); refine RW.nil ⟨by kernel_rfl, Pruned.mk (h := ?_)⟩)
  refine SW.seq ?_
  (refine SW.regL [0, 2, 3, 4, 5, 9, 26] mixed ?_; (repeat (first | refine RW.ro bq_tt (h := ?_) | refine RW.skip (h := ?_) | refine RW.op bq_tt (h := ?_) | refine RW.opN bq_tt (h := ?_) | refine RW.skip0 (h := ?_) | refine lit1 rfl rfl (h := ?_) | (refine RW.callC (h := ?_); (first | refine CallP.mk bq_tt (hc := ahead_at _ _ _) (h := ?_))))); refine RW.nil ⟨by kernel_rfl, Pruned.mk (h := ?_)⟩)
  refine SW.nils 3 rfl ?_
  refine SW.seq (SW.seq ?_)
  (refine SW.regL [0, 2, 3, 4, 5, 9, 26] mixed ?_; (repeat (first | refine RW.ro bq_tt (h := ?_) | refine RW.skip (h := ?_) | refine RW.op bq_tt (h := ?_) | refine RW.opN bq_tt (h := ?_) | refine RW.skip0 (h := ?_) | refine lit1 rfl rfl (h := ?_) | (refine RW.callC (h := ?_); (first | refine CallP.mk bq_tt (hc := ahead_at _ _ _) (h := ?_))))); refine RW.nil ⟨by kernel_rfl, Pruned.mk (h := ?_)⟩)
  refine SW.block ?_
  refine SW.loopA (α := {i : Nat // i ≤ l.length}) (fun i => ⟨[(4, i64 i.1), (0, ops l), (3, ops (sortedR (l.take i.1)))], [], 0⟩) (fun i => l.length - i.1) ⟨0, by omega⟩ id (And.intro (show sortedR [] = [] from rfl) bq_tt) (round := ?_)
  rintro ⟨i, hi⟩
  dsimp only
  by_cases h : i < l.length
  · have h1 : decide ((i : Int) < l.length) = true := by simp only [decide_eq_true_eq]; omega
    obtain ⟨x, hx⟩ := get_of_lt h
    have e2 : IntKind.i64.wrap ((i : Int) + 1) = ((i + 1 : Nat) : Int) := wrap_i64 _ (by omega)
    have e1 : l.take (i + 1) = l.take i ++ [x] := take_snoc hx
    have hsn := sortedR_snoc (l.take i) x
    rw [← e1] at hsn
    have hlen : (sortedR (l.take i)).length ≤ i := by rw [(sortedR_perm _).length_eq]; simp; omega
    generalize sortedR (l.take i) = s at hsn hlen ⊢
    refine SW.seq (SW.seq ?_)
    (refine SW.regL [0, 2, 3, 4, 5, 9, 26] mixed ?_; (repeat (first | refine RW.ro (h1) (h := ?_) | refine RW.skip (h := ?_) | refine RW.op (h1) (h := ?_) | refine RW.opN (h1) (h := ?_) | refine RW.skip0 (h := ?_) | refine lit1 rfl rfl (h := ?_) | (refine RW.callC (h := ?_); (first | refine CallP.mk (h1) (hc := ahead_at _ _ _) (h := ?_))))); refine RW.nil ⟨by kernel_rfl, Pruned.mk (h := ?_)⟩)
    refine SW.condT rfl (SW.skip ?_)
    refine SW.seq (SW.block (SW.seq ?_))
    (refine SW.regL [0, 2, 3, 4, 5, 9, 26] mixed ?_; (repeat (first | refine RW.ro bq_tt (h := ?_) | refine RW.skip (h := ?_) | refine RW.op bq_tt (h := ?_) | refine RW.opN bq_tt (h := ?_) | refine RW.skip0 (h := ?_) | refine lit1 rfl rfl (h := ?_) | (refine RW.callC (h := ?_); (first | refine CallP.mk bq_tt (hc := ahead_at _ _ _) (h := ?_))))); refine RW.nil ⟨by kernel_rfl, Pruned.mk (h := ?_)⟩)
    refine SW.seq (SW.block ?_)
    refine SW.loopA (α := {k : Nat // k ≤ s.length ∧ ∀ j y, j < k → s[j]? = some y → y.lt x = true}) (fun k => ⟨[(5, i64 k.1), (4, i64 i), (0, ops l), (3, ops s)], [], 0⟩) (fun k => s.length - k.1) ⟨0, by omega, by omega⟩ id bq_tt (round := ?_)
    rintro ⟨k, hk, hs⟩
    have last : ∀ (hn : ∀ y, s[k]? = some y → y.lt x = false), insL s x = s.take k ++ x :: s.drop k := fun hn => by
      have key : ∀ (s : List OpD) (k : Nat), k ≤ s.length → (∀ j y, j < k → s[j]? = some y → y.lt x = true) → (∀ y, s[k]? = some y → y.lt x = false) → s.takeWhile (fun y => y.lt x) = s.take k ∧ s.dropWhile (fun y => y.lt x) = s.drop k := by
        intro s
        induction s with
        | nil => intro k hk _ _; have : k = 0 := by simpa using hk
                 subst this; exact ⟨rfl, rfl⟩
        | cons z s ih =>
          intro k hk h1 h2
          cases k with
          | zero => have := h2 z rfl; simp [this]
          | succ k =>
            have hz := h1 0 z (by omega) rfl
            obtain ⟨a, b⟩ := ih k (by simpa using hk) (fun j y hj hy => h1 (j + 1) y (by omega) hy) (fun y hy => h2 y hy)
            simp [hz, a, b]
      unfold insL
      rw [(key s k hk hs hn).1, (key s k hk hs hn).2]
    by_cases hks : k < s.length
    · obtain ⟨y, hy⟩ := get_of_lt hks
      have k1 : decide ((k : Int) < s.length) = true := by simp only [decide_eq_true_eq]; omega
      have k2 : IntKind.i64.wrap ((k : Int) + 1) = ((k + 1 : Nat) : Int) := wrap_i64 _ (by omega)
      rcases hyx : y.lt x with _ | _
      · refine SW.seq (SW.seq ?_)
        (have fx := (And.intro (k1) (And.intro (op_at hy) (And.intro (op_room0 hy) (And.intro (op_at hx) (And.intro (op_room0 hx) (hyx)))))); refine SW.regL [0, 2, 3, 4, 5, 9, 26] mixed ?_; (repeat (first | refine RW.ro fx (h := ?_) | refine RW.skip (h := ?_) | refine RW.op fx (h := ?_) | refine RW.opN fx (h := ?_) | refine RW.skip0 (h := ?_) | refine lit1 rfl rfl (h := ?_) | (refine RW.callC (h := ?_); (first | refine CallP.mk fx (hc := ahead_at _ _ _) (h := ?_))))); refine RW.nil ⟨by kernel_rfl, Pruned.mk (h := ?_)⟩)
        have hins := last fun z hz => by rw [hy] at hz; injection hz with hz; rw [← hz]; exact hyx
        refine SW.condF rfl (SW.exit ?_)
        have e0 : (k : Int).toNat = k := Int.toNat_natCast k
        (have fx := (And.intro (e0) (And.intro (op_at hx) (op_room0 hx))); refine SW.regL [0, 2, 3, 4, 5, 9, 26] mixed ?_; (repeat (first | refine RW.ro fx (h := ?_) | refine RW.skip (h := ?_) | refine RW.op fx (h := ?_) | refine RW.opN fx (h := ?_) | refine RW.skip0 (h := ?_) | refine lit1 rfl rfl (h := ?_) | (refine RW.callC (h := ?_); (first | refine CallP.mk fx (hc := ahead_at _ _ _) (h := ?_))))); refine RW.nil ⟨by kernel_rfl, Pruned.mk (h := ?_)⟩)
        have hlen2 : k - 0 + [x].length + (s.length - k) = (insL s x).length := by rw [hins]; simp; omega
        refine SW.freeze 3 ((insL s x).flatMap OpD.ds) rfl (by rw [ops_rest, Nat.sub_zero, ops_take, hins]; simp) ?_
        simp only [frzE, SV.frz, List.map_cons, List.map_nil, if_true, if_false, reduceIte, hdel, Nat.reduceEqDiff, hlen2]
        (repeat (first | refine SW.seq ?_ | refine SW.block ?_ | (refine SW.regL [0, 2, 3, 4, 5, 9, 26] mixed ?_; (repeat (first | refine RW.ro (e2) (h := ?_) | refine RW.skip (h := ?_) | refine RW.op (e2) (h := ?_) | refine RW.opN (e2) (h := ?_) | refine RW.skip0 (h := ?_) | refine lit1 rfl rfl (h := ?_) | (refine RW.callC (h := ?_); (first | refine CallP.mk (e2) (hc := ahead_at _ _ _) (h := ?_))))); refine RW.nil ⟨by kernel_rfl, Pruned.mk (h := ?_)⟩) | refine SW.skip ?_ | refine SW.exit ?_ | refine SW.ret ?_ | refine SW.condT rfl ?_ | refine SW.condF rfl ?_))
        dsimp only
        exact ⟨⟨i + 1, by omega⟩, id, by show l.length - (i + 1) < _; omega, Weak.mk (And.intro hsn bq_tt)⟩
      · (repeat (first | refine SW.seq ?_ | refine SW.block ?_ | (have fx := (And.intro (k1) (And.intro (op_at hy) (And.intro (op_room0 hy) (And.intro (op_at hx) (And.intro (op_room0 hx) (And.intro (hyx) (k2))))))); refine SW.regL [0, 2, 3, 4, 5, 9, 26] mixed ?_; (repeat (first | refine RW.ro fx (h := ?_) | refine RW.skip (h := ?_) | refine RW.op fx (h := ?_) | refine RW.opN fx (h := ?_) | refine RW.skip0 (h := ?_) | refine lit1 rfl rfl (h := ?_) | (refine RW.callC (h := ?_); (first | refine CallP.mk fx (hc := ahead_at _ _ _) (h := ?_))))); refine RW.nil ⟨by kernel_rfl, Pruned.mk (h := ?_)⟩) | refine SW.skip ?_ | refine SW.exit ?_ | refine SW.ret ?_ | refine SW.condT rfl ?_ | refine SW.condF rfl ?_))
        refine Next.mk ⟨k + 1, by omega, fun j z hj hz => ?_⟩ id bq_tt
        rcases Nat.lt_or_ge j k with h3 | h3
        · exact hs j z h3 hz
        · have : j = k := by omega
          subst this
          rw [hy] at hz; injection hz with hz; rw [← hz]; exact hyx
    · have k1 : decide ((k : Int) < s.length) = false := by simp only [decide_eq_false_iff_not]; omega
      have hins := last fun z hz => by rw [List.getElem?_eq_none (by omega)] at hz; cases hz
      refine SW.seq (SW.seq ?_)
      (refine SW.regL [0, 2, 3, 4, 5, 9, 26] mixed ?_; (repeat (first | refine RW.ro (k1) (h := ?_) | refine RW.skip (h := ?_) | refine RW.op (k1) (h := ?_) | refine RW.opN (k1) (h := ?_) | refine RW.skip0 (h := ?_) | refine lit1 rfl rfl (h := ?_) | (refine RW.callC (h := ?_); (first | refine CallP.mk (k1) (hc := ahead_at _ _ _) (h := ?_))))); refine RW.nil ⟨by kernel_rfl, Pruned.mk (h := ?_)⟩)
      refine SW.condF rfl (SW.exit ?_)
      have e0 : (k : Int).toNat = k := Int.toNat_natCast k
      (have fx := (And.intro (e0) (And.intro (op_at hx) (op_room0 hx))); refine SW.regL [0, 2, 3, 4, 5, 9, 26] mixed ?_; (repeat (first | refine RW.ro fx (h := ?_) | refine RW.skip (h := ?_) | refine RW.op fx (h := ?_) | refine RW.opN fx (h := ?_) | refine RW.skip0 (h := ?_) | refine lit1 rfl rfl (h := ?_) | (refine RW.callC (h := ?_); (first | refine CallP.mk fx (hc := ahead_at _ _ _) (h := ?_))))); refine RW.nil ⟨by kernel_rfl, Pruned.mk (h := ?_)⟩)
      have hlen2 : k - 0 + [x].length + (s.length - k) = (insL s x).length := by rw [hins]; simp; omega
      refine SW.freeze 3 ((insL s x).flatMap OpD.ds) rfl (by rw [ops_rest, Nat.sub_zero, ops_take, hins]; simp) ?_
      simp only [frzE, SV.frz, List.map_cons, List.map_nil, if_true, if_false, reduceIte, hdel, Nat.reduceEqDiff, hlen2]
      (repeat (first | refine SW.seq ?_ | refine SW.block ?_ | (refine SW.regL [0, 2, 3, 4, 5, 9, 26] mixed ?_; (repeat (first | refine RW.ro (e2) (h := ?_) | refine RW.skip (h := ?_) | refine RW.op (e2) (h := ?_) | refine RW.opN (e2) (h := ?_) | refine RW.skip0 (h := ?_) | refine lit1 rfl rfl (h := ?_) | (refine RW.callC (h := ?_); (first | refine CallP.mk (e2) (hc := ahead_at _ _ _) (h := ?_))))); refine RW.nil ⟨by kernel_rfl, Pruned.mk (h := ?_)⟩) | refine SW.skip ?_ | refine SW.exit ?_ | refine SW.ret ?_ | refine SW.condT rfl ?_ | refine SW.condF rfl ?_))
      dsimp only
      exact ⟨⟨i + 1, by omega⟩, id, by show l.length - (i + 1) < _; omega, Weak.mk (And.intro hsn bq_tt)⟩
  · have h1 : decide ((i : Int) < l.length) = false := by simp only [decide_eq_false_iff_not]; omega
    have h2 : i = l.length := by omega
    subst h2
    rw [List.take_length]
    have hlen : (sortedR l).length = l.length := (sortedR_perm l).length_eq
    (repeat (first | refine SW.seq ?_ | refine SW.block ?_ | (refine SW.regL [0, 2, 3, 4, 5, 9, 26] mixed ?_; (repeat (first | refine RW.ro (h1) (h := ?_) | refine RW.skip (h := ?_) | refine RW.op (h1) (h := ?_) | refine RW.opN (h1) (h := ?_) | refine RW.skip0 (h := ?_) | refine lit1 rfl rfl (h := ?_) | (refine RW.callC (h := ?_); (first | refine CallP.mk (h1) (hc := ahead_at _ _ _) (h := ?_))))); refine RW.nil ⟨by kernel_rfl, Pruned.mk (h := ?_)⟩) | refine SW.skip ?_ | refine SW.exit ?_ | refine SW.ret ?_ | refine SW.condT rfl ?_ | refine SW.condF rfl ?_))
    exact End.mk [] (h4 := ⟨rfl, rfl⟩)
theorem rsorted_at (l : List OpD) (hl : l.length ≤ 1048576) (k : Nat) : SCd Tryd.prog ref11_Sorted.f [ops l] [] k 0 (ops (sortedR l)) [] := (rsorted_ok l hl).sc rfl k
end Go.Proofs.YtnakpdoioammhaaDoor
