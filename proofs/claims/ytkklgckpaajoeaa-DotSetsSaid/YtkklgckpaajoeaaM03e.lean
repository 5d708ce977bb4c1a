/-
  Dots: the laws of ranges, sets and keys.
-/
import Derived.Test.YtkklgckpaajoeaaM03d
set_option linter.unusedSectionVars false
set_option linter.unusedVariables false
set_option linter.unusedSimpArgs false
namespace Go.Proofs.Ytkklgckpaajoeaa
open Go.Sl Go.Proofs
attribute [local irreducible] SW RW SCd SC CallP Pruned

theorem dotRange_len (r a b : Nat) : (dotRange r a b).1.length < 1000000000 := by
  unfold dotRange
  split
  · simp
  · split
    · simp
    · split
      · simp
      · simp; omega
theorem law_range (r a b : Nat) (hr : r < 256) (ha : a < 4294967296) (hb : b < 4294967296) : Go.Sl.Pure Try.prog law03_DotRange.f [u8 r, u32 a, u32 b] (bl true) := by
  refine law03_DotRange.enter (by first | rfl | simp [SV.ok, SV.oks]) (by first | rfl | simp [Hp.ok, Ob.ok, SV.ok, SV.oks, Vec.cells_ok]) (by simp) ?_
  unfold law03_DotRange.s
  (repeat (first | refine SW.seq ?_ | refine SW.block ?_ | (refine SW.regL [0, 1, 2, 6, 7, 8, 9, 10] mixed ?_; (repeat (first | refine RW.ro bq_tt (h := ?_) | refine RW.skip (h := ?_) | refine RW.op bq_tt (h := ?_) | refine RW.opN bq_tt (h := ?_) | refine RW.skip0 (h := ?_) | (refine RW.callC (h := ?_); (first | refine CallP.mk bq_tt (hc := range_at _ _ _ (by first | assumption | omega) (by first | assumption | omega) (by first | assumption | omega) _) (h := ?_) | refine CallP.mk bq_tt (hc := rrange_at _ _ _ (by first | assumption | omega) (by first | assumption | omega) (by first | assumption | omega) _) (h := ?_) | refine CallP.mk bq_tt (hc := same_at _ _ (dotRange_len _ _ _) (dotRange_len _ _ _) _) (h := ?_) | refine CallP.mk bq_tt (hc := head_at _) (h := ?_))))); refine RW.nil ⟨by kernel_rfl, Pruned.mk (h := ?_)⟩) | refine SW.skip ?_ | refine SW.exit ?_ | refine SW.ret ?_ | refine SW.condT rfl ?_ | refine SW.condF rfl ?_))
  exact End.mk [] (h4 := ⟨rfl, rfl⟩)

theorem both_at' (a b : List Dt) (ha : a.length < 10000000) (hb : b.length < 1000000000) (hwa : ∀ x, x ∈ a → x.wf) (k : Nat) : SCd Try.prog ref03_Both.f [dots a, dots b] [] k 0 (dots (Dt.set (a.filter fun d => decide (d ∈ b) == true))) [] := rboth_at a b ha hb hwa k
theorem minus_at' (a b : List Dt) (ha : a.length < 10000000) (hb : b.length < 1000000000) (hwa : ∀ x, x ∈ a → x.wf) (k : Nat) : SCd Try.prog ref03_Minus.f [dots a, dots b] [] k 0 (dots (Dt.set (a.filter fun d => decide (d ∈ b) == false))) [] := rminus_at a b ha hb hwa k
theorem set_len (l : List Dt) : (Dt.set l).length ≤ l.length := by rw [← Dt.setR_eq]; exact Dt.setR_len l

theorem law_sets (a b : List Dt) (hwa : ∀ x, x ∈ a → x.wf) (hwb : ∀ x, x ∈ b → x.wf) : Go.Sl.Pure Try.prog law03_DotSets.f [dots a, dots b] (bl true) := by
  refine law03_DotSets.enter (by first | rfl | simp [SV.ok, SV.oks]) (by first | rfl | simp [Hp.ok, Ob.ok, SV.ok, SV.oks, Vec.cells_ok]) (by simp) ?_
  unfold law03_DotSets.s
  rcases h1 : decide ((a.length : Int) > 60) with _ | _
  rotate_left
  · (repeat (first | refine SW.seq ?_ | refine SW.block ?_ | (refine SW.regL [0, 1, 4, 12] mixed ?_; (repeat (first | refine RW.ro (h1) (h := ?_) | refine RW.skip (h := ?_) | refine RW.op (h1) (h := ?_) | refine RW.opN (h1) (h := ?_) | refine RW.skip0 (h := ?_) | (refine RW.callC (h := ?_); (first | refine CallP.mk (h1) (hc := sort_at a (by first | assumption | omega) _) (h := ?_) | refine CallP.mk (h1) (hc := rsort_at a (by first | assumption | omega) (by first | assumption | omega) _) (h := ?_) | refine CallP.mk (h1) (hc := union_at a b (by first | assumption | omega) (by first | assumption | omega) _) (h := ?_) | refine CallP.mk (h1) (hc := runion_at a b (by first | assumption | omega) (by first | assumption | omega) (by first | assumption | omega) (by first | assumption | omega) _) (h := ?_) | refine CallP.mk (h1) (hc := both_at a b (by first | assumption | omega) (by first | assumption | omega) _) (h := ?_) | refine CallP.mk (h1) (hc := both_at' a b (by first | assumption | omega) (by first | assumption | omega) (by first | assumption | omega) _) (h := ?_) | refine CallP.mk (h1) (hc := minus_at a b (by first | assumption | omega) (by first | assumption | omega) _) (h := ?_) | refine CallP.mk (h1) (hc := minus_at' a b (by first | assumption | omega) (by first | assumption | omega) (by first | assumption | omega) _) (h := ?_) | refine CallP.mk (h1) (hc := same_at _ _ hs0 hs0 _) (h := ?_) | refine CallP.mk (h1) (hc := same_at _ _ hs1 hs1 _) (h := ?_) | refine CallP.mk (h1) (hc := same_at _ _ hs2 hs2 _) (h := ?_) | refine CallP.mk (h1) (hc := same_at _ _ hs3 hs3 _) (h := ?_) | refine CallP.mk (h1) (hc := head_at _) (h := ?_))))); refine RW.nil ⟨by kernel_rfl, Pruned.mk (h := ?_)⟩) | refine SW.skip ?_ | refine SW.exit ?_ | refine SW.ret ?_ | refine SW.condT rfl ?_ | refine SW.condF rfl ?_))
    exact End.mk [] (h4 := ⟨rfl, rfl⟩)
  rcases h2 : decide ((b.length : Int) > 60) with _ | _
  rotate_left
  · (repeat (first | refine SW.seq ?_ | refine SW.block ?_ | (refine SW.regL [0, 1, 4, 12] mixed ?_; (repeat (first | refine RW.ro (And.intro (h1) (h2)) (h := ?_) | refine RW.skip (h := ?_) | refine RW.op (And.intro (h1) (h2)) (h := ?_) | refine RW.opN (And.intro (h1) (h2)) (h := ?_) | refine RW.skip0 (h := ?_) | (refine RW.callC (h := ?_); (first | refine CallP.mk (And.intro (h1) (h2)) (hc := sort_at a (by first | assumption | omega) _) (h := ?_) | refine CallP.mk (And.intro (h1) (h2)) (hc := rsort_at a (by first | assumption | omega) (by first | assumption | omega) _) (h := ?_) | refine CallP.mk (And.intro (h1) (h2)) (hc := union_at a b (by first | assumption | omega) (by first | assumption | omega) _) (h := ?_) | refine CallP.mk (And.intro (h1) (h2)) (hc := runion_at a b (by first | assumption | omega) (by first | assumption | omega) (by first | assumption | omega) (by first | assumption | omega) _) (h := ?_) | refine CallP.mk (And.intro (h1) (h2)) (hc := both_at a b (by first | assumption | omega) (by first | assumption | omega) _) (h := ?_) | refine CallP.mk (And.intro (h1) (h2)) (hc := both_at' a b (by first | assumption | omega) (by first | assumption | omega) (by first | assumption | omega) _) (h := ?_) | refine CallP.mk (And.intro (h1) (h2)) (hc := minus_at a b (by first | assumption | omega) (by first | assumption | omega) _) (h := ?_) | refine CallP.mk (And.intro (h1) (h2)) (hc := minus_at' a b (by first | assumption | omega) (by first | assumption | omega) (by first | assumption | omega) _) (h := ?_) | refine CallP.mk (And.intro (h1) (h2)) (hc := same_at _ _ hs0 hs0 _) (h := ?_) | refine CallP.mk (And.intro (h1) (h2)) (hc := same_at _ _ hs1 hs1 _) (h := ?_) | refine CallP.mk (And.intro (h1) (h2)) (hc := same_at _ _ hs2 hs2 _) (h := ?_) | refine CallP.mk (And.intro (h1) (h2)) (hc := same_at _ _ hs3 hs3 _) (h := ?_) | refine CallP.mk (And.intro (h1) (h2)) (hc := head_at _) (h := ?_))))); refine RW.nil ⟨by kernel_rfl, Pruned.mk (h := ?_)⟩) | refine SW.skip ?_ | refine SW.exit ?_ | refine SW.ret ?_ | refine SW.condT rfl ?_ | refine SW.condF rfl ?_))
    exact End.mk [] (h4 := ⟨rfl, rfl⟩)
  have la : a.length ≤ 60 := by simp only [decide_eq_false_iff_not] at h1; omega
  have lb : b.length ≤ 60 := by simp only [decide_eq_false_iff_not] at h2; omega
  have hs0 : (Dt.set a).length < 1000000000 := by have := set_len a; omega
  have hs1 : (Dt.set (a ++ b)).length < 1000000000 := by have := set_len (a ++ b); simp at this; omega
  have hs2 : (Dt.set (a.filter fun d => decide (d ∈ b) == true)).length < 1000000000 := by
    have h := set_len (a.filter fun d => decide (d ∈ b) == true)
    have := List.length_filter_le (fun d => decide (d ∈ b) == true) a
    omega
  have hs3 : (Dt.set (a.filter fun d => decide (d ∈ b) == false)).length < 1000000000 := by
    have h := set_len (a.filter fun d => decide (d ∈ b) == false)
    have := List.length_filter_le (fun d => decide (d ∈ b) == false) a
    omega
  (repeat (first | refine SW.seq ?_ | refine SW.block ?_ | (refine SW.regL [0, 1, 4, 12] mixed ?_; (repeat (first | refine RW.ro (And.intro (h1) (h2)) (h := ?_) | refine RW.skip (h := ?_) | refine RW.op (And.intro (h1) (h2)) (h := ?_) | refine RW.opN (And.intro (h1) (h2)) (h := ?_) | refine RW.skip0 (h := ?_) | (refine RW.callC (h := ?_); (first | refine CallP.mk (And.intro (h1) (h2)) (hc := sort_at a (by first | assumption | omega) _) (h := ?_) | refine CallP.mk (And.intro (h1) (h2)) (hc := rsort_at a (by first | assumption | omega) (by first | assumption | omega) _) (h := ?_) | refine CallP.mk (And.intro (h1) (h2)) (hc := union_at a b (by first | assumption | omega) (by first | assumption | omega) _) (h := ?_) | refine CallP.mk (And.intro (h1) (h2)) (hc := runion_at a b (by first | assumption | omega) (by first | assumption | omega) (by first | assumption | omega) (by first | assumption | omega) _) (h := ?_) | refine CallP.mk (And.intro (h1) (h2)) (hc := both_at a b (by first | assumption | omega) (by first | assumption | omega) _) (h := ?_) | refine CallP.mk (And.intro (h1) (h2)) (hc := both_at' a b (by first | assumption | omega) (by first | assumption | omega) (by first | assumption | omega) _) (h := ?_) | refine CallP.mk (And.intro (h1) (h2)) (hc := minus_at a b (by first | assumption | omega) (by first | assumption | omega) _) (h := ?_) | refine CallP.mk (And.intro (h1) (h2)) (hc := minus_at' a b (by first | assumption | omega) (by first | assumption | omega) (by first | assumption | omega) _) (h := ?_) | refine CallP.mk (And.intro (h1) (h2)) (hc := same_at _ _ hs0 hs0 _) (h := ?_) | refine CallP.mk (And.intro (h1) (h2)) (hc := same_at _ _ hs1 hs1 _) (h := ?_) | refine CallP.mk (And.intro (h1) (h2)) (hc := same_at _ _ hs2 hs2 _) (h := ?_) | refine CallP.mk (And.intro (h1) (h2)) (hc := same_at _ _ hs3 hs3 _) (h := ?_) | refine CallP.mk (And.intro (h1) (h2)) (hc := head_at _) (h := ?_))))); refine RW.nil ⟨by kernel_rfl, Pruned.mk (h := ?_)⟩) | refine SW.skip ?_ | refine SW.exit ?_ | refine SW.ret ?_ | refine SW.condT rfl ?_ | refine SW.condF rfl ?_))
  exact End.mk [] (h4 := ⟨rfl, rfl⟩)
end Go.Proofs.Ytkklgckpaajoeaa

/-
  Dots: the laws of keys and of the order.
-/
set_option linter.unusedSectionVars false
set_option linter.unusedVariables false
set_option linter.unusedSimpArgs false
namespace Go.Proofs.Ytkklgckpaajoeaa
open Go.Sl Go.Proofs
attribute [local irreducible] SW RW SCd SC CallP Pruned

theorem key_yes {d : Dt} (hd : d.wf) (h : mayB d = true) (k : Nat) : SCd Try.prog dot_Key.f [.agg d.cells] [] k 0 (.tup [.d (.int .u64 (8 * (d.n : Int) + d.r)), .d (.int .i64 0)]) [] := by
  have := key_at d hd k
  rwa [h] at this
theorem key_no {d : Dt} (hd : d.wf) (h : mayB d = false) (k : Nat) : SCd Try.prog dot_Key.f [.agg d.cells] [] k 0 (.tup [.d (.int .u64 0), .d (.int .i64 2)]) [] := by
  have := key_at d hd k
  rwa [h] at this
theorem rkey_yes {d : Dt} (hd : d.wf) (h : mayB d = true) (k : Nat) : SCd Try.prog ref03_Key.f [.agg d.cells] [] k 0 (.tup [.d (.int .u64 (8 * (d.n : Int) + d.r)), .d (.int .i64 0)]) [] := by
  have := (rkey_ok d hd).sc (by split <;> rfl) k
  rwa [h] at this
theorem rkey_no {d : Dt} (hd : d.wf) (h : mayB d = false) (k : Nat) : SCd Try.prog ref03_Key.f [.agg d.cells] [] k 0 (.tup [.d (.int .u64 0), .d (.int .i64 2)]) [] := by
  have := (rkey_ok d hd).sc (by split <;> rfl) k
  rwa [h] at this
theorem mayB_iff (d : Dt) : mayB d = true ↔ d.r < 8 ∧ 0 < d.n := by
  unfold mayB
  simp only [Bool.and_eq_true, decide_eq_true_eq]
  omega
theorem mayB_no (d : Dt) : mayB d = false ↔ ¬ (d.r < 8 ∧ 0 < d.n) := by
  rw [← mayB_iff]; simp
theorem of_key {d : Dt} (hd : d.wf) (h : mayB d = true) (k : Nat) : SCd Try.prog dot_Of.f [.d (.int .u64 (8 * (d.n : Int) + d.r))] [] k 0 (.tup [.agg d.cells, .d (.int .i64 0)]) [] := by
  obtain ⟨h1, h2⟩ := (mayB_iff d).1 h
  have h3 := hd.2
  have := of_at (8 * d.n + d.r) (by omega) k
  have e : ofM (8 * d.n + d.r) = (d, 0) := by
    unfold ofM
    rw [show (8 * d.n + d.r) / 8 = d.n by omega, show (8 * d.n + d.r) % 8 = d.r by omega, if_pos (by omega)]
  rw [e] at this
  exact this
theorem of_zero (k : Nat) : SCd Try.prog dot_Of.f [.d (.int .u64 0)] [] k 0 (.tup [.agg (Dt.mk 0 0).cells, .d (.int .i64 5)]) [] := of_at 0 (by decide) k
theorem of_yes {n : Nat} (hn : n < 18446744073709551616) (h : 1 ≤ n / 8 ∧ n / 8 < 4294967296) (k : Nat) : SCd Try.prog dot_Of.f [.d (.int .u64 (n : Int))] [] k 0 (.tup [.agg (Dt.mk (n % 8) (n / 8)).cells, .d (.int .i64 0)]) [] := by
  have := of_at n hn k
  unfold ofM at this
  rwa [if_pos h] at this
theorem of_no {n : Nat} (hn : n < 18446744073709551616) (h : ¬ (1 ≤ n / 8 ∧ n / 8 < 4294967296)) (k : Nat) : SCd Try.prog dot_Of.f [.d (.int .u64 (n : Int))] [] k 0 (.tup [.agg (Dt.mk 0 0).cells, .d (.int .i64 5)]) [] := by
  have := of_at n hn k
  unfold ofM at this
  rwa [if_neg h] at this
theorem rof_yes {n : Nat} (hn : n < 18446744073709551616) (h : 1 ≤ n / 8 ∧ n / 8 < 4294967296) (k : Nat) : SCd Try.prog ref03_Of.f [.d (.int .u64 (n : Int))] [] k 0 (.tup [.agg (Dt.mk (n % 8) (n / 8)).cells, .d (.int .i64 0)]) [] := by
  have := rof_at n hn k
  unfold ofM at this
  rwa [if_pos h] at this
theorem rof_no {n : Nat} (hn : n < 18446744073709551616) (h : ¬ (1 ≤ n / 8 ∧ n / 8 < 4294967296)) (k : Nat) : SCd Try.prog ref03_Of.f [.d (.int .u64 (n : Int))] [] k 0 (.tup [.agg (Dt.mk 0 0).cells, .d (.int .i64 5)]) [] := by
  have := rof_at n hn k
  unfold ofM at this
  rwa [if_neg h] at this
theorem key_of {n : Nat} (h : 1 ≤ n / 8 ∧ n / 8 < 4294967296) (k : Nat) : SCd Try.prog dot_Key.f [.agg (Dt.mk (n % 8) (n / 8)).cells] [] k 0 (.tup [.d (.int .u64 (n : Int)), .d (.int .i64 0)]) [] := by
  have := key_yes (d := ⟨n % 8, n / 8⟩) ⟨show n % 8 < 256 by omega, h.2⟩ ((mayB_iff _).2 ⟨show n % 8 < 8 by omega, show 0 < n / 8 by omega⟩) k
  rwa [show 8 * (((Dt.mk (n % 8) (n / 8)).n : Nat) : Int) + (((Dt.mk (n % 8) (n / 8)).r : Nat) : Int) = (n : Int) from by show 8 * ((n / 8 : Nat) : Int) + ((n % 8 : Nat) : Int) = n; omega] at this
theorem key_zero (k : Nat) : SCd Try.prog dot_Key.f [.agg (Dt.mk 0 0).cells] [] k 0 (.tup [.d (.int .u64 0), .d (.int .i64 2)]) [] := key_no (d := ⟨0, 0⟩) ⟨by decide, by decide⟩ (by decide) k

set_option maxHeartbeats 4000000 in
theorem law_keys (a b : Dt) (n : Nat) (ha : a.wf) (hb : b.wf) (hn : n < 18446744073709551616) : Go.Sl.Pure Try.prog law03_DotKeys.f [.agg a.cells, .agg b.cells, u64 n] (bl true) := by
  have hmay : ((decide ((a.r : Int) < 8) && decide ((a.n : Int) > 0)) == (decide ((a.r : Int) ≤ 7) && decide ((a.n : Int) ≥ 1))) = true := by
    rw [beq_iff_eq]
    congr 1 <;> (rw [decide_eq_decide]; omega)
  refine law03_DotKeys.enter (by first | rfl | simp [SV.ok, SV.oks]) (by first | rfl | simp [Hp.ok, Ob.ok, SV.ok, SV.oks, Vec.cells_ok]) (by simp) ?_
  unfold law03_DotKeys.s
  rcases hA : mayB a with _ | _ <;> by_cases hK : 1 ≤ n / 8 ∧ n / 8 < 4294967296
  · (repeat (first | refine SW.seq ?_ | refine SW.block ?_ | (refine SW.regL [0, 1, 2, 3, 4, 6, 7, 8, 9, 10, 11, 12, 13, 14, 15, 16, 17, 18, 72] mixed ?_; (repeat (first | refine RW.ro (hmay) (h := ?_) | refine RW.skip (h := ?_) | refine RW.op (hmay) (h := ?_) | refine RW.opN (hmay) (h := ?_) | refine RW.skip0 (h := ?_) | (refine RW.callC (h := ?_); (first | refine CallP.mk (hmay) (hc := key_no ha hA _) (h := ?_) | refine CallP.mk (hmay) (hc := rkey_no ha hA _) (h := ?_) | refine CallP.mk (hmay) (hc := of_yes hn hK _) (h := ?_) | refine CallP.mk (hmay) (hc := rof_yes hn hK _) (h := ?_) | refine CallP.mk (hmay) (hc := may_at a _) (h := ?_) | refine CallP.mk (hmay) (hc := rmay_at a _) (h := ?_) | refine CallP.mk (hmay) (hc := compare_at a b _) (h := ?_) | refine CallP.mk (hmay) (hc := rcompare_at a b ha hb _) (h := ?_) | refine CallP.mk (hmay) (hc := of_zero _) (h := ?_) | refine CallP.mk (hmay) (hc := key_of hK _) (h := ?_) | refine CallP.mk (hmay) (hc := head_at _) (h := ?_))))); refine RW.nil ⟨by kernel_rfl, Pruned.mk (h := ?_)⟩) | refine SW.skip ?_ | refine SW.exit ?_ | refine SW.ret ?_ | refine SW.condT rfl ?_ | refine SW.condF rfl ?_))
    exact End.mk [] (h4 := ⟨rfl, rfl⟩)
  · (repeat (first | refine SW.seq ?_ | refine SW.block ?_ | (refine SW.regL [0, 1, 2, 3, 4, 6, 7, 8, 9, 10, 11, 12, 13, 14, 15, 16, 17, 18, 72] mixed ?_; (repeat (first | refine RW.ro (hmay) (h := ?_) | refine RW.skip (h := ?_) | refine RW.op (hmay) (h := ?_) | refine RW.opN (hmay) (h := ?_) | refine RW.skip0 (h := ?_) | (refine RW.callC (h := ?_); (first | refine CallP.mk (hmay) (hc := key_no ha hA _) (h := ?_) | refine CallP.mk (hmay) (hc := rkey_no ha hA _) (h := ?_) | refine CallP.mk (hmay) (hc := of_no hn hK _) (h := ?_) | refine CallP.mk (hmay) (hc := rof_no hn hK _) (h := ?_) | refine CallP.mk (hmay) (hc := may_at a _) (h := ?_) | refine CallP.mk (hmay) (hc := rmay_at a _) (h := ?_) | refine CallP.mk (hmay) (hc := compare_at a b _) (h := ?_) | refine CallP.mk (hmay) (hc := rcompare_at a b ha hb _) (h := ?_) | refine CallP.mk (hmay) (hc := of_zero _) (h := ?_) | refine CallP.mk (hmay) (hc := key_zero _) (h := ?_) | refine CallP.mk (hmay) (hc := head_at _) (h := ?_))))); refine RW.nil ⟨by kernel_rfl, Pruned.mk (h := ?_)⟩) | refine SW.skip ?_ | refine SW.exit ?_ | refine SW.ret ?_ | refine SW.condT rfl ?_ | refine SW.condF rfl ?_))
    exact End.mk [] (h4 := ⟨rfl, rfl⟩)
  · (repeat (first | refine SW.seq ?_ | refine SW.block ?_ | (refine SW.regL [0, 1, 2, 3, 4, 6, 7, 8, 9, 10, 11, 12, 13, 14, 15, 16, 17, 18, 72] mixed ?_; (repeat (first | refine RW.ro (hmay) (h := ?_) | refine RW.skip (h := ?_) | refine RW.op (hmay) (h := ?_) | refine RW.opN (hmay) (h := ?_) | refine RW.skip0 (h := ?_) | (refine RW.callC (h := ?_); (first | refine CallP.mk (hmay) (hc := key_yes ha hA _) (h := ?_) | refine CallP.mk (hmay) (hc := rkey_yes ha hA _) (h := ?_) | refine CallP.mk (hmay) (hc := of_yes hn hK _) (h := ?_) | refine CallP.mk (hmay) (hc := rof_yes hn hK _) (h := ?_) | refine CallP.mk (hmay) (hc := may_at a _) (h := ?_) | refine CallP.mk (hmay) (hc := rmay_at a _) (h := ?_) | refine CallP.mk (hmay) (hc := compare_at a b _) (h := ?_) | refine CallP.mk (hmay) (hc := rcompare_at a b ha hb _) (h := ?_) | refine CallP.mk (hmay) (hc := of_key ha hA _) (h := ?_) | refine CallP.mk (hmay) (hc := key_of hK _) (h := ?_) | refine CallP.mk (hmay) (hc := head_at _) (h := ?_))))); refine RW.nil ⟨by kernel_rfl, Pruned.mk (h := ?_)⟩) | refine SW.skip ?_ | refine SW.exit ?_ | refine SW.ret ?_ | refine SW.condT rfl ?_ | refine SW.condF rfl ?_))
    exact End.mk [] (h4 := ⟨rfl, rfl⟩)
  · (repeat (first | refine SW.seq ?_ | refine SW.block ?_ | (refine SW.regL [0, 1, 2, 3, 4, 6, 7, 8, 9, 10, 11, 12, 13, 14, 15, 16, 17, 18, 72] mixed ?_; (repeat (first | refine RW.ro (hmay) (h := ?_) | refine RW.skip (h := ?_) | refine RW.op (hmay) (h := ?_) | refine RW.opN (hmay) (h := ?_) | refine RW.skip0 (h := ?_) | (refine RW.callC (h := ?_); (first | refine CallP.mk (hmay) (hc := key_yes ha hA _) (h := ?_) | refine CallP.mk (hmay) (hc := rkey_yes ha hA _) (h := ?_) | refine CallP.mk (hmay) (hc := of_no hn hK _) (h := ?_) | refine CallP.mk (hmay) (hc := rof_no hn hK _) (h := ?_) | refine CallP.mk (hmay) (hc := may_at a _) (h := ?_) | refine CallP.mk (hmay) (hc := rmay_at a _) (h := ?_) | refine CallP.mk (hmay) (hc := compare_at a b _) (h := ?_) | refine CallP.mk (hmay) (hc := rcompare_at a b ha hb _) (h := ?_) | refine CallP.mk (hmay) (hc := of_key ha hA _) (h := ?_) | refine CallP.mk (hmay) (hc := key_zero _) (h := ?_) | refine CallP.mk (hmay) (hc := head_at _) (h := ?_))))); refine RW.nil ⟨by kernel_rfl, Pruned.mk (h := ?_)⟩) | refine SW.skip ?_ | refine SW.exit ?_ | refine SW.ret ?_ | refine SW.condT rfl ?_ | refine SW.condF rfl ?_))
    exact End.mk [] (h4 := ⟨rfl, rfl⟩)
end Go.Proofs.Ytkklgckpaajoeaa

/-
  Dots: the law of the order.
-/
set_option linter.unusedSectionVars false
set_option linter.unusedVariables false
set_option linter.unusedSimpArgs false
namespace Go.Proofs.Ytkklgckpaajoeaa
open Go.Sl Go.Proofs
attribute [local irreducible] SW RW SCd SC CallP Pruned

theorem Dt.cmp_bnd (a b : Dt) : -1 ≤ Dt.cmp a b ∧ Dt.cmp a b ≤ 1 := by
  unfold Dt.cmp cmpZ
  repeat' split
  all_goals omega
set_option maxHeartbeats 4000000 in
theorem law_order (a b c : Dt) (ha : a.wf) (hb : b.wf) : Go.Sl.Pure Try.prog law03_DotOrder.f [.agg a.cells, .agg b.cells, .agg c.cells] (bl true) := by
  have hba := Dt.cmp_bnd b a
  have e1 : IntKind.i64.wrap (-Dt.cmp b a) = -Dt.cmp b a := wrap_i _ (by omega) (by omega)
  have f1 : (Dt.cmp a b != -Dt.cmp b a) = false := by rw [Dt.cmp_swap a b]; simp
  have f2 : ((Dt.cmp a b == 0) == decide (a = b)) = true := by
    have := Dt.cmp_zero a b
    rw [beq_iff_eq, Bool.eq_iff_iff, beq_iff_eq, decide_eq_true_eq]; exact this
  refine law03_DotOrder.enter (by first | rfl | simp [SV.ok, SV.oks]) (by first | rfl | simp [Hp.ok, Ob.ok, SV.ok, SV.oks, Vec.cells_ok]) (by simp) ?_
  unfold law03_DotOrder.s
  refine SW.seq ?_
  (refine SW.regL [0, 1, 2, 3, 4, 5, 6, 7, 8, 9, 10, 46, 62] mixed ?_; (repeat (first | refine RW.ro bq_tt (h := ?_) | refine RW.skip (h := ?_) | refine RW.op bq_tt (h := ?_) | refine RW.opN bq_tt (h := ?_) | refine RW.skip0 (h := ?_) | (refine RW.callC (h := ?_); (first | refine CallP.mk bq_tt (hc := compare_at _ _ _) (h := ?_))))); refine RW.nil ⟨by kernel_rfl, Pruned.mk (h := ?_)⟩)
  refine SW.seq (SW.seq (SW.mono (Q := fun e st' => e = .normal ∧ st' = ⟨[(46, bl false), (6, bl false), (5, .ptr 2 0), (4, .ptr 1 0), (3, .ptr 0 0), (0, .agg a.cells), (1, .agg b.cells), (2, .agg c.cells)], [(2, .box 24 c.cells), (1, .box 24 b.cells), (0, .box 24 a.cells)], 3⟩) ?_ ?_))
  · rcases p1 : decide (Dt.cmp a b ≤ 0) with _ | _
    · (refine SW.regL [0, 1, 2, 3, 4, 5, 6, 7, 8, 9, 10, 46, 62] mixed ?_; (repeat (first | refine RW.ro (And.intro (e1) (And.intro (f1) (And.intro (f2) (p1)))) (h := ?_) | refine RW.skip (h := ?_) | refine RW.op (And.intro (e1) (And.intro (f1) (And.intro (f2) (p1)))) (h := ?_) | refine RW.opN (And.intro (e1) (And.intro (f1) (And.intro (f2) (p1)))) (h := ?_) | refine RW.skip0 (h := ?_) | (refine RW.callC (h := ?_); (first | refine CallP.mk (And.intro (e1) (And.intro (f1) (And.intro (f2) (p1)))) (hc := compare_at _ _ _) (h := ?_))))); refine RW.nil ⟨by kernel_rfl, Pruned.mk (h := ?_)⟩)
      exact ⟨rfl, rfl⟩
    rcases p2 : decide (Dt.cmp b c ≤ 0) with _ | _
    · (refine SW.regL [0, 1, 2, 3, 4, 5, 6, 7, 8, 9, 10, 46, 62] mixed ?_; (repeat (first | refine RW.ro (And.intro (e1) (And.intro (f1) (And.intro (f2) (And.intro (p1) (p2))))) (h := ?_) | refine RW.skip (h := ?_) | refine RW.op (And.intro (e1) (And.intro (f1) (And.intro (f2) (And.intro (p1) (p2))))) (h := ?_) | refine RW.opN (And.intro (e1) (And.intro (f1) (And.intro (f2) (And.intro (p1) (p2))))) (h := ?_) | refine RW.skip0 (h := ?_) | (refine RW.callC (h := ?_); (first | refine CallP.mk (And.intro (e1) (And.intro (f1) (And.intro (f2) (And.intro (p1) (p2))))) (hc := compare_at _ _ _) (h := ?_))))); refine RW.nil ⟨by kernel_rfl, Pruned.mk (h := ?_)⟩)
      exact ⟨rfl, rfl⟩
    · have p3 : decide (Dt.cmp a c > 0) = false := by
        simp only [decide_eq_true_eq, decide_eq_false_iff_not] at *
        have h1 := Dt.cmp_lt a c
        have h2 := Dt.cmp_zero a c
        have h3 := Dt.cmp_lt a b
        have h4 := Dt.cmp_zero a b
        have h5 := Dt.cmp_lt b c
        have h6 := Dt.cmp_zero b c
        intro h
        have n1 : ¬ Dt.cmp a c < 0 := by omega
        have n2 : ¬ Dt.cmp a c = 0 := by omega
        rw [h1] at n1
        rw [h2] at n2
        have q1 : Dt.cmp a b < 0 ∨ Dt.cmp a b = 0 := by omega
        have q2 : Dt.cmp b c < 0 ∨ Dt.cmp b c = 0 := by omega
        rw [h3, h4] at q1
        rw [h5, h6] at q2
        rcases q1 with q1 | rfl <;> rcases q2 with q2 | rfl
        · omega
        · exact n1 q1
        · exact n1 q2
        · exact n2 rfl
      (refine SW.regL [0, 1, 2, 3, 4, 5, 6, 7, 8, 9, 10, 46, 62] mixed ?_; (repeat (first | refine RW.ro (And.intro (e1) (And.intro (f1) (And.intro (f2) (And.intro (p1) (And.intro (p2) (p3)))))) (h := ?_) | refine RW.skip (h := ?_) | refine RW.op (And.intro (e1) (And.intro (f1) (And.intro (f2) (And.intro (p1) (And.intro (p2) (p3)))))) (h := ?_) | refine RW.opN (And.intro (e1) (And.intro (f1) (And.intro (f2) (And.intro (p1) (And.intro (p2) (p3)))))) (h := ?_) | refine RW.skip0 (h := ?_) | (refine RW.callC (h := ?_); (first | refine CallP.mk (And.intro (e1) (And.intro (f1) (And.intro (f2) (And.intro (p1) (And.intro (p2) (p3)))))) (hc := compare_at _ _ _) (h := ?_))))); refine RW.nil ⟨by kernel_rfl, Pruned.mk (h := ?_)⟩)
      exact ⟨rfl, rfl⟩
  rintro _ _ ⟨rfl, rfl⟩
  refine SW.condF rfl (SW.skip ?_)
  rcases hA : mayB a with _ | _
  · have ka := key_no ha hA
    rcases hB : mayB b with _ | _
    · have kb := key_no hb hB
      (repeat (first | refine SW.seq ?_ | refine SW.block ?_ | (refine SW.regL [0, 1, 2, 3, 4, 5, 6, 7, 8, 9, 10, 46, 62] mixed ?_; (repeat (first | refine RW.ro bq_tt (h := ?_) | refine RW.skip (h := ?_) | refine RW.op bq_tt (h := ?_) | refine RW.opN bq_tt (h := ?_) | refine RW.skip0 (h := ?_) | (refine RW.callC (h := ?_); (first | refine CallP.mk bq_tt (hc := ka _) (h := ?_) | refine CallP.mk bq_tt (hc := kb _) (h := ?_) | refine CallP.mk bq_tt (hc := head_at _) (h := ?_))))); refine RW.nil ⟨by kernel_rfl, Pruned.mk (h := ?_)⟩) | refine SW.skip ?_ | refine SW.exit ?_ | refine SW.ret ?_ | refine SW.condT rfl ?_ | refine SW.condF rfl ?_))
      exact End.mk [] (h4 := ⟨rfl, rfl⟩)
    · have kb := key_yes hb hB
      (repeat (first | refine SW.seq ?_ | refine SW.block ?_ | (refine SW.regL [0, 1, 2, 3, 4, 5, 6, 7, 8, 9, 10, 46, 62] mixed ?_; (repeat (first | refine RW.ro bq_tt (h := ?_) | refine RW.skip (h := ?_) | refine RW.op bq_tt (h := ?_) | refine RW.opN bq_tt (h := ?_) | refine RW.skip0 (h := ?_) | (refine RW.callC (h := ?_); (first | refine CallP.mk bq_tt (hc := ka _) (h := ?_) | refine CallP.mk bq_tt (hc := kb _) (h := ?_) | refine CallP.mk bq_tt (hc := head_at _) (h := ?_))))); refine RW.nil ⟨by kernel_rfl, Pruned.mk (h := ?_)⟩) | refine SW.skip ?_ | refine SW.exit ?_ | refine SW.ret ?_ | refine SW.condT rfl ?_ | refine SW.condF rfl ?_))
      exact End.mk [] (h4 := ⟨rfl, rfl⟩)
  have ka := key_yes ha hA
  rcases hB : mayB b with _ | _
  · have kb := key_no hb hB
    (repeat (first | refine SW.seq ?_ | refine SW.block ?_ | (refine SW.regL [0, 1, 2, 3, 4, 5, 6, 7, 8, 9, 10, 46, 62] mixed ?_; (repeat (first | refine RW.ro bq_tt (h := ?_) | refine RW.skip (h := ?_) | refine RW.op bq_tt (h := ?_) | refine RW.opN bq_tt (h := ?_) | refine RW.skip0 (h := ?_) | (refine RW.callC (h := ?_); (first | refine CallP.mk bq_tt (hc := ka _) (h := ?_) | refine CallP.mk bq_tt (hc := kb _) (h := ?_) | refine CallP.mk bq_tt (hc := head_at _) (h := ?_))))); refine RW.nil ⟨by kernel_rfl, Pruned.mk (h := ?_)⟩) | refine SW.skip ?_ | refine SW.exit ?_ | refine SW.ret ?_ | refine SW.condT rfl ?_ | refine SW.condF rfl ?_))
    exact End.mk [] (h4 := ⟨rfl, rfl⟩)
  have kb := key_yes hb hB
  obtain ⟨a1, a2⟩ := (mayB_iff a).1 hA
  obtain ⟨b1, b2⟩ := (mayB_iff b).1 hB
  have g1 : ((8 * (a.n : Int) + a.r == 8 * (b.n : Int) + b.r) == decide (a = b)) = true := by
    rw [beq_iff_eq, Bool.eq_iff_iff, beq_iff_eq, decide_eq_true_eq]
    obtain ⟨ar, an⟩ := a
    obtain ⟨br, bn⟩ := b
    simp only [Dt.mk.injEq] at *
    omega
  rcases hr : ((a.r : Int) != b.r) with _ | _
  · have g2 : (decide (8 * (a.n : Int) + a.r < 8 * (b.n : Int) + b.r) == decide (Dt.cmp a b < 0)) = true := by
      rw [beq_iff_eq, decide_eq_decide, Dt.cmp_lt]
      have : (a.r : Int) = b.r := by simpa using hr
      omega
    (repeat (first | refine SW.seq ?_ | refine SW.block ?_ | (refine SW.regL [0, 1, 2, 3, 4, 5, 6, 7, 8, 9, 10, 46, 62] mixed ?_; (repeat (first | refine RW.ro (And.intro (g1) (And.intro (g2) (hr))) (h := ?_) | refine RW.skip (h := ?_) | refine RW.op (And.intro (g1) (And.intro (g2) (hr))) (h := ?_) | refine RW.opN (And.intro (g1) (And.intro (g2) (hr))) (h := ?_) | refine RW.skip0 (h := ?_) | (refine RW.callC (h := ?_); (first | refine CallP.mk (And.intro (g1) (And.intro (g2) (hr))) (hc := ka _) (h := ?_) | refine CallP.mk (And.intro (g1) (And.intro (g2) (hr))) (hc := kb _) (h := ?_) | refine CallP.mk (And.intro (g1) (And.intro (g2) (hr))) (hc := head_at _) (h := ?_) | refine CallP.mk (And.intro (g1) (And.intro (g2) (hr))) (hc := compare_at _ _ _) (h := ?_))))); refine RW.nil ⟨by kernel_rfl, Pruned.mk (h := ?_)⟩) | refine SW.skip ?_ | refine SW.exit ?_ | refine SW.ret ?_ | refine SW.condT rfl ?_ | refine SW.condF rfl ?_))
    exact End.mk [] (h4 := ⟨rfl, rfl⟩)
  · (repeat (first | refine SW.seq ?_ | refine SW.block ?_ | (refine SW.regL [0, 1, 2, 3, 4, 5, 6, 7, 8, 9, 10, 46, 62] mixed ?_; (repeat (first | refine RW.ro (And.intro (g1) (hr)) (h := ?_) | refine RW.skip (h := ?_) | refine RW.op (And.intro (g1) (hr)) (h := ?_) | refine RW.opN (And.intro (g1) (hr)) (h := ?_) | refine RW.skip0 (h := ?_) | (refine RW.callC (h := ?_); (first | refine CallP.mk (And.intro (g1) (hr)) (hc := ka _) (h := ?_) | refine CallP.mk (And.intro (g1) (hr)) (hc := kb _) (h := ?_) | refine CallP.mk (And.intro (g1) (hr)) (hc := head_at _) (h := ?_) | refine CallP.mk (And.intro (g1) (hr)) (hc := compare_at _ _ _) (h := ?_))))); refine RW.nil ⟨by kernel_rfl, Pruned.mk (h := ?_)⟩) | refine SW.skip ?_ | refine SW.exit ?_ | refine SW.ret ?_ | refine SW.condT rfl ?_ | refine SW.condF rfl ?_))
    exact End.mk [] (h4 := ⟨rfl, rfl⟩)
end Go.Proofs.Ytkklgckpaajoeaa

/-
  Dots: the law of sets' sums.
-/
set_option linter.unusedSectionVars false
set_option linter.unusedVariables false
set_option linter.unusedSimpArgs false
namespace Go.Proofs.Ytkklgckpaajoeaa
open Go.Sl Go.Proofs
attribute [local irreducible] SW RW SCd SC CallP Pruned

theorem Dt.set_filter (l : List Dt) (p : Dt → Bool) : Dt.set (l.filter p) = (Dt.set l).filter p :=
  Dt.rises_unique (Dt.set_rises _) (List.Pairwise.filter p (Dt.set_rises l)) fun d => by simp [Dt.mem_set]
theorem filter_parts {α : Type} (p q : α → Bool) (h : ∀ x, q x = !p x) : ∀ l : List α, (l.filter p).length + (l.filter q).length = l.length
  | [] => rfl
  | x :: l => by
    have := filter_parts p q h l
    simp only [List.filter_cons, h x]
    cases p x <;> simp <;> omega
/-- Those in both; those in the first alone. -/
def inBoth (a b : List Dt) : List Dt := Dt.set (a.filter fun d => decide (d ∈ b) == true)
def inOne (a b : List Dt) : List Dt := Dt.set (a.filter fun d => decide (d ∈ b) == false)
theorem mem_inBoth {a b : List Dt} {d : Dt} : d ∈ inBoth a b ↔ d ∈ a ∧ d ∈ b := by unfold inBoth; rw [Dt.mem_set]; simp
theorem mem_inOne {a b : List Dt} {d : Dt} : d ∈ inOne a b ↔ d ∈ a ∧ d ∉ b := by unfold inOne; rw [Dt.mem_set]; simp
theorem parts_len (a b : List Dt) : (inBoth a b).length + (inOne a b).length = (Dt.set a).length := by
  unfold inBoth inOne
  rw [Dt.set_filter, Dt.set_filter]
  exact filter_parts _ _ (fun x => by cases decide (x ∈ b) <;> rfl) _
theorem inBoth_len (a b : List Dt) : (inBoth a b).length ≤ a.length := Nat.le_trans (set_len _) (List.length_filter_le _ _)
theorem inOne_len (a b : List Dt) : (inOne a b).length ≤ a.length := Nat.le_trans (set_len _) (List.length_filter_le _ _)

section
variable (a b : List Dt) (la : a.length ≤ 300) (lb : b.length ≤ 300)
include la lb
theorem hu1 (k : Nat) : SCd Try.prog dot_Union.f [dots (inBoth a b), dots (inOne a b)] [] k 0 (dots (Dt.set a)) [] := by
  have h := union_at (inBoth a b) (inOne a b) (by have := inBoth_len a b; omega) (by have := inOne_len a b; omega) k
  rwa [Dt.rises_unique (Dt.set_rises (inBoth a b ++ inOne a b)) (Dt.set_rises a) fun d => by
    rw [Dt.mem_set, Dt.mem_set, List.mem_append, mem_inBoth, mem_inOne]
    by_cases h : d ∈ b <;> simp [h]] at h
theorem hu2 (k : Nat) : SCd Try.prog dot_Union.f [dots (inOne a b), dots b] [] k 0 (dots (Dt.set (a ++ b))) [] := by
  have h := union_at (inOne a b) b (by have := inOne_len a b; omega) (by omega) k
  rwa [Dt.rises_unique (Dt.set_rises (inOne a b ++ b)) (Dt.set_rises (a ++ b)) fun d => by
    rw [Dt.mem_set, Dt.mem_set, List.mem_append, List.mem_append, mem_inOne]
    by_cases h : d ∈ b <;> simp [h]] at h
theorem hu3 (k : Nat) : SCd Try.prog dot_Union.f [dots b, dots a] [] k 0 (dots (Dt.set (a ++ b))) [] := by
  have h := union_at b a (by omega) (by omega) k
  rwa [Dt.rises_unique (Dt.set_rises (b ++ a)) (Dt.set_rises (a ++ b)) fun d => by
    rw [Dt.mem_set, Dt.mem_set, List.mem_append, List.mem_append, or_comm]] at h
theorem hb1 (k : Nat) : SCd Try.prog dot_Both.f [dots b, dots a] [] k 0 (dots (inBoth a b)) [] := by
  have h := both_at b a (by omega) (by omega) k
  rwa [Dt.rises_unique (Dt.set_rises (b.filter fun d => decide (d ∈ a) == true)) (show Dt.rises (inBoth a b) from Dt.set_rises _) fun d => by
    rw [Dt.mem_set, mem_inBoth]; simp [and_comm]] at h
theorem hso2 (k : Nat) : SCd Try.prog dot_Sort.f [dots (Dt.set (a ++ b))] [] k 0 (dots (Dt.set (a ++ b))) [] := by
  have h := sort_at (Dt.set (a ++ b)) (by have := set_len (a ++ b); simp at this; omega) k
  rwa [Dt.set_of (Dt.set_rises (a ++ b)) fun d => Iff.rfl] at h
theorem hb2 (k : Nat) : SCd Try.prog dot_Both.f [dots (inOne a b), dots b] [] k 0 (dots []) [] := by
  have h := both_at (inOne a b) b (by have := inOne_len a b; omega) (by omega) k
  rwa [Dt.set_of (m := []) List.Pairwise.nil fun d => by simp [mem_inOne]] at h
end

set_option maxHeartbeats 4000000 in
theorem law_sums (a b : List Dt) : Go.Sl.Pure Try.prog law03_DotSums.f [dots a, dots b] (bl true) := by
  refine law03_DotSums.enter (by first | rfl | simp [SV.ok, SV.oks]) (by first | rfl | simp [Hp.ok, Ob.ok, SV.ok, SV.oks, Vec.cells_ok]) (by simp) ?_
  unfold law03_DotSums.s
  rcases h1 : decide ((a.length : Int) > 300) with _ | _
  rotate_left
  · (repeat (first | refine SW.seq ?_ | refine SW.block ?_ | (refine SW.regL [0, 1, 4, 5, 6, 7, 8, 9, 17, 33, 46] mixed ?_; (repeat (first | refine RW.ro (h1) (h := ?_) | refine RW.skip (h := ?_) | refine RW.op (h1) (h := ?_) | refine RW.opN (h1) (h := ?_) | refine RW.skip0 (h := ?_) | (refine RW.callC (h := ?_); (first | refine CallP.mk (h1) (hc := sort_at a (by first | assumption | omega) _) (h := ?_) | refine CallP.mk (h1) (hc := union_at a b (by first | assumption | omega) (by first | assumption | omega) _) (h := ?_) | refine CallP.mk (h1) (hc := both_at a b (by first | assumption | omega) (by first | assumption | omega) _) (h := ?_) | refine CallP.mk (h1) (hc := minus_at a b (by first | assumption | omega) (by first | assumption | omega) _) (h := ?_) | refine CallP.mk (h1) (hc := head_at _) (h := ?_))))); refine RW.nil ⟨by kernel_rfl, Pruned.mk (h := ?_)⟩) | refine SW.skip ?_ | refine SW.exit ?_ | refine SW.ret ?_ | refine SW.condT rfl ?_ | refine SW.condF rfl ?_))
    exact End.mk [] (h4 := ⟨rfl, rfl⟩)
  rcases h2 : decide ((b.length : Int) > 300) with _ | _
  rotate_left
  · (repeat (first | refine SW.seq ?_ | refine SW.block ?_ | (refine SW.regL [0, 1, 4, 5, 6, 7, 8, 9, 17, 33, 46] mixed ?_; (repeat (first | refine RW.ro (And.intro (h1) (h2)) (h := ?_) | refine RW.skip (h := ?_) | refine RW.op (And.intro (h1) (h2)) (h := ?_) | refine RW.opN (And.intro (h1) (h2)) (h := ?_) | refine RW.skip0 (h := ?_) | (refine RW.callC (h := ?_); (first | refine CallP.mk (And.intro (h1) (h2)) (hc := sort_at a (by first | assumption | omega) _) (h := ?_) | refine CallP.mk (And.intro (h1) (h2)) (hc := union_at a b (by first | assumption | omega) (by first | assumption | omega) _) (h := ?_) | refine CallP.mk (And.intro (h1) (h2)) (hc := both_at a b (by first | assumption | omega) (by first | assumption | omega) _) (h := ?_) | refine CallP.mk (And.intro (h1) (h2)) (hc := minus_at a b (by first | assumption | omega) (by first | assumption | omega) _) (h := ?_) | refine CallP.mk (And.intro (h1) (h2)) (hc := head_at _) (h := ?_))))); refine RW.nil ⟨by kernel_rfl, Pruned.mk (h := ?_)⟩) | refine SW.skip ?_ | refine SW.exit ?_ | refine SW.ret ?_ | refine SW.condT rfl ?_ | refine SW.condF rfl ?_))
    exact End.mk [] (h4 := ⟨rfl, rfl⟩)
  have la : a.length ≤ 300 := by simp only [decide_eq_false_iff_not] at h1; omega
  have lb : b.length ≤ 300 := by simp only [decide_eq_false_iff_not] at h2; omega
  have lu : (Dt.set (a ++ b)).length ≤ 600 := by have := set_len (a ++ b); simp at this; omega
  refine SW.seq ?_
  (refine SW.regL [0, 1, 4, 5, 6, 7, 8, 9, 17, 33, 46] mixed ?_; (repeat (first | refine RW.ro bq_tt (h := ?_) | refine RW.skip (h := ?_) | refine RW.op bq_tt (h := ?_) | refine RW.opN bq_tt (h := ?_) | refine RW.skip0 (h := ?_) | (refine RW.callC (h := ?_); (first | refine CallP.mk bq_tt (hc := sort_at a (by first | assumption | omega) _) (h := ?_) | refine CallP.mk bq_tt (hc := union_at a b (by first | assumption | omega) (by first | assumption | omega) _) (h := ?_) | refine CallP.mk bq_tt (hc := both_at a b (by first | assumption | omega) (by first | assumption | omega) _) (h := ?_) | refine CallP.mk bq_tt (hc := minus_at a b (by first | assumption | omega) (by first | assumption | omega) _) (h := ?_) | refine CallP.mk bq_tt (hc := head_at _) (h := ?_))))); refine RW.nil ⟨by kernel_rfl, Pruned.mk (h := ?_)⟩)
  refine SW.seq (SW.seq ?_)
  (refine SW.regL [0, 1, 4, 5, 6, 7, 8, 9, 17, 33, 46] mixed ?_; (repeat (first | refine RW.ro (And.intro (h1) (h2)) (h := ?_) | refine RW.skip (h := ?_) | refine RW.op (And.intro (h1) (h2)) (h := ?_) | refine RW.opN (And.intro (h1) (h2)) (h := ?_) | refine RW.skip0 (h := ?_) | (refine RW.callC (h := ?_); (first | refine CallP.mk (And.intro (h1) (h2)) (hc := sort_at a (by first | assumption | omega) _) (h := ?_) | refine CallP.mk (And.intro (h1) (h2)) (hc := union_at a b (by first | assumption | omega) (by first | assumption | omega) _) (h := ?_) | refine CallP.mk (And.intro (h1) (h2)) (hc := both_at a b (by first | assumption | omega) (by first | assumption | omega) _) (h := ?_) | refine CallP.mk (And.intro (h1) (h2)) (hc := minus_at a b (by first | assumption | omega) (by first | assumption | omega) _) (h := ?_) | refine CallP.mk (And.intro (h1) (h2)) (hc := head_at _) (h := ?_))))); refine RW.nil ⟨by kernel_rfl, Pruned.mk (h := ?_)⟩)
  refine SW.condF rfl (SW.skip ?_)
  refine SW.seq ?_
  (refine SW.regL [0, 1, 4, 5, 6, 7, 8, 9, 17, 33, 46] mixed ?_; (repeat (first | refine RW.ro bq_tt (h := ?_) | refine RW.skip (h := ?_) | refine RW.op bq_tt (h := ?_) | refine RW.opN bq_tt (h := ?_) | refine RW.skip0 (h := ?_) | (refine RW.callC (h := ?_); (first | refine CallP.mk bq_tt (hc := sort_at a (by first | assumption | omega) _) (h := ?_) | refine CallP.mk bq_tt (hc := union_at a b (by first | assumption | omega) (by first | assumption | omega) _) (h := ?_) | refine CallP.mk bq_tt (hc := both_at a b (by first | assumption | omega) (by first | assumption | omega) _) (h := ?_) | refine CallP.mk bq_tt (hc := minus_at a b (by first | assumption | omega) (by first | assumption | omega) _) (h := ?_) | refine CallP.mk bq_tt (hc := head_at _) (h := ?_))))); refine RW.nil ⟨by kernel_rfl, Pruned.mk (h := ?_)⟩)
  refine SW.seq (SW.seq ?_)
  (refine SW.regL [0, 1, 4, 5, 6, 7, 8, 9, 17, 33, 46] mixed ?_; (repeat (first | refine RW.ro bq_tt (h := ?_) | refine RW.skip (h := ?_) | refine RW.op bq_tt (h := ?_) | refine RW.opN bq_tt (h := ?_) | refine RW.skip0 (h := ?_) | (refine RW.callC (h := ?_); (first | refine CallP.mk bq_tt (hc := sort_at a (by first | assumption | omega) _) (h := ?_) | refine CallP.mk bq_tt (hc := union_at a b (by first | assumption | omega) (by first | assumption | omega) _) (h := ?_) | refine CallP.mk bq_tt (hc := both_at a b (by first | assumption | omega) (by first | assumption | omega) _) (h := ?_) | refine CallP.mk bq_tt (hc := minus_at a b (by first | assumption | omega) (by first | assumption | omega) _) (h := ?_) | refine CallP.mk bq_tt (hc := head_at _) (h := ?_))))); refine RW.nil ⟨by kernel_rfl, Pruned.mk (h := ?_)⟩)
  refine SW.block ?_
  refine SW.loopA (α := {i : Nat // 1 ≤ i ∧ i ≤ max 1 (Dt.set (a ++ b)).length}) (fun i => ⟨[(9, i64 i.1), (0, dots a), (1, dots b), (5, dots (Dt.set a)), (6, dots (Dt.set (a ++ b))), (7, dots (inBoth a b)), (8, dots (inOne a b))], [], 0⟩) (fun i => 601 - i.1) ⟨1, by omega⟩ id (And.intro (show inBoth a b = Dt.set (a.filter fun d => decide (d ∈ b) == true) from rfl) (show inOne a b = Dt.set (a.filter fun d => decide (d ∈ b) == false) from rfl)) (round := ?_)
  rintro ⟨i, hi1, hi⟩
  by_cases h : i < (Dt.set (a ++ b)).length
  · obtain ⟨x, hx⟩ := get_of_lt h
    obtain ⟨y, hy⟩ := get_of_lt (show i - 1 < (Dt.set (a ++ b)).length by omega)
    have h3 : decide ((i : Int) < ((Dt.set (a ++ b)).length : Int)) = true := by simp only [decide_eq_true_eq]; omega
    have e1 : (i : Int) - 1 = ((i - 1 : Nat) : Int) := by omega
    have h4 : (Dt.cmp y x != -1) = false := by
      have h5 := List.pairwise_iff_getElem.1 (Dt.set_rises (a ++ b)) (i - 1) i (by omega) h (by omega)
      rw [(List.getElem?_eq_some_iff.1 hx).2, (List.getElem?_eq_some_iff.1 hy).2] at h5
      have h6 : -1 ≤ Dt.cmp y x := by
        unfold Dt.cmp cmpZ
        repeat' split
        all_goals omega
      have : Dt.cmp y x = -1 := by omega
      rw [this]; rfl
    (repeat (first | refine SW.seq ?_ | refine SW.block ?_ | (refine SW.regL [0, 1, 4, 5, 6, 7, 8, 9, 17, 33, 46] mixed ?_; (repeat (first | refine RW.ro (And.intro (h3) (And.intro (e1) (And.intro (dot_at hx) (And.intro (dot_at hy) (h4))))) (h := ?_) | refine RW.skip (h := ?_) | refine RW.op (And.intro (h3) (And.intro (e1) (And.intro (dot_at hx) (And.intro (dot_at hy) (h4))))) (h := ?_) | refine RW.opN (And.intro (h3) (And.intro (e1) (And.intro (dot_at hx) (And.intro (dot_at hy) (h4))))) (h := ?_) | refine RW.skip0 (h := ?_) | (refine RW.callC (h := ?_); (first | refine CallP.mk (And.intro (h3) (And.intro (e1) (And.intro (dot_at hx) (And.intro (dot_at hy) (h4))))) (hc := compare_at _ _ _) (h := ?_))))); refine RW.nil ⟨by kernel_rfl, Pruned.mk (h := ?_)⟩) | refine SW.skip ?_ | refine SW.exit ?_ | refine SW.ret ?_ | refine SW.condT rfl ?_ | refine SW.condF rfl ?_))
    exact ⟨⟨i + 1, by omega, by omega⟩, id, by simp; omega, Weak.mk bq_tt⟩
  · have h3 : decide ((i : Int) < ((Dt.set (a ++ b)).length : Int)) = false := by simp only [decide_eq_false_iff_not]; omega
    have hba := inBoth_len a b
    have hoa := inOne_len a b
    have hsa := set_len a
    have e2 : (((inBoth a b).length + (inOne a b).length : Nat) : Int) == ((Dt.set a).length : Int) := by rw [parts_len]; simp
    have s1 : (Dt.set a).length < 1000000000 := by omega
    have s2 : (Dt.set (a ++ b)).length < 1000000000 := by omega
    have s3 : (inBoth a b).length < 1000000000 := by omega
    (repeat (first | refine SW.seq ?_ | refine SW.block ?_ | (refine SW.regL [0, 1, 4, 5, 6, 7, 8, 9, 17, 33, 46] mixed ?_; (repeat (first | refine RW.ro (And.intro (h3) (e2)) (h := ?_) | refine RW.skip (h := ?_) | refine RW.op (And.intro (h3) (e2)) (h := ?_) | refine RW.opN (And.intro (h3) (e2)) (h := ?_) | refine RW.skip0 (h := ?_) | (refine RW.callC (h := ?_); (first | refine CallP.mk (And.intro (h3) (e2)) (hc := hu1 a b la lb _) (h := ?_) | refine CallP.mk (And.intro (h3) (e2)) (hc := hu2 a b la lb _) (h := ?_) | refine CallP.mk (And.intro (h3) (e2)) (hc := hu3 a b la lb _) (h := ?_) | refine CallP.mk (And.intro (h3) (e2)) (hc := hb1 a b la lb _) (h := ?_) | refine CallP.mk (And.intro (h3) (e2)) (hc := hso2 a b la lb _) (h := ?_) | refine CallP.mk (And.intro (h3) (e2)) (hc := hb2 a b la lb _) (h := ?_) | refine CallP.mk (And.intro (h3) (e2)) (hc := same_at _ _ s1 s1 _) (h := ?_) | refine CallP.mk (And.intro (h3) (e2)) (hc := same_at _ _ s2 s2 _) (h := ?_) | refine CallP.mk (And.intro (h3) (e2)) (hc := same_at _ _ s3 s3 _) (h := ?_) | refine CallP.mk (And.intro (h3) (e2)) (hc := head_at _) (h := ?_))))); refine RW.nil ⟨by kernel_rfl, Pruned.mk (h := ?_)⟩) | refine SW.skip ?_ | refine SW.exit ?_ | refine SW.ret ?_ | refine SW.condT rfl ?_ | refine SW.condF rfl ?_))
    exact End.mk [] (h4 := ⟨rfl, rfl⟩)
end Go.Proofs.Ytkklgckpaajoeaa
