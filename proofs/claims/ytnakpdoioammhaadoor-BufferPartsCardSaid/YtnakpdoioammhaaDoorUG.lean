/-
  Buffers: in two rows, or at once.
-/
import Derived.Test.YtnakpdoioammhaaDoorUF
set_option linter.unusedSectionVars false
set_option linter.unusedVariables false
set_option linter.unusedSimpArgs false
namespace Go.Proofs.YtnakpdoioammhaaDoor
open Go.Sl Go.Proofs
attribute [local irreducible] SW RW SCd SC CallP Pruned
theorem ops_fm_take : ∀ (l : List OpD) (i : Nat), (l.flatMap OpD.ds).take (i * 29) = (l.take i).flatMap OpD.ds
  | [], i => by simp
  | x :: l, 0 => by simp
  | x :: l, i + 1 => by
    have := ops_fm_take l i
    rw [List.take_succ_cons, List.flatMap_cons, List.flatMap_cons, List.take_append, ← this, OpD.ds_len, show (i + 1) * 29 - 29 = i * 29 by omega, List.take_of_length_le (by rw [OpD.ds_len]; omega)]
theorem ops_fm_drop : ∀ (l : List OpD) (i : Nat), (l.flatMap OpD.ds).drop (i * 29) = (l.drop i).flatMap OpD.ds
  | [], i => by simp
  | x :: l, 0 => by simp
  | x :: l, i + 1 => by
    have := ops_fm_drop l i
    rw [List.drop_succ_cons, ← this, List.flatMap_cons, List.drop_append]
    rw [show (i + 1) * 29 - x.ds.length = i * 29 by rw [OpD.ds_len]; omega, List.drop_of_length_le (by rw [OpD.ds_len]; omega)]
    rfl
theorem ops_pre (l : List OpD) {i : Nat} (h : i ≤ l.length) : ops (l.take i) = .d (.sl i (List.take (i * 29) (l.flatMap OpD.ds))) := by
  unfold ops
  rw [ops_fm_take, List.length_take, Nat.min_eq_left h]
theorem ops_suf (l : List OpD) (i : Nat) : ops (l.drop i) = .d (.sl (l.length - i) (List.take ((l.length - i) * 29) (List.drop (i * 29) (l.flatMap OpD.ds)))) := by
  unfold ops
  rw [ops_fm_drop, List.length_drop, List.take_of_length_le]
  rw [ops_len]; simp
theorem uniq_snoc {t : List OpD} {x : OpD} (h : Uniq t) (hx : ∀ y, y ∈ t → y.dot ≠ x.dot) : Uniq (t ++ [x]) :=
  uniq_app h (by simp [Uniq]) fun a b ha hb => by simp at hb; rw [hb]; exact hx a ha
theorem drained_len {S x L : List OpD} {h h0 : Vec} (hx : Drained S h0 (x, h, L)) : x.length ≤ S.length := hx.nd.nd.length_le_of_subset fun o ho => ((hx.mem o).1 ho).1
theorem drained_cast {S T : List OpD} {h0 : Vec} {r : List OpD × Vec × List OpD} (e : S = T) (h : Drained S h0 r) : Drained T h0 r := by rw [← e]; exact h
theorem any_part {n : Nat} {l : List OpD} (k : Nat) (h : l.any (badF n) = false) : (l.take k).any (badF n) = false ∧ (l.drop k).any (badF n) = false := by
  rw [← List.take_append_drop k l, List.any_append, Bool.or_eq_false_iff] at h
  exact h
theorem any_part' {n : Nat} {l : List OpD} (k : Nat) (h : l.any (badF n) = true) (h1 : (l.take k).any (badF n) = false) : (l.drop k).any (badF n) = true := by
  rw [← List.take_append_drop k l, List.any_append, h1, Bool.false_or] at h
  exact h
abbrev twoH (m : Nat) : Hp := [(5, .box 58 (bfc m Vec.zero 4)), (4, .map [] 0), (2, .box 58 (bfc m Vec.zero 1)), (1, .map [] 0)]
set_option maxRecDepth 100000 in
set_option maxHeartbeats 16000000 in
theorem law_parts11 (n : Int) (hn : -9223372036854775808 ≤ n) (hn2 : n ≤ 9223372036854775807) (l : List OpD) (hl : RowR l) (cut : Nat) (hcut : cut < 256) : Go.Sl.Pure Tryd.prog law11_BufferParts.f [i64 n, ops l, u8 cut] (bl true) := by
  have hlen := hl.len
  refine law11_BufferParts.enter (by first | rfl | simp [SV.ok, SV.oks]) (by first | rfl | simp [Hp.ok, Ob.ok, SV.ok, SV.oks, Vec.cells_ok]) (by simp) ?_
  dsimp only [law11_BufferParts.s, Co.M, Co.G, Co.J, Co.H, Co.N, Co.F, Co.C, Co.Z, Co.B, Co.b8, Co.b32, Co.b64, Co.i6, Co.z8, Co.z29]
  have hg := fun k => great11_at l k
  refine SW.seq ?_
  (refine SW.regL [0, 1, 2, 6, 7, 8, 9, 11, 12, 13, 14, 15, 16, 17, 18, 19, 45, 62, 67, 80, 111] mixed ?_; (repeat (first | refine RW.ro bq_tt (h := ?_) | refine RW.skip (h := ?_) | refine RW.op bq_tt (h := ?_) | refine RW.opN bq_tt (h := ?_) | refine RW.skip0 (h := ?_))); refine RW.nil ⟨conf_of (by kernel_rfl), Pruned.mk (h := ?_)⟩)
  by_cases hv : n < 1 ∨ 8 < n
  · have n1 := fun k => newx_at n Vec.zero (hv.elim .inl fun h => .inr (.inl h)) k
    refine SW.seq ?_
    (refine SW.regL [0, 1, 2, 6, 7, 8, 9, 11, 12, 13, 14, 15, 16, 17, 18, 19, 45, 62, 67, 80, 111] mixed ?_; (repeat (first | refine RW.ro bq_tt (h := ?_) | refine RW.skip (h := ?_) | refine RW.op bq_tt (h := ?_) | refine RW.opN bq_tt (h := ?_) | refine RW.skip0 (h := ?_) | (refine RW.callC (h := ?_); (first | refine CallP.mk bq_tt (hc := n1 _) (h := ?_))))); refine RW.nil ⟨conf_of (by kernel_rfl), Pruned.mk (h := ?_)⟩)
    refine SW.seq ?_
    (refine SW.regL [0, 1, 2, 6, 7, 8, 9, 11, 12, 13, 14, 15, 16, 17, 18, 19, 45, 62, 67, 80, 111] mixed ?_; (repeat (first | refine RW.ro bq_tt (h := ?_) | refine RW.skip (h := ?_) | refine RW.op bq_tt (h := ?_) | refine RW.opN bq_tt (h := ?_) | refine RW.skip0 (h := ?_) | (refine RW.callC (h := ?_); (first | refine CallP.mk bq_tt (hc := n1 _) (h := ?_))))); refine RW.nil ⟨conf_of (by kernel_rfl), Pruned.mk (h := ?_)⟩)
    refine SW.seq (SW.seq ?_)
    (refine SW.regL [0, 1, 2, 6, 7, 8, 9, 11, 12, 13, 14, 15, 16, 17, 18, 19, 45, 62, 67, 80, 111] mixed ?_; (repeat (first | refine RW.ro bq_tt (h := ?_) | refine RW.skip (h := ?_) | refine RW.op bq_tt (h := ?_) | refine RW.opN bq_tt (h := ?_) | refine RW.skip0 (h := ?_) | (refine RW.callC (h := ?_); (first | refine CallP.mk bq_tt (hc := head11_at _) (h := ?_))))); refine RW.nil ⟨conf_of (by kernel_rfl), Pruned.mk (h := ?_)⟩)
    refine SW.condT rfl (SW.seq ?_)
    (refine SW.regL [0, 1, 2, 6, 7, 8, 9, 11, 12, 13, 14, 15, 16, 17, 18, 19, 45, 62, 67, 80, 111] mixed ?_; (repeat (first | refine RW.ro bq_tt (h := ?_) | refine RW.skip (h := ?_) | refine RW.op bq_tt (h := ?_) | refine RW.opN bq_tt (h := ?_) | refine RW.skip0 (h := ?_) | (refine RW.callC (h := ?_); (first | refine CallP.mk bq_tt (hc := head11_at _) (h := ?_))))); refine RW.nil ⟨conf_of (by kernel_rfl), Pruned.mk (h := ?_)⟩)
    refine SW.ret ?_
    exact End.mk [] (h4 := ⟨rfl, rfl⟩)
  obtain ⟨m, rfl⟩ : ∃ m : Nat, n = (m : Int) := ⟨n.toNat, by omega⟩
  have m1 : 1 ≤ m := by omega
  have m8 : m ≤ 8 := by omega
  have n1 : SCd Tryd.prog buffer_New.f [.d (.int .i64 (m : Int)), .agg Vec.zero.cells] [] 0 3 (.tup [.ptr 2 0, .d (.int .i64 0)]) (bH 2 1 m Vec.zero [] 0) := new_at m m1 m8 Vec.zero (farB_zero m) 0
  have n2 : SCd Tryd.prog buffer_New.f [.d (.int .i64 (m : Int)), .agg Vec.zero.cells] [] 3 3 (.tup [.ptr 5 0, .d (.int .i64 0)]) (bH 5 4 m Vec.zero [] 0) := new_at m m1 m8 Vec.zero (farB_zero m) 3
  simp only [bH] at n1 n2
  refine SW.seq ?_
  (refine SW.regL [0, 1, 2, 6, 7, 8, 9, 11, 12, 13, 14, 15, 16, 17, 18, 19, 45, 62, 67, 80, 111] mixed ?_; (repeat (first | refine RW.ro bq_tt (h := ?_) | refine RW.skip (h := ?_) | refine RW.op bq_tt (h := ?_) | refine RW.opN bq_tt (h := ?_) | refine RW.skip0 (h := ?_) | (refine RW.callC (h := ?_); (first | refine CallP.mk bq_tt (hc := n1) (h := ?_))))); refine RW.nil ⟨conf_of (by kernel_rfl), Pruned.mk (h := ?_)⟩)
  refine SW.seq ?_
  (refine SW.regL [0, 1, 2, 6, 7, 8, 9, 11, 12, 13, 14, 15, 16, 17, 18, 19, 45, 62, 67, 80, 111] mixed ?_; (repeat (first | refine RW.ro bq_tt (h := ?_) | refine RW.skip (h := ?_) | refine RW.op bq_tt (h := ?_) | refine RW.opN bq_tt (h := ?_) | refine RW.skip0 (h := ?_) | (refine RW.callC (h := ?_); (first | refine CallP.mk bq_tt (hc := n2) (h := ?_))))); refine RW.nil ⟨conf_of (by kernel_rfl), Pruned.mk (h := ?_)⟩)
  refine SW.seq (SW.seq ?_)
  rcases hgv : decide ((l.length : Int) > 80) with _ | _ <;> rw [hgv] at hg
  case true =>
    (refine SW.regL [0, 1, 2, 6, 7, 8, 9, 11, 12, 13, 14, 15, 16, 17, 18, 19, 45, 62, 67, 80, 111] mixed ?_; (repeat (first | refine RW.ro bq_tt (h := ?_) | refine RW.skip (h := ?_) | refine RW.op bq_tt (h := ?_) | refine RW.opN bq_tt (h := ?_) | refine RW.skip0 (h := ?_) | (refine RW.callC (h := ?_); (first | refine CallP.mk bq_tt (hc := hg _) (h := ?_) | refine CallP.mk bq_tt (hc := head11_at _) (h := ?_))))); refine RW.nil ⟨conf_of (by kernel_rfl), Pruned.mk (h := ?_)⟩)
    refine SW.condT rfl (SW.seq ?_)
    (refine SW.regL [0, 1, 2, 6, 7, 8, 9, 11, 12, 13, 14, 15, 16, 17, 18, 19, 45, 62, 67, 80, 111] mixed ?_; (repeat (first | refine RW.ro bq_tt (h := ?_) | refine RW.skip (h := ?_) | refine RW.op bq_tt (h := ?_) | refine RW.opN bq_tt (h := ?_) | refine RW.skip0 (h := ?_) | (refine RW.callC (h := ?_); (first | refine CallP.mk bq_tt (hc := hg _) (h := ?_) | refine CallP.mk bq_tt (hc := head11_at _) (h := ?_))))); refine RW.nil ⟨conf_of (by kernel_rfl), Pruned.mk (h := ?_)⟩)
    refine SW.ret ?_
    exact End.mk [] (h4 := ⟨rfl, rfl⟩)
  have hl80 : l.length ≤ 80 := by simp only [decide_eq_false_iff_not] at hgv; omega
  (refine SW.regL [0, 1, 2, 6, 7, 8, 9, 11, 12, 13, 14, 15, 16, 17, 18, 19, 45, 62, 67, 80, 111] mixed ?_; (repeat (first | refine RW.ro bq_tt (h := ?_) | refine RW.skip (h := ?_) | refine RW.op bq_tt (h := ?_) | refine RW.opN bq_tt (h := ?_) | refine RW.skip0 (h := ?_) | (refine RW.callC (h := ?_); (first | refine CallP.mk bq_tt (hc := hg _) (h := ?_))))); refine RW.nil ⟨conf_of (by kernel_rfl), Pruned.mk (h := ?_)⟩)
  refine SW.condF rfl (SW.skip (SW.seq (SW.seq ?_)))
  (refine SW.regL [0, 1, 2, 6, 7, 8, 9, 11, 12, 13, 14, 15, 16, 17, 18, 19, 45, 62, 67, 80, 111] mixed ?_; (repeat (first | refine RW.ro bq_tt (h := ?_) | refine RW.skip (h := ?_) | refine RW.op bq_tt (h := ?_) | refine RW.opN bq_tt (h := ?_) | refine RW.skip0 (h := ?_))); refine RW.nil ⟨conf_of (by kernel_rfl), Pruned.mk (h := ?_)⟩)
  have a1 : SV.rens id (bfc m Vec.zero 1) = bfc m Vec.zero 1 := bfc.ren _ _ _ _
  have a2 : SV.oks (fun n => decide (n < 6)) (bfc m Vec.zero 1) = true := bfc.ok _ _ _ _ rfl
  have a3 : SV.rens id (bfc m Vec.zero 4) = bfc m Vec.zero 4 := bfc.ren _ _ _ _
  have a4 : SV.oks (fun n => decide (n < 6)) (bfc m Vec.zero 4) = true := bfc.ok _ _ _ _ rfl
  have aw := And.intro a1 (And.intro a2 (And.intro a3 a4))
  have mz : mapE Dt.cells ov ([] : MM Dt OpD) = [] := rfl
  refine SW.block ?_
  refine SW.loopA (α := {i : Nat // i ≤ l.length ∧ Uniq (l.take i)}) (fun i => ⟨[(11, i64 i.1), (9, .ptr 5 0), (7, .ptr 2 0), (2, u8 cut), (1, ops l)], twoH m, 6⟩) (fun i => l.length - i.1) ⟨0, by omega, by simp [Uniq]⟩ id (And.intro mz aw) (round := ?_)
  rintro ⟨i, hi, hu⟩
  dsimp only
  refine SW.seq (SW.seq ?_)
  by_cases h : i < l.length
  · have h1 : decide ((i : Int) < l.length) = true := by simp only [decide_eq_true_eq]; omega
    obtain ⟨x, hx⟩ := get_of_lt h
    have e2 : IntKind.i64.wrap ((i : Int) + 1) = ((i + 1 : Nat) : Int) := wrap_i64 _ (by omega)
    (refine SW.regL [0, 1, 2, 6, 7, 8, 9, 11, 12, 13, 14, 15, 16, 17, 18, 19, 45, 62, 67, 80, 111] mixed ?_; (repeat (first | refine RW.ro (h1) (h := ?_) | refine RW.skip (h := ?_) | refine RW.op (h1) (h := ?_) | refine RW.opN (h1) (h := ?_) | refine RW.skip0 (h := ?_))); refine RW.nil ⟨conf_of (by kernel_rfl), Pruned.mk (h := ?_)⟩)
    refine SW.condT rfl (SW.skip (SW.seq (SW.block (SW.seq ?_))))
    (refine SW.regL [0, 1, 2, 6, 7, 8, 9, 11, 12, 13, 14, 15, 16, 17, 18, 19, 45, 62, 67, 80, 111] mixed ?_; (repeat (first | refine RW.ro bq_tt (h := ?_) | refine RW.skip (h := ?_) | refine RW.op bq_tt (h := ?_) | refine RW.opN bq_tt (h := ?_) | refine RW.skip0 (h := ?_))); refine RW.nil ⟨conf_of (by kernel_rfl), Pruned.mk (h := ?_)⟩)
    refine SW.block ?_
    refine SW.loopA (α := {k : Nat // k ≤ i ∧ ∀ y, y ∈ l.take k → y.dot ≠ x.dot}) (fun k => ⟨[(12, i64 k.1), (11, i64 i), (9, .ptr 5 0), (7, .ptr 2 0), (2, u8 cut), (1, ops l)], twoH m, 6⟩) (fun k => i - k.1) ⟨0, by omega, by simp⟩ id aw (round := ?_)
    rintro ⟨k, hk, hs⟩
    dsimp only
    refine SW.seq (SW.seq ?_)
    by_cases h2 : k < i
    · have h3 : decide ((k : Int) < (i : Int)) = true := by simp only [decide_eq_true_eq]; omega
      obtain ⟨y, hy⟩ := get_of_lt (show k < l.length by omega)
      have e3 : IntKind.i64.wrap ((k : Int) + 1) = ((k + 1 : Nat) : Int) := wrap_i64 _ (by omega)
      have q1 := Dt.eqb y.dot x.dot
      (refine SW.regL [0, 1, 2, 6, 7, 8, 9, 11, 12, 13, 14, 15, 16, 17, 18, 19, 45, 62, 67, 80, 111] mixed ?_; (repeat (first | refine RW.ro (h3) (h := ?_) | refine RW.skip (h := ?_) | refine RW.op (h3) (h := ?_) | refine RW.opN (h3) (h := ?_) | refine RW.skip0 (h := ?_))); refine RW.nil ⟨conf_of (by kernel_rfl), Pruned.mk (h := ?_)⟩)
      refine SW.condT rfl (SW.skip (SW.seq (SW.block (SW.seq ?_))))
      rcases he : decide (y.dot = x.dot) with _ | _ <;> rw [he] at q1
      · (have fx := (And.intro (op_at hx) (And.intro (op_room0 hx) (And.intro (op_at hy) (And.intro (op_room0 hy) (And.intro (op_load11 hx) (And.intro (op_roomd11 hx) (And.intro (op_load11 hy) (And.intro (op_roomd11 hy) (q1))))))))); refine SW.regL [0, 1, 2, 6, 7, 8, 9, 11, 12, 13, 14, 15, 16, 17, 18, 19, 45, 62, 67, 80, 111] mixed ?_; (repeat (first | refine RW.ro fx (h := ?_) | refine RW.skip (h := ?_) | refine RW.op fx (h := ?_) | refine RW.opN fx (h := ?_) | refine RW.skip0 (h := ?_))); refine RW.nil ⟨conf_of (by kernel_rfl), Pruned.mk (h := ?_)⟩)
        refine SW.condF rfl (SW.skip ?_)
        (refine SW.regL [0, 1, 2, 6, 7, 8, 9, 11, 12, 13, 14, 15, 16, 17, 18, 19, 45, 62, 67, 80, 111] mixed ?_; (repeat (first | refine RW.ro (e3) (h := ?_) | refine RW.skip (h := ?_) | refine RW.op (e3) (h := ?_) | refine RW.opN (e3) (h := ?_) | refine RW.skip0 (h := ?_))); refine RW.nil ⟨conf_of (by kernel_rfl), Pruned.mk (h := ?_)⟩)
        refine ⟨⟨k + 1, by omega, fun z hz => ?_⟩, id, by show i - (k + 1) < i - k; omega, ?_⟩
        · rw [take_snoc hy] at hz
          rcases List.mem_append.1 hz with hz | hz
          · exact hs z hz
          · simp at hz; rw [hz]; exact of_decide_eq_false he
        · exact Weak.mk aw
      · (have fx := (And.intro (op_at hx) (And.intro (op_room0 hx) (And.intro (op_at hy) (And.intro (op_room0 hy) (And.intro (op_load11 hx) (And.intro (op_roomd11 hx) (And.intro (op_load11 hy) (And.intro (op_roomd11 hy) (q1))))))))); refine SW.regL [0, 1, 2, 6, 7, 8, 9, 11, 12, 13, 14, 15, 16, 17, 18, 19, 45, 62, 67, 80, 111] mixed ?_; (repeat (first | refine RW.ro fx (h := ?_) | refine RW.skip (h := ?_) | refine RW.op fx (h := ?_) | refine RW.opN fx (h := ?_) | refine RW.skip0 (h := ?_))); refine RW.nil ⟨conf_of (by kernel_rfl), Pruned.mk (h := ?_)⟩)
        refine SW.condT rfl (SW.seq ?_)
        (refine SW.regL [0, 1, 2, 6, 7, 8, 9, 11, 12, 13, 14, 15, 16, 17, 18, 19, 45, 62, 67, 80, 111] mixed ?_; (repeat (first | refine RW.ro bq_tt (h := ?_) | refine RW.skip (h := ?_) | refine RW.op bq_tt (h := ?_) | refine RW.opN bq_tt (h := ?_) | refine RW.skip0 (h := ?_) | (refine RW.callC (h := ?_); (first | refine CallP.mk bq_tt (hc := head11_at _) (h := ?_))))); refine RW.nil ⟨conf_of (by kernel_rfl), Pruned.mk (h := ?_)⟩)
        refine SW.ret ?_
        exact End.mk [] (h4 := ⟨rfl, rfl⟩)
    have h3 : decide ((k : Int) < (i : Int)) = false := by simp only [decide_eq_false_iff_not]; omega
    have hki : k = i := by omega
    subst hki
    (refine SW.regL [0, 1, 2, 6, 7, 8, 9, 11, 12, 13, 14, 15, 16, 17, 18, 19, 45, 62, 67, 80, 111] mixed ?_; (repeat (first | refine RW.ro (h3) (h := ?_) | refine RW.skip (h := ?_) | refine RW.op (h3) (h := ?_) | refine RW.opN (h3) (h := ?_) | refine RW.skip0 (h := ?_))); refine RW.nil ⟨conf_of (by kernel_rfl), Pruned.mk (h := ?_)⟩)
    refine SW.condF rfl (SW.exit ?_)
    (refine SW.regL [0, 1, 2, 6, 7, 8, 9, 11, 12, 13, 14, 15, 16, 17, 18, 19, 45, 62, 67, 80, 111] mixed ?_; (repeat (first | refine RW.ro (e2) (h := ?_) | refine RW.skip (h := ?_) | refine RW.op (e2) (h := ?_) | refine RW.opN (e2) (h := ?_) | refine RW.skip0 (h := ?_))); refine RW.nil ⟨conf_of (by kernel_rfl), Pruned.mk (h := ?_)⟩)
    refine ⟨⟨k + 1, by omega, by rw [take_snoc hx]; exact uniq_snoc hu hs⟩, id, by show l.length - (k + 1) < l.length - k; omega, ?_⟩
    exact Weak.mk aw
  have h1 : decide ((i : Int) < l.length) = false := by simp only [decide_eq_false_iff_not]; omega
  have h2 : i = l.length := by omega
  subst h2
  rw [List.take_length] at hu
  (refine SW.regL [0, 1, 2, 6, 7, 8, 9, 11, 12, 13, 14, 15, 16, 17, 18, 19, 45, 62, 67, 80, 111] mixed ?_; (repeat (first | refine RW.ro (h1) (h := ?_) | refine RW.skip (h := ?_) | refine RW.op (h1) (h := ?_) | refine RW.opN (h1) (h := ?_) | refine RW.skip0 (h := ?_))); refine RW.nil ⟨conf_of (by kernel_rfl), Pruned.mk (h := ?_)⟩)
  refine SW.condF rfl (SW.exit (SW.seq ?_))
  obtain ⟨kk, hkk, hkl⟩ : ∃ kk : Nat, kk = cut % (l.length + 1) ∧ kk ≤ l.length := ⟨_, rfl, Nat.le_of_lt_succ (Nat.mod_lt _ (by omega))⟩
  have e1 : IntKind.i64.wrap ((l.length + 1 : Nat) : Int) = ((l.length + 1 : Nat) : Int) := wrap_i64 _ (by omega)
  have e4 : ((cut : Int)).tmod ((l.length + 1 : Nat) : Int) = (kk : Int) := by rw [hkk, Int.ofNat_tmod]
  have e5 : IntKind.i64.wrap (cut : Int) = (cut : Int) := wrap_i64 _ (by omega)
  have e6 : IntKind.i64.wrap (kk : Int) = (kk : Int) := wrap_i64 _ (by omega)
  (have fx := (And.intro (e1) (And.intro (e4) (And.intro (e5) (e6)))); refine SW.regL [0, 1, 2, 6, 7, 8, 9, 11, 12, 13, 14, 15, 16, 17, 18, 19, 45, 62, 67, 80, 111] mixed ?_; (repeat (first | refine RW.ro fx (h := ?_) | refine RW.skip (h := ?_) | refine RW.op fx (h := ?_) | refine RW.opN fx (h := ?_) | refine RW.skip0 (h := ?_))); refine RW.nil ⟨conf_of (by kernel_rfl), Pruned.mk (h := ?_)⟩)
  have hpl := hl.put (m := l) (by omega) (fun _ h => h)
  have hp1 := hl.put (m := l.take kk) (by rw [List.length_take]; omega) (fun _ h => List.mem_of_mem_take h)
  have hp2 := hl.put (m := l.drop kk) (by rw [List.length_drop]; omega) (fun _ h => List.mem_of_mem_drop h)
  have hB := Buf.new m1 m8
  have hw := hB.wait (by simp)
  have o1 := ops_pre l hkl
  have o2 := ops_suf l kk
  refine SW.seq ?_
  rcases hb : l.any (badF m) with _ | _
  case true =>
    have q1 := fun k => put_wrong m8 hB.hv hw hpl 2 1 (by decide) k hb
    rcases hb1 : (l.take kk).any (badF m) with _ | _
    · have hb2 := any_part' kk hb hb1
      obtain ⟨hB1, _⟩ := hB.put hp1 hb1
      have q2 := fun k => put_good m8 hB.hv hw hp1 5 4 (by decide) k hb1
      rw [o1] at q2
      have hS1 : (fstO ([] ++ l.take kk)).length ≤ 400000 := Nat.le_trans (fstO_sub _).length_le (by simp; omega)
      have q3 := fun k => put_wrong m8 hB1.hv (hB1.wait hS1) hp2 5 4 (by decide) k hb2
      rw [o2] at q3
      simp only [bH] at q1 q2 q3
      (refine SW.regL [0, 1, 2, 6, 7, 8, 9, 11, 12, 13, 14, 15, 16, 17, 18, 19, 45, 62, 67, 80, 111] mixed ?_; (repeat (first | refine RW.ro bq_tt (h := ?_) | refine RW.skip (h := ?_) | refine RW.op bq_tt (h := ?_) | refine RW.opN bq_tt (h := ?_) | refine RW.skip0 (h := ?_) | (refine RW.callC (h := ?_); (first | refine CallP.mk bq_tt (hc := q1 _) (h := ?_))))); refine RW.nil ⟨conf_of (by kernel_rfl), Pruned.mk (h := ?_)⟩)
      refine SW.seq ?_
      (have fx := (And.intro (hkl) (Nat.sub_zero)); refine SW.regL [0, 1, 2, 6, 7, 8, 9, 11, 12, 13, 14, 15, 16, 17, 18, 19, 45, 62, 67, 80, 111] mixed ?_; (repeat (first | refine RW.ro fx (h := ?_) | refine RW.skip (h := ?_) | refine RW.op fx (h := ?_) | refine RW.opN fx (h := ?_) | refine RW.skip0 (h := ?_) | (refine RW.callC (h := ?_); (first | refine CallP.mk fx (hc := q2 _) (h := ?_))))); refine RW.nil ⟨conf_of (by kernel_rfl), Pruned.mk (h := ?_)⟩)
      refine SW.seq ?_
      (refine SW.regL [0, 1, 2, 6, 7, 8, 9, 11, 12, 13, 14, 15, 16, 17, 18, 19, 45, 62, 67, 80, 111] mixed ?_; (repeat (first | refine RW.ro (hkl) (h := ?_) | refine RW.skip (h := ?_) | refine RW.op (hkl) (h := ?_) | refine RW.opN (hkl) (h := ?_) | refine RW.skip0 (h := ?_) | (refine RW.callC (h := ?_); (first | refine CallP.mk (hkl) (hc := q3 _) (h := ?_))))); refine RW.nil ⟨conf_of (by kernel_rfl), Pruned.mk (h := ?_)⟩)
      refine SW.seq (SW.seq ?_)
      (refine SW.regL [0, 1, 2, 6, 7, 8, 9, 11, 12, 13, 14, 15, 16, 17, 18, 19, 45, 62, 67, 80, 111] mixed ?_; (repeat (first | refine RW.ro bq_tt (h := ?_) | refine RW.skip (h := ?_) | refine RW.op bq_tt (h := ?_) | refine RW.opN bq_tt (h := ?_) | refine RW.skip0 (h := ?_))); refine RW.nil ⟨conf_of (by kernel_rfl), Pruned.mk (h := ?_)⟩)
      refine SW.condT rfl (SW.seq ?_)
      (refine SW.regL [0, 1, 2, 6, 7, 8, 9, 11, 12, 13, 14, 15, 16, 17, 18, 19, 45, 62, 67, 80, 111] mixed ?_; (repeat (first | refine RW.ro bq_tt (h := ?_) | refine RW.skip (h := ?_) | refine RW.op bq_tt (h := ?_) | refine RW.opN bq_tt (h := ?_) | refine RW.skip0 (h := ?_) | (refine RW.callC (h := ?_); (first | refine CallP.mk bq_tt (hc := head11_at _) (h := ?_))))); refine RW.nil ⟨conf_of (by kernel_rfl), Pruned.mk (h := ?_)⟩)
      refine SW.ret ?_
      exact End.mk [] (h4 := ⟨rfl, rfl⟩)
    · have q2 := fun k => put_wrong m8 hB.hv hw hp1 5 4 (by decide) k hb1
      rw [o1] at q2
      rcases hb2 : (l.drop kk).any (badF m) with _ | _
      · have q3 := fun k => put_good m8 hB.hv hw hp2 5 4 (by decide) k hb2
        rw [o2] at q3
        simp only [bH] at q1 q2 q3
        (refine SW.regL [0, 1, 2, 6, 7, 8, 9, 11, 12, 13, 14, 15, 16, 17, 18, 19, 45, 62, 67, 80, 111] mixed ?_; (repeat (first | refine RW.ro bq_tt (h := ?_) | refine RW.skip (h := ?_) | refine RW.op bq_tt (h := ?_) | refine RW.opN bq_tt (h := ?_) | refine RW.skip0 (h := ?_) | (refine RW.callC (h := ?_); (first | refine CallP.mk bq_tt (hc := q1 _) (h := ?_))))); refine RW.nil ⟨conf_of (by kernel_rfl), Pruned.mk (h := ?_)⟩)
        refine SW.seq ?_
        (have fx := (And.intro (hkl) (Nat.sub_zero)); refine SW.regL [0, 1, 2, 6, 7, 8, 9, 11, 12, 13, 14, 15, 16, 17, 18, 19, 45, 62, 67, 80, 111] mixed ?_; (repeat (first | refine RW.ro fx (h := ?_) | refine RW.skip (h := ?_) | refine RW.op fx (h := ?_) | refine RW.opN fx (h := ?_) | refine RW.skip0 (h := ?_) | (refine RW.callC (h := ?_); (first | refine CallP.mk fx (hc := q2 _) (h := ?_))))); refine RW.nil ⟨conf_of (by kernel_rfl), Pruned.mk (h := ?_)⟩)
        refine SW.seq ?_
        (refine SW.regL [0, 1, 2, 6, 7, 8, 9, 11, 12, 13, 14, 15, 16, 17, 18, 19, 45, 62, 67, 80, 111] mixed ?_; (repeat (first | refine RW.ro (hkl) (h := ?_) | refine RW.skip (h := ?_) | refine RW.op (hkl) (h := ?_) | refine RW.opN (hkl) (h := ?_) | refine RW.skip0 (h := ?_) | (refine RW.callC (h := ?_); (first | refine CallP.mk (hkl) (hc := q3 _) (h := ?_))))); refine RW.nil ⟨conf_of (by kernel_rfl), Pruned.mk (h := ?_)⟩)
        refine SW.seq (SW.seq ?_)
        (refine SW.regL [0, 1, 2, 6, 7, 8, 9, 11, 12, 13, 14, 15, 16, 17, 18, 19, 45, 62, 67, 80, 111] mixed ?_; (repeat (first | refine RW.ro bq_tt (h := ?_) | refine RW.skip (h := ?_) | refine RW.op bq_tt (h := ?_) | refine RW.opN bq_tt (h := ?_) | refine RW.skip0 (h := ?_))); refine RW.nil ⟨conf_of (by kernel_rfl), Pruned.mk (h := ?_)⟩)
        refine SW.condT rfl (SW.seq ?_)
        (refine SW.regL [0, 1, 2, 6, 7, 8, 9, 11, 12, 13, 14, 15, 16, 17, 18, 19, 45, 62, 67, 80, 111] mixed ?_; (repeat (first | refine RW.ro bq_tt (h := ?_) | refine RW.skip (h := ?_) | refine RW.op bq_tt (h := ?_) | refine RW.opN bq_tt (h := ?_) | refine RW.skip0 (h := ?_) | (refine RW.callC (h := ?_); (first | refine CallP.mk bq_tt (hc := head11_at _) (h := ?_))))); refine RW.nil ⟨conf_of (by kernel_rfl), Pruned.mk (h := ?_)⟩)
        refine SW.ret ?_
        exact End.mk [] (h4 := ⟨rfl, rfl⟩)
      · have q3 := fun k => put_wrong m8 hB.hv hw hp2 5 4 (by decide) k hb2
        rw [o2] at q3
        simp only [bH] at q1 q2 q3
        (refine SW.regL [0, 1, 2, 6, 7, 8, 9, 11, 12, 13, 14, 15, 16, 17, 18, 19, 45, 62, 67, 80, 111] mixed ?_; (repeat (first | refine RW.ro bq_tt (h := ?_) | refine RW.skip (h := ?_) | refine RW.op bq_tt (h := ?_) | refine RW.opN bq_tt (h := ?_) | refine RW.skip0 (h := ?_) | (refine RW.callC (h := ?_); (first | refine CallP.mk bq_tt (hc := q1 _) (h := ?_))))); refine RW.nil ⟨conf_of (by kernel_rfl), Pruned.mk (h := ?_)⟩)
        refine SW.seq ?_
        (have fx := (And.intro (hkl) (Nat.sub_zero)); refine SW.regL [0, 1, 2, 6, 7, 8, 9, 11, 12, 13, 14, 15, 16, 17, 18, 19, 45, 62, 67, 80, 111] mixed ?_; (repeat (first | refine RW.ro fx (h := ?_) | refine RW.skip (h := ?_) | refine RW.op fx (h := ?_) | refine RW.opN fx (h := ?_) | refine RW.skip0 (h := ?_) | (refine RW.callC (h := ?_); (first | refine CallP.mk fx (hc := q2 _) (h := ?_))))); refine RW.nil ⟨conf_of (by kernel_rfl), Pruned.mk (h := ?_)⟩)
        refine SW.seq ?_
        (refine SW.regL [0, 1, 2, 6, 7, 8, 9, 11, 12, 13, 14, 15, 16, 17, 18, 19, 45, 62, 67, 80, 111] mixed ?_; (repeat (first | refine RW.ro (hkl) (h := ?_) | refine RW.skip (h := ?_) | refine RW.op (hkl) (h := ?_) | refine RW.opN (hkl) (h := ?_) | refine RW.skip0 (h := ?_) | (refine RW.callC (h := ?_); (first | refine CallP.mk (hkl) (hc := q3 _) (h := ?_))))); refine RW.nil ⟨conf_of (by kernel_rfl), Pruned.mk (h := ?_)⟩)
        refine SW.seq (SW.seq ?_)
        (refine SW.regL [0, 1, 2, 6, 7, 8, 9, 11, 12, 13, 14, 15, 16, 17, 18, 19, 45, 62, 67, 80, 111] mixed ?_; (repeat (first | refine RW.ro bq_tt (h := ?_) | refine RW.skip (h := ?_) | refine RW.op bq_tt (h := ?_) | refine RW.opN bq_tt (h := ?_) | refine RW.skip0 (h := ?_))); refine RW.nil ⟨conf_of (by kernel_rfl), Pruned.mk (h := ?_)⟩)
        refine SW.condT rfl (SW.seq ?_)
        (refine SW.regL [0, 1, 2, 6, 7, 8, 9, 11, 12, 13, 14, 15, 16, 17, 18, 19, 45, 62, 67, 80, 111] mixed ?_; (repeat (first | refine RW.ro bq_tt (h := ?_) | refine RW.skip (h := ?_) | refine RW.op bq_tt (h := ?_) | refine RW.opN bq_tt (h := ?_) | refine RW.skip0 (h := ?_) | (refine RW.callC (h := ?_); (first | refine CallP.mk bq_tt (hc := head11_at _) (h := ?_))))); refine RW.nil ⟨conf_of (by kernel_rfl), Pruned.mk (h := ?_)⟩)
        refine SW.ret ?_
        exact End.mk [] (h4 := ⟨rfl, rfl⟩)
  obtain ⟨hb1, hb2⟩ := any_part kk hb
  obtain ⟨hA, dA⟩ := hB.put hpl hb
  obtain ⟨hB1, dB1⟩ := hB.put hp1 hb1
  have q1 := fun k => put_good m8 hB.hv hw hpl 2 1 (by decide) k hb
  have q2 := fun k => put_good m8 hB.hv hw hp1 5 4 (by decide) k hb1
  rw [o1] at q2
  rw [List.nil_append, hu.fst] at hA dA
  have hu1 : Uniq (l.take kk) := hu.sub (List.take_sublist _ _)
  rw [List.nil_append, hu1.fst] at hB1 dB1
  have hS1 : (l.take kk).length ≤ 400000 := by rw [List.length_take]; omega
  obtain ⟨hB2, dB2⟩ := hB1.put hp2 hb2
  have q3 := fun k => put_good m8 hB1.hv (hB1.wait hS1) hp2 5 4 (by decide) k hb2
  rw [o2] at q3
  rw [List.take_append_drop, hu.fst] at hB2 dB2
  have wA := hA.wait (by omega)
  have wB := hB2.wait (by omega)
  have dA' := drained_cast (List.take_append_drop kk l).symm dA
  have dB2' := drained_cast (List.take_append_drop kk l).symm dB2
  obtain ⟨s1, s2, s3⟩ := parts_same (n := m) (by rw [List.take_append_drop]; exact hu) dA' dB1 dB2'
  have f1 := fun k => bhas_at m (putR Vec.zero ([], 0) l).2.1 (putR Vec.zero ([], 0) l).2.2 (putMs Vec.zero ([], 0) l).2 2 1 (by decide) k
  have f2 := fun k => waits_at m (putR Vec.zero ([], 0) l).2.1 (putR Vec.zero ([], 0) l).2.2 (putMs Vec.zero ([], 0) l).2 wA (fun o ho => hA.lns (hA.mem ho)) 2 1 (by decide) k
  have lA := drained_len dA
  have lB := drained_len dB1
  have lC := drained_len dB2
  have hmA : ∀ o, o ∈ osorted (vals (putR Vec.zero ([], 0) l).2.2) → LnS o := fun o ho => hA.lns (hA.mem ((osorted_perm _).mem_iff.1 ho))
  have hlA : (osorted (vals (putR Vec.zero ([], 0) l).2.2)).length ≤ 400000 := by rw [(osorted_perm _).length_eq, vals_len]; exact wA.len
  generalize putR Vec.zero ([], 0) l = RA at *
  generalize (putMs Vec.zero ([], 0) l).2 = cA at *
  generalize putR Vec.zero ([], 0) (l.take kk) = RB at *
  generalize putMs Vec.zero ([], 0) (l.take kk) = cB at *
  have f3 := fun k => bhas_at m (putR RB.2.1 (RB.2.2, cB.2) (l.drop kk)).2.1 (putR RB.2.1 (RB.2.2, cB.2) (l.drop kk)).2.2 (putMs RB.2.1 (RB.2.2, cB.2) (l.drop kk)).2 5 4 (by decide) k
  have f4 := fun k => waits_at m (putR RB.2.1 (RB.2.2, cB.2) (l.drop kk)).2.1 (putR RB.2.1 (RB.2.2, cB.2) (l.drop kk)).2.2 (putMs RB.2.1 (RB.2.2, cB.2) (l.drop kk)).2 wB (fun o ho => hB2.lns (hB2.mem ho)) 5 4 (by decide) k
  generalize putR RB.2.1 (RB.2.2, cB.2) (l.drop kk) = RC at *
  generalize (putMs RB.2.1 (RB.2.2, cB.2) (l.drop kk)).2 = cC at *
  obtain ⟨xA, vA, MA⟩ := RA
  obtain ⟨xB, vB, MB⟩ := RB
  obtain ⟨xC, vC, MC⟩ := RC
  dsimp only at *
  subst s1
  rw [← s2] at f4
  generalize osorted (vals MA) = W at *
  have f5 := fun k => sameA_at W (by omega) (fun x hx => .inr (hmA x hx).1) k
  have d2 : ∀ d : Vec, decide (d = d) = true := fun d => by simp
  have g1 : ((xA.length : Nat) : Int) = ((xB.length + xC.length : Nat) : Int) := by rw [s3]
  have g2 : IntKind.i64.wrap ((xB.length + xC.length : Nat) : Int) = ((xB.length + xC.length : Nat) : Int) := wrap_i64 _ (by rw [List.length_take] at lB; omega)
  simp only [bH] at q1 q2 q3 f1 f2 f3 f4
  (refine SW.regL [0, 1, 2, 6, 7, 8, 9, 11, 12, 13, 14, 15, 16, 17, 18, 19, 45, 62, 67, 80, 111] mixed ?_; (repeat (first | refine RW.ro bq_tt (h := ?_) | refine RW.skip (h := ?_) | refine RW.op bq_tt (h := ?_) | refine RW.opN bq_tt (h := ?_) | refine RW.skip0 (h := ?_) | (refine RW.callC (h := ?_); (first | refine CallP.mk bq_tt (hc := q1 _) (h := ?_))))); refine RW.nil ⟨conf_of (by kernel_rfl), Pruned.mk (h := ?_)⟩)
  refine SW.seq ?_
  (have fx := (And.intro (hkl) (Nat.sub_zero)); refine SW.regL [0, 1, 2, 6, 7, 8, 9, 11, 12, 13, 14, 15, 16, 17, 18, 19, 45, 62, 67, 80, 111] mixed ?_; (repeat (first | refine RW.ro fx (h := ?_) | refine RW.skip (h := ?_) | refine RW.op fx (h := ?_) | refine RW.opN fx (h := ?_) | refine RW.skip0 (h := ?_) | (refine RW.callC (h := ?_); (first | refine CallP.mk fx (hc := q2 _) (h := ?_))))); refine RW.nil ⟨conf_of (by kernel_rfl), Pruned.mk (h := ?_)⟩)
  refine SW.seq ?_
  (refine SW.regL [0, 1, 2, 6, 7, 8, 9, 11, 12, 13, 14, 15, 16, 17, 18, 19, 45, 62, 67, 80, 111] mixed ?_; (repeat (first | refine RW.ro (hkl) (h := ?_) | refine RW.skip (h := ?_) | refine RW.op (hkl) (h := ?_) | refine RW.opN (hkl) (h := ?_) | refine RW.skip0 (h := ?_) | (refine RW.callC (h := ?_); (first | refine CallP.mk (hkl) (hc := q3 _) (h := ?_))))); refine RW.nil ⟨conf_of (by kernel_rfl), Pruned.mk (h := ?_)⟩)
  refine SW.seq (SW.seq ?_)
  (refine SW.regL [0, 1, 2, 6, 7, 8, 9, 11, 12, 13, 14, 15, 16, 17, 18, 19, 45, 62, 67, 80, 111] mixed ?_; (repeat (first | refine RW.ro bq_tt (h := ?_) | refine RW.skip (h := ?_) | refine RW.op bq_tt (h := ?_) | refine RW.opN bq_tt (h := ?_) | refine RW.skip0 (h := ?_))); refine RW.nil ⟨conf_of (by kernel_rfl), Pruned.mk (h := ?_)⟩)
  refine SW.condF rfl (SW.skip (SW.seq ?_))
  (have fx := (And.intro (d2) (And.intro (g1) (g2))); refine SW.regL [0, 1, 2, 6, 7, 8, 9, 11, 12, 13, 14, 15, 16, 17, 18, 19, 45, 62, 67, 80, 111] mixed ?_; (repeat (first | refine RW.ro fx (h := ?_) | refine RW.skip (h := ?_) | refine RW.op fx (h := ?_) | refine RW.opN fx (h := ?_) | refine RW.skip0 (h := ?_) | (refine RW.callC (h := ?_); (first | refine CallP.mk fx (hc := f1 _) (h := ?_) | refine CallP.mk fx (hc := f2 _) (h := ?_) | refine CallP.mk fx (hc := f3 _) (h := ?_) | refine CallP.mk fx (hc := f4 _) (h := ?_) | refine CallP.mk fx (hc := f5 _) (h := ?_) | refine CallP.mk fx (hc := head11_at _) (h := ?_))))); refine RW.nil ⟨conf_of (by kernel_rfl), Pruned.mk (h := ?_)⟩)
  refine SW.ret ?_
  exact End.mk [] (h4 := ⟨rfl, rfl⟩)
end Go.Proofs.YtnakpdoioammhaaDoor
