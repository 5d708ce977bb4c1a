/-
  Order: two parts of a history.
-/
import Derived.Test.YtemghnbbmahaaaaDoorUK
import Derived.Test.YtemghnbbmahaaaaDoorUG
import Derived.Test.YtemghnbbmahaaaaDoorUL
set_option linter.unusedSectionVars false
set_option linter.unusedVariables false
set_option linter.unusedSimpArgs false
namespace Go.Proofs.YtemghnbbmahaaaaDoor
open Go.Sl Go.Proofs
attribute [local irreducible] SW RW SCd SC CallP Pruned
set_option maxRecDepth 100000 in
set_option maxHeartbeats 16000000 in
theorem law_parts (l : List OpD) (hl : RowR l) (n : Int) (hn : -9223372036854775808 ≤ n) (hn2 : n ≤ 9223372036854775807) (v w : Vec) : Go.Sl.Pure Tryd.prog law10_OrderParts.f [ops l, i64 n, .agg (PV v w)] (bl true) := by
  have hlen := hl.len
  have p0 := PV.one v w
  have p1 := PV.len v w
  have p2 := PV.t0 v w
  have p3 := PV.t8 v w
  refine law10_OrderParts.enter (by first | rfl | simp [SV.ok, SV.oks]) (by first | rfl | simp [Hp.ok, Ob.ok, SV.ok, SV.oks, Vec.cells_ok]) (by simp) ?_
  dsimp only [law10_OrderParts.s, Co.M, Co.G, Co.J, Co.H, Co.N, Co.F, Co.C, Co.Z, Co.B, Co.b8, Co.b32, Co.b64, Co.i6, Co.z8, Co.z29]
  have hg := hl.great
  have hh := history_at n hn hn2 l (by omega) hl.one
  refine SW.seq ?_
  (refine SW.regL [0, 1, 2, 5, 6, 7, 8, 9, 10, 12, 13, 21, 40, 45, 58] mixed ?_; (repeat (first | refine RW.ro (p0) (h := ?_) | refine RW.skip (h := ?_) | refine RW.op (p0) (h := ?_) | refine RW.opN (p0) (h := ?_) | refine RW.skip0 (h := ?_) | refine lit1 rfl rfl (h := ?_))); refine RW.nil ⟨conf_of (by kernel_rfl), Pruned.mk (h := ?_)⟩)
  refine SW.seq (SW.seq ?_)
  rcases hgv : greatV l with _ | _ <;> rw [hgv] at hg
  case true =>
    (refine SW.regL [0, 1, 2, 5, 6, 7, 8, 9, 10, 12, 13, 21, 40, 45, 58] mixed ?_; (repeat (first | refine RW.ro bq_tt (h := ?_) | refine RW.skip (h := ?_) | refine RW.op bq_tt (h := ?_) | refine RW.opN bq_tt (h := ?_) | refine RW.skip0 (h := ?_) | refine lit1 rfl rfl (h := ?_) | (refine RW.callC (h := ?_); (first | refine CallP.mk bq_tt (hc := hg _) (h := ?_))))); refine RW.nil ⟨conf_of (by kernel_rfl), Pruned.mk (h := ?_)⟩)
    refine SW.condT rfl (SW.seq ?_)
    (refine SW.regL [0, 1, 2, 5, 6, 7, 8, 9, 10, 12, 13, 21, 40, 45, 58] mixed ?_; (repeat (first | refine RW.ro bq_tt (h := ?_) | refine RW.skip (h := ?_) | refine RW.op bq_tt (h := ?_) | refine RW.opN bq_tt (h := ?_) | refine RW.skip0 (h := ?_) | refine lit1 rfl rfl (h := ?_) | (refine RW.callC (h := ?_); (first | refine CallP.mk bq_tt (hc := head10_at _) (h := ?_))))); refine RW.nil ⟨conf_of (by kernel_rfl), Pruned.mk (h := ?_)⟩)
    refine SW.ret ?_
    exact End.mk [] (h4 := ⟨rfl, rfl⟩)
  by_cases hv : histV n l = 0
  case neg =>
    generalize histV n l = u at hh hv
    have h1 : (u != 0) = true := by rw [bne_iff_ne]; exact hv
    (refine SW.regL [0, 1, 2, 5, 6, 7, 8, 9, 10, 12, 13, 21, 40, 45, 58] mixed ?_; (repeat (first | refine RW.ro (h1) (h := ?_) | refine RW.skip (h := ?_) | refine RW.op (h1) (h := ?_) | refine RW.opN (h1) (h := ?_) | refine RW.skip0 (h := ?_) | refine lit1 rfl rfl (h := ?_) | (refine RW.callC (h := ?_); (first | refine CallP.mk (h1) (hc := hg _) (h := ?_) | refine CallP.mk (h1) (hc := hh _) (h := ?_))))); refine RW.nil ⟨conf_of (by kernel_rfl), Pruned.mk (h := ?_)⟩)
    refine SW.condT rfl (SW.seq ?_)
    (refine SW.regL [0, 1, 2, 5, 6, 7, 8, 9, 10, 12, 13, 21, 40, 45, 58] mixed ?_; (repeat (first | refine RW.ro bq_tt (h := ?_) | refine RW.skip (h := ?_) | refine RW.op bq_tt (h := ?_) | refine RW.opN bq_tt (h := ?_) | refine RW.skip0 (h := ?_) | refine lit1 rfl rfl (h := ?_) | (refine RW.callC (h := ?_); (first | refine CallP.mk bq_tt (hc := head10_at _) (h := ?_))))); refine RW.nil ⟨conf_of (by kernel_rfl), Pruned.mk (h := ?_)⟩)
    refine SW.ret ?_
    exact End.mk [] (h4 := ⟨rfl, rfl⟩)
  have hl80 := great_len hgv
  rw [hv] at hh
  have hH := histV_zero.1 hv
  (refine SW.regL [0, 1, 2, 5, 6, 7, 8, 9, 10, 12, 13, 21, 40, 45, 58] mixed ?_; (repeat (first | refine RW.ro bq_tt (h := ?_) | refine RW.skip (h := ?_) | refine RW.op bq_tt (h := ?_) | refine RW.opN bq_tt (h := ?_) | refine RW.skip0 (h := ?_) | refine lit1 rfl rfl (h := ?_) | (refine RW.callC (h := ?_); (first | refine CallP.mk bq_tt (hc := hg _) (h := ?_) | refine CallP.mk bq_tt (hc := hh _) (h := ?_))))); refine RW.nil ⟨conf_of (by kernel_rfl), Pruned.mk (h := ?_)⟩)
  refine SW.condF rfl (SW.skip (SW.seq ?_))
  have hc1 := fun k => cut_at l (by omega) v k
  have hc2 := fun k => cut_at l (by omega) w k
  (have fx := (And.intro (p1) (And.intro (p2) (p3))); refine SW.regL [0, 1, 2, 5, 6, 7, 8, 9, 10, 12, 13, 21, 40, 45, 58] mixed ?_; (repeat (first | refine RW.ro fx (h := ?_) | refine RW.skip (h := ?_) | refine RW.op fx (h := ?_) | refine RW.opN fx (h := ?_) | refine RW.skip0 (h := ?_) | refine lit1 rfl rfl (h := ?_) | (refine RW.callC (h := ?_); (first | refine CallP.mk fx (hc := hc1 _) (h := ?_) | refine CallP.mk fx (hc := hc2 _) (h := ?_))))); refine RW.nil ⟨conf_of (by kernel_rfl), Pruned.mk (h := ?_)⟩)
  have sa := cutV_sub l v
  have sb := cutV_sub l w
  have la := cutV_len l v
  have lb := cutV_len l w
  have ua := cutV_uniq hH.uniq v
  have ub := cutV_uniq hH.uniq w
  generalize cutV l v = a at sa la ua ⊢
  generalize cutV l w = b at sb lb ub ⊢
  have hha := history_at n hn hn2 a (by omega) (fun o ho => hl.one o (sa o ho))
  have hhb := history_at n hn hn2 b (by omega) (fun o ho => hl.one o (sb o ho))
  refine SW.seq (SW.seq ?_)
  by_cases hva : histV n a = 0
  case neg =>
    generalize histV n a = u at hha hva
    have h1 : (u != 0) = true := by rw [bne_iff_ne]; exact hva
    (refine SW.regL [0, 1, 2, 5, 6, 7, 8, 9, 10, 12, 13, 21, 40, 45, 58] mixed ?_; (repeat (first | refine RW.ro (h1) (h := ?_) | refine RW.skip (h := ?_) | refine RW.op (h1) (h := ?_) | refine RW.opN (h1) (h := ?_) | refine RW.skip0 (h := ?_) | refine lit1 rfl rfl (h := ?_) | (refine RW.callC (h := ?_); (first | refine CallP.mk (h1) (hc := hha _) (h := ?_))))); refine RW.nil ⟨conf_of (by kernel_rfl), Pruned.mk (h := ?_)⟩)
    refine SW.condT rfl (SW.seq ?_)
    (refine SW.regL [0, 1, 2, 5, 6, 7, 8, 9, 10, 12, 13, 21, 40, 45, 58] mixed ?_; (repeat (first | refine RW.ro bq_tt (h := ?_) | refine RW.skip (h := ?_) | refine RW.op bq_tt (h := ?_) | refine RW.opN bq_tt (h := ?_) | refine RW.skip0 (h := ?_) | refine lit1 rfl rfl (h := ?_) | (refine RW.callC (h := ?_); (first | refine CallP.mk bq_tt (hc := head10_at _) (h := ?_))))); refine RW.nil ⟨conf_of (by kernel_rfl), Pruned.mk (h := ?_)⟩)
    refine SW.ret ?_
    exact End.mk [] (h4 := ⟨rfl, rfl⟩)
  rw [hva] at hha
  have hA := histV_zero.1 hva
  by_cases hvb : histV n b = 0
  case neg =>
    generalize histV n b = u at hhb hvb
    have h1 : (u != 0) = true := by rw [bne_iff_ne]; exact hvb
    (refine SW.regL [0, 1, 2, 5, 6, 7, 8, 9, 10, 12, 13, 21, 40, 45, 58] mixed ?_; (repeat (first | refine RW.ro (h1) (h := ?_) | refine RW.skip (h := ?_) | refine RW.op (h1) (h := ?_) | refine RW.opN (h1) (h := ?_) | refine RW.skip0 (h := ?_) | refine lit1 rfl rfl (h := ?_) | (refine RW.callC (h := ?_); (first | refine CallP.mk (h1) (hc := hha _) (h := ?_) | refine CallP.mk (h1) (hc := hhb _) (h := ?_))))); refine RW.nil ⟨conf_of (by kernel_rfl), Pruned.mk (h := ?_)⟩)
    refine SW.condT rfl (SW.seq ?_)
    (refine SW.regL [0, 1, 2, 5, 6, 7, 8, 9, 10, 12, 13, 21, 40, 45, 58] mixed ?_; (repeat (first | refine RW.ro bq_tt (h := ?_) | refine RW.skip (h := ?_) | refine RW.op bq_tt (h := ?_) | refine RW.opN bq_tt (h := ?_) | refine RW.skip0 (h := ?_) | refine lit1 rfl rfl (h := ?_) | (refine RW.callC (h := ?_); (first | refine CallP.mk bq_tt (hc := head10_at _) (h := ?_))))); refine RW.nil ⟨conf_of (by kernel_rfl), Pruned.mk (h := ?_)⟩)
    refine SW.ret ?_
    exact End.mk [] (h4 := ⟨rfl, rfl⟩)
  rw [hvb] at hhb
  have hB := histV_zero.1 hvb
  (refine SW.regL [0, 1, 2, 5, 6, 7, 8, 9, 10, 12, 13, 21, 40, 45, 58] mixed ?_; (repeat (first | refine RW.ro bq_tt (h := ?_) | refine RW.skip (h := ?_) | refine RW.op bq_tt (h := ?_) | refine RW.opN bq_tt (h := ?_) | refine RW.skip0 (h := ?_) | refine lit1 rfl rfl (h := ?_) | (refine RW.callC (h := ?_); (first | refine CallP.mk bq_tt (hc := hha _) (h := ?_) | refine CallP.mk bq_tt (hc := hhb _) (h := ?_))))); refine RW.nil ⟨conf_of (by kernel_rfl), Pruned.mk (h := ?_)⟩)
  refine SW.condF rfl (SW.skip (SW.seq ?_))
  (refine SW.regL [0, 1, 2, 5, 6, 7, 8, 9, 10, 12, 13, 21, 40, 45, 58] mixed ?_; (repeat (first | refine RW.ro bq_tt (h := ?_) | refine RW.skip (h := ?_) | refine RW.op bq_tt (h := ?_) | refine RW.opN bq_tt (h := ?_) | refine RW.skip0 (h := ?_) | refine lit1 rfl rfl (h := ?_))); refine RW.nil ⟨conf_of (by kernel_rfl), Pruned.mk (h := ?_)⟩)
  refine SW.nilrow 9 36 29 rfl ?_
  refine SW.seq (SW.seq ?_)
  (refine SW.regL [0, 1, 2, 5, 6, 7, 8, 9, 10, 12, 13, 21, 40, 45, 58] mixed ?_; (repeat (first | refine RW.ro bq_tt (h := ?_) | refine RW.skip (h := ?_) | refine RW.op bq_tt (h := ?_) | refine RW.opN bq_tt (h := ?_) | refine RW.skip0 (h := ?_) | refine lit1 rfl rfl (h := ?_))); refine RW.nil ⟨conf_of (by kernel_rfl), Pruned.mk (h := ?_)⟩)
  refine SW.block ?_
  refine SW.loopA (α := {i : Nat // i ≤ a.length}) (fun i => ⟨[(10, i64 i.1), (9, .gs 1 (bothV (a.take i.1) b).length), (8, ops b), (7, ops a), (1, i64 n)], [(1, .arr 36 29 (bothV (a.take i.1) b).length (opc (bothV (a.take i.1) b)))], 2⟩) (fun i => a.length - i.1) ⟨0, by omega⟩ id (And.intro (show bothV [] b = [] from rfl) bq_tt) (round := ?_)
  rintro ⟨i, hi⟩
  dsimp only
  refine SW.seq (SW.seq ?_)
  by_cases h : i < a.length
  · have h1 : decide ((i : Int) < a.length) = true := by simp only [decide_eq_true_eq]; omega
    obtain ⟨x, hx⟩ := get_of_lt h
    have e2 : IntKind.i64.wrap ((i : Int) + 1) = ((i + 1 : Nat) : Int) := wrap_i64 _ (by omega)
    have e1 : a.take (i + 1) = a.take i ++ [x] := take_snoc hx
    have hsn := bothV_snoc (a.take i) b x
    rw [← e1] at hsn
    have hlt : (bothV (a.take i) b).length ≤ i := Nat.le_trans (List.length_filter_le _ _) (by rw [List.length_take]; omega)
    generalize bothV (a.take i) b = T at hsn hlt ⊢
    have hf := fun k => ofind_at b (by omega) x.dot k
    (refine SW.regL [0, 1, 2, 5, 6, 7, 8, 9, 10, 12, 13, 21, 40, 45, 58] mixed ?_; (repeat (first | refine RW.ro (h1) (h := ?_) | refine RW.skip (h := ?_) | refine RW.op (h1) (h := ?_) | refine RW.opN (h1) (h := ?_) | refine RW.skip0 (h := ?_) | refine lit1 rfl rfl (h := ?_))); refine RW.nil ⟨conf_of (by kernel_rfl), Pruned.mk (h := ?_)⟩)
    refine SW.condT rfl (SW.skip (SW.seq (SW.block (SW.seq ?_))))
    cases hfd : findO b x.dot with
    | none =>
      rw [hfd] at hf hsn
      have hf' : ∀ k, SCd Tryd.prog order_Find.f [ops b, .agg x.dot.cells] [] k 0 (.tup [.agg OpD.zero.cells, .d (.bool false)]) [] := hf
      have hsn' : bothV (a.take (i + 1)) b = T := hsn
      (have fx := (And.intro (op_load hx) (And.intro (op_roomd hx) (And.intro (op_at hx) (And.intro (op_room0 hx) (x.gDot))))); refine SW.regL [0, 1, 2, 5, 6, 7, 8, 9, 10, 12, 13, 21, 40, 45, 58] mixed ?_; (repeat (first | refine RW.ro fx (h := ?_) | refine RW.skip (h := ?_) | refine RW.op fx (h := ?_) | refine RW.opN fx (h := ?_) | refine RW.skip0 (h := ?_) | refine lit1 rfl rfl (h := ?_) | (refine RW.callC (h := ?_); (first | refine CallP.mk fx (hc := hf' _) (h := ?_))))); refine RW.nil ⟨conf_of (by kernel_rfl), Pruned.mk (h := ?_)⟩)
      refine SW.seq ?_
      (refine SW.regL [0, 1, 2, 5, 6, 7, 8, 9, 10, 12, 13, 21, 40, 45, 58] mixed ?_; (repeat (first | refine RW.ro bq_tt (h := ?_) | refine RW.skip (h := ?_) | refine RW.op bq_tt (h := ?_) | refine RW.opN bq_tt (h := ?_) | refine RW.skip0 (h := ?_) | refine lit1 rfl rfl (h := ?_))); refine RW.nil ⟨conf_of (by kernel_rfl), Pruned.mk (h := ?_)⟩)
      refine SW.condF rfl (SW.skip ?_)
      (refine SW.regL [0, 1, 2, 5, 6, 7, 8, 9, 10, 12, 13, 21, 40, 45, 58] mixed ?_; (repeat (first | refine RW.ro (e2) (h := ?_) | refine RW.skip (h := ?_) | refine RW.op (e2) (h := ?_) | refine RW.opN (e2) (h := ?_) | refine RW.skip0 (h := ?_) | refine lit1 rfl rfl (h := ?_))); refine RW.nil ⟨conf_of (by kernel_rfl), Pruned.mk (h := ?_)⟩)
      refine ⟨⟨i + 1, by omega⟩, id, by show a.length - (i + 1) < a.length - i; omega, ?_⟩
      dsimp only
      rw [hsn']
      exact Weak.mk bq_tt
    | some y =>
      rw [hfd] at hf hsn
      have hf' : ∀ k, SCd Tryd.prog order_Find.f [ops b, .agg x.dot.cells] [] k 0 (.tup [.agg y.cells, .d (.bool true)]) [] := hf
      have hsn' : bothV (a.take (i + 1)) b = T ++ [x] := hsn
      (have fx := (And.intro (op_load hx) (And.intro (op_roomd hx) (And.intro (op_at hx) (And.intro (op_room0 hx) (x.gDot))))); refine SW.regL [0, 1, 2, 5, 6, 7, 8, 9, 10, 12, 13, 21, 40, 45, 58] mixed ?_; (repeat (first | refine RW.ro fx (h := ?_) | refine RW.skip (h := ?_) | refine RW.op fx (h := ?_) | refine RW.opN fx (h := ?_) | refine RW.skip0 (h := ?_) | refine lit1 rfl rfl (h := ?_) | (refine RW.callC (h := ?_); (first | refine CallP.mk fx (hc := hf' _) (h := ?_))))); refine RW.nil ⟨conf_of (by kernel_rfl), Pruned.mk (h := ?_)⟩)
      refine SW.seq ?_
      (refine SW.regL [0, 1, 2, 5, 6, 7, 8, 9, 10, 12, 13, 21, 40, 45, 58] mixed ?_; (repeat (first | refine RW.ro bq_tt (h := ?_) | refine RW.skip (h := ?_) | refine RW.op bq_tt (h := ?_) | refine RW.opN bq_tt (h := ?_) | refine RW.skip0 (h := ?_) | refine lit1 rfl rfl (h := ?_))); refine RW.nil ⟨conf_of (by kernel_rfl), Pruned.mk (h := ?_)⟩)
      refine SW.condT rfl ?_
      (have fx := (And.intro (op_at hx) (op_room0 hx)); refine SW.regL [0, 1, 2, 5, 6, 7, 8, 9, 10, 12, 13, 21, 40, 45, 58] mixed ?_; (repeat (first | refine RW.ro fx (h := ?_) | refine RW.skip (h := ?_) | refine RW.op fx (h := ?_) | refine RW.opN fx (h := ?_) | refine RW.skip0 (h := ?_) | refine lit1 rfl rfl (h := ?_))); refine RW.nil ⟨conf_of (by kernel_rfl), Pruned.mk (h := ?_)⟩)
      (refine SW.regL [0, 1, 2, 5, 6, 7, 8, 9, 10, 12, 13, 21, 40, 45, 58] mixed ?_; (repeat (first | refine RW.ro (e2) (h := ?_) | refine RW.skip (h := ?_) | refine RW.op (e2) (h := ?_) | refine RW.opN (e2) (h := ?_) | refine RW.skip0 (h := ?_) | refine lit1 rfl rfl (h := ?_))); refine RW.nil ⟨conf_of (by kernel_rfl), Pruned.mk (h := ?_)⟩)
      have e5 : (T ++ [x]).length = T.length + [x].length := by simp
      have e6 : opc (T ++ [x]) = opc T ++ List.map SV.d ([x].flatMap OpD.ds) := by simp [opc]
      refine ⟨⟨i + 1, by omega⟩, fun n => if n = 1 then 3 else n, by show a.length - (i + 1) < a.length - i; omega, ?_⟩
      dsimp only
      rw [hsn', e5, e6]
      exact Weak.mk bq_tt
  have h1 : decide ((i : Int) < a.length) = false := by simp only [decide_eq_false_iff_not]; omega
  have h2 : i = a.length := by omega
  subst h2
  rw [List.take_length]
  (refine SW.regL [0, 1, 2, 5, 6, 7, 8, 9, 10, 12, 13, 21, 40, 45, 58] mixed ?_; (repeat (first | refine RW.ro (h1) (h := ?_) | refine RW.skip (h := ?_) | refine RW.op (h1) (h := ?_) | refine RW.opN (h1) (h := ?_) | refine RW.skip0 (h := ?_) | refine lit1 rfl rfl (h := ?_))); refine RW.nil ⟨conf_of (by kernel_rfl), Pruned.mk (h := ?_)⟩)
  refine SW.condF rfl (SW.exit (SW.seq ?_))
  have hlb : (bothV a b).length ≤ a.length := List.length_filter_le _ _
  refine SW.freeze 1 ((bothV a b).flatMap OpD.ds) rfl rfl ?_
  simp only [frzE, SV.frz, List.map_cons, List.map_nil, if_true, if_false, reduceIte, hdel, Nat.reduceEqDiff]
  have hU := parts_union hH hA hB sa sb
  have hW := parts_both hH hA hB sa sb
  have hN := parts_len hH.uniq ua ub sa sb
  have hst := osort_at (a ++ b) (by rw [List.length_append]; omega)
  have hlu := osort_len (a ++ b)
  rw [List.length_append] at hlu
  have hst' : ∀ k, SCd Tryd.prog order_Sort.f [.d (.sl (a.length + b.length) ((a ++ b).flatMap OpD.ds))] [] k 0 (ops (osort (a ++ b))) [] := fun k => by
    have := hst k
    unfold ops at this ⊢
    rwa [List.length_append] at this
  refine SW.ofN ?_
  (repeat (first | refine SWn.op bq_tt (h := ?_) | refine SWn.opN bq_tt (h := ?_) | refine SWn.skip (h := ?_)))
  refine SWn.freezeB 4 ((a ++ b).flatMap OpD.ds) rfl (by simp) ?_
  simp only [frzE, frzH, SV.frz, List.map_cons, List.map_nil, if_true, if_false, reduceIte, hdel, Nat.reduceEqDiff]
  refine SWn.callD bq_tt (hst' _) (h := ?_)
  (repeat (first | refine SWn.op bq_tt (h := ?_) | refine SWn.opN bq_tt (h := ?_) | refine SWn.skip (h := ?_)))
  refine SWn.nil ?_
  have hhU := history_at n hn hn2 (osort (a ++ b)) (by omega) (fun o ho => hl.one o (((mem_union hH.uniq sa sb).1 ho).elim (sa o) (sb o)))
  rw [histV_zero.2 hU] at hhU
  have hhW := history_at n hn hn2 (bothV a b) (by omega) (fun o ho => hl.one o (sa o ((mem_both hH.uniq sa sb).1 ho).1))
  rw [histV_zero.2 hW] at hhW
  have e1 : IntKind.i64.wrap ((((osort (a ++ b)).length + (bothV a b).length : Nat)) : Int) = ((a.length + b.length : Nat) : Int) := by rw [hN]; exact wrap_i64 _ (by omega)
  have e2 : IntKind.i64.wrap (((a.length + b.length : Nat)) : Int) = ((a.length + b.length : Nat) : Int) := wrap_i64 _ (by omega)
  refine SW.seq ?_
  refine SW.g4 [0, 1, 2, 5, 6, 7, 8, 9, 10, 12, 13, 21, 40, 45, 58] mixed (And.intro (e1) (e2)) hhU hhW head10_at trivial ?_
  refine SW.ret ?_
  exact End.mk [] (h4 := ⟨rfl, rfl⟩)
end Go.Proofs.YtemghnbbmahaaaaDoor
