/-
  Order: beginnings of a history.
-/
import Derived.Test.YtemghnbbmahaaaaDoorUK
import Derived.Test.YtemghnbbmahaaaaDoorUF
set_option linter.unusedSectionVars false
set_option linter.unusedVariables false
set_option linter.unusedSimpArgs false
namespace Go.Proofs.YtemghnbbmahaaaaDoor
open Go.Sl Go.Proofs
attribute [local irreducible] SW RW SCd SC CallP Pruned
def sumTo (v : Vec) : Nat → Nat
  | 0 => 0
  | i + 1 => sumTo v i + v.get i
theorem sumTo_8 (v : Vec) : sumTo v 8 = v.count := by simp only [sumTo, Nat.zero_add]; rfl
theorem sumTo_mono (v : Vec) {i j : Nat} (h : i ≤ j) : sumTo v i ≤ sumTo v j := by
  induction h with
  | refl => exact Nat.le_refl _
  | step _ ih => exact Nat.le_trans ih (Nat.le_add_right _ _)
theorem ops_take (l : List OpD) (k : Nat) : List.take (k * 29) (l.flatMap OpD.ds) = (l.take k).flatMap OpD.ds := by
  induction l generalizing k with
  | nil => simp
  | cons x l ih =>
    cases k with
    | zero => simp
    | succ k =>
      have e : x.ds.length = 29 := rfl
      simp only [List.flatMap_cons, List.take_succ_cons]
      rw [List.take_append, List.take_of_length_le (by rw [e]; omega), e, show (k + 1) * 29 - 29 = k * 29 by omega, ih]
set_option maxRecDepth 100000 in
set_option maxHeartbeats 16000000 in
theorem law_begins (l : List OpD) (hl : RowR l) (n : Int) (hn : -9223372036854775808 ≤ n) (hn2 : n ≤ 9223372036854775807) (at_ : Nat) (hat : at_ < 256) : Go.Sl.Pure Tryd.prog law10_OrderBegins.f [ops l, i64 n, u8 at_] (bl true) := by
  have hlen := hl.len
  refine law10_OrderBegins.enter (by first | rfl | simp [SV.ok, SV.oks]) (by first | rfl | simp [Hp.ok, Ob.ok, SV.ok, SV.oks, Vec.cells_ok]) (by simp) ?_
  dsimp only [law10_OrderBegins.s, Co.M, Co.G, Co.J, Co.H, Co.N, Co.F, Co.C, Co.Z, Co.B, Co.b8, Co.b32, Co.b64, Co.i6, Co.z8, Co.z29]
  have hg := hl.great
  have hh := history_at n hn hn2 l (by omega) hl.one
  refine SW.seq ?_
  (refine SW.regL [0, 1, 2, 6, 7, 8, 9, 10, 11, 12, 13, 21, 29, 63, 66, 76] mixed ?_; (repeat (first | refine RW.ro bq_tt (h := ?_) | refine RW.skip (h := ?_) | refine RW.op bq_tt (h := ?_) | refine RW.opN bq_tt (h := ?_) | refine RW.skip0 (h := ?_) | refine lit1 rfl rfl (h := ?_))); refine RW.nil ⟨conf_of (by kernel_rfl), Pruned.mk (h := ?_)⟩)
  refine SW.seq (SW.seq ?_)
  rcases hgv : greatV l with _ | _ <;> rw [hgv] at hg
  case true =>
    (refine SW.regL [0, 1, 2, 6, 7, 8, 9, 10, 11, 12, 13, 21, 29, 63, 66, 76] mixed ?_; (repeat (first | refine RW.ro bq_tt (h := ?_) | refine RW.skip (h := ?_) | refine RW.op bq_tt (h := ?_) | refine RW.opN bq_tt (h := ?_) | refine RW.skip0 (h := ?_) | refine lit1 rfl rfl (h := ?_) | (refine RW.callC (h := ?_); (first | refine CallP.mk bq_tt (hc := hg _) (h := ?_))))); refine RW.nil ⟨conf_of (by kernel_rfl), Pruned.mk (h := ?_)⟩)
    refine SW.condT rfl (SW.seq ?_)
    (refine SW.regL [0, 1, 2, 6, 7, 8, 9, 10, 11, 12, 13, 21, 29, 63, 66, 76] mixed ?_; (repeat (first | refine RW.ro bq_tt (h := ?_) | refine RW.skip (h := ?_) | refine RW.op bq_tt (h := ?_) | refine RW.opN bq_tt (h := ?_) | refine RW.skip0 (h := ?_) | refine lit1 rfl rfl (h := ?_) | (refine RW.callC (h := ?_); (first | refine CallP.mk bq_tt (hc := head10_at _) (h := ?_))))); refine RW.nil ⟨conf_of (by kernel_rfl), Pruned.mk (h := ?_)⟩)
    refine SW.ret ?_
    exact End.mk [] (h4 := ⟨rfl, rfl⟩)
  by_cases hv : histV n l = 0
  case neg =>
    generalize histV n l = u at hh hv
    have h1 : (u != 0) = true := by rw [bne_iff_ne]; exact hv
    (refine SW.regL [0, 1, 2, 6, 7, 8, 9, 10, 11, 12, 13, 21, 29, 63, 66, 76] mixed ?_; (repeat (first | refine RW.ro (h1) (h := ?_) | refine RW.skip (h := ?_) | refine RW.op (h1) (h := ?_) | refine RW.opN (h1) (h := ?_) | refine RW.skip0 (h := ?_) | refine lit1 rfl rfl (h := ?_) | (refine RW.callC (h := ?_); (first | refine CallP.mk (h1) (hc := hg _) (h := ?_) | refine CallP.mk (h1) (hc := hh _) (h := ?_))))); refine RW.nil ⟨conf_of (by kernel_rfl), Pruned.mk (h := ?_)⟩)
    refine SW.condT rfl (SW.seq ?_)
    (refine SW.regL [0, 1, 2, 6, 7, 8, 9, 10, 11, 12, 13, 21, 29, 63, 66, 76] mixed ?_; (repeat (first | refine RW.ro bq_tt (h := ?_) | refine RW.skip (h := ?_) | refine RW.op bq_tt (h := ?_) | refine RW.opN bq_tt (h := ?_) | refine RW.skip0 (h := ?_) | refine lit1 rfl rfl (h := ?_) | (refine RW.callC (h := ?_); (first | refine CallP.mk bq_tt (hc := head10_at _) (h := ?_))))); refine RW.nil ⟨conf_of (by kernel_rfl), Pruned.mk (h := ?_)⟩)
    refine SW.ret ?_
    exact End.mk [] (h4 := ⟨rfl, rfl⟩)
  have hl80 := great_len hgv
  rw [hv] at hh
  have hH := histV_zero.1 hv
  (refine SW.regL [0, 1, 2, 6, 7, 8, 9, 10, 11, 12, 13, 21, 29, 63, 66, 76] mixed ?_; (repeat (first | refine RW.ro bq_tt (h := ?_) | refine RW.skip (h := ?_) | refine RW.op bq_tt (h := ?_) | refine RW.opN bq_tt (h := ?_) | refine RW.skip0 (h := ?_) | refine lit1 rfl rfl (h := ?_) | (refine RW.callC (h := ?_); (first | refine CallP.mk bq_tt (hc := hg _) (h := ?_) | refine CallP.mk bq_tt (hc := hh _) (h := ?_))))); refine RW.nil ⟨conf_of (by kernel_rfl), Pruned.mk (h := ?_)⟩)
  refine SW.condF rfl (SW.skip (SW.seq ?_))
  have hst := osort_at l (by omega)
  have hsp := hH.uniq.sortPerm
  have hsl := hsp.length_eq
  (refine SW.regL [0, 1, 2, 6, 7, 8, 9, 10, 11, 12, 13, 21, 29, 63, 66, 76] mixed ?_; (repeat (first | refine RW.ro bq_tt (h := ?_) | refine RW.skip (h := ?_) | refine RW.op bq_tt (h := ?_) | refine RW.opN bq_tt (h := ?_) | refine RW.skip0 (h := ?_) | refine lit1 rfl rfl (h := ?_) | (refine RW.callC (h := ?_); (first | refine CallP.mk bq_tt (hc := hst _) (h := ?_))))); refine RW.nil ⟨conf_of (by kernel_rfl), Pruned.mk (h := ?_)⟩)
  refine SW.seq ?_
  (refine SW.regL [0, 1, 2, 6, 7, 8, 9, 10, 11, 12, 13, 21, 29, 63, 66, 76] mixed ?_; (repeat (first | refine RW.ro bq_tt (h := ?_) | refine RW.skip (h := ?_) | refine RW.op bq_tt (h := ?_) | refine RW.opN bq_tt (h := ?_) | refine RW.skip0 (h := ?_) | refine lit1 rfl rfl (h := ?_))); refine RW.nil ⟨conf_of (by kernel_rfl), Pruned.mk (h := ?_)⟩)
  refine SW.nilrow 8 36 29 rfl ?_
  refine SW.seq (SW.seq ?_)
  have e0 : IntKind.i64.wrap ((l.length : Int) - 1) = (l.length : Int) - 1 := wrap_i64 _ (by omega)
  (refine SW.regL [0, 1, 2, 6, 7, 8, 9, 10, 11, 12, 13, 21, 29, 63, 66, 76] mixed ?_; (repeat (first | refine RW.ro (e0) (h := ?_) | refine RW.skip (h := ?_) | refine RW.op (e0) (h := ?_) | refine RW.opN (e0) (h := ?_) | refine RW.skip0 (h := ?_) | refine lit1 rfl rfl (h := ?_))); refine RW.nil ⟨conf_of (by kernel_rfl), Pruned.mk (h := ?_)⟩)
  refine SW.block ?_
  refine SW.loopA (α := {j : Nat // j ≤ l.length}) (fun j => ⟨[(9, i64 ((j.1 : Int) - 1)), (8, .gs 0 (l.drop j.1).reverse.length), (7, ops (osort l)), (2, u8 at_), (1, i64 n), (0, ops l)], [(0, .arr 36 29 (l.drop j.1).reverse.length (opc (l.drop j.1).reverse))], 1⟩) (fun j => j.1) ⟨l.length, Nat.le_refl _⟩ id (And.intro (show (l.drop l.length).reverse = [] by simp) bq_tt) (round := ?_)
  rintro ⟨j, hj⟩
  dsimp only
  refine SW.seq (SW.seq ?_)
  by_cases h : 0 < j
  · have h1 : decide ((j : Int) - 1 ≥ 0) = true := by simp only [decide_eq_true_eq]; omega
    obtain ⟨x, hx⟩ := get_of_lt (show j - 1 < l.length by omega)
    have e3 : (j : Int) - 1 = ((j - 1 : Nat) : Int) := by omega
    have e2 : IntKind.i64.wrap (((j - 1 : Nat) : Int) - 1) = ((j - 1 : Nat) : Int) - 1 := wrap_i64 _ (by omega)
    have e1 : (l.drop (j - 1)).reverse = (l.drop j).reverse ++ [x] := by
      have hd : l.drop (j - 1) = x :: l.drop j := by
        rw [List.drop_eq_getElem_cons (by omega)]
        rw [List.getElem?_eq_getElem (by omega)] at hx
        injection hx with hx
        rw [hx, show j - 1 + 1 = j by omega]
      rw [hd, List.reverse_cons]
    have hT : (l.drop j).reverse.length ≤ 80 := by simp; omega
    generalize (l.drop j).reverse = T at e1 hT ⊢
    rw [e3] at h1 ⊢
    (refine SW.regL [0, 1, 2, 6, 7, 8, 9, 10, 11, 12, 13, 21, 29, 63, 66, 76] mixed ?_; (repeat (first | refine RW.ro (h1) (h := ?_) | refine RW.skip (h := ?_) | refine RW.op (h1) (h := ?_) | refine RW.opN (h1) (h := ?_) | refine RW.skip0 (h := ?_) | refine lit1 rfl rfl (h := ?_))); refine RW.nil ⟨conf_of (by kernel_rfl), Pruned.mk (h := ?_)⟩)
    refine SW.condT rfl (SW.skip (SW.seq (SW.block ?_)))
    (have fx := (And.intro (op_at hx) (op_room0 hx)); refine SW.regL [0, 1, 2, 6, 7, 8, 9, 10, 11, 12, 13, 21, 29, 63, 66, 76] mixed ?_; (repeat (first | refine RW.ro fx (h := ?_) | refine RW.skip (h := ?_) | refine RW.op fx (h := ?_) | refine RW.opN fx (h := ?_) | refine RW.skip0 (h := ?_) | refine lit1 rfl rfl (h := ?_))); refine RW.nil ⟨conf_of (by kernel_rfl), Pruned.mk (h := ?_)⟩)
    (refine SW.regL [0, 1, 2, 6, 7, 8, 9, 10, 11, 12, 13, 21, 29, 63, 66, 76] mixed ?_; (repeat (first | refine RW.ro (e2) (h := ?_) | refine RW.skip (h := ?_) | refine RW.op (e2) (h := ?_) | refine RW.opN (e2) (h := ?_) | refine RW.skip0 (h := ?_) | refine lit1 rfl rfl (h := ?_))); refine RW.nil ⟨conf_of (by kernel_rfl), Pruned.mk (h := ?_)⟩)
    have e5 : (T ++ [x]).length = T.length + [x].length := by simp
    have e6 : opc (T ++ [x]) = opc T ++ List.map SV.d ([x].flatMap OpD.ds) := by simp [opc]
    refine ⟨⟨j - 1, by omega⟩, fun n => if n = 0 then 1 else n, by show j - 1 < j; omega, ?_⟩
    dsimp only
    rw [e1, e5, e6]
    exact Weak.mk bq_tt
  have h2 : j = 0 := by omega
  subst h2
  rw [List.drop_zero]
  have h1 : decide (((0 : Nat) : Int) - 1 ≥ 0) = false := by decide
  (refine SW.regL [0, 1, 2, 6, 7, 8, 9, 10, 11, 12, 13, 21, 29, 63, 66, 76] mixed ?_; (repeat (first | refine RW.ro (h1) (h := ?_) | refine RW.skip (h := ?_) | refine RW.op (h1) (h := ?_) | refine RW.opN (h1) (h := ?_) | refine RW.skip0 (h := ?_) | refine lit1 rfl rfl (h := ?_))); refine RW.nil ⟨conf_of (by kernel_rfl), Pruned.mk (h := ?_)⟩)
  refine SW.condF rfl (SW.exit (SW.seq (SW.seq ?_)))
  refine SW.freeze 0 (l.reverse.flatMap OpD.ds) rfl rfl ?_
  simp only [frzE, SV.frz, List.map_cons, List.map_nil, if_true, if_false, reduceIte, hdel, Nat.reduceEqDiff]
  have hst2 := osort_at l.reverse (by rw [List.length_reverse]; omega)
  rw [osort_turned hH.uniq] at hst2
  have hsm := fun k => samel_at (osort l) (by omega) (fun x hx => .inr (hl.op x (hsp.mem_iff.1 hx)).1.w.lin) k
  have hht := history_at n hn hn2 l.reverse (by rw [List.length_reverse]; omega) (fun o ho => hl.one o (List.mem_reverse.1 ho))
  rw [histV_zero.2 hH.turned] at hht
  have hk1 := fun k => known_at l (by omega) (fun x hx => by have := (hl.op x hx).1; exact ⟨this.dr, this.dn⟩) k
  have hk2 := fun k => known_at l.reverse (by rw [List.length_reverse]; omega) (fun x hx => by have := (hl.op x (List.mem_reverse.1 hx)).1; exact ⟨this.dr, this.dn⟩) k
  rw [known_turned] at hk2
  have e3 : ((((osort l).length : Nat) : Int) != ((l.length : Nat) : Int)) = false := by rw [hsl]; simp
  have d2 : ∀ d : Vec, decide (d = d) = true := fun d => by simp
  have cz := And.intro hst2 (And.intro hsm (And.intro hht (And.intro hk1 (And.intro hk2 True.intro))))
  refine SW.gM [0, 1, 2, 6, 7, 8, 9, 10, 11, 12, 13, 21, 29, 63, 66, 76] mixed (And.intro (e3) (d2)) cz ?_
  refine SW.condF rfl (SW.skip (SW.seq ?_))
  refine SW.g0 [0, 1, 2, 6, 7, 8, 9, 10, 11, 12, 13, 21, 29, 63, 66, 76] mixed bq_tt ?_
  obtain ⟨kk, hkk, hkl⟩ : ∃ kk : Nat, kk = (if (osort l).length > 0 then at_ % ((osort l).length + 1) else 0) ∧ kk ≤ (osort l).length := ⟨_, rfl, by split; (exact Nat.le_of_lt_succ (Nat.mod_lt _ (by omega))); omega⟩
  refine SW.cut (stM := ⟨[(10, i64 kk), (7, ops (osort l)), (1, i64 n), (0, ops l)], [], 0⟩) id ?_ ?_
  · refine SW.seq ?_
    by_cases h0 : (osort l).length > 0
    · have h1 : decide (((osort l).length : Int) > 0) = true := by simp only [decide_eq_true_eq]; omega
      rw [if_pos h0] at hkk
      have e1 : IntKind.i64.wrap (((osort l).length : Int) + 1) = (((osort l).length + 1 : Nat) : Int) := wrap_i64 _ (by omega)
      have e4 : ((at_ : Int)).tmod (((osort l).length + 1 : Nat) : Int) = (kk : Int) := by rw [hkk, Int.ofNat_tmod]
      have e5 : IntKind.i64.wrap (at_ : Int) = (at_ : Int) := wrap_i64 _ (by omega)
      have e6 : IntKind.i64.wrap (kk : Int) = (kk : Int) := wrap_i64 _ (by omega)
      refine SW.g0 [0, 1, 2, 6, 7, 8, 9, 10, 11, 12, 13, 21, 29, 63, 66, 76] mixed (h1) ?_
      refine SW.condT rfl ?_
      refine SW.g0 [0, 1, 2, 6, 7, 8, 9, 10, 11, 12, 13, 21, 29, 63, 66, 76] mixed (And.intro (e1) (And.intro (e4) (And.intro (e5) (e6)))) ?_
      exact Weak.mk bq_tt
    · have h1 : decide (((osort l).length : Int) > 0) = false := by simp only [decide_eq_false_iff_not]; omega
      rw [if_neg h0] at hkk
      subst hkk
      refine SW.g0 [0, 1, 2, 6, 7, 8, 9, 10, 11, 12, 13, 21, 29, 63, 66, 76] mixed (h1) ?_
      refine SW.condF rfl (SW.skip ?_)
      exact Weak.mk bq_tt
  refine SW.seq ?_
  refine SW.g0 [0, 1, 2, 6, 7, 8, 9, 10, 11, 12, 13, 21, 29, 63, 66, 76] mixed bq_tt ?_
  refine SW.seq ?_
  refine SW.g1 [0, 1, 2, 6, 7, 8, 9, 10, 11, 12, 13, 21, 29, 63, 66, 76] mixed bq_tt hk1 ?_
  refine SW.seq (SW.seq ?_)
  refine SW.g0 [0, 1, 2, 6, 7, 8, 9, 10, 11, 12, 13, 21, 29, 63, 66, 76] mixed bq_tt ?_
  refine SW.block ?_
  have hcnt := hH.count
  refine SW.loopA (α := {i : Nat // i ≤ 8}) (fun i => ⟨[(13, i64 i.1), (12, .ptr 0 0), (11, u64 (sumTo (knownV l) i.1)), (10, i64 kk), (7, ops (osort l)), (1, i64 n), (0, ops l)], [(0, .box 32 (knownV l).cells)], 1⟩) (fun i => 8 - i.1) ⟨0, by omega⟩ id (And.intro (show ((sumTo (knownV l) 0 : Nat) : Int) = 0 from rfl) bq_tt) (round := ?_)
  rintro ⟨i, hi⟩
  dsimp only
  refine SW.seq (SW.seq ?_)
  by_cases h : i < 8
  · have h1 : decide ((i : Int) < 8) = true := by simp only [decide_eq_true_eq]; omega
    have e2 : IntKind.i64.wrap ((i : Int) + 1) = ((i + 1 : Nat) : Int) := wrap_i64 _ (by omega)
    have hs1 : sumTo (knownV l) (i + 1) ≤ 80 := by
      have := sumTo_mono (knownV l) (show i + 1 ≤ 8 by omega)
      rw [sumTo_8, hcnt] at this; omega
    have hs2 : sumTo (knownV l) (i + 1) = sumTo (knownV l) i + (knownV l).get i := rfl
    have e4 : IntKind.u64.wrap (((knownV l).get i : Nat) : Int) = (((knownV l).get i : Nat) : Int) := wrap_u64' _ (by omega)
    have e5 : IntKind.u64.wrap (((sumTo (knownV l) i + (knownV l).get i : Nat)) : Int) = ((sumTo (knownV l) (i + 1) : Nat) : Int) := wrap_u64' _ (by omega)
    refine SW.g0 [0, 1, 2, 6, 7, 8, 9, 10, 11, 12, 13, 21, 29, 63, 66, 76] mixed (h1) ?_
    refine SW.condT rfl (SW.skip (SW.seq (SW.block ?_)))
    refine SW.g0 [0, 1, 2, 6, 7, 8, 9, 10, 11, 12, 13, 21, 29, 63, 66, 76] mixed (And.intro (h) (And.intro (Vec.cells_get (knownV l) h) (And.intro (e4) (e5)))) ?_
    refine SW.g0 [0, 1, 2, 6, 7, 8, 9, 10, 11, 12, 13, 21, 29, 63, 66, 76] mixed (e2) ?_
    refine ⟨⟨i + 1, by omega⟩, id, by show 8 - (i + 1) < 8 - i; omega, ?_⟩
    exact Weak.mk bq_tt
  have h1 : decide ((i : Int) < 8) = false := by simp only [decide_eq_false_iff_not]; omega
  have h2 : i = 8 := by omega
  subst h2
  rw [sumTo_8, hcnt]
  refine SW.g0 [0, 1, 2, 6, 7, 8, 9, 10, 11, 12, 13, 21, 29, 63, 66, 76] mixed (h1) ?_
  refine SW.condF rfl (SW.exit (SW.seq ?_))
  have hp := hH.begun kk
  have hhp := history_at n hn hn2 ((osort l).take kk) (by rw [List.length_take]; omega) (fun o ho => hl.one o (hsp.mem_iff.1 (List.mem_of_mem_take ho)))
  rw [histV_zero.2 hp] at hhp
  have hkp := fun k => known_at ((osort l).take kk) (by rw [List.length_take]; omega) (fun x hx => by have := (hl.op x (hsp.mem_iff.1 (List.mem_of_mem_take hx))).1; exact ⟨this.dr, this.dn⟩) k
  have hcp := fun k => cut_at (osort l) (by omega) (knownV ((osort l).take kk)) k
  rw [hH.cutPre kk] at hcp
  have hsp2 := fun k => samel_at ((osort l).take kk) (by rw [List.length_take]; omega) (fun x hx => .inr (hl.op x (hsp.mem_iff.1 (List.mem_of_mem_take hx))).1.w.lin) k
  have elen : ((osort l).take kk).length = kk := by rw [List.length_take]; omega
  have eops : ops ((osort l).take kk) = .d (.sl kk (List.take (kk * 29) ((osort l).flatMap OpD.ds))) := by unfold ops; rw [elen, ops_take]
  rw [eops] at hhp hkp hcp hsp2
  have e6 : IntKind.u64.wrap ((l.length : Nat) : Int) = ((l.length : Nat) : Int) := wrap_u64' _ (by omega)
  have e7 : (kk : Int).toNat = kk := Int.toNat_natCast kk
  have cz := And.intro hhp (And.intro hkp (And.intro hcp (And.intro hsp2 (And.intro head10_at True.intro))))
  refine SW.gM [0, 1, 2, 6, 7, 8, 9, 10, 11, 12, 13, 21, 29, 63, 66, 76] mixed (And.intro (e6) (And.intro (e7) (And.intro (hkl) (Nat.sub_zero)))) cz ?_
  refine SW.ret ?_
  exact End.mk [] (h4 := ⟨rfl, rfl⟩)
end Go.Proofs.YtemghnbbmahaaaaDoor
