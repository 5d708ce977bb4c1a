/-
  Spends: the law of charges in two parts.
-/
import Derived.Test.YtmmonbnlleeloaaKP
set_option linter.unusedSectionVars false
set_option linter.unusedVariables false
set_option linter.unusedSimpArgs false
namespace Go.Proofs.Ytmmonbnlleeloaa
open Go.Sl Go.Proofs
attribute [local irreducible] SW RW SCd SC CallP Pruned
set_option maxHeartbeats 8000000 in
theorem law22_parts (l : List OpD) (s : List Sp) (x y : Sp) (hr : ∀ o, o ∈ l → o.roles < 256) (hwf : ∀ o, o ∈ l → o.dot.wf) (hw : ∀ o, o ∈ l → lrow o) (hlen : l.length ≤ 9223372036854775807)
    (hs : s.length ≤ 9223372036854775807) (hsn : ∀ y, y ∈ s → y.n < 18446744073709551616) (hsw : ∀ y, y ∈ s → y.d.wf) (hxn : x.n < 18446744073709551616) (hyn : y.n < 18446744073709551616) :
    SB Try.prog law22_ChargeParts.f [ops l, sps s, .agg (x.cells ++ y.cells)] [] 0 0 (fun r F => r = bl true) := by
  have b1 : List.take 2 (x.cells ++ y.cells) = x.d.cells := rfl
  have b2 : List.take 2 (List.drop 3 (x.cells ++ y.cells)) = y.d.cells := rfl
  have b3 : (x.cells ++ y.cells)[2]? = some (u64 x.n) := rfl
  have b4 : (x.cells ++ y.cells)[5]? = some (u64 y.n) := rfl
  have b0 : (x.cells ++ y.cells).length = 6 := rfl
  have b5 : ∀ q, SV.oks q (x.cells ++ y.cells) = true := fun q => rfl
  have b6 : ∀ r, SV.rens r (x.cells ++ y.cells) = x.cells ++ y.cells := fun r => rfl
  refine law22_ChargeParts.enter (by simp [SV.ok, SV.oks, b5]) (by simp [Hp.ok]) (by simp) ?_
  unfold law22_ChargeParts.s
  have hG' := great_at l hw hlen
  refine SW.seq ?_
  (refine SW.regL [0, 1, 2, 5, 6, 7, 8, 9, 10, 11, 12, 13, 37, 70] mixed ?_; (repeat (first | refine RW.ro bq_tt (h := ?_) | refine RW.skip (h := ?_) | refine RW.op bq_tt (h := ?_) | refine RW.opN bq_tt (h := ?_) | refine RW.skip0 (h := ?_))); refine RW.nil ⟨by kernel_rfl, Pruned.mk (h := ?_)⟩)
  rcases hG : greatV l with _ | _
  · rw [hG] at hG'
    have hl80 := great_len hG
    by_cases h50 : l.length ≤ 50
    · have g1 : decide ((l.length : Int) > 50) = false := by simp; omega
      by_cases h60 : s.length ≤ 60
      · have g2 : decide ((s.length : Int) > 60) = false := by simp; omega
        by_cases hx41 : x.n ≤ 2199023255552
        · have g3 : decide ((x.n : Int) > 2199023255552) = false := by simp; omega
          by_cases hy41 : y.n ≤ 2199023255552
          · have g4 : decide ((y.n : Int) > 2199023255552) = false := by simp; omega
            obtain ⟨a, ca, m, cm, h⟩ := tn_of l
            have ht := h.tok
            have hl4 : l.length < 4611686018427387904 := by omega
            refine SW.seq (SW.seq ?_)
            (have fx := (And.intro (g1) (And.intro (g2) (And.intro (b1) (And.intro (b2) (And.intro (b3) (And.intro (b4) (And.intro (g3) (g4)))))))); refine SW.regL [0, 1, 2, 5, 6, 7, 8, 9, 10, 11, 12, 13, 37, 70] mixed ?_; (repeat (first | refine RW.ro fx (h := ?_) | refine RW.skip (h := ?_) | refine RW.op fx (h := ?_) | refine RW.opN fx (h := ?_) | refine RW.skip0 (h := ?_) | (refine RW.callC (h := ?_); (first | refine CallP.mk fx (hc := hG' _) (h := ?_) | refine CallP.mk fx (hc := h.newC1 (by omega)) (h := ?_))))); refine RW.nil ⟨by kernel_rfl, Pruned.mk (h := ?_)⟩)
            refine SW.condF rfl (SW.skip ?_)
            refine SW.seq ?_
            (refine SW.regL [0, 1, 2, 5, 6, 7, 8, 9, 10, 11, 12, 13, 37, 70] mixed ?_; (repeat (first | refine RW.ro bq_tt (h := ?_) | refine RW.skip (h := ?_) | refine RW.op bq_tt (h := ?_) | refine RW.opN bq_tt (h := ?_) | refine RW.skip0 (h := ?_) | (refine RW.callC (h := ?_); (first | refine CallP.mk bq_tt (hc := hG' _) (h := ?_) | refine CallP.mk bq_tt (hc := h.newC1 (by omega)) (h := ?_))))); refine RW.nil ⟨by kernel_rfl, Pruned.mk (h := ?_)⟩)
            refine SW.weak (fun n => if n = 0 then 1 else if n = 1 then 2 else if n = 2 then 3 else if n = 3 then 0 else n) (st1 := ⟨[(0, ops l), (1, sps s), (5, .ptr 3 0), (7, .ptr 2 0)], (3, .box 81 (x.cells ++ y.cells)) :: H2 a ca m cm, 8⟩) (Weak.mk (And.intro b5 (And.intro b6 (mapsF a m)))) ?_
            obtain ⟨L, hL, hL9, _⟩ := ht.ups x.d
            have e2 : IntKind.u64.wrap ((x.n : Int) + (y.n : Int)) = ((x.n + y.n : Nat) : Int) := by rw [wrap_u64' _ (by omega)]; omega
            have hc1 := h.chargeC s (by omega) x.d L hL (by omega) hsn (x.n + y.n)
            have hc2 := h.chargeC s (by omega) x.d L hL (by omega) hsn x.n
            by_cases hD : L.map (·.dot) = []
            · rw [hD] at hc1 hc2
              have hc1' : ∀ k, SCd Try.prog charge_Charge.f [.ptr 2 0, sps s, .agg x.d.cells, .d (.int .u64 ((x.n + y.n : Nat) : Int))] (H2 a ca m cm) k 0 (.tup [.d .nils, .d (.int .i64 7)]) (H2 a ca m cm) := hc1
              have hc2' : ∀ k, SCd Try.prog charge_Charge.f [.ptr 2 0, sps s, .agg x.d.cells, .d (.int .u64 (x.n : Int))] (H2 a ca m cm) k 0 (.tup [.d .nils, .d (.int .i64 7)]) (H2 a ca m cm) := hc2
              refine SW.seq ?_
              (have fx := (And.intro (e2) (And.intro (b1) (And.intro (b3) (b4)))); refine SW.regL [0, 1, 2, 5, 6, 7, 8, 9, 10, 11, 12, 13, 37, 70] mixed ?_; (repeat (first | refine RW.ro fx (h := ?_) | refine RW.skip (h := ?_) | refine RW.op fx (h := ?_) | refine RW.opN fx (h := ?_) | refine RW.skip0 (h := ?_) | (refine RW.callC (h := ?_); (first | refine CallP.mk fx (hc := hc1' _) (h := ?_) | refine CallP.mk fx (hc := hc2' _) (h := ?_) | refine CallP.mk fx (hc := head22_at _) (h := ?_))))); refine RW.nil ⟨by kernel_rfl, Pruned.mk (h := ?_)⟩)
              refine SW.seq ?_
              (refine SW.regL [0, 1, 2, 5, 6, 7, 8, 9, 10, 11, 12, 13, 37, 70] mixed ?_; (repeat (first | refine RW.ro (And.intro (b1) (b3)) (h := ?_) | refine RW.skip (h := ?_) | refine RW.op (And.intro (b1) (b3)) (h := ?_) | refine RW.opN (And.intro (b1) (b3)) (h := ?_) | refine RW.skip0 (h := ?_) | (refine RW.callC (h := ?_); (first | refine CallP.mk (And.intro (b1) (b3)) (hc := hc1' _) (h := ?_) | refine CallP.mk (And.intro (b1) (b3)) (hc := hc2' _) (h := ?_) | refine CallP.mk (And.intro (b1) (b3)) (hc := head22_at _) (h := ?_))))); refine RW.nil ⟨by kernel_rfl, Pruned.mk (h := ?_)⟩)
              refine SW.seq (SW.seq ?_)
              (refine SW.regL [0, 1, 2, 5, 6, 7, 8, 9, 10, 11, 12, 13, 37, 70] mixed ?_; (repeat (first | refine RW.ro bq_tt (h := ?_) | refine RW.skip (h := ?_) | refine RW.op bq_tt (h := ?_) | refine RW.opN bq_tt (h := ?_) | refine RW.skip0 (h := ?_) | (refine RW.callC (h := ?_); (first | refine CallP.mk bq_tt (hc := hc1' _) (h := ?_) | refine CallP.mk bq_tt (hc := hc2' _) (h := ?_) | refine CallP.mk bq_tt (hc := head22_at _) (h := ?_))))); refine RW.nil ⟨by kernel_rfl, Pruned.mk (h := ?_)⟩)
              refine SW.condT rfl (SW.seq ?_)
              (refine SW.regL [0, 1, 2, 5, 6, 7, 8, 9, 10, 11, 12, 13, 37, 70] mixed ?_; (repeat (first | refine RW.ro bq_tt (h := ?_) | refine RW.skip (h := ?_) | refine RW.op bq_tt (h := ?_) | refine RW.opN bq_tt (h := ?_) | refine RW.skip0 (h := ?_) | (refine RW.callC (h := ?_); (first | refine CallP.mk bq_tt (hc := hc1' _) (h := ?_) | refine CallP.mk bq_tt (hc := hc2' _) (h := ?_) | refine CallP.mk bq_tt (hc := head22_at _) (h := ?_))))); refine RW.nil ⟨by kernel_rfl, Pruned.mk (h := ?_)⟩)
              refine SW.ret ?_
              exact End.mk [] (h4 := rfl)
            · by_cases hR : x.n ≤ rV (leftF a s) (L.map (·.dot))
              · have hnd := h.tok0.upsNd hL
                have hB := chg_len x.n s (L.map (·.dot))
                rw [List.length_map] at hB
                have hc3 := h.chargeC (chg x.n s (L.map (·.dot))) (by omega) x.d L hL (by omega) (chg_lt h.tok0 hsn hL hR) y.n
                rw [cS_done hD hR, cE_ok hD hR] at hc2
                have hpr := parts_room (a := a) (n := x.n) (s := s) hnd
                by_cases hQ : x.n + y.n ≤ rV (leftF a s) (L.map (·.dot))
                · rw [cS_done hD hQ, cE_ok hD hQ] at hc1
                  rw [cS_done hD (by rw [hpr]; omega), cE_ok hD (by rw [hpr]; omega), parts_row _ _ _ hnd] at hc3
                  have hQl := chg_len (x.n + y.n) s (L.map (·.dot))
                  rw [List.length_map] at hQl
                  have hsm := spsame_at (chg (x.n + y.n) s (L.map (·.dot))) (chg (x.n + y.n) s (L.map (·.dot))) (by omega) (by omega)
                  rw [decide_eq_true rfl] at hsm
                  generalize chg (x.n + y.n) s (L.map (·.dot)) = A at hc1 hc3 hsm hQl
                  generalize chg x.n s (L.map (·.dot)) = B at hc2 hc3 hB
                  refine SW.seq ?_
                  (have fx := (And.intro (e2) (And.intro (b1) (And.intro (b3) (b4)))); refine SW.regL [0, 1, 2, 5, 6, 7, 8, 9, 10, 11, 12, 13, 37, 70] mixed ?_; (repeat (first | refine RW.ro fx (h := ?_) | refine RW.skip (h := ?_) | refine RW.op fx (h := ?_) | refine RW.opN fx (h := ?_) | refine RW.skip0 (h := ?_) | (refine RW.callC (h := ?_); (first | refine CallP.mk fx (hc := hc1 _) (h := ?_) | refine CallP.mk fx (hc := hc2 _) (h := ?_) | refine CallP.mk fx (hc := hc3 _) (h := ?_) | refine CallP.mk fx (hc := hsm _) (h := ?_) | refine CallP.mk fx (hc := head22_at _) (h := ?_))))); refine RW.nil ⟨by kernel_rfl, Pruned.mk (h := ?_)⟩)
                  refine SW.seq ?_
                  (refine SW.regL [0, 1, 2, 5, 6, 7, 8, 9, 10, 11, 12, 13, 37, 70] mixed ?_; (repeat (first | refine RW.ro (And.intro (b1) (b3)) (h := ?_) | refine RW.skip (h := ?_) | refine RW.op (And.intro (b1) (b3)) (h := ?_) | refine RW.opN (And.intro (b1) (b3)) (h := ?_) | refine RW.skip0 (h := ?_) | (refine RW.callC (h := ?_); (first | refine CallP.mk (And.intro (b1) (b3)) (hc := hc1 _) (h := ?_) | refine CallP.mk (And.intro (b1) (b3)) (hc := hc2 _) (h := ?_) | refine CallP.mk (And.intro (b1) (b3)) (hc := hc3 _) (h := ?_) | refine CallP.mk (And.intro (b1) (b3)) (hc := hsm _) (h := ?_) | refine CallP.mk (And.intro (b1) (b3)) (hc := head22_at _) (h := ?_))))); refine RW.nil ⟨by kernel_rfl, Pruned.mk (h := ?_)⟩)
                  refine SW.seq (SW.seq ?_)
                  (refine SW.regL [0, 1, 2, 5, 6, 7, 8, 9, 10, 11, 12, 13, 37, 70] mixed ?_; (repeat (first | refine RW.ro bq_tt (h := ?_) | refine RW.skip (h := ?_) | refine RW.op bq_tt (h := ?_) | refine RW.opN bq_tt (h := ?_) | refine RW.skip0 (h := ?_) | (refine RW.callC (h := ?_); (first | refine CallP.mk bq_tt (hc := hc1 _) (h := ?_) | refine CallP.mk bq_tt (hc := hc2 _) (h := ?_) | refine CallP.mk bq_tt (hc := hc3 _) (h := ?_) | refine CallP.mk bq_tt (hc := hsm _) (h := ?_) | refine CallP.mk bq_tt (hc := head22_at _) (h := ?_))))); refine RW.nil ⟨by kernel_rfl, Pruned.mk (h := ?_)⟩)
                  refine SW.condF rfl (SW.skip ?_)
                  refine SW.seq ?_
                  (refine SW.regL [0, 1, 2, 5, 6, 7, 8, 9, 10, 11, 12, 13, 37, 70] mixed ?_; (repeat (first | refine RW.ro (And.intro (b1) (b4)) (h := ?_) | refine RW.skip (h := ?_) | refine RW.op (And.intro (b1) (b4)) (h := ?_) | refine RW.opN (And.intro (b1) (b4)) (h := ?_) | refine RW.skip0 (h := ?_) | (refine RW.callC (h := ?_); (first | refine CallP.mk (And.intro (b1) (b4)) (hc := hc1 _) (h := ?_) | refine CallP.mk (And.intro (b1) (b4)) (hc := hc2 _) (h := ?_) | refine CallP.mk (And.intro (b1) (b4)) (hc := hc3 _) (h := ?_) | refine CallP.mk (And.intro (b1) (b4)) (hc := hsm _) (h := ?_) | refine CallP.mk (And.intro (b1) (b4)) (hc := head22_at _) (h := ?_))))); refine RW.nil ⟨by kernel_rfl, Pruned.mk (h := ?_)⟩)
                  refine SW.seq ?_
                  (refine SW.regL [0, 1, 2, 5, 6, 7, 8, 9, 10, 11, 12, 13, 37, 70] mixed ?_; (repeat (first | refine RW.ro bq_tt (h := ?_) | refine RW.skip (h := ?_) | refine RW.op bq_tt (h := ?_) | refine RW.opN bq_tt (h := ?_) | refine RW.skip0 (h := ?_) | (refine RW.callC (h := ?_); (first | refine CallP.mk bq_tt (hc := hc1 _) (h := ?_) | refine CallP.mk bq_tt (hc := hc2 _) (h := ?_) | refine CallP.mk bq_tt (hc := hc3 _) (h := ?_) | refine CallP.mk bq_tt (hc := hsm _) (h := ?_) | refine CallP.mk bq_tt (hc := head22_at _) (h := ?_))))); refine RW.nil ⟨by kernel_rfl, Pruned.mk (h := ?_)⟩)
                  refine SW.ret ?_
                  exact End.mk [] (h4 := rfl)
                · rw [cS_over hD (by omega), cE_over hD (by omega)] at hc1
                  rw [cS_over hD (by rw [hpr]; omega), cE_over hD (by rw [hpr]; omega)] at hc3
                  have hP1 := plainR_len s
                  have hP2 := plainR_len (chg x.n s (L.map (·.dot)))
                  have hsm := spsame_at (plainR s) (plainR (chg x.n s (L.map (·.dot)))) (by omega) (by omega)
                  generalize chg x.n s (L.map (·.dot)) = B at hc2 hc3 hB hsm
                  refine SW.seq ?_
                  (have fx := (And.intro (e2) (And.intro (b1) (And.intro (b3) (b4)))); refine SW.regL [0, 1, 2, 5, 6, 7, 8, 9, 10, 11, 12, 13, 37, 70] mixed ?_; (repeat (first | refine RW.ro fx (h := ?_) | refine RW.skip (h := ?_) | refine RW.op fx (h := ?_) | refine RW.opN fx (h := ?_) | refine RW.skip0 (h := ?_) | (refine RW.callC (h := ?_); (first | refine CallP.mk fx (hc := hc1 _) (h := ?_) | refine CallP.mk fx (hc := hc2 _) (h := ?_) | refine CallP.mk fx (hc := hc3 _) (h := ?_) | refine CallP.mk fx (hc := hsm _) (h := ?_) | refine CallP.mk fx (hc := head22_at _) (h := ?_))))); refine RW.nil ⟨by kernel_rfl, Pruned.mk (h := ?_)⟩)
                  refine SW.seq ?_
                  (refine SW.regL [0, 1, 2, 5, 6, 7, 8, 9, 10, 11, 12, 13, 37, 70] mixed ?_; (repeat (first | refine RW.ro (And.intro (b1) (b3)) (h := ?_) | refine RW.skip (h := ?_) | refine RW.op (And.intro (b1) (b3)) (h := ?_) | refine RW.opN (And.intro (b1) (b3)) (h := ?_) | refine RW.skip0 (h := ?_) | (refine RW.callC (h := ?_); (first | refine CallP.mk (And.intro (b1) (b3)) (hc := hc1 _) (h := ?_) | refine CallP.mk (And.intro (b1) (b3)) (hc := hc2 _) (h := ?_) | refine CallP.mk (And.intro (b1) (b3)) (hc := hc3 _) (h := ?_) | refine CallP.mk (And.intro (b1) (b3)) (hc := hsm _) (h := ?_) | refine CallP.mk (And.intro (b1) (b3)) (hc := head22_at _) (h := ?_))))); refine RW.nil ⟨by kernel_rfl, Pruned.mk (h := ?_)⟩)
                  refine SW.seq (SW.seq ?_)
                  (refine SW.regL [0, 1, 2, 5, 6, 7, 8, 9, 10, 11, 12, 13, 37, 70] mixed ?_; (repeat (first | refine RW.ro bq_tt (h := ?_) | refine RW.skip (h := ?_) | refine RW.op bq_tt (h := ?_) | refine RW.opN bq_tt (h := ?_) | refine RW.skip0 (h := ?_) | (refine RW.callC (h := ?_); (first | refine CallP.mk bq_tt (hc := hc1 _) (h := ?_) | refine CallP.mk bq_tt (hc := hc2 _) (h := ?_) | refine CallP.mk bq_tt (hc := hc3 _) (h := ?_) | refine CallP.mk bq_tt (hc := hsm _) (h := ?_) | refine CallP.mk bq_tt (hc := head22_at _) (h := ?_))))); refine RW.nil ⟨by kernel_rfl, Pruned.mk (h := ?_)⟩)
                  refine SW.condF rfl (SW.skip ?_)
                  refine SW.seq ?_
                  (refine SW.regL [0, 1, 2, 5, 6, 7, 8, 9, 10, 11, 12, 13, 37, 70] mixed ?_; (repeat (first | refine RW.ro (And.intro (b1) (b4)) (h := ?_) | refine RW.skip (h := ?_) | refine RW.op (And.intro (b1) (b4)) (h := ?_) | refine RW.opN (And.intro (b1) (b4)) (h := ?_) | refine RW.skip0 (h := ?_) | (refine RW.callC (h := ?_); (first | refine CallP.mk (And.intro (b1) (b4)) (hc := hc1 _) (h := ?_) | refine CallP.mk (And.intro (b1) (b4)) (hc := hc2 _) (h := ?_) | refine CallP.mk (And.intro (b1) (b4)) (hc := hc3 _) (h := ?_) | refine CallP.mk (And.intro (b1) (b4)) (hc := hsm _) (h := ?_) | refine CallP.mk (And.intro (b1) (b4)) (hc := head22_at _) (h := ?_))))); refine RW.nil ⟨by kernel_rfl, Pruned.mk (h := ?_)⟩)
                  refine SW.seq ?_
                  (refine SW.regL [0, 1, 2, 5, 6, 7, 8, 9, 10, 11, 12, 13, 37, 70] mixed ?_; (repeat (first | refine RW.ro bq_tt (h := ?_) | refine RW.skip (h := ?_) | refine RW.op bq_tt (h := ?_) | refine RW.opN bq_tt (h := ?_) | refine RW.skip0 (h := ?_) | (refine RW.callC (h := ?_); (first | refine CallP.mk bq_tt (hc := hc1 _) (h := ?_) | refine CallP.mk bq_tt (hc := hc2 _) (h := ?_) | refine CallP.mk bq_tt (hc := hc3 _) (h := ?_) | refine CallP.mk bq_tt (hc := hsm _) (h := ?_) | refine CallP.mk bq_tt (hc := head22_at _) (h := ?_))))); refine RW.nil ⟨by kernel_rfl, Pruned.mk (h := ?_)⟩)
                  refine SW.ret ?_
                  exact End.mk [] (h4 := rfl)
              · rw [cS_over hD (by omega), cE_over hD (by omega)] at hc1 hc2
                refine SW.seq ?_
                (have fx := (And.intro (e2) (And.intro (b1) (And.intro (b3) (b4)))); refine SW.regL [0, 1, 2, 5, 6, 7, 8, 9, 10, 11, 12, 13, 37, 70] mixed ?_; (repeat (first | refine RW.ro fx (h := ?_) | refine RW.skip (h := ?_) | refine RW.op fx (h := ?_) | refine RW.opN fx (h := ?_) | refine RW.skip0 (h := ?_) | (refine RW.callC (h := ?_); (first | refine CallP.mk fx (hc := hc1 _) (h := ?_) | refine CallP.mk fx (hc := hc2 _) (h := ?_) | refine CallP.mk fx (hc := head22_at _) (h := ?_))))); refine RW.nil ⟨by kernel_rfl, Pruned.mk (h := ?_)⟩)
                refine SW.seq ?_
                (refine SW.regL [0, 1, 2, 5, 6, 7, 8, 9, 10, 11, 12, 13, 37, 70] mixed ?_; (repeat (first | refine RW.ro (And.intro (b1) (b3)) (h := ?_) | refine RW.skip (h := ?_) | refine RW.op (And.intro (b1) (b3)) (h := ?_) | refine RW.opN (And.intro (b1) (b3)) (h := ?_) | refine RW.skip0 (h := ?_) | (refine RW.callC (h := ?_); (first | refine CallP.mk (And.intro (b1) (b3)) (hc := hc1 _) (h := ?_) | refine CallP.mk (And.intro (b1) (b3)) (hc := hc2 _) (h := ?_) | refine CallP.mk (And.intro (b1) (b3)) (hc := head22_at _) (h := ?_))))); refine RW.nil ⟨by kernel_rfl, Pruned.mk (h := ?_)⟩)
                refine SW.seq (SW.seq ?_)
                (refine SW.regL [0, 1, 2, 5, 6, 7, 8, 9, 10, 11, 12, 13, 37, 70] mixed ?_; (repeat (first | refine RW.ro bq_tt (h := ?_) | refine RW.skip (h := ?_) | refine RW.op bq_tt (h := ?_) | refine RW.opN bq_tt (h := ?_) | refine RW.skip0 (h := ?_) | (refine RW.callC (h := ?_); (first | refine CallP.mk bq_tt (hc := hc1 _) (h := ?_) | refine CallP.mk bq_tt (hc := hc2 _) (h := ?_) | refine CallP.mk bq_tt (hc := head22_at _) (h := ?_))))); refine RW.nil ⟨by kernel_rfl, Pruned.mk (h := ?_)⟩)
                refine SW.condT rfl (SW.seq ?_)
                (refine SW.regL [0, 1, 2, 5, 6, 7, 8, 9, 10, 11, 12, 13, 37, 70] mixed ?_; (repeat (first | refine RW.ro bq_tt (h := ?_) | refine RW.skip (h := ?_) | refine RW.op bq_tt (h := ?_) | refine RW.opN bq_tt (h := ?_) | refine RW.skip0 (h := ?_) | (refine RW.callC (h := ?_); (first | refine CallP.mk bq_tt (hc := hc1 _) (h := ?_) | refine CallP.mk bq_tt (hc := hc2 _) (h := ?_) | refine CallP.mk bq_tt (hc := head22_at _) (h := ?_))))); refine RW.nil ⟨by kernel_rfl, Pruned.mk (h := ?_)⟩)
                refine SW.ret ?_
                exact End.mk [] (h4 := rfl)
          · have g4 : decide ((y.n : Int) > 2199023255552) = true := by simp; omega
            (repeat (first | refine SW.seq ?_ | refine SW.block ?_ | (have fx := (And.intro (g1) (And.intro (g2) (And.intro (b1) (And.intro (b2) (And.intro (b3) (And.intro (b4) (And.intro (g3) (g4)))))))); refine SW.regL [0, 1, 2, 5, 6, 7, 8, 9, 10, 11, 12, 13, 37, 70] mixed ?_; (repeat (first | refine RW.ro fx (h := ?_) | refine RW.skip (h := ?_) | refine RW.op fx (h := ?_) | refine RW.opN fx (h := ?_) | refine RW.skip0 (h := ?_) | (refine RW.callC (h := ?_); (first | refine CallP.mk fx (hc := hG' _) (h := ?_) | refine CallP.mk fx (hc := head22_at _) (h := ?_))))); refine RW.nil ⟨by kernel_rfl, Pruned.mk (h := ?_)⟩) | refine SW.skip ?_ | refine SW.exit ?_ | refine SW.ret ?_ | refine SW.condT rfl ?_ | refine SW.condF rfl ?_))
            exact End.mk [] (h4 := rfl)
        · have g3 : decide ((x.n : Int) > 2199023255552) = true := by simp; omega
          (repeat (first | refine SW.seq ?_ | refine SW.block ?_ | (have fx := (And.intro (g1) (And.intro (g2) (And.intro (b1) (And.intro (b2) (And.intro (b3) (And.intro (b4) (g3))))))); refine SW.regL [0, 1, 2, 5, 6, 7, 8, 9, 10, 11, 12, 13, 37, 70] mixed ?_; (repeat (first | refine RW.ro fx (h := ?_) | refine RW.skip (h := ?_) | refine RW.op fx (h := ?_) | refine RW.opN fx (h := ?_) | refine RW.skip0 (h := ?_) | (refine RW.callC (h := ?_); (first | refine CallP.mk fx (hc := hG' _) (h := ?_) | refine CallP.mk fx (hc := head22_at _) (h := ?_))))); refine RW.nil ⟨by kernel_rfl, Pruned.mk (h := ?_)⟩) | refine SW.skip ?_ | refine SW.exit ?_ | refine SW.ret ?_ | refine SW.condT rfl ?_ | refine SW.condF rfl ?_))
          exact End.mk [] (h4 := rfl)
      · have g2 : decide ((s.length : Int) > 60) = true := by simp; omega
        (repeat (first | refine SW.seq ?_ | refine SW.block ?_ | (refine SW.regL [0, 1, 2, 5, 6, 7, 8, 9, 10, 11, 12, 13, 37, 70] mixed ?_; (repeat (first | refine RW.ro (And.intro (g1) (g2)) (h := ?_) | refine RW.skip (h := ?_) | refine RW.op (And.intro (g1) (g2)) (h := ?_) | refine RW.opN (And.intro (g1) (g2)) (h := ?_) | refine RW.skip0 (h := ?_) | (refine RW.callC (h := ?_); (first | refine CallP.mk (And.intro (g1) (g2)) (hc := hG' _) (h := ?_) | refine CallP.mk (And.intro (g1) (g2)) (hc := head22_at _) (h := ?_))))); refine RW.nil ⟨by kernel_rfl, Pruned.mk (h := ?_)⟩) | refine SW.skip ?_ | refine SW.exit ?_ | refine SW.ret ?_ | refine SW.condT rfl ?_ | refine SW.condF rfl ?_))
        exact End.mk [] (h4 := rfl)
    · have g1 : decide ((l.length : Int) > 50) = true := by simp; omega
      (repeat (first | refine SW.seq ?_ | refine SW.block ?_ | (refine SW.regL [0, 1, 2, 5, 6, 7, 8, 9, 10, 11, 12, 13, 37, 70] mixed ?_; (repeat (first | refine RW.ro (g1) (h := ?_) | refine RW.skip (h := ?_) | refine RW.op (g1) (h := ?_) | refine RW.opN (g1) (h := ?_) | refine RW.skip0 (h := ?_) | (refine RW.callC (h := ?_); (first | refine CallP.mk (g1) (hc := hG' _) (h := ?_) | refine CallP.mk (g1) (hc := head22_at _) (h := ?_))))); refine RW.nil ⟨by kernel_rfl, Pruned.mk (h := ?_)⟩) | refine SW.skip ?_ | refine SW.exit ?_ | refine SW.ret ?_ | refine SW.condT rfl ?_ | refine SW.condF rfl ?_))
      exact End.mk [] (h4 := rfl)
  · rw [hG] at hG'
    (repeat (first | refine SW.seq ?_ | refine SW.block ?_ | (refine SW.regL [0, 1, 2, 5, 6, 7, 8, 9, 10, 11, 12, 13, 37, 70] mixed ?_; (repeat (first | refine RW.ro bq_tt (h := ?_) | refine RW.skip (h := ?_) | refine RW.op bq_tt (h := ?_) | refine RW.opN bq_tt (h := ?_) | refine RW.skip0 (h := ?_) | (refine RW.callC (h := ?_); (first | refine CallP.mk bq_tt (hc := hG' _) (h := ?_) | refine CallP.mk bq_tt (hc := head22_at _) (h := ?_))))); refine RW.nil ⟨by kernel_rfl, Pruned.mk (h := ?_)⟩) | refine SW.skip ?_ | refine SW.exit ?_ | refine SW.ret ?_ | refine SW.condT rfl ?_ | refine SW.condF rfl ?_))
    exact End.mk [] (h4 := rfl)
end Go.Proofs.Ytmmonbnlleeloaa
