/-
  Spends: the law of two charges, either way round.
-/
import Derived.Test.YtmmonbnlleeloaaKP
set_option linter.unusedSectionVars false
set_option linter.unusedVariables false
set_option linter.unusedSimpArgs false
namespace Go.Proofs.Ytmmonbnlleeloaa
open Go.Sl Go.Proofs
attribute [local irreducible] SW RW SCd SC CallP Pruned
theorem le_rV {f : Dt → Nat} {D : List Dt} {n : Nat} (hD : D ≠ []) : n ≤ rV f D ↔ ∀ x, x ∈ D → n ≤ f x := by
  constructor
  · intro h x hx; exact Nat.le_trans h (rV_le f hx)
  · intro h
    obtain ⟨x, hx, e⟩ := rV_mem f hD
    rw [e]; exact h x hx
theorem turned_fit {a : MM Dt Cr} {n n' : Nat} {s : List Sp} {D D' : List Dt} (hnd : D.Nodup) (h0 : D ≠ []) (h0' : D' ≠ []) (h : n ≤ rV (leftF a s) D) (h' : n' ≤ rV (leftF a s) D') :
    n' ≤ rV (leftF a (chg n s D)) D' ↔ ∀ x, x ∈ D' → x ∈ D → n + n' ≤ leftF a s x := by
  rw [le_rV h0']
  rw [le_rV h0'] at h'
  rw [le_rV h0] at h
  constructor
  · intro k x hx hx'
    have := k x hx
    rw [left_chg hnd, if_pos hx'] at this
    have := h x hx'
    omega
  · intro k x hx
    rw [left_chg hnd]
    by_cases hm : x ∈ D
    · have := k x hx hm
      rw [if_pos hm]; omega
    · rw [if_neg hm]
      have := h' x hx
      omega
def meets (D D' : List Dt) : Bool := D.any fun x => decide (x ∈ D')
theorem meets_snoc (D D' : List Dt) (x : Dt) : meets (D ++ [x]) D' = (meets D D' || decide (x ∈ D')) := by
  unfold meets; simp
theorem cE_zero {f : Dt → Nat} {n : Nat} {D : List Dt} (h : cE f n D = 0) : D ≠ [] ∧ n ≤ rV f D := by
  cases D with
  | nil => cases h
  | cons d r =>
    refine ⟨by simp, ?_⟩
    by_cases hn : n ≤ rV f (d :: r)
    · exact hn
    · rw [cE_over (by simp) (by omega)] at h; cases h
section
variable {l : List OpD} {a : MM Dt Cr} {ca : Nat} {m : MM Dt OpD} {cm : Nat} (h : Tn l a ca m cm)
include h
theorem Tn.chargeAny (s : List Sp) (hs : s.length ≤ 1000) (hsn : ∀ y, y ∈ s → y.n < 18446744073709551616) (d : Dt) (L : List Cr) (hL : Ups a (MM.get a d) L) (hlL : L.length < 1000) (n : Nat) (d' : Dt) (L' : List Cr) (hL' : Ups a (MM.get a d') L') (hlL' : L'.length < 1000) (n' : Nat) :
    ∃ Q E, (∀ q, SV.ok q Q = true) ∧ (∀ r, SV.ren r Q = Q) ∧ ∀ k, SCd Try.prog charge_Charge.f [.ptr 2 0, cS (leftF a s) n s (L.map (·.dot)), .agg d'.cells, .d (.int .u64 (n' : Int))] (H2 a ca m cm) k 0 (.tup [Q, .d (.int .i64 E)]) (H2 a ca m cm) := by
  by_cases hD : L.map (·.dot) = []
  · rw [hD]
    exact ⟨_, _, fun q => cS_ok _ _ _ _ q, fun r => cS_ren _ _ _ _ r, fun k => h.chargeC0 d' L' hL' (by omega) n' k⟩
  · by_cases hn : n ≤ rV (leftF a s) (L.map (·.dot))
    · rw [cS_done hD hn]
      have hl := chg_len n s (L.map (·.dot))
      rw [List.length_map] at hl
      exact ⟨_, _, fun q => cS_ok _ _ _ _ q, fun r => cS_ren _ _ _ _ r, fun k => h.chargeC (chg n s (L.map (·.dot))) (by omega) d' L' hL' (by omega) (chg_lt h.tok0 hsn hL hn) n' k⟩
    · rw [cS_over hD (by omega)]
      have hl := plainR_len s
      refine ⟨_, _, fun q => cS_ok _ _ _ _ q, fun r => cS_ren _ _ _ _ r, fun k => h.chargeC (plainR s) (by omega) d' L' hL' (by omega) (fun y hy => ?_) n' k⟩
      rw [((plainR_row s).val y hy).1]
      exact spentOf_lt hsn _
end
set_option maxHeartbeats 8000000 in
theorem law22_turned (l : List OpD) (s : List Sp) (x y : Sp) (hr : ∀ o, o ∈ l → o.roles < 256) (hwf : ∀ o, o ∈ l → o.dot.wf) (hw : ∀ o, o ∈ l → lrow o) (hlen : l.length ≤ 9223372036854775807)
    (hs : s.length ≤ 9223372036854775807) (hsn : ∀ y, y ∈ s → y.n < 18446744073709551616) (hsw : ∀ y, y ∈ s → y.d.wf) (hxn : x.n < 18446744073709551616) (hyn : y.n < 18446744073709551616) :
    SB Try.prog law22_ChargeTurned.f [ops l, sps s, .agg (x.cells ++ y.cells)] [] 0 0 (fun r F => r = bl true) := by
  have b1 : List.take 2 (x.cells ++ y.cells) = x.d.cells := rfl
  have b2 : List.take 2 (List.drop 3 (x.cells ++ y.cells)) = y.d.cells := rfl
  have b3 : (x.cells ++ y.cells)[2]? = some (u64 x.n) := rfl
  have b4 : (x.cells ++ y.cells)[5]? = some (u64 y.n) := rfl
  have b0 : (x.cells ++ y.cells).length = 6 := rfl
  have b5 : ∀ q, SV.oks q (x.cells ++ y.cells) = true := fun q => rfl
  have b6 : ∀ r, SV.rens r (x.cells ++ y.cells) = x.cells ++ y.cells := fun r => rfl
  refine law22_ChargeTurned.enter (by simp [SV.ok, SV.oks, b5]) (by simp [Hp.ok]) (by simp) ?_
  unfold law22_ChargeTurned.s
  have hG' := great_at l hw hlen
  refine SW.seq ?_
  (refine SW.regL [0, 1, 2, 5, 6, 7, 8, 9, 10, 11, 12, 13, 14, 15, 16, 18, 20, 21, 33, 90, 104, 124] mixed ?_; (repeat (first | refine RW.ro bq_tt (h := ?_) | refine RW.skip (h := ?_) | refine RW.op bq_tt (h := ?_) | refine RW.opN bq_tt (h := ?_) | refine RW.skip0 (h := ?_))); refine RW.nil ⟨by kernel_rfl, Pruned.mk (h := ?_)⟩)
  rcases hG : greatV l with _ | _
  · rw [hG] at hG'
    have hl80 := great_len hG
    by_cases h50 : l.length ≤ 50
    · have g1 : decide ((l.length : Int) > 50) = false := by simp; omega
      by_cases h60 : s.length ≤ 60
      · have g2 : decide ((s.length : Int) > 60) = false := by simp; omega
        obtain ⟨a, ca, m, cm, h⟩ := tn_of l
        have ht := h.tok
        have hl4 : l.length < 4611686018427387904 := by omega
        refine SW.seq (SW.seq ?_)
        (refine SW.regL [0, 1, 2, 5, 6, 7, 8, 9, 10, 11, 12, 13, 14, 15, 16, 18, 20, 21, 33, 90, 104, 124] mixed ?_; (repeat (first | refine RW.ro (And.intro (g1) (g2)) (h := ?_) | refine RW.skip (h := ?_) | refine RW.op (And.intro (g1) (g2)) (h := ?_) | refine RW.opN (And.intro (g1) (g2)) (h := ?_) | refine RW.skip0 (h := ?_) | (refine RW.callC (h := ?_); (first | refine CallP.mk (And.intro (g1) (g2)) (hc := hG' _) (h := ?_) | refine CallP.mk (And.intro (g1) (g2)) (hc := h.newC1 (by omega)) (h := ?_))))); refine RW.nil ⟨by kernel_rfl, Pruned.mk (h := ?_)⟩)
        refine SW.condF rfl (SW.skip ?_)
        refine SW.seq ?_
        (refine SW.regL [0, 1, 2, 5, 6, 7, 8, 9, 10, 11, 12, 13, 14, 15, 16, 18, 20, 21, 33, 90, 104, 124] mixed ?_; (repeat (first | refine RW.ro bq_tt (h := ?_) | refine RW.skip (h := ?_) | refine RW.op bq_tt (h := ?_) | refine RW.opN bq_tt (h := ?_) | refine RW.skip0 (h := ?_) | (refine RW.callC (h := ?_); (first | refine CallP.mk bq_tt (hc := hG' _) (h := ?_) | refine CallP.mk bq_tt (hc := h.newC1 (by omega)) (h := ?_))))); refine RW.nil ⟨by kernel_rfl, Pruned.mk (h := ?_)⟩)
        refine SW.weak (fun n => if n = 0 then 1 else if n = 1 then 2 else if n = 2 then 3 else if n = 3 then 0 else n) (st1 := ⟨[(0, ops l), (1, sps s), (5, .ptr 3 0), (7, .ptr 2 0)], (3, .box 81 (x.cells ++ y.cells)) :: H2 a ca m cm, 8⟩) (Weak.mk (And.intro b5 (And.intro b6 (mapsF a m)))) ?_
        obtain ⟨L, hL, hL9, _⟩ := ht.ups x.d
        obtain ⟨M, hM, hM9, _⟩ := ht.ups y.d
        have hc1 := h.chargeC s (by omega) x.d L hL (by omega) hsn x.n
        have hc2 := h.chargeC s (by omega) y.d M hM (by omega) hsn y.n
        obtain ⟨Q, EQ, qo, qr, hQ⟩ := h.chargeAny s (by omega) hsn x.d L hL (by omega) x.n y.d M hM (by omega) y.n
        obtain ⟨R, ER, ro, rr, hR⟩ := h.chargeAny s (by omega) hsn y.d M hM (by omega) y.n x.d L hL (by omega) x.n
        rcases hE1 : (cE (leftF a s) x.n (L.map (·.dot)) == 0) with _ | _
        · have c1o := fun q => cS_ok (leftF a s) x.n s (L.map (·.dot)) q
          have c1r := fun q => cS_ren (leftF a s) x.n s (L.map (·.dot)) q
          have c2o := fun q => cS_ok (leftF a s) y.n s (M.map (·.dot)) q
          have c2r := fun q => cS_ren (leftF a s) y.n s (M.map (·.dot)) q
          generalize cE (leftF a s) x.n (L.map (·.dot)) = E1 at hc1 hE1
          generalize cE (leftF a s) y.n (M.map (·.dot)) = E2 at hc2
          generalize cS (leftF a s) x.n s (L.map (·.dot)) = C1 at hc1 c1o c1r hQ
          generalize cS (leftF a s) y.n s (M.map (·.dot)) = C2 at hc2 c2o c2r hR
          refine SW.seq ?_
          (refine SW.regL [0, 1, 2, 5, 6, 7, 8, 9, 10, 11, 12, 13, 14, 15, 16, 18, 20, 21, 33, 90, 104, 124] mixed ?_; (repeat (first | refine RW.ro (And.intro (b1) (b3)) (h := ?_) | refine RW.skip (h := ?_) | refine RW.op (And.intro (b1) (b3)) (h := ?_) | refine RW.opN (And.intro (b1) (b3)) (h := ?_) | refine RW.skip0 (h := ?_) | (refine RW.callC (h := ?_); (first | refine CallP.mk (And.intro (b1) (b3)) (hc := hc1 _) (h := ?_) | refine CallP.mk (And.intro (b1) (b3)) (hc := hc2 _) (h := ?_) | refine CallP.mk (And.intro (b1) (b3)) (hc := hQ _) (h := ?_) | refine CallP.mk (And.intro (b1) (b3)) (hc := hR _) (h := ?_) | refine CallP.mk (And.intro (b1) (b3)) (hc := head22_at _) (h := ?_))))); refine RW.nil ⟨by kernel_rfl, Pruned.mk (h := ?_)⟩)
          refine SW.seq ?_
          (refine SW.regL [0, 1, 2, 5, 6, 7, 8, 9, 10, 11, 12, 13, 14, 15, 16, 18, 20, 21, 33, 90, 104, 124] mixed ?_; (repeat (first | refine RW.ro (And.intro (b2) (b4)) (h := ?_) | refine RW.skip (h := ?_) | refine RW.op (And.intro (b2) (b4)) (h := ?_) | refine RW.opN (And.intro (b2) (b4)) (h := ?_) | refine RW.skip0 (h := ?_) | (refine RW.callC (h := ?_); (first | refine CallP.mk (And.intro (b2) (b4)) (hc := hc1 _) (h := ?_) | refine CallP.mk (And.intro (b2) (b4)) (hc := hc2 _) (h := ?_) | refine CallP.mk (And.intro (b2) (b4)) (hc := hQ _) (h := ?_) | refine CallP.mk (And.intro (b2) (b4)) (hc := hR _) (h := ?_) | refine CallP.mk (And.intro (b2) (b4)) (hc := head22_at _) (h := ?_))))); refine RW.nil ⟨by kernel_rfl, Pruned.mk (h := ?_)⟩)
          refine SW.seq ?_
          (refine SW.regL [0, 1, 2, 5, 6, 7, 8, 9, 10, 11, 12, 13, 14, 15, 16, 18, 20, 21, 33, 90, 104, 124] mixed ?_; (repeat (first | refine RW.ro (And.intro (b2) (b4)) (h := ?_) | refine RW.skip (h := ?_) | refine RW.op (And.intro (b2) (b4)) (h := ?_) | refine RW.opN (And.intro (b2) (b4)) (h := ?_) | refine RW.skip0 (h := ?_) | (refine RW.callC (h := ?_); (first | refine CallP.mk (And.intro (b2) (b4)) (hc := hc1 _) (h := ?_) | refine CallP.mk (And.intro (b2) (b4)) (hc := hc2 _) (h := ?_) | refine CallP.mk (And.intro (b2) (b4)) (hc := hQ _) (h := ?_) | refine CallP.mk (And.intro (b2) (b4)) (hc := hR _) (h := ?_) | refine CallP.mk (And.intro (b2) (b4)) (hc := head22_at _) (h := ?_))))); refine RW.nil ⟨by kernel_rfl, Pruned.mk (h := ?_)⟩)
          refine SW.seq ?_
          (refine SW.regL [0, 1, 2, 5, 6, 7, 8, 9, 10, 11, 12, 13, 14, 15, 16, 18, 20, 21, 33, 90, 104, 124] mixed ?_; (repeat (first | refine RW.ro (And.intro (b1) (b3)) (h := ?_) | refine RW.skip (h := ?_) | refine RW.op (And.intro (b1) (b3)) (h := ?_) | refine RW.opN (And.intro (b1) (b3)) (h := ?_) | refine RW.skip0 (h := ?_) | (refine RW.callC (h := ?_); (first | refine CallP.mk (And.intro (b1) (b3)) (hc := hc1 _) (h := ?_) | refine CallP.mk (And.intro (b1) (b3)) (hc := hc2 _) (h := ?_) | refine CallP.mk (And.intro (b1) (b3)) (hc := hQ _) (h := ?_) | refine CallP.mk (And.intro (b1) (b3)) (hc := hR _) (h := ?_) | refine CallP.mk (And.intro (b1) (b3)) (hc := head22_at _) (h := ?_))))); refine RW.nil ⟨by kernel_rfl, Pruned.mk (h := ?_)⟩)
          refine SW.seq (SW.seq ?_)
          (have fx := (show (E1 != 0) = true by unfold bne; rw [hE1]; rfl); refine SW.regL [0, 1, 2, 5, 6, 7, 8, 9, 10, 11, 12, 13, 14, 15, 16, 18, 20, 21, 33, 90, 104, 124] mixed ?_; (repeat (first | refine RW.ro fx (h := ?_) | refine RW.skip (h := ?_) | refine RW.op fx (h := ?_) | refine RW.opN fx (h := ?_) | refine RW.skip0 (h := ?_) | (refine RW.callC (h := ?_); (first | refine CallP.mk fx (hc := hc1 _) (h := ?_) | refine CallP.mk fx (hc := hc2 _) (h := ?_) | refine CallP.mk fx (hc := hQ _) (h := ?_) | refine CallP.mk fx (hc := hR _) (h := ?_) | refine CallP.mk fx (hc := head22_at _) (h := ?_))))); refine RW.nil ⟨by kernel_rfl, Pruned.mk (h := ?_)⟩)
          refine SW.condT rfl (SW.seq ?_)
          (refine SW.regL [0, 1, 2, 5, 6, 7, 8, 9, 10, 11, 12, 13, 14, 15, 16, 18, 20, 21, 33, 90, 104, 124] mixed ?_; (repeat (first | refine RW.ro bq_tt (h := ?_) | refine RW.skip (h := ?_) | refine RW.op bq_tt (h := ?_) | refine RW.opN bq_tt (h := ?_) | refine RW.skip0 (h := ?_) | (refine RW.callC (h := ?_); (first | refine CallP.mk bq_tt (hc := hc1 _) (h := ?_) | refine CallP.mk bq_tt (hc := hc2 _) (h := ?_) | refine CallP.mk bq_tt (hc := hQ _) (h := ?_) | refine CallP.mk bq_tt (hc := hR _) (h := ?_) | refine CallP.mk bq_tt (hc := head22_at _) (h := ?_))))); refine RW.nil ⟨by kernel_rfl, Pruned.mk (h := ?_)⟩)
          refine SW.ret ?_
          exact End.mk [] (h4 := rfl)
        · rcases hE2 : (cE (leftF a s) y.n (M.map (·.dot)) == 0) with _ | _
          · have c1o := fun q => cS_ok (leftF a s) x.n s (L.map (·.dot)) q
            have c1r := fun q => cS_ren (leftF a s) x.n s (L.map (·.dot)) q
            have c2o := fun q => cS_ok (leftF a s) y.n s (M.map (·.dot)) q
            have c2r := fun q => cS_ren (leftF a s) y.n s (M.map (·.dot)) q
            generalize cE (leftF a s) x.n (L.map (·.dot)) = E1 at hc1 hE1
            generalize cE (leftF a s) y.n (M.map (·.dot)) = E2 at hc2 hE2
            generalize cS (leftF a s) x.n s (L.map (·.dot)) = C1 at hc1 c1o c1r hQ
            generalize cS (leftF a s) y.n s (M.map (·.dot)) = C2 at hc2 c2o c2r hR
            refine SW.seq ?_
            (refine SW.regL [0, 1, 2, 5, 6, 7, 8, 9, 10, 11, 12, 13, 14, 15, 16, 18, 20, 21, 33, 90, 104, 124] mixed ?_; (repeat (first | refine RW.ro (And.intro (b1) (b3)) (h := ?_) | refine RW.skip (h := ?_) | refine RW.op (And.intro (b1) (b3)) (h := ?_) | refine RW.opN (And.intro (b1) (b3)) (h := ?_) | refine RW.skip0 (h := ?_) | (refine RW.callC (h := ?_); (first | refine CallP.mk (And.intro (b1) (b3)) (hc := hc1 _) (h := ?_) | refine CallP.mk (And.intro (b1) (b3)) (hc := hc2 _) (h := ?_) | refine CallP.mk (And.intro (b1) (b3)) (hc := hQ _) (h := ?_) | refine CallP.mk (And.intro (b1) (b3)) (hc := hR _) (h := ?_) | refine CallP.mk (And.intro (b1) (b3)) (hc := head22_at _) (h := ?_))))); refine RW.nil ⟨by kernel_rfl, Pruned.mk (h := ?_)⟩)
            refine SW.seq ?_
            (refine SW.regL [0, 1, 2, 5, 6, 7, 8, 9, 10, 11, 12, 13, 14, 15, 16, 18, 20, 21, 33, 90, 104, 124] mixed ?_; (repeat (first | refine RW.ro (And.intro (b2) (b4)) (h := ?_) | refine RW.skip (h := ?_) | refine RW.op (And.intro (b2) (b4)) (h := ?_) | refine RW.opN (And.intro (b2) (b4)) (h := ?_) | refine RW.skip0 (h := ?_) | (refine RW.callC (h := ?_); (first | refine CallP.mk (And.intro (b2) (b4)) (hc := hc1 _) (h := ?_) | refine CallP.mk (And.intro (b2) (b4)) (hc := hc2 _) (h := ?_) | refine CallP.mk (And.intro (b2) (b4)) (hc := hQ _) (h := ?_) | refine CallP.mk (And.intro (b2) (b4)) (hc := hR _) (h := ?_) | refine CallP.mk (And.intro (b2) (b4)) (hc := head22_at _) (h := ?_))))); refine RW.nil ⟨by kernel_rfl, Pruned.mk (h := ?_)⟩)
            refine SW.seq ?_
            (refine SW.regL [0, 1, 2, 5, 6, 7, 8, 9, 10, 11, 12, 13, 14, 15, 16, 18, 20, 21, 33, 90, 104, 124] mixed ?_; (repeat (first | refine RW.ro (And.intro (b2) (b4)) (h := ?_) | refine RW.skip (h := ?_) | refine RW.op (And.intro (b2) (b4)) (h := ?_) | refine RW.opN (And.intro (b2) (b4)) (h := ?_) | refine RW.skip0 (h := ?_) | (refine RW.callC (h := ?_); (first | refine CallP.mk (And.intro (b2) (b4)) (hc := hc1 _) (h := ?_) | refine CallP.mk (And.intro (b2) (b4)) (hc := hc2 _) (h := ?_) | refine CallP.mk (And.intro (b2) (b4)) (hc := hQ _) (h := ?_) | refine CallP.mk (And.intro (b2) (b4)) (hc := hR _) (h := ?_) | refine CallP.mk (And.intro (b2) (b4)) (hc := head22_at _) (h := ?_))))); refine RW.nil ⟨by kernel_rfl, Pruned.mk (h := ?_)⟩)
            refine SW.seq ?_
            (refine SW.regL [0, 1, 2, 5, 6, 7, 8, 9, 10, 11, 12, 13, 14, 15, 16, 18, 20, 21, 33, 90, 104, 124] mixed ?_; (repeat (first | refine RW.ro (And.intro (b1) (b3)) (h := ?_) | refine RW.skip (h := ?_) | refine RW.op (And.intro (b1) (b3)) (h := ?_) | refine RW.opN (And.intro (b1) (b3)) (h := ?_) | refine RW.skip0 (h := ?_) | (refine RW.callC (h := ?_); (first | refine CallP.mk (And.intro (b1) (b3)) (hc := hc1 _) (h := ?_) | refine CallP.mk (And.intro (b1) (b3)) (hc := hc2 _) (h := ?_) | refine CallP.mk (And.intro (b1) (b3)) (hc := hQ _) (h := ?_) | refine CallP.mk (And.intro (b1) (b3)) (hc := hR _) (h := ?_) | refine CallP.mk (And.intro (b1) (b3)) (hc := head22_at _) (h := ?_))))); refine RW.nil ⟨by kernel_rfl, Pruned.mk (h := ?_)⟩)
            refine SW.seq (SW.seq ?_)
            (have fx := (And.intro (show (E1 != 0) = false by unfold bne; rw [hE1]; rfl) (show (E2 != 0) = true by unfold bne; rw [hE2]; rfl)); refine SW.regL [0, 1, 2, 5, 6, 7, 8, 9, 10, 11, 12, 13, 14, 15, 16, 18, 20, 21, 33, 90, 104, 124] mixed ?_; (repeat (first | refine RW.ro fx (h := ?_) | refine RW.skip (h := ?_) | refine RW.op fx (h := ?_) | refine RW.opN fx (h := ?_) | refine RW.skip0 (h := ?_) | (refine RW.callC (h := ?_); (first | refine CallP.mk fx (hc := hc1 _) (h := ?_) | refine CallP.mk fx (hc := hc2 _) (h := ?_) | refine CallP.mk fx (hc := hQ _) (h := ?_) | refine CallP.mk fx (hc := hR _) (h := ?_) | refine CallP.mk fx (hc := head22_at _) (h := ?_))))); refine RW.nil ⟨by kernel_rfl, Pruned.mk (h := ?_)⟩)
            refine SW.condT rfl (SW.seq ?_)
            (refine SW.regL [0, 1, 2, 5, 6, 7, 8, 9, 10, 11, 12, 13, 14, 15, 16, 18, 20, 21, 33, 90, 104, 124] mixed ?_; (repeat (first | refine RW.ro bq_tt (h := ?_) | refine RW.skip (h := ?_) | refine RW.op bq_tt (h := ?_) | refine RW.opN bq_tt (h := ?_) | refine RW.skip0 (h := ?_) | (refine RW.callC (h := ?_); (first | refine CallP.mk bq_tt (hc := hc1 _) (h := ?_) | refine CallP.mk bq_tt (hc := hc2 _) (h := ?_) | refine CallP.mk bq_tt (hc := hQ _) (h := ?_) | refine CallP.mk bq_tt (hc := hR _) (h := ?_) | refine CallP.mk bq_tt (hc := head22_at _) (h := ?_))))); refine RW.nil ⟨by kernel_rfl, Pruned.mk (h := ?_)⟩)
            refine SW.ret ?_
            exact End.mk [] (h4 := rfl)
          · obtain ⟨hD, hn⟩ := cE_zero (by simpa using hE1)
            obtain ⟨hD', hn'⟩ := cE_zero (by simpa using hE2)
            have hnd := h.tok0.upsNd hL
            have hnd' := h.tok0.upsNd hM
            have hB := chg_len x.n s (L.map (·.dot))
            have hB' := chg_len y.n s (M.map (·.dot))
            rw [List.length_map] at hB hB'
            have hc3 := h.chargeC (chg x.n s (L.map (·.dot))) (by omega) y.d M hM (by omega) (chg_lt h.tok0 hsn hL hn) y.n
            have hc4 := h.chargeC (chg y.n s (M.map (·.dot))) (by omega) x.d L hL (by omega) (chg_lt h.tok0 hsn hM hn') x.n
            rw [cS_done hD hn, cE_ok hD hn] at hc1
            rw [cS_done hD' hn', cE_ok hD' hn'] at hc2
            have hf := turned_fit (a := a) (s := s) (n := x.n) (n' := y.n) hnd hD hD' hn hn'
            have hf' := turned_fit (a := a) (s := s) (n := y.n) (n' := x.n) hnd' hD' hD hn' hn
            have hch := rchain_at hl4 hr ht x.d L hL (by omega)
            have hch' := rchain_at hl4 hr ht y.d M hM (by omega)
            have hg1 : MM.has a x.d = true := by
              cases hg : MM.get a x.d with
              | none => exfalso; have hL : Ups a (MM.get a x.d) L := hL; rw [hg] at hL; cases hL; exact hD rfl
              | some c => unfold MM.has; rw [hg]; rfl
            have hg2 : MM.has a y.d = true := by
              cases hg : MM.get a y.d with
              | none => exfalso; have hM : Ups a (MM.get a y.d) M := hM; rw [hg] at hM; cases hM; exact hD' rfl
              | some c => unfold MM.has; rw [hg]; rfl
            rw [chainR_two] at hch hch'
            have q3 : chS a x.d L = dots (L.map (·.dot)) := by unfold chS; rw [hg1]; rfl
            have q4 : chE a x.d = 0 := by unfold chE; rw [hg1]; rfl
            have q3' : chS a y.d M = dots (M.map (·.dot)) := by unfold chS; rw [hg2]; rfl
            have q4' : chE a y.d = 0 := by unfold chE; rw [hg2]; rfl
            have hch1 : ∀ k, SCd Try.prog ref16_Chain.f [ops l, .agg x.d.cells] [] k 0 (.tup [chS a x.d L, .d (.int .i64 (chE a x.d))]) [] := hch
            have hch2 : ∀ k, SCd Try.prog ref16_Chain.f [ops l, .agg y.d.cells] [] k 0 (.tup [chS a y.d M, .d (.int .i64 (chE a y.d))]) [] := hch'
            rw [q3, q4] at hch1
            rw [q3', q4'] at hch2
            have hLl : (L.map (·.dot)).length ≤ 9 := by rw [List.length_map]; exact hL9
            have hMl : (M.map (·.dot)).length ≤ 9 := by rw [List.length_map]; exact hM9
            have hmm : ∀ z, z ∈ M.map (·.dot) → z ∈ L.map (·.dot) → meets (L.map (·.dot)) (M.map (·.dot)) = true := fun z h1 h2 => by
              unfold meets; rw [List.any_eq_true]; exact ⟨z, h2, by simpa using h1⟩
            obtain ⟨F, q, q', hq3, hq4, qo3, qr3, qo4, qr4, hor⟩ : ∃ (F : Int) (q q' : SV), (∀ k, SCd Try.prog charge_Charge.f [.ptr 2 0, sps (chg x.n s (L.map (·.dot))), .agg y.d.cells, .d (.int .u64 (y.n : Int))] (H2 a ca m cm) k 0 (.tup [q, .d (.int .i64 F)]) (H2 a ca m cm)) ∧
                (∀ k, SCd Try.prog charge_Charge.f [.ptr 2 0, sps (chg y.n s (M.map (·.dot))), .agg x.d.cells, .d (.int .u64 (x.n : Int))] (H2 a ca m cm) k 0 (.tup [q', .d (.int .i64 F)]) (H2 a ca m cm)) ∧
                (∀ r, SV.ok r q = true) ∧ (∀ r, SV.ren r q = q) ∧ (∀ r, SV.ok r q' = true) ∧ (∀ r, SV.ren r q' = q') ∧
                ((F = 0 ∧ ∀ k, SCd Try.prog ref22_Same.f [q, q'] [] k 0 (.d (.bool true)) []) ∨ (F = 279 ∧ meets (L.map (·.dot)) (M.map (·.dot)) = true)) := by
              by_cases hT : ∀ z, z ∈ M.map (·.dot) → z ∈ L.map (·.dot) → x.n + y.n ≤ leftF a s z
              · have hok := hf.2 hT
                have hok' := hf'.2 fun z h1 h2 => by have := hT z h2 h1; omega
                have hQl := chg_len x.n (chg y.n s (M.map (·.dot))) (L.map (·.dot))
                rw [List.length_map] at hQl
                have hsm := spsame_at (chg x.n (chg y.n s (M.map (·.dot))) (L.map (·.dot))) (chg x.n (chg y.n s (M.map (·.dot))) (L.map (·.dot))) (by omega) (by omega)
                rw [decide_eq_true rfl] at hsm
                rw [cS_done hD' hok, cE_ok hD' hok, turned_row _ _ _ hnd hnd'] at hc3
                rw [cS_done hD hok', cE_ok hD hok'] at hc4
                exact ⟨0, _, _, hc3, hc4, fun _ => rfl, fun _ => rfl, fun _ => rfl, fun _ => rfl, .inl ⟨rfl, hsm⟩⟩
              · have hov : ¬ y.n ≤ rV (leftF a (chg x.n s (L.map (·.dot)))) (M.map (·.dot)) := fun k => hT (hf.1 k)
                have hov' : ¬ x.n ≤ rV (leftF a (chg y.n s (M.map (·.dot)))) (L.map (·.dot)) := fun k => hT fun z h1 h2 => by have := hf'.1 k z h2 h1; omega
                rw [cS_over hD' (by omega), cE_over hD' (by omega)] at hc3
                rw [cS_over hD (by omega), cE_over hD (by omega)] at hc4
                obtain ⟨z, hz⟩ := Classical.not_forall.1 hT
                obtain ⟨h1, hz⟩ := Classical.not_forall.1 hz
                obtain ⟨h2, hz⟩ := Classical.not_forall.1 hz
                exact ⟨279, _, _, hc3, hc4, fun _ => rfl, fun _ => rfl, fun _ => rfl, fun _ => rfl, .inr ⟨rfl, hmm z h1 h2⟩⟩
            generalize chg x.n s (L.map (·.dot)) = B at hc1 hq3
            generalize chg y.n s (M.map (·.dot)) = B' at hc2 hq4
            generalize L.map (·.dot) = D at hor hch1 hLl
            generalize M.map (·.dot) = D' at hor hch2 hMl
            refine SW.seq ?_
            (refine SW.regL [0, 1, 2, 5, 6, 7, 8, 9, 10, 11, 12, 13, 14, 15, 16, 18, 20, 21, 33, 90, 104, 124] mixed ?_; (repeat (first | refine RW.ro (And.intro (b1) (b3)) (h := ?_) | refine RW.skip (h := ?_) | refine RW.op (And.intro (b1) (b3)) (h := ?_) | refine RW.opN (And.intro (b1) (b3)) (h := ?_) | refine RW.skip0 (h := ?_) | (refine RW.callC (h := ?_); (first | refine CallP.mk (And.intro (b1) (b3)) (hc := hc1 _) (h := ?_))))); refine RW.nil ⟨by kernel_rfl, Pruned.mk (h := ?_)⟩)
            refine SW.seq ?_
            (refine SW.regL [0, 1, 2, 5, 6, 7, 8, 9, 10, 11, 12, 13, 14, 15, 16, 18, 20, 21, 33, 90, 104, 124] mixed ?_; (repeat (first | refine RW.ro (And.intro (b2) (b4)) (h := ?_) | refine RW.skip (h := ?_) | refine RW.op (And.intro (b2) (b4)) (h := ?_) | refine RW.opN (And.intro (b2) (b4)) (h := ?_) | refine RW.skip0 (h := ?_) | (refine RW.callC (h := ?_); (first | refine CallP.mk (And.intro (b2) (b4)) (hc := hq3 _) (h := ?_))))); refine RW.nil ⟨by kernel_rfl, Pruned.mk (h := ?_)⟩)
            refine SW.seq ?_
            (refine SW.regL [0, 1, 2, 5, 6, 7, 8, 9, 10, 11, 12, 13, 14, 15, 16, 18, 20, 21, 33, 90, 104, 124] mixed ?_; (repeat (first | refine RW.ro (And.intro (b2) (b4)) (h := ?_) | refine RW.skip (h := ?_) | refine RW.op (And.intro (b2) (b4)) (h := ?_) | refine RW.opN (And.intro (b2) (b4)) (h := ?_) | refine RW.skip0 (h := ?_) | (refine RW.callC (h := ?_); (first | refine CallP.mk (And.intro (b2) (b4)) (hc := hc2 _) (h := ?_))))); refine RW.nil ⟨by kernel_rfl, Pruned.mk (h := ?_)⟩)
            refine SW.seq ?_
            (refine SW.regL [0, 1, 2, 5, 6, 7, 8, 9, 10, 11, 12, 13, 14, 15, 16, 18, 20, 21, 33, 90, 104, 124] mixed ?_; (repeat (first | refine RW.ro (And.intro (b1) (b3)) (h := ?_) | refine RW.skip (h := ?_) | refine RW.op (And.intro (b1) (b3)) (h := ?_) | refine RW.opN (And.intro (b1) (b3)) (h := ?_) | refine RW.skip0 (h := ?_) | (refine RW.callC (h := ?_); (first | refine CallP.mk (And.intro (b1) (b3)) (hc := hq4 _) (h := ?_))))); refine RW.nil ⟨by kernel_rfl, Pruned.mk (h := ?_)⟩)
            refine SW.seq (SW.seq ?_)
            (refine SW.regL [0, 1, 2, 5, 6, 7, 8, 9, 10, 11, 12, 13, 14, 15, 16, 18, 20, 21, 33, 90, 104, 124] mixed ?_; (repeat (first | refine RW.ro bq_tt (h := ?_) | refine RW.skip (h := ?_) | refine RW.op bq_tt (h := ?_) | refine RW.opN bq_tt (h := ?_) | refine RW.skip0 (h := ?_))); refine RW.nil ⟨by kernel_rfl, Pruned.mk (h := ?_)⟩)
            refine SW.condF rfl (SW.skip ?_)
            refine SW.seq (SW.mono (Q := fun e st' => e = .normal ∧ Weak 0 st' ⟨[(0, ops l), (5, .ptr 3 0), (11, .d (.int .i64 F))], (3, .box 81 (x.cells ++ y.cells)) :: H2 a ca m cm, 8⟩ id) ?_ ?_)
            · rcases hor with ⟨rfl, hsm⟩ | ⟨rfl, _⟩
              · refine SW.seq ?_
                (refine SW.regL [0, 1, 2, 5, 6, 7, 8, 9, 10, 11, 12, 13, 14, 15, 16, 18, 20, 21, 33, 90, 104, 124] mixed ?_; (repeat (first | refine RW.ro bq_tt (h := ?_) | refine RW.skip (h := ?_) | refine RW.op bq_tt (h := ?_) | refine RW.opN bq_tt (h := ?_) | refine RW.skip0 (h := ?_) | (refine RW.callC (h := ?_); (first | refine CallP.mk bq_tt (hc := hsm _) (h := ?_))))); refine RW.nil ⟨by kernel_rfl, Pruned.mk (h := ?_)⟩)
                refine SW.condF rfl (SW.skip ?_)
                exact ⟨rfl, Weak.mk (And.intro b5 (And.intro b6 (mapsF a m)))⟩
              · refine SW.seq ?_
                (refine SW.regL [0, 1, 2, 5, 6, 7, 8, 9, 10, 11, 12, 13, 14, 15, 16, 18, 20, 21, 33, 90, 104, 124] mixed ?_; (repeat (first | refine RW.ro bq_tt (h := ?_) | refine RW.skip (h := ?_) | refine RW.op bq_tt (h := ?_) | refine RW.opN bq_tt (h := ?_) | refine RW.skip0 (h := ?_))); refine RW.nil ⟨by kernel_rfl, Pruned.mk (h := ?_)⟩)
                refine SW.condF rfl (SW.skip ?_)
                exact ⟨rfl, Weak.mk (And.intro b5 (And.intro b6 (mapsF a m)))⟩
            rintro _ st' ⟨rfl, hρ⟩
            refine SW.weak id hρ ?_
            refine SW.seq ?_
            (refine SW.regL [0, 1, 2, 5, 6, 7, 8, 9, 10, 11, 12, 13, 14, 15, 16, 18, 20, 21, 33, 90, 104, 124] mixed ?_; (repeat (first | refine RW.ro (b1) (h := ?_) | refine RW.skip (h := ?_) | refine RW.op (b1) (h := ?_) | refine RW.opN (b1) (h := ?_) | refine RW.skip0 (h := ?_) | (refine RW.callC (h := ?_); (first | refine CallP.mk (b1) (hc := hch1 _) (h := ?_))))); refine RW.nil ⟨by kernel_rfl, Pruned.mk (h := ?_)⟩)
            refine SW.seq ?_
            (refine SW.regL [0, 1, 2, 5, 6, 7, 8, 9, 10, 11, 12, 13, 14, 15, 16, 18, 20, 21, 33, 90, 104, 124] mixed ?_; (repeat (first | refine RW.ro (b2) (h := ?_) | refine RW.skip (h := ?_) | refine RW.op (b2) (h := ?_) | refine RW.opN (b2) (h := ?_) | refine RW.skip0 (h := ?_) | (refine RW.callC (h := ?_); (first | refine CallP.mk (b2) (hc := hch2 _) (h := ?_))))); refine RW.nil ⟨by kernel_rfl, Pruned.mk (h := ?_)⟩)
            refine SW.seq ?_
            (refine SW.regL [0, 1, 2, 5, 6, 7, 8, 9, 10, 11, 12, 13, 14, 15, 16, 18, 20, 21, 33, 90, 104, 124] mixed ?_; (repeat (first | refine RW.ro bq_tt (h := ?_) | refine RW.skip (h := ?_) | refine RW.op bq_tt (h := ?_) | refine RW.opN bq_tt (h := ?_) | refine RW.skip0 (h := ?_))); refine RW.nil ⟨by kernel_rfl, Pruned.mk (h := ?_)⟩)
            refine SW.seq (SW.seq ?_)
            (refine SW.regL [0, 1, 2, 5, 6, 7, 8, 9, 10, 11, 12, 13, 14, 15, 16, 18, 20, 21, 33, 90, 104, 124] mixed ?_; (repeat (first | refine RW.ro bq_tt (h := ?_) | refine RW.skip (h := ?_) | refine RW.op bq_tt (h := ?_) | refine RW.opN bq_tt (h := ?_) | refine RW.skip0 (h := ?_))); refine RW.nil ⟨by kernel_rfl, Pruned.mk (h := ?_)⟩)
            refine SW.block ?_
            refine SW.loopA (α := {i : Nat // i ≤ D.length}) (fun i => ⟨[(21, i64 i.1), (20, .d (.bool (meets (D.take i.1) D'))), (16, dots D), (18, dots D'), (11, .d (.int .i64 F))], [], 0⟩) (fun i => D.length - i.1) ⟨0, by omega⟩ id (And.intro (show meets [] D' = false from rfl) (mapsF a m)) (round := ?_)
            rintro ⟨i, hi⟩
            dsimp only
            by_cases hil : i < D.length
            · obtain ⟨z, hz⟩ := get_of_lt hil
              have i1 : decide ((i : Int) < D.length) = true := by simp; exact hil
              have i2 : D.take (i + 1) = D.take i ++ [z] := take_snoc hz
              have i3 : IntKind.i64.wrap ((i : Int) + 1) = ((i + 1 : Nat) : Int) := wrap_i64 _ (by omega)
              have hsn := meets_snoc (D.take i) D' z
              rw [← i2] at hsn
              have hin := in_at D' (by omega) z
              refine SW.seq (SW.seq ?_)
              (refine SW.regL [0, 1, 2, 5, 6, 7, 8, 9, 10, 11, 12, 13, 14, 15, 16, 18, 20, 21, 33, 90, 104, 124] mixed ?_; (repeat (first | refine RW.ro (i1) (h := ?_) | refine RW.skip (h := ?_) | refine RW.op (i1) (h := ?_) | refine RW.opN (i1) (h := ?_) | refine RW.skip0 (h := ?_))); refine RW.nil ⟨by kernel_rfl, Pruned.mk (h := ?_)⟩)
              refine SW.condT rfl (SW.skip ?_)
              refine SW.seq (SW.block ?_)
              generalize decide (z ∈ D') = bz at hsn hin
              rcases hme : meets (D.take i) D' with _ | _
              · rw [hme, Bool.false_or] at hsn
                (refine SW.regL [0, 1, 2, 5, 6, 7, 8, 9, 10, 11, 12, 13, 14, 15, 16, 18, 20, 21, 33, 90, 104, 124] mixed ?_; (repeat (first | refine RW.ro (dot_at hz) (h := ?_) | refine RW.skip (h := ?_) | refine RW.op (dot_at hz) (h := ?_) | refine RW.opN (dot_at hz) (h := ?_) | refine RW.skip0 (h := ?_) | (refine RW.callC (h := ?_); (first | refine CallP.mk (dot_at hz) (hc := hin _) (h := ?_))))); refine RW.nil ⟨by kernel_rfl, Pruned.mk (h := ?_)⟩)
                (refine SW.regL [0, 1, 2, 5, 6, 7, 8, 9, 10, 11, 12, 13, 14, 15, 16, 18, 20, 21, 33, 90, 104, 124] mixed ?_; (repeat (first | refine RW.ro (i3) (h := ?_) | refine RW.skip (h := ?_) | refine RW.op (i3) (h := ?_) | refine RW.opN (i3) (h := ?_) | refine RW.skip0 (h := ?_))); refine RW.nil ⟨by kernel_rfl, Pruned.mk (h := ?_)⟩)
                dsimp only
                exact ⟨⟨i + 1, by omega⟩, id, by show D.length - (i + 1) < _; omega, Weak.mk hsn⟩
              · rw [hme, Bool.true_or] at hsn
                (refine SW.regL [0, 1, 2, 5, 6, 7, 8, 9, 10, 11, 12, 13, 14, 15, 16, 18, 20, 21, 33, 90, 104, 124] mixed ?_; (repeat (first | refine RW.ro (dot_at hz) (h := ?_) | refine RW.skip (h := ?_) | refine RW.op (dot_at hz) (h := ?_) | refine RW.opN (dot_at hz) (h := ?_) | refine RW.skip0 (h := ?_))); refine RW.nil ⟨by kernel_rfl, Pruned.mk (h := ?_)⟩)
                (refine SW.regL [0, 1, 2, 5, 6, 7, 8, 9, 10, 11, 12, 13, 14, 15, 16, 18, 20, 21, 33, 90, 104, 124] mixed ?_; (repeat (first | refine RW.ro (i3) (h := ?_) | refine RW.skip (h := ?_) | refine RW.op (i3) (h := ?_) | refine RW.opN (i3) (h := ?_) | refine RW.skip0 (h := ?_))); refine RW.nil ⟨by kernel_rfl, Pruned.mk (h := ?_)⟩)
                dsimp only
                exact ⟨⟨i + 1, by omega⟩, id, by show D.length - (i + 1) < _; omega, Weak.mk hsn⟩
            · have i1 : decide ((i : Int) < D.length) = false := by simp; omega
              have i2 : i = D.length := by omega
              subst i2
              refine SW.seq (SW.seq ?_)
              (refine SW.regL [0, 1, 2, 5, 6, 7, 8, 9, 10, 11, 12, 13, 14, 15, 16, 18, 20, 21, 33, 90, 104, 124] mixed ?_; (repeat (first | refine RW.ro (i1) (h := ?_) | refine RW.skip (h := ?_) | refine RW.op (i1) (h := ?_) | refine RW.opN (i1) (h := ?_) | refine RW.skip0 (h := ?_))); refine RW.nil ⟨by kernel_rfl, Pruned.mk (h := ?_)⟩)
              refine SW.condF rfl (SW.exit ?_)
              rw [List.take_length]
              rcases hor with ⟨rfl, _⟩ | ⟨rfl, hmt⟩
              · generalize meets D D' = bm
                rcases bm with _ | _
                all_goals
                  refine SW.seq ?_
                  (refine SW.regL [0, 1, 2, 5, 6, 7, 8, 9, 10, 11, 12, 13, 14, 15, 16, 18, 20, 21, 33, 90, 104, 124] mixed ?_; (repeat (first | refine RW.ro bq_tt (h := ?_) | refine RW.skip (h := ?_) | refine RW.op bq_tt (h := ?_) | refine RW.opN bq_tt (h := ?_) | refine RW.skip0 (h := ?_) | (refine RW.callC (h := ?_); (first | refine CallP.mk bq_tt (hc := head22_at _) (h := ?_))))); refine RW.nil ⟨by kernel_rfl, Pruned.mk (h := ?_)⟩)
                  refine SW.ret ?_
                  exact End.mk [] (h4 := rfl)
              · rw [hmt]
                refine SW.seq ?_
                (refine SW.regL [0, 1, 2, 5, 6, 7, 8, 9, 10, 11, 12, 13, 14, 15, 16, 18, 20, 21, 33, 90, 104, 124] mixed ?_; (repeat (first | refine RW.ro bq_tt (h := ?_) | refine RW.skip (h := ?_) | refine RW.op bq_tt (h := ?_) | refine RW.opN bq_tt (h := ?_) | refine RW.skip0 (h := ?_) | (refine RW.callC (h := ?_); (first | refine CallP.mk bq_tt (hc := head22_at _) (h := ?_))))); refine RW.nil ⟨by kernel_rfl, Pruned.mk (h := ?_)⟩)
                refine SW.ret ?_
                exact End.mk [] (h4 := rfl)
      · have g2 : decide ((s.length : Int) > 60) = true := by simp; omega
        (repeat (first | refine SW.seq ?_ | refine SW.block ?_ | (refine SW.regL [0, 1, 2, 5, 6, 7, 8, 9, 10, 11, 12, 13, 14, 15, 16, 18, 20, 21, 33, 90, 104, 124] mixed ?_; (repeat (first | refine RW.ro (And.intro (g1) (g2)) (h := ?_) | refine RW.skip (h := ?_) | refine RW.op (And.intro (g1) (g2)) (h := ?_) | refine RW.opN (And.intro (g1) (g2)) (h := ?_) | refine RW.skip0 (h := ?_) | (refine RW.callC (h := ?_); (first | refine CallP.mk (And.intro (g1) (g2)) (hc := hG' _) (h := ?_) | refine CallP.mk (And.intro (g1) (g2)) (hc := head22_at _) (h := ?_))))); refine RW.nil ⟨by kernel_rfl, Pruned.mk (h := ?_)⟩) | refine SW.skip ?_ | refine SW.exit ?_ | refine SW.ret ?_ | refine SW.condT rfl ?_ | refine SW.condF rfl ?_))
        exact End.mk [] (h4 := rfl)
    · have g1 : decide ((l.length : Int) > 50) = true := by simp; omega
      (repeat (first | refine SW.seq ?_ | refine SW.block ?_ | (refine SW.regL [0, 1, 2, 5, 6, 7, 8, 9, 10, 11, 12, 13, 14, 15, 16, 18, 20, 21, 33, 90, 104, 124] mixed ?_; (repeat (first | refine RW.ro (g1) (h := ?_) | refine RW.skip (h := ?_) | refine RW.op (g1) (h := ?_) | refine RW.opN (g1) (h := ?_) | refine RW.skip0 (h := ?_) | (refine RW.callC (h := ?_); (first | refine CallP.mk (g1) (hc := hG' _) (h := ?_) | refine CallP.mk (g1) (hc := head22_at _) (h := ?_))))); refine RW.nil ⟨by kernel_rfl, Pruned.mk (h := ?_)⟩) | refine SW.skip ?_ | refine SW.exit ?_ | refine SW.ret ?_ | refine SW.condT rfl ?_ | refine SW.condF rfl ?_))
      exact End.mk [] (h4 := rfl)
  · rw [hG] at hG'
    (repeat (first | refine SW.seq ?_ | refine SW.block ?_ | (refine SW.regL [0, 1, 2, 5, 6, 7, 8, 9, 10, 11, 12, 13, 14, 15, 16, 18, 20, 21, 33, 90, 104, 124] mixed ?_; (repeat (first | refine RW.ro bq_tt (h := ?_) | refine RW.skip (h := ?_) | refine RW.op bq_tt (h := ?_) | refine RW.opN bq_tt (h := ?_) | refine RW.skip0 (h := ?_) | (refine RW.callC (h := ?_); (first | refine CallP.mk bq_tt (hc := hG' _) (h := ?_) | refine CallP.mk bq_tt (hc := head22_at _) (h := ?_))))); refine RW.nil ⟨by kernel_rfl, Pruned.mk (h := ?_)⟩) | refine SW.skip ?_ | refine SW.exit ?_ | refine SW.ret ?_ | refine SW.condT rfl ?_ | refine SW.condF rfl ?_))
    exact End.mk [] (h4 := rfl)
end Go.Proofs.Ytmmonbnlleeloaa
