/-
  Spends: nothing above a cap, plainly; and the program's answers at spends that may be none.
-/
import Derived.Test.YtmmonbnlleeloaaKP
set_option linter.unusedSectionVars false
set_option linter.unusedVariables false
set_option linter.unusedSimpArgs false
namespace Go.Proofs.Ytmmonbnlleeloaa
open Go.Sl Go.Proofs
attribute [local irreducible] SW RW SCd SC CallP Pruned
theorem Ups.par {a : MM Dt Cr} : ∀ {o : Option Cr} {L : List Cr}, Ups a o L → ∀ c, c ∈ L → 0 < c.level → (∃ p, MM.get a c.par = some p ∧ p ∈ L) ∨ MM.get a c.par = Option.none
  | _, _, .none, c, hc, _ => by cases hc
  | _, _, .root r hr, c, hc, hl => by
    simp only [List.mem_singleton] at hc
    subst hc; exact absurd hl hr
  | _, _, .more r L hr hL, c, hc, hl => by
    rcases List.mem_cons.1 hc with rfl | hc
    · cases hp : MM.get a c.par with
      | none => exact .inr rfl
      | some p =>
        rw [hp] at hL
        exact .inl ⟨p, rfl, List.mem_cons_of_mem _ (List.mem_of_getElem? hL.head)⟩
    · rcases Ups.par hL c hc hl with ⟨p, h1, h2⟩ | h
      · exact .inl ⟨p, h1, List.mem_cons_of_mem _ h2⟩
      · exact .inr h
structure Capped (a : MM Dt Cr) (N : List Sp) : Prop where
  row : plainR N = N
  cap : ∀ d c, MM.get a d = some c → spentOf N d ≤ c.cap
  no : ∀ d, MM.get a d = none → spentOf N d = 0
  up : ∀ d c, MM.get a d = some c → 0 < c.level → spentOf N d ≤ spentOf N c.par
theorem plainR_idem (s : List Sp) : plainR (plainR s) = plainR s := chg_uniq fun x => (plainR_row s).spent x
theorem Capped.nil (a : MM Dt Cr) : Capped a [] := ⟨rfl, fun _ _ _ => Nat.zero_le _, fun _ _ => rfl, fun _ _ _ _ => Nat.le_refl _⟩
section
variable {l : List OpD} {a : MM Dt Cr} {ca : Nat} {m : MM Dt OpD} {cm : Nat} (ht : TOk l (tr0 a ca m cm))
include ht
theorem Capped.lt {N : List Sp} (h : Capped a N) : ∀ y, y ∈ N → y.n < 18446744073709551616 := fun y hy => by
  rw [← h.row] at hy
  rw [((plainR_row N).val y hy).1]
  cases hg : MM.get a y.d with
  | none => rw [h.no _ hg]; omega
  | some c =>
    have h1 := h.cap _ c hg
    have h2 := ht.cap (d := y.d) hg
    omega
theorem Capped.chg {N : List Sp} (h : Capped a N) {d : Dt} {L : List Cr} (hL : Ups a (MM.get a d) L) {n : Nat} (hn : n ≤ rV (leftF a N) (L.map (·.dot))) : Capped a (chg n N (L.map (·.dot))) := by
  have hnd := ht.upsNd hL
  have hget : ∀ x, x ∈ L.map (·.dot) → ∃ y, y ∈ L ∧ MM.get a x = some y := fun x hx => by
    obtain ⟨y, hy, e⟩ := List.mem_map.1 hx
    have := ht.upsGet (d := d) hL y hy
    rw [e] at this
    exact ⟨y, hy, this⟩
  refine ⟨plainR_idem _, fun x c hx => ?_, fun x hx => ?_, fun x c hx hl => ?_⟩
  · rw [chg_spent n N hnd]
    have h1 := h.cap x c hx
    by_cases hm : x ∈ L.map (·.dot)
    · have h2 := Nat.le_trans hn (rV_le (leftF a N) hm)
      rw [leftF_some hx] at h2
      rw [if_pos hm]; omega
    · rw [if_neg hm]; omega
  · rw [chg_spent n N hnd, h.no x hx, if_neg]
    intro hm
    obtain ⟨y, _, hy⟩ := hget x hm
    rw [hx] at hy; cases hy
  · rw [chg_spent n N hnd, chg_spent n N hnd]
    have h1 := h.up x c hx hl
    by_cases hm : x ∈ L.map (·.dot)
    · obtain ⟨y, hy, e⟩ := hget x hm
      rw [hx] at e
      injection e with e
      subst e
      rw [if_pos hm]
      rcases hL.par c hy hl with ⟨p, h2, h3⟩ | h2
      · rw [if_pos]
        · omega
        · have h4 := ht.upsGet (d := d) hL p h3
          have h5 : p.dot = c.par := ht.dotIs h2
          rw [← h5]
          exact List.mem_map_of_mem h3
      · obtain ⟨_, _, _, _, _, h4, _⟩ := ht.above (d := x) hx hl
        rw [show MM.get (tr0 a ca m cm).at_ c.par = MM.get a c.par from rfl, h2] at h4
        cases h4
    · rw [if_neg hm]; omega
end
def nowS (z : Bool) (N : List Sp) : SV := if z then .d .nils else sps N
theorem nowS_ok (z : Bool) (N : List Sp) (q : Nat → Bool) : (nowS z N).ok q = true := by cases z <;> rfl
theorem nowS_ren (z : Bool) (N : List Sp) (r : Nat → Nat) : (nowS z N).ren r = nowS z N := by cases z <;> rfl
theorem spent0_at (d : Dt) (k : Nat) : SCd Try.prog charge_Spent.f [.d .nils, .agg d.cells] [] k 0 (.d (.int .u64 0)) [] := by
  have h : Go.Sl.Pure Try.prog charge_Spent.f [.d .nils, .agg d.cells] (.d (.int .u64 ((spentOf [] d : Nat) : Int))) :=
    SB.args (spent_ok [] (by decide) d) rfl fun p μ M vs => rps_nil_row (fun _ h => h) vs
  exact h.sc rfl k
theorem spentN (z : Bool) (N : List Sp) (hz : z = true → N = []) (hN : N.length < 10000) (d : Dt) (k : Nat) : SCd Try.prog charge_Spent.f [nowS z N, .agg d.cells] [] k 0 (.d (.int .u64 (spentOf N d : Int))) [] := by
  cases z with
  | true => rw [hz rfl]; exact spent0_at d k
  | false => exact spent_at N (by omega) d k
theorem same0_at (k : Nat) : SCd Try.prog ref22_Same.f [sps [], .d .nils] [] k 0 (.d (.bool true)) [] := by
  have h : Go.Sl.Pure Try.prog ref22_Same.f [sps [], .d .nils] (.d (.bool true)) :=
    SB.args (spsame_ok [] [] (by decide) (by decide)) rfl fun p μ M vs => rps_keep (rps_nil_row (fun _ h => h)) vs
  exact h.sc rfl k
theorem sameN (z : Bool) (N : List Sp) (hz : z = true → N = []) (hN : N.length < 10000) (k : Nat) : SCd Try.prog ref22_Same.f [sps N, nowS z N] [] k 0 (.d (.bool true)) [] := by
  cases z with
  | true => rw [hz rfl]; exact same0_at k
  | false =>
    have := spsame_at N N (by omega) (by omega) k
    rwa [decide_eq_true rfl] at this
section
variable {l : List OpD} {a : MM Dt Cr} {ca : Nat} {m : MM Dt OpD} {cm : Nat} (h : Tn l a ca m cm) (z : Bool) (N : List Sp) (hz : z = true → N = []) (hN : N.length < 10000) (d : Dt) (L : List Cr) (hL : Ups a (MM.get a d) L) (hlL : L.length < 10000)
include h hz hN hL hlL
theorem Tn.roomN (k : Nat) : SCd Try.prog charge_Room.f [.ptr 2 0, nowS z N, .agg d.cells] (H2 a ca m cm) k 0 (.tup [.d (.int .u64 ((rV (leftF a N) (L.map (·.dot)) : Nat) : Int)), .d (.int .i64 (eV (L.map (·.dot))))]) (H2 a ca m cm) := by
  cases z with
  | true => rw [hz rfl]; exact h.roomC0 d L hL hlL k
  | false => exact h.roomC N hN d L hL hlL k
theorem Tn.chargeN (hn : ∀ y, y ∈ N → y.n < 18446744073709551616) (n : Nat) (k : Nat) : SCd Try.prog charge_Charge.f [.ptr 2 0, nowS z N, .agg d.cells, .d (.int .u64 (n : Int))] (H2 a ca m cm) k 0 (.tup [cS (leftF a N) n N (L.map (·.dot)), .d (.int .i64 (cE (leftF a N) n (L.map (·.dot))))]) (H2 a ca m cm) := by
  cases z with
  | true => rw [hz rfl]; exact h.chargeC0 d L hL hlL n k
  | false => exact h.chargeC N hN d L hL hlL hn n k
end
end Go.Proofs.Ytmmonbnlleeloaa
namespace Go.Proofs.Ytmmonbnlleeloaa
open Go.Sl Go.Proofs
attribute [local irreducible] SW RW SCd SC CallP Pruned
theorem sp_room1 {l : List Sp} {i : Nat} {x : Sp} (h : l[i]? = some x) : (i * 3 + 2 + 1 ≤ (List.map SV.d (l.flatMap Sp.ds)).length) = True := sp_room h (j := 2) (n := 1) (by omega)
section
attribute [local irreducible] nowS
set_option maxHeartbeats 8000000 in
theorem law22_caps (l : List OpD) (s : List Sp) (hr : ∀ o, o ∈ l → o.roles < 256) (hwf : ∀ o, o ∈ l → o.dot.wf) (hw : ∀ o, o ∈ l → lrow o) (hlen : l.length ≤ 9223372036854775807)
    (hs : s.length ≤ 9223372036854775807) (hsn : ∀ y, y ∈ s → y.n < 18446744073709551616) (hsw : ∀ y, y ∈ s → y.d.wf) :
    SB Try.prog law22_ChargeCaps.f [ops l, sps s] [] 0 0 (fun r F => r = bl true) := by
  refine law22_ChargeCaps.enter (by simp [SV.ok, SV.oks]) (by simp [Hp.ok]) (by simp) ?_
  unfold law22_ChargeCaps.s
  have hG' := great_at l hw hlen
  refine SW.seq ?_
  (refine SW.regL [0, 1, 4, 5, 6, 7, 8, 9, 10, 11, 12, 14, 15, 16, 17, 24, 35, 77, 85, 124, 129, 176] mixed ?_; (repeat (first | refine RW.ro bq_tt (h := ?_) | refine RW.skip (h := ?_) | refine RW.op bq_tt (h := ?_) | refine RW.opN bq_tt (h := ?_) | refine RW.skip0 (h := ?_))); refine RW.nil ⟨by kernel_rfl, Pruned.mk (h := ?_)⟩)
  rcases hG : greatV l with _ | _
  · rw [hG] at hG'
    have hl80 := great_len hG
    by_cases h50 : l.length ≤ 50
    · have g1 : decide ((l.length : Int) > 50) = false := by simp; omega
      obtain ⟨a, ca, m, cm, h⟩ := tn_of l
      have ht := h.tok
      have hl4 : l.length < 4611686018427387904 := by omega
      refine SW.seq (SW.seq ?_)
      (refine SW.regL [0, 1, 4, 5, 6, 7, 8, 9, 10, 11, 12, 14, 15, 16, 17, 24, 35, 77, 85, 124, 129, 176] mixed ?_; (repeat (first | refine RW.ro (g1) (h := ?_) | refine RW.skip (h := ?_) | refine RW.op (g1) (h := ?_) | refine RW.opN (g1) (h := ?_) | refine RW.skip0 (h := ?_) | (refine RW.callC (h := ?_); (first | refine CallP.mk (g1) (hc := hG' _) (h := ?_) | refine CallP.mk (g1) (hc := h.newC (by omega)) (h := ?_))))); refine RW.nil ⟨by kernel_rfl, Pruned.mk (h := ?_)⟩)
      refine SW.condF rfl (SW.skip ?_)
      refine SW.seq ?_
      (refine SW.regL [0, 1, 4, 5, 6, 7, 8, 9, 10, 11, 12, 14, 15, 16, 17, 24, 35, 77, 85, 124, 129, 176] mixed ?_; (repeat (first | refine RW.ro bq_tt (h := ?_) | refine RW.skip (h := ?_) | refine RW.op bq_tt (h := ?_) | refine RW.opN bq_tt (h := ?_) | refine RW.skip0 (h := ?_) | (refine RW.callC (h := ?_); (first | refine CallP.mk bq_tt (hc := hG' _) (h := ?_) | refine CallP.mk bq_tt (hc := h.newC (by omega)) (h := ?_))))); refine RW.nil ⟨by kernel_rfl, Pruned.mk (h := ?_)⟩)
      refine SW.seq ?_
      (refine SW.regL [0, 1, 4, 5, 6, 7, 8, 9, 10, 11, 12, 14, 15, 16, 17, 24, 35, 77, 85, 124, 129, 176] mixed ?_; (repeat (first | refine RW.ro bq_tt (h := ?_) | refine RW.skip (h := ?_) | refine RW.op bq_tt (h := ?_) | refine RW.opN bq_tt (h := ?_) | refine RW.skip0 (h := ?_))); refine RW.nil ⟨by kernel_rfl, Pruned.mk (h := ?_)⟩)
      refine SW.seq (SW.seq ?_)
      (refine SW.regL [0, 1, 4, 5, 6, 7, 8, 9, 10, 11, 12, 14, 15, 16, 17, 24, 35, 77, 85, 124, 129, 176] mixed ?_; (repeat (first | refine RW.ro bq_tt (h := ?_) | refine RW.skip (h := ?_) | refine RW.op bq_tt (h := ?_) | refine RW.opN bq_tt (h := ?_) | refine RW.skip0 (h := ?_))); refine RW.nil ⟨by kernel_rfl, Pruned.mk (h := ?_)⟩)
      refine SW.block ?_
      refine SW.loopA (α := {t : Nat × Bool × List Sp // (t.1 ≤ s.length ∧ t.1 ≤ 30) ∧ (t.2.1 = true → t.2.2 = []) ∧ t.2.2.length ≤ 9 * t.1 ∧ Capped a t.2.2}) (fun t => ⟨[(7, i64 t.1.1), (6, nowS t.1.2.1 t.1.2.2), (0, ops l), (1, sps s), (5, .ptr 2 0)], H2 a ca m cm, 3⟩) (fun t => s.length - t.1.1) ⟨(0, true, []), ⟨by simp, by simp, by simp, Capped.nil a⟩⟩ id (And.intro (show nowS true [] = .d .nils by unfold nowS; rfl) (mapsF a m)) (round := ?_)
      rintro ⟨⟨i, z, N⟩, ⟨hi, hi30⟩, hz, hN, hcap⟩
      dsimp only at hi hi30 hz hN hcap ⊢
      have hlt := hcap.lt h.tok0
      have no := nowS_ok z N
      have nr := nowS_ren z N
      by_cases hil : i < s.length
      · by_cases hi3 : i < 30
        · obtain ⟨x, hx⟩ := get_of_lt hil
          have c1 : decide ((i : Int) < s.length) = true := by simp; exact hil
          have c2 : decide ((i : Int) < 30) = true := by simp; omega
          have c3 : IntKind.i64.wrap ((i : Int) + 1) = ((i + 1 : Nat) : Int) := wrap_i64 _ (by omega)
          obtain ⟨L, hL, hL9, _⟩ := ht.ups x.d
          have hro := h.roomN z N hz (by omega) x.d L hL (by omega)
          have hch := h.chargeN z N hz (by omega) x.d L hL (by omega) hlt x.n
          refine SW.seq (SW.seq ?_)
          (refine SW.regL [0, 1, 4, 5, 6, 7, 8, 9, 10, 11, 12, 14, 15, 16, 17, 24, 35, 77, 85, 124, 129, 176] mixed ?_; (repeat (first | refine RW.ro (And.intro (c1) (c2)) (h := ?_) | refine RW.skip (h := ?_) | refine RW.op (And.intro (c1) (c2)) (h := ?_) | refine RW.opN (And.intro (c1) (c2)) (h := ?_) | refine RW.skip0 (h := ?_))); refine RW.nil ⟨by kernel_rfl, Pruned.mk (h := ?_)⟩)
          refine SW.condT rfl (SW.skip ?_)
          refine SW.seq (SW.block ?_)
          by_cases hD : L.map (·.dot) = []
          · have hr0 := h.roomC0 x.d L hL (by omega)
            rw [hD] at hro hch hr0
            have hro' : ∀ k, SCd Try.prog charge_Room.f [.ptr 2 0, nowS z N, .agg x.d.cells] (H2 a ca m cm) k 0 (.tup [.d (.int .u64 0), .d (.int .i64 7)]) (H2 a ca m cm) := hro
            have hch' : ∀ k, SCd Try.prog charge_Charge.f [.ptr 2 0, nowS z N, .agg x.d.cells, .d (.int .u64 (x.n : Int))] (H2 a ca m cm) k 0 (.tup [.d .nils, .d (.int .i64 7)]) (H2 a ca m cm) := hch
            have hr0' : ∀ k, SCd Try.prog charge_Room.f [.ptr 2 0, .d .nils, .agg x.d.cells] (H2 a ca m cm) k 0 (.tup [.d (.int .u64 0), .d (.int .i64 7)]) (H2 a ca m cm) := hr0
            refine SW.seq ?_
            (have fx := (And.intro (sp_dot hx) (sp_room2 hx)); refine SW.regL [0, 1, 4, 5, 6, 7, 8, 9, 10, 11, 12, 14, 15, 16, 17, 24, 35, 77, 85, 124, 129, 176] mixed ?_; (repeat (first | refine RW.ro fx (h := ?_) | refine RW.skip (h := ?_) | refine RW.op fx (h := ?_) | refine RW.opN fx (h := ?_) | refine RW.skip0 (h := ?_) | (refine RW.callC (h := ?_); (first | refine CallP.mk fx (hc := hro' _) (h := ?_))))); refine RW.nil ⟨by kernel_rfl, Pruned.mk (h := ?_)⟩)
            refine SW.seq ?_
            (have fx := (And.intro (sp_dot hx) (And.intro (sp_room2 hx) (And.intro (sp_amount hx) (sp_room1 hx)))); refine SW.regL [0, 1, 4, 5, 6, 7, 8, 9, 10, 11, 12, 14, 15, 16, 17, 24, 35, 77, 85, 124, 129, 176] mixed ?_; (repeat (first | refine RW.ro fx (h := ?_) | refine RW.skip (h := ?_) | refine RW.op fx (h := ?_) | refine RW.opN fx (h := ?_) | refine RW.skip0 (h := ?_) | (refine RW.callC (h := ?_); (first | refine CallP.mk fx (hc := hch' _) (h := ?_))))); refine RW.nil ⟨by kernel_rfl, Pruned.mk (h := ?_)⟩)
            refine SW.seq ?_
            (have fx := (And.intro (sp_dot hx) (sp_room2 hx)); refine SW.regL [0, 1, 4, 5, 6, 7, 8, 9, 10, 11, 12, 14, 15, 16, 17, 24, 35, 77, 85, 124, 129, 176] mixed ?_; (repeat (first | refine RW.ro fx (h := ?_) | refine RW.skip (h := ?_) | refine RW.op fx (h := ?_) | refine RW.opN fx (h := ?_) | refine RW.skip0 (h := ?_) | (refine RW.callC (h := ?_); (first | refine CallP.mk fx (hc := hr0' _) (h := ?_))))); refine RW.nil ⟨by kernel_rfl, Pruned.mk (h := ?_)⟩)
            refine SW.seq (SW.seq ?_)
            (refine SW.regL [0, 1, 4, 5, 6, 7, 8, 9, 10, 11, 12, 14, 15, 16, 17, 24, 35, 77, 85, 124, 129, 176] mixed ?_; (repeat (first | refine RW.ro bq_tt (h := ?_) | refine RW.skip (h := ?_) | refine RW.op bq_tt (h := ?_) | refine RW.opN bq_tt (h := ?_) | refine RW.skip0 (h := ?_))); refine RW.nil ⟨by kernel_rfl, Pruned.mk (h := ?_)⟩)
            refine SW.condT rfl (SW.seq (SW.seq ?_))
            (refine SW.regL [0, 1, 4, 5, 6, 7, 8, 9, 10, 11, 12, 14, 15, 16, 17, 24, 35, 77, 85, 124, 129, 176] mixed ?_; (repeat (first | refine RW.ro bq_tt (h := ?_) | refine RW.skip (h := ?_) | refine RW.op bq_tt (h := ?_) | refine RW.opN bq_tt (h := ?_) | refine RW.skip0 (h := ?_))); refine RW.nil ⟨by kernel_rfl, Pruned.mk (h := ?_)⟩)
            refine SW.condF rfl (SW.skip (SW.exit ?_))
            (refine SW.regL [0, 1, 4, 5, 6, 7, 8, 9, 10, 11, 12, 14, 15, 16, 17, 24, 35, 77, 85, 124, 129, 176] mixed ?_; (repeat (first | refine RW.ro (c3) (h := ?_) | refine RW.skip (h := ?_) | refine RW.op (c3) (h := ?_) | refine RW.opN (c3) (h := ?_) | refine RW.skip0 (h := ?_))); refine RW.nil ⟨by kernel_rfl, Pruned.mk (h := ?_)⟩)
            dsimp only
            exact ⟨⟨(i + 1, z, N), ⟨by omega, by omega⟩, hz, by dsimp only; omega, hcap⟩, id, by show s.length - (i + 1) < _; omega, Weak.mk (And.intro no (And.intro nr (mapsF a m)))⟩
          · obtain ⟨d0, r0, hDD⟩ := List.exists_cons_of_ne_nil hD
            have hev : eV (L.map (·.dot)) = 0 := by rw [hDD]; rfl
            rw [hev] at hro
            by_cases hn : x.n ≤ rV (leftF a N) (L.map (·.dot))
            · have c4 : decide ((x.n : Int) ≤ ((rV (leftF a N) (L.map (·.dot)) : Nat) : Int)) = true := by simp; omega
              have hnd := h.tok0.upsNd hL
              have hB := chg_len x.n N (L.map (·.dot))
              rw [List.length_map] at hB
              have hcap' := hcap.chg h.tok0 hL hn
              have hra := h.roomC (chg x.n N (L.map (·.dot))) (by omega) x.d L hL (by omega)
              rw [hev, parts_room hnd] at hra
              rw [cS_done hD hn, cE_ok hD hn] at hch
              have hroom : rV (leftF a N) (L.map (·.dot)) ≤ 1099511627776 := by
                obtain ⟨y, hy, e⟩ := rV_mem (leftF a N) hD
                obtain ⟨c, hc, e2⟩ := List.mem_map.1 hy
                have hg := h.tok0.upsGet (d := x.d) hL c hc
                rw [e2] at hg
                have hcc := h.tok0.cap (d := y) hg
                rw [e, leftF_some hg]; omega
              generalize rV (leftF a N) (L.map (·.dot)) = R at hro hra hn c4 hroom
              have c5 : IntKind.u64.wrap ((R : Int) - (x.n : Int)) = ((R - x.n : Nat) : Int) := by
                rw [show (R : Int) - (x.n : Int) = ((R - x.n : Nat) : Int) by omega]
                rw [wrap_u64' _ (by omega)]
              generalize chg x.n N (L.map (·.dot)) = B at hra hch hB hcap'
              refine SW.seq ?_
              (have fx := (And.intro (sp_dot hx) (sp_room2 hx)); refine SW.regL [0, 1, 4, 5, 6, 7, 8, 9, 10, 11, 12, 14, 15, 16, 17, 24, 35, 77, 85, 124, 129, 176] mixed ?_; (repeat (first | refine RW.ro fx (h := ?_) | refine RW.skip (h := ?_) | refine RW.op fx (h := ?_) | refine RW.opN fx (h := ?_) | refine RW.skip0 (h := ?_) | (refine RW.callC (h := ?_); (first | refine CallP.mk fx (hc := hro _) (h := ?_))))); refine RW.nil ⟨by kernel_rfl, Pruned.mk (h := ?_)⟩)
              refine SW.seq ?_
              (have fx := (And.intro (sp_dot hx) (And.intro (sp_room2 hx) (And.intro (sp_amount hx) (sp_room1 hx)))); refine SW.regL [0, 1, 4, 5, 6, 7, 8, 9, 10, 11, 12, 14, 15, 16, 17, 24, 35, 77, 85, 124, 129, 176] mixed ?_; (repeat (first | refine RW.ro fx (h := ?_) | refine RW.skip (h := ?_) | refine RW.op fx (h := ?_) | refine RW.opN fx (h := ?_) | refine RW.skip0 (h := ?_) | (refine RW.callC (h := ?_); (first | refine CallP.mk fx (hc := hch _) (h := ?_))))); refine RW.nil ⟨by kernel_rfl, Pruned.mk (h := ?_)⟩)
              refine SW.seq ?_
              (have fx := (And.intro (sp_dot hx) (sp_room2 hx)); refine SW.regL [0, 1, 4, 5, 6, 7, 8, 9, 10, 11, 12, 14, 15, 16, 17, 24, 35, 77, 85, 124, 129, 176] mixed ?_; (repeat (first | refine RW.ro fx (h := ?_) | refine RW.skip (h := ?_) | refine RW.op fx (h := ?_) | refine RW.opN fx (h := ?_) | refine RW.skip0 (h := ?_) | (refine RW.callC (h := ?_); (first | refine CallP.mk fx (hc := hra _) (h := ?_))))); refine RW.nil ⟨by kernel_rfl, Pruned.mk (h := ?_)⟩)
              refine SW.seq (SW.seq ?_)
              (refine SW.regL [0, 1, 4, 5, 6, 7, 8, 9, 10, 11, 12, 14, 15, 16, 17, 24, 35, 77, 85, 124, 129, 176] mixed ?_; (repeat (first | refine RW.ro bq_tt (h := ?_) | refine RW.skip (h := ?_) | refine RW.op bq_tt (h := ?_) | refine RW.opN bq_tt (h := ?_) | refine RW.skip0 (h := ?_))); refine RW.nil ⟨by kernel_rfl, Pruned.mk (h := ?_)⟩)
              refine SW.condF rfl (SW.skip ?_)
              refine SW.seq (SW.seq ?_)
              (have fx := (And.intro (c4) (And.intro (c5) (And.intro (sp_amount hx) (sp_room1 hx)))); refine SW.regL [0, 1, 4, 5, 6, 7, 8, 9, 10, 11, 12, 14, 15, 16, 17, 24, 35, 77, 85, 124, 129, 176] mixed ?_; (repeat (first | refine RW.ro fx (h := ?_) | refine RW.skip (h := ?_) | refine RW.op fx (h := ?_) | refine RW.opN fx (h := ?_) | refine RW.skip0 (h := ?_))); refine RW.nil ⟨by kernel_rfl, Pruned.mk (h := ?_)⟩)
              refine SW.condF rfl (SW.skip ?_)
              (refine SW.regL [0, 1, 4, 5, 6, 7, 8, 9, 10, 11, 12, 14, 15, 16, 17, 24, 35, 77, 85, 124, 129, 176] mixed ?_; (repeat (first | refine RW.ro bq_tt (h := ?_) | refine RW.skip (h := ?_) | refine RW.op bq_tt (h := ?_) | refine RW.opN bq_tt (h := ?_) | refine RW.skip0 (h := ?_))); refine RW.nil ⟨by kernel_rfl, Pruned.mk (h := ?_)⟩)
              (refine SW.regL [0, 1, 4, 5, 6, 7, 8, 9, 10, 11, 12, 14, 15, 16, 17, 24, 35, 77, 85, 124, 129, 176] mixed ?_; (repeat (first | refine RW.ro (c3) (h := ?_) | refine RW.skip (h := ?_) | refine RW.op (c3) (h := ?_) | refine RW.opN (c3) (h := ?_) | refine RW.skip0 (h := ?_))); refine RW.nil ⟨by kernel_rfl, Pruned.mk (h := ?_)⟩)
              dsimp only
              exact ⟨⟨(i + 1, false, B), ⟨by omega, by omega⟩, by simp, by dsimp only; omega, hcap'⟩, id, by show s.length - (i + 1) < _; omega, Weak.mk (And.intro (show nowS false B = sps B by unfold nowS; rfl) (mapsF a m))⟩
            · have c4 : decide ((x.n : Int) ≤ ((rV (leftF a N) (L.map (·.dot)) : Nat) : Int)) = false := by simp; omega
              rw [cS_over hD (by omega), cE_over hD (by omega), hcap.row] at hch
              have hra := h.roomC N (by omega) x.d L hL (by omega)
              rw [hev] at hra
              generalize rV (leftF a N) (L.map (·.dot)) = R at hro hra c4
              have hsm := sameN z N hz (by omega)
              refine SW.seq ?_
              (have fx := (And.intro (sp_dot hx) (sp_room2 hx)); refine SW.regL [0, 1, 4, 5, 6, 7, 8, 9, 10, 11, 12, 14, 15, 16, 17, 24, 35, 77, 85, 124, 129, 176] mixed ?_; (repeat (first | refine RW.ro fx (h := ?_) | refine RW.skip (h := ?_) | refine RW.op fx (h := ?_) | refine RW.opN fx (h := ?_) | refine RW.skip0 (h := ?_) | (refine RW.callC (h := ?_); (first | refine CallP.mk fx (hc := hro _) (h := ?_))))); refine RW.nil ⟨by kernel_rfl, Pruned.mk (h := ?_)⟩)
              refine SW.seq ?_
              (have fx := (And.intro (sp_dot hx) (And.intro (sp_room2 hx) (And.intro (sp_amount hx) (sp_room1 hx)))); refine SW.regL [0, 1, 4, 5, 6, 7, 8, 9, 10, 11, 12, 14, 15, 16, 17, 24, 35, 77, 85, 124, 129, 176] mixed ?_; (repeat (first | refine RW.ro fx (h := ?_) | refine RW.skip (h := ?_) | refine RW.op fx (h := ?_) | refine RW.opN fx (h := ?_) | refine RW.skip0 (h := ?_) | (refine RW.callC (h := ?_); (first | refine CallP.mk fx (hc := hch _) (h := ?_))))); refine RW.nil ⟨by kernel_rfl, Pruned.mk (h := ?_)⟩)
              refine SW.seq ?_
              (have fx := (And.intro (sp_dot hx) (sp_room2 hx)); refine SW.regL [0, 1, 4, 5, 6, 7, 8, 9, 10, 11, 12, 14, 15, 16, 17, 24, 35, 77, 85, 124, 129, 176] mixed ?_; (repeat (first | refine RW.ro fx (h := ?_) | refine RW.skip (h := ?_) | refine RW.op fx (h := ?_) | refine RW.opN fx (h := ?_) | refine RW.skip0 (h := ?_) | (refine RW.callC (h := ?_); (first | refine CallP.mk fx (hc := hra _) (h := ?_))))); refine RW.nil ⟨by kernel_rfl, Pruned.mk (h := ?_)⟩)
              refine SW.seq (SW.seq ?_)
              (refine SW.regL [0, 1, 4, 5, 6, 7, 8, 9, 10, 11, 12, 14, 15, 16, 17, 24, 35, 77, 85, 124, 129, 176] mixed ?_; (repeat (first | refine RW.ro bq_tt (h := ?_) | refine RW.skip (h := ?_) | refine RW.op bq_tt (h := ?_) | refine RW.opN bq_tt (h := ?_) | refine RW.skip0 (h := ?_))); refine RW.nil ⟨by kernel_rfl, Pruned.mk (h := ?_)⟩)
              refine SW.condF rfl (SW.skip ?_)
              refine SW.seq (SW.seq ?_)
              (have fx := (And.intro (c4) (And.intro (sp_amount hx) (sp_room1 hx))); refine SW.regL [0, 1, 4, 5, 6, 7, 8, 9, 10, 11, 12, 14, 15, 16, 17, 24, 35, 77, 85, 124, 129, 176] mixed ?_; (repeat (first | refine RW.ro fx (h := ?_) | refine RW.skip (h := ?_) | refine RW.op fx (h := ?_) | refine RW.opN fx (h := ?_) | refine RW.skip0 (h := ?_) | (refine RW.callC (h := ?_); (first | refine CallP.mk fx (hc := hsm _) (h := ?_))))); refine RW.nil ⟨by kernel_rfl, Pruned.mk (h := ?_)⟩)
              refine SW.condF rfl (SW.skip ?_)
              (refine SW.regL [0, 1, 4, 5, 6, 7, 8, 9, 10, 11, 12, 14, 15, 16, 17, 24, 35, 77, 85, 124, 129, 176] mixed ?_; (repeat (first | refine RW.ro bq_tt (h := ?_) | refine RW.skip (h := ?_) | refine RW.op bq_tt (h := ?_) | refine RW.opN bq_tt (h := ?_) | refine RW.skip0 (h := ?_))); refine RW.nil ⟨by kernel_rfl, Pruned.mk (h := ?_)⟩)
              (refine SW.regL [0, 1, 4, 5, 6, 7, 8, 9, 10, 11, 12, 14, 15, 16, 17, 24, 35, 77, 85, 124, 129, 176] mixed ?_; (repeat (first | refine RW.ro (c3) (h := ?_) | refine RW.skip (h := ?_) | refine RW.op (c3) (h := ?_) | refine RW.opN (c3) (h := ?_) | refine RW.skip0 (h := ?_))); refine RW.nil ⟨by kernel_rfl, Pruned.mk (h := ?_)⟩)
              dsimp only
              exact ⟨⟨(i + 1, false, N), ⟨by omega, by omega⟩, by simp, by dsimp only; omega, hcap⟩, id, by show s.length - (i + 1) < _; omega, Weak.mk (And.intro (show nowS false N = sps N by unfold nowS; rfl) (mapsF a m))⟩
        · have c1 : decide ((i : Int) < s.length) = true := by simp; exact hil
          have c2 : decide ((i : Int) < 30) = false := by simp; omega
          refine SW.seq (SW.seq ?_)
          (refine SW.regL [0, 1, 4, 5, 6, 7, 8, 9, 10, 11, 12, 14, 15, 16, 17, 24, 35, 77, 85, 124, 129, 176] mixed ?_; (repeat (first | refine RW.ro (And.intro (c1) (c2)) (h := ?_) | refine RW.skip (h := ?_) | refine RW.op (And.intro (c1) (c2)) (h := ?_) | refine RW.opN (And.intro (c1) (c2)) (h := ?_) | refine RW.skip0 (h := ?_))); refine RW.nil ⟨by kernel_rfl, Pruned.mk (h := ?_)⟩)
          refine SW.condF rfl (SW.exit ?_)
          refine SW.weak id (st1 := ⟨[(6, nowS z N), (0, ops l)], [], 0⟩) (Weak.mk (And.intro no (And.intro nr (mapsF a m)))) ?_
          refine SW.seq (SW.seq ?_)
          (refine SW.regL [0, 1, 4, 5, 6, 7, 8, 9, 10, 11, 12, 14, 15, 16, 17, 24, 35, 77, 85, 124, 129, 176] mixed ?_; (repeat (first | refine RW.ro bq_tt (h := ?_) | refine RW.skip (h := ?_) | refine RW.op bq_tt (h := ?_) | refine RW.opN bq_tt (h := ?_) | refine RW.skip0 (h := ?_))); refine RW.nil ⟨by kernel_rfl, Pruned.mk (h := ?_)⟩)
          refine SW.block ?_
          refine SW.loopA (α := {j : Nat // j ≤ l.length}) (fun j => ⟨[(14, i64 j.1), (6, nowS z N), (0, ops l)], [], 0⟩) (fun j => l.length - j.1) ⟨0, by omega⟩ id (And.intro no nr) (round := ?_)
          rintro ⟨j, hj⟩
          dsimp only
          by_cases hjl : j < l.length
          · obtain ⟨o, ho⟩ := get_of_lt hjl
            have j1 : decide ((j : Int) < l.length) = true := by simp; exact hjl
            have j3 : IntKind.i64.wrap ((j : Int) + 1) = ((j + 1 : Nat) : Int) := wrap_i64 _ (by omega)
            have hsp := spentN z N hz (by omega) o.dot
            refine SW.seq (SW.seq ?_)
            (refine SW.regL [0, 1, 4, 5, 6, 7, 8, 9, 10, 11, 12, 14, 15, 16, 17, 24, 35, 77, 85, 124, 129, 176] mixed ?_; (repeat (first | refine RW.ro (j1) (h := ?_) | refine RW.skip (h := ?_) | refine RW.op (j1) (h := ?_) | refine RW.opN (j1) (h := ?_) | refine RW.skip0 (h := ?_))); refine RW.nil ⟨by kernel_rfl, Pruned.mk (h := ?_)⟩)
            refine SW.condT rfl (SW.skip ?_)
            refine SW.seq (SW.block ?_)
            cases hg : MM.get a o.dot with
            | none =>
              have hrg := rgetNo hl4 hr ht hg
              rw [hcap.no _ hg] at hsp
              generalize (getR l 10 o.dot).1 = c at hrg
              refine SW.seq ?_
              (have fx := (And.intro (op_load ho) (op_roomd ho)); refine SW.regL [0, 1, 4, 5, 6, 7, 8, 9, 10, 11, 12, 14, 15, 16, 17, 24, 35, 77, 85, 124, 129, 176] mixed ?_; (repeat (first | refine RW.ro fx (h := ?_) | refine RW.skip (h := ?_) | refine RW.op fx (h := ?_) | refine RW.opN fx (h := ?_) | refine RW.skip0 (h := ?_) | (refine RW.callC (h := ?_); (first | refine CallP.mk fx (hc := hrg _) (h := ?_))))); refine RW.nil ⟨by kernel_rfl, Pruned.mk (h := ?_)⟩)
              refine SW.seq ?_
              (have fx := (And.intro (op_load ho) (op_roomd ho)); refine SW.regL [0, 1, 4, 5, 6, 7, 8, 9, 10, 11, 12, 14, 15, 16, 17, 24, 35, 77, 85, 124, 129, 176] mixed ?_; (repeat (first | refine RW.ro fx (h := ?_) | refine RW.skip (h := ?_) | refine RW.op fx (h := ?_) | refine RW.opN fx (h := ?_) | refine RW.skip0 (h := ?_) | (refine RW.callC (h := ?_); (first | refine CallP.mk fx (hc := hsp _) (h := ?_))))); refine RW.nil ⟨by kernel_rfl, Pruned.mk (h := ?_)⟩)
              refine SW.seq ?_
              (refine SW.regL [0, 1, 4, 5, 6, 7, 8, 9, 10, 11, 12, 14, 15, 16, 17, 24, 35, 77, 85, 124, 129, 176] mixed ?_; (repeat (first | refine RW.ro bq_tt (h := ?_) | refine RW.skip (h := ?_) | refine RW.op bq_tt (h := ?_) | refine RW.opN bq_tt (h := ?_) | refine RW.skip0 (h := ?_))); refine RW.nil ⟨by kernel_rfl, Pruned.mk (h := ?_)⟩)
              refine SW.condF rfl (SW.skip ?_)
              (refine SW.regL [0, 1, 4, 5, 6, 7, 8, 9, 10, 11, 12, 14, 15, 16, 17, 24, 35, 77, 85, 124, 129, 176] mixed ?_; (repeat (first | refine RW.ro (j3) (h := ?_) | refine RW.skip (h := ?_) | refine RW.op (j3) (h := ?_) | refine RW.opN (j3) (h := ?_) | refine RW.skip0 (h := ?_))); refine RW.nil ⟨by kernel_rfl, Pruned.mk (h := ?_)⟩)
              dsimp only
              exact ⟨⟨j + 1, by omega⟩, id, by show l.length - (j + 1) < _; omega, Weak.mk (And.intro no nr)⟩
            | some c =>
              have hrg := rgetYes hl4 hr ht hg
              have j4 : decide (((spentOf N o.dot : Nat) : Int) > (c.cap : Int)) = false := by have := hcap.cap _ c hg; simp; omega
              refine SW.seq ?_
              (have fx := (And.intro (op_load ho) (op_roomd ho)); refine SW.regL [0, 1, 4, 5, 6, 7, 8, 9, 10, 11, 12, 14, 15, 16, 17, 24, 35, 77, 85, 124, 129, 176] mixed ?_; (repeat (first | refine RW.ro fx (h := ?_) | refine RW.skip (h := ?_) | refine RW.op fx (h := ?_) | refine RW.opN fx (h := ?_) | refine RW.skip0 (h := ?_) | (refine RW.callC (h := ?_); (first | refine CallP.mk fx (hc := hrg _) (h := ?_))))); refine RW.nil ⟨by kernel_rfl, Pruned.mk (h := ?_)⟩)
              refine SW.seq ?_
              (have fx := (And.intro (op_load ho) (op_roomd ho)); refine SW.regL [0, 1, 4, 5, 6, 7, 8, 9, 10, 11, 12, 14, 15, 16, 17, 24, 35, 77, 85, 124, 129, 176] mixed ?_; (repeat (first | refine RW.ro fx (h := ?_) | refine RW.skip (h := ?_) | refine RW.op fx (h := ?_) | refine RW.opN fx (h := ?_) | refine RW.skip0 (h := ?_) | (refine RW.callC (h := ?_); (first | refine CallP.mk fx (hc := hsp _) (h := ?_))))); refine RW.nil ⟨by kernel_rfl, Pruned.mk (h := ?_)⟩)
              by_cases hlv : 0 < c.level
              · have j5 : decide (c.level > 0) = true := by simp; omega
                have hsq := spentN z N hz (by omega) c.par
                have j6 : decide (((spentOf N c.par : Nat) : Int) < ((spentOf N o.dot : Nat) : Int)) = false := by have := hcap.up _ c hg hlv; simp; omega
                refine SW.seq ?_
                (have fx := (And.intro (j4) (And.intro (j5) (j6))); refine SW.regL [0, 1, 4, 5, 6, 7, 8, 9, 10, 11, 12, 14, 15, 16, 17, 24, 35, 77, 85, 124, 129, 176] mixed ?_; (repeat (first | refine RW.ro fx (h := ?_) | refine RW.skip (h := ?_) | refine RW.op fx (h := ?_) | refine RW.opN fx (h := ?_) | refine RW.skip0 (h := ?_) | (refine RW.callC (h := ?_); (first | refine CallP.mk fx (hc := hsq _) (h := ?_))))); refine RW.nil ⟨by kernel_rfl, Pruned.mk (h := ?_)⟩)
                refine SW.condF rfl (SW.skip ?_)
                (refine SW.regL [0, 1, 4, 5, 6, 7, 8, 9, 10, 11, 12, 14, 15, 16, 17, 24, 35, 77, 85, 124, 129, 176] mixed ?_; (repeat (first | refine RW.ro (j3) (h := ?_) | refine RW.skip (h := ?_) | refine RW.op (j3) (h := ?_) | refine RW.opN (j3) (h := ?_) | refine RW.skip0 (h := ?_))); refine RW.nil ⟨by kernel_rfl, Pruned.mk (h := ?_)⟩)
                dsimp only
                exact ⟨⟨j + 1, by omega⟩, id, by show l.length - (j + 1) < _; omega, Weak.mk (And.intro no nr)⟩
              · have j5 : decide (c.level > 0) = false := by simp; omega
                refine SW.seq ?_
                (refine SW.regL [0, 1, 4, 5, 6, 7, 8, 9, 10, 11, 12, 14, 15, 16, 17, 24, 35, 77, 85, 124, 129, 176] mixed ?_; (repeat (first | refine RW.ro (And.intro (j4) (j5)) (h := ?_) | refine RW.skip (h := ?_) | refine RW.op (And.intro (j4) (j5)) (h := ?_) | refine RW.opN (And.intro (j4) (j5)) (h := ?_) | refine RW.skip0 (h := ?_))); refine RW.nil ⟨by kernel_rfl, Pruned.mk (h := ?_)⟩)
                refine SW.condF rfl (SW.skip ?_)
                (refine SW.regL [0, 1, 4, 5, 6, 7, 8, 9, 10, 11, 12, 14, 15, 16, 17, 24, 35, 77, 85, 124, 129, 176] mixed ?_; (repeat (first | refine RW.ro (j3) (h := ?_) | refine RW.skip (h := ?_) | refine RW.op (j3) (h := ?_) | refine RW.opN (j3) (h := ?_) | refine RW.skip0 (h := ?_))); refine RW.nil ⟨by kernel_rfl, Pruned.mk (h := ?_)⟩)
                dsimp only
                exact ⟨⟨j + 1, by omega⟩, id, by show l.length - (j + 1) < _; omega, Weak.mk (And.intro no nr)⟩
          · have j1 : decide ((j : Int) < l.length) = false := by simp; omega
            have j2 : j = l.length := by omega
            subst j2
            refine SW.seq (SW.seq ?_)
            (refine SW.regL [0, 1, 4, 5, 6, 7, 8, 9, 10, 11, 12, 14, 15, 16, 17, 24, 35, 77, 85, 124, 129, 176] mixed ?_; (repeat (first | refine RW.ro (j1) (h := ?_) | refine RW.skip (h := ?_) | refine RW.op (j1) (h := ?_) | refine RW.opN (j1) (h := ?_) | refine RW.skip0 (h := ?_))); refine RW.nil ⟨by kernel_rfl, Pruned.mk (h := ?_)⟩)
            refine SW.condF rfl (SW.exit ?_)
            refine SW.seq ?_
            (refine SW.regL [0, 1, 4, 5, 6, 7, 8, 9, 10, 11, 12, 14, 15, 16, 17, 24, 35, 77, 85, 124, 129, 176] mixed ?_; (repeat (first | refine RW.ro bq_tt (h := ?_) | refine RW.skip (h := ?_) | refine RW.op bq_tt (h := ?_) | refine RW.opN bq_tt (h := ?_) | refine RW.skip0 (h := ?_) | (refine RW.callC (h := ?_); (first | refine CallP.mk bq_tt (hc := head22_at _) (h := ?_))))); refine RW.nil ⟨by kernel_rfl, Pruned.mk (h := ?_)⟩)
            refine SW.ret ?_
            exact End.mk [] (h4 := rfl)
      · have c1 : decide ((i : Int) < s.length) = false := by simp; omega
        refine SW.seq (SW.seq ?_)
        (refine SW.regL [0, 1, 4, 5, 6, 7, 8, 9, 10, 11, 12, 14, 15, 16, 17, 24, 35, 77, 85, 124, 129, 176] mixed ?_; (repeat (first | refine RW.ro (c1) (h := ?_) | refine RW.skip (h := ?_) | refine RW.op (c1) (h := ?_) | refine RW.opN (c1) (h := ?_) | refine RW.skip0 (h := ?_))); refine RW.nil ⟨by kernel_rfl, Pruned.mk (h := ?_)⟩)
        refine SW.condF rfl (SW.exit ?_)
        refine SW.weak id (st1 := ⟨[(6, nowS z N), (0, ops l)], [], 0⟩) (Weak.mk (And.intro no (And.intro nr (mapsF a m)))) ?_
        refine SW.seq (SW.seq ?_)
        (refine SW.regL [0, 1, 4, 5, 6, 7, 8, 9, 10, 11, 12, 14, 15, 16, 17, 24, 35, 77, 85, 124, 129, 176] mixed ?_; (repeat (first | refine RW.ro bq_tt (h := ?_) | refine RW.skip (h := ?_) | refine RW.op bq_tt (h := ?_) | refine RW.opN bq_tt (h := ?_) | refine RW.skip0 (h := ?_))); refine RW.nil ⟨by kernel_rfl, Pruned.mk (h := ?_)⟩)
        refine SW.block ?_
        refine SW.loopA (α := {j : Nat // j ≤ l.length}) (fun j => ⟨[(14, i64 j.1), (6, nowS z N), (0, ops l)], [], 0⟩) (fun j => l.length - j.1) ⟨0, by omega⟩ id (And.intro no nr) (round := ?_)
        rintro ⟨j, hj⟩
        dsimp only
        by_cases hjl : j < l.length
        · obtain ⟨o, ho⟩ := get_of_lt hjl
          have j1 : decide ((j : Int) < l.length) = true := by simp; exact hjl
          have j3 : IntKind.i64.wrap ((j : Int) + 1) = ((j + 1 : Nat) : Int) := wrap_i64 _ (by omega)
          have hsp := spentN z N hz (by omega) o.dot
          refine SW.seq (SW.seq ?_)
          (refine SW.regL [0, 1, 4, 5, 6, 7, 8, 9, 10, 11, 12, 14, 15, 16, 17, 24, 35, 77, 85, 124, 129, 176] mixed ?_; (repeat (first | refine RW.ro (j1) (h := ?_) | refine RW.skip (h := ?_) | refine RW.op (j1) (h := ?_) | refine RW.opN (j1) (h := ?_) | refine RW.skip0 (h := ?_))); refine RW.nil ⟨by kernel_rfl, Pruned.mk (h := ?_)⟩)
          refine SW.condT rfl (SW.skip ?_)
          refine SW.seq (SW.block ?_)
          cases hg : MM.get a o.dot with
          | none =>
            have hrg := rgetNo hl4 hr ht hg
            rw [hcap.no _ hg] at hsp
            generalize (getR l 10 o.dot).1 = c at hrg
            refine SW.seq ?_
            (have fx := (And.intro (op_load ho) (op_roomd ho)); refine SW.regL [0, 1, 4, 5, 6, 7, 8, 9, 10, 11, 12, 14, 15, 16, 17, 24, 35, 77, 85, 124, 129, 176] mixed ?_; (repeat (first | refine RW.ro fx (h := ?_) | refine RW.skip (h := ?_) | refine RW.op fx (h := ?_) | refine RW.opN fx (h := ?_) | refine RW.skip0 (h := ?_) | (refine RW.callC (h := ?_); (first | refine CallP.mk fx (hc := hrg _) (h := ?_))))); refine RW.nil ⟨by kernel_rfl, Pruned.mk (h := ?_)⟩)
            refine SW.seq ?_
            (have fx := (And.intro (op_load ho) (op_roomd ho)); refine SW.regL [0, 1, 4, 5, 6, 7, 8, 9, 10, 11, 12, 14, 15, 16, 17, 24, 35, 77, 85, 124, 129, 176] mixed ?_; (repeat (first | refine RW.ro fx (h := ?_) | refine RW.skip (h := ?_) | refine RW.op fx (h := ?_) | refine RW.opN fx (h := ?_) | refine RW.skip0 (h := ?_) | (refine RW.callC (h := ?_); (first | refine CallP.mk fx (hc := hsp _) (h := ?_))))); refine RW.nil ⟨by kernel_rfl, Pruned.mk (h := ?_)⟩)
            refine SW.seq ?_
            (refine SW.regL [0, 1, 4, 5, 6, 7, 8, 9, 10, 11, 12, 14, 15, 16, 17, 24, 35, 77, 85, 124, 129, 176] mixed ?_; (repeat (first | refine RW.ro bq_tt (h := ?_) | refine RW.skip (h := ?_) | refine RW.op bq_tt (h := ?_) | refine RW.opN bq_tt (h := ?_) | refine RW.skip0 (h := ?_))); refine RW.nil ⟨by kernel_rfl, Pruned.mk (h := ?_)⟩)
            refine SW.condF rfl (SW.skip ?_)
            (refine SW.regL [0, 1, 4, 5, 6, 7, 8, 9, 10, 11, 12, 14, 15, 16, 17, 24, 35, 77, 85, 124, 129, 176] mixed ?_; (repeat (first | refine RW.ro (j3) (h := ?_) | refine RW.skip (h := ?_) | refine RW.op (j3) (h := ?_) | refine RW.opN (j3) (h := ?_) | refine RW.skip0 (h := ?_))); refine RW.nil ⟨by kernel_rfl, Pruned.mk (h := ?_)⟩)
            dsimp only
            exact ⟨⟨j + 1, by omega⟩, id, by show l.length - (j + 1) < _; omega, Weak.mk (And.intro no nr)⟩
          | some c =>
            have hrg := rgetYes hl4 hr ht hg
            have j4 : decide (((spentOf N o.dot : Nat) : Int) > (c.cap : Int)) = false := by have := hcap.cap _ c hg; simp; omega
            refine SW.seq ?_
            (have fx := (And.intro (op_load ho) (op_roomd ho)); refine SW.regL [0, 1, 4, 5, 6, 7, 8, 9, 10, 11, 12, 14, 15, 16, 17, 24, 35, 77, 85, 124, 129, 176] mixed ?_; (repeat (first | refine RW.ro fx (h := ?_) | refine RW.skip (h := ?_) | refine RW.op fx (h := ?_) | refine RW.opN fx (h := ?_) | refine RW.skip0 (h := ?_) | (refine RW.callC (h := ?_); (first | refine CallP.mk fx (hc := hrg _) (h := ?_))))); refine RW.nil ⟨by kernel_rfl, Pruned.mk (h := ?_)⟩)
            refine SW.seq ?_
            (have fx := (And.intro (op_load ho) (op_roomd ho)); refine SW.regL [0, 1, 4, 5, 6, 7, 8, 9, 10, 11, 12, 14, 15, 16, 17, 24, 35, 77, 85, 124, 129, 176] mixed ?_; (repeat (first | refine RW.ro fx (h := ?_) | refine RW.skip (h := ?_) | refine RW.op fx (h := ?_) | refine RW.opN fx (h := ?_) | refine RW.skip0 (h := ?_) | (refine RW.callC (h := ?_); (first | refine CallP.mk fx (hc := hsp _) (h := ?_))))); refine RW.nil ⟨by kernel_rfl, Pruned.mk (h := ?_)⟩)
            by_cases hlv : 0 < c.level
            · have j5 : decide (c.level > 0) = true := by simp; omega
              have hsq := spentN z N hz (by omega) c.par
              have j6 : decide (((spentOf N c.par : Nat) : Int) < ((spentOf N o.dot : Nat) : Int)) = false := by have := hcap.up _ c hg hlv; simp; omega
              refine SW.seq ?_
              (have fx := (And.intro (j4) (And.intro (j5) (j6))); refine SW.regL [0, 1, 4, 5, 6, 7, 8, 9, 10, 11, 12, 14, 15, 16, 17, 24, 35, 77, 85, 124, 129, 176] mixed ?_; (repeat (first | refine RW.ro fx (h := ?_) | refine RW.skip (h := ?_) | refine RW.op fx (h := ?_) | refine RW.opN fx (h := ?_) | refine RW.skip0 (h := ?_) | (refine RW.callC (h := ?_); (first | refine CallP.mk fx (hc := hsq _) (h := ?_))))); refine RW.nil ⟨by kernel_rfl, Pruned.mk (h := ?_)⟩)
              refine SW.condF rfl (SW.skip ?_)
              (refine SW.regL [0, 1, 4, 5, 6, 7, 8, 9, 10, 11, 12, 14, 15, 16, 17, 24, 35, 77, 85, 124, 129, 176] mixed ?_; (repeat (first | refine RW.ro (j3) (h := ?_) | refine RW.skip (h := ?_) | refine RW.op (j3) (h := ?_) | refine RW.opN (j3) (h := ?_) | refine RW.skip0 (h := ?_))); refine RW.nil ⟨by kernel_rfl, Pruned.mk (h := ?_)⟩)
              dsimp only
              exact ⟨⟨j + 1, by omega⟩, id, by show l.length - (j + 1) < _; omega, Weak.mk (And.intro no nr)⟩
            · have j5 : decide (c.level > 0) = false := by simp; omega
              refine SW.seq ?_
              (refine SW.regL [0, 1, 4, 5, 6, 7, 8, 9, 10, 11, 12, 14, 15, 16, 17, 24, 35, 77, 85, 124, 129, 176] mixed ?_; (repeat (first | refine RW.ro (And.intro (j4) (j5)) (h := ?_) | refine RW.skip (h := ?_) | refine RW.op (And.intro (j4) (j5)) (h := ?_) | refine RW.opN (And.intro (j4) (j5)) (h := ?_) | refine RW.skip0 (h := ?_))); refine RW.nil ⟨by kernel_rfl, Pruned.mk (h := ?_)⟩)
              refine SW.condF rfl (SW.skip ?_)
              (refine SW.regL [0, 1, 4, 5, 6, 7, 8, 9, 10, 11, 12, 14, 15, 16, 17, 24, 35, 77, 85, 124, 129, 176] mixed ?_; (repeat (first | refine RW.ro (j3) (h := ?_) | refine RW.skip (h := ?_) | refine RW.op (j3) (h := ?_) | refine RW.opN (j3) (h := ?_) | refine RW.skip0 (h := ?_))); refine RW.nil ⟨by kernel_rfl, Pruned.mk (h := ?_)⟩)
              dsimp only
              exact ⟨⟨j + 1, by omega⟩, id, by show l.length - (j + 1) < _; omega, Weak.mk (And.intro no nr)⟩
        · have j1 : decide ((j : Int) < l.length) = false := by simp; omega
          have j2 : j = l.length := by omega
          subst j2
          refine SW.seq (SW.seq ?_)
          (refine SW.regL [0, 1, 4, 5, 6, 7, 8, 9, 10, 11, 12, 14, 15, 16, 17, 24, 35, 77, 85, 124, 129, 176] mixed ?_; (repeat (first | refine RW.ro (j1) (h := ?_) | refine RW.skip (h := ?_) | refine RW.op (j1) (h := ?_) | refine RW.opN (j1) (h := ?_) | refine RW.skip0 (h := ?_))); refine RW.nil ⟨by kernel_rfl, Pruned.mk (h := ?_)⟩)
          refine SW.condF rfl (SW.exit ?_)
          refine SW.seq ?_
          (refine SW.regL [0, 1, 4, 5, 6, 7, 8, 9, 10, 11, 12, 14, 15, 16, 17, 24, 35, 77, 85, 124, 129, 176] mixed ?_; (repeat (first | refine RW.ro bq_tt (h := ?_) | refine RW.skip (h := ?_) | refine RW.op bq_tt (h := ?_) | refine RW.opN bq_tt (h := ?_) | refine RW.skip0 (h := ?_) | (refine RW.callC (h := ?_); (first | refine CallP.mk bq_tt (hc := head22_at _) (h := ?_))))); refine RW.nil ⟨by kernel_rfl, Pruned.mk (h := ?_)⟩)
          refine SW.ret ?_
          exact End.mk [] (h4 := rfl)
    · have g1 : decide ((l.length : Int) > 50) = true := by simp; omega
      (repeat (first | refine SW.seq ?_ | refine SW.block ?_ | (refine SW.regL [0, 1, 4, 5, 6, 7, 8, 9, 10, 11, 12, 14, 15, 16, 17, 24, 35, 77, 85, 124, 129, 176] mixed ?_; (repeat (first | refine RW.ro (g1) (h := ?_) | refine RW.skip (h := ?_) | refine RW.op (g1) (h := ?_) | refine RW.opN (g1) (h := ?_) | refine RW.skip0 (h := ?_) | (refine RW.callC (h := ?_); (first | refine CallP.mk (g1) (hc := hG' _) (h := ?_) | refine CallP.mk (g1) (hc := head22_at _) (h := ?_))))); refine RW.nil ⟨by kernel_rfl, Pruned.mk (h := ?_)⟩) | refine SW.skip ?_ | refine SW.exit ?_ | refine SW.ret ?_ | refine SW.condT rfl ?_ | refine SW.condF rfl ?_))
      exact End.mk [] (h4 := rfl)
  · rw [hG] at hG'
    (repeat (first | refine SW.seq ?_ | refine SW.block ?_ | (refine SW.regL [0, 1, 4, 5, 6, 7, 8, 9, 10, 11, 12, 14, 15, 16, 17, 24, 35, 77, 85, 124, 129, 176] mixed ?_; (repeat (first | refine RW.ro bq_tt (h := ?_) | refine RW.skip (h := ?_) | refine RW.op bq_tt (h := ?_) | refine RW.opN bq_tt (h := ?_) | refine RW.skip0 (h := ?_) | (refine RW.callC (h := ?_); (first | refine CallP.mk bq_tt (hc := hG' _) (h := ?_) | refine CallP.mk bq_tt (hc := head22_at _) (h := ?_))))); refine RW.nil ⟨by kernel_rfl, Pruned.mk (h := ?_)⟩) | refine SW.skip ?_ | refine SW.exit ?_ | refine SW.ret ?_ | refine SW.condT rfl ?_ | refine SW.condF rfl ?_))
    exact End.mk [] (h4 := rfl)
end
end Go.Proofs.Ytmmonbnlleeloaa
