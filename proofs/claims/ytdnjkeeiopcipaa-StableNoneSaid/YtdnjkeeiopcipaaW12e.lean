/-
  Trackers: settled.
-/
import Derived.Test.YtdnjkeeiopcipaaW12d
set_option linter.unusedSectionVars false
set_option linter.unusedVariables false
set_option linter.unusedSimpArgs false
namespace Go.Proofs.Ytdnjkeeiopcipaa
open Go.Sl Go.Proofs

/-- The first replicas' acks settled; all. -/
def Tk.settTo (T : Tk) : Nat → Tk
  | 0 => T
  | r + 1 => (T.settTo r).sett r
def Tk.settle (T : Tk) : Tk := (T.settTo T.n).setC T.own T.has
theorem Tk.settTo_bx (T : Tk) : ∀ r, (T.settTo r).bx = T.bx ∧ (T.settTo r).nm = T.nm ∧ (T.settTo r).n = T.n ∧ (T.settTo r).own = T.own ∧ (T.settTo r).has = T.has
  | 0 => ⟨rfl, rfl, rfl, rfl, rfl⟩
  | r + 1 => by
    obtain ⟨h1, h2, h3, h4, h5⟩ := Tk.settTo_bx T r
    obtain ⟨g1, g2, g3, g4, g5⟩ := Tk.sett_bx (T.settTo r) r
    exact ⟨g1.trans h1, g2.trans h2, g3.trans h3, g4.trans h4, g5.trans h5⟩
theorem Tk.sett_ww {T : Tk} (h : T.ww) (r : Nat) : (T.sett r).ww := by
  unfold Tk.sett
  split
  · exact h
  · rename_i L cl hw
    intro i hi L2 cl2 hw2
    simp only [Tk.up] at hw2
    split at hw2
    · rename_i e
      injection hw2 with e1; injection e1 with e1 e2
      rw [← e1, ← e2]
      exact MM.wf_filter (h r (e ▸ hi) L cl hw) _
    · exact h i hi L2 cl2 hw2
theorem Tk.settTo_ww {T : Tk} (h : T.ww) : ∀ r, (T.settTo r).ww
  | 0 => h
  | r + 1 => Tk.sett_ww (Tk.settTo_ww h r) r

section
attribute [local irreducible] SW RW SCd SC CallP Pruned Tk.cells Tk.hp Tk.up
variable {T : Tk} (hs : T.sep) {k : Nat}

include hs in
set_option maxHeartbeats 1000000 in
theorem settle_sb (hn : T.n ≤ 8) (ho : T.own < 8) (hww : T.ww) (hlt : T.lt k) :
    SB Try.prog stable_Tracker_settle.f [.ptr T.bx 0] T.hp k 3 (fun x F => x = .tup [] ∧ F = T.settle.hp) := by
  have hbx := hlt.bx
  have hok0 : ∀ (T' : Tk) kx, T'.bx = T.bx → T'.nm = T.nm → k ≤ kx → Hp.ok (fun n => decide (n < kx)) T'.hp = true := fun T' kx e1 e2 h => Hp.ok_less h (Tk.okk (Tk.lt_of hlt e1 e2))
  have hok1 : ∀ (T' : Tk) kx, T'.bx = T.bx → T'.nm = T.nm → k + 1 ≤ kx → Hp.ok (fun n => decide (n < kx)) ((k, .box 26 [.ptr T.bx 0]) :: T'.hp) = true := fun T' kx e1 e2 h => by
    have := hok0 T' kx e1 e2 (by omega)
    simp only [Hp.ok, List.all_cons, Ob.ok, SV.oks, SV.ok, Bool.and_true, Bool.and_eq_true, decide_eq_true_eq] at this ⊢
    exact ⟨⟨by omega, by omega⟩, this⟩
  have hn1 : ∀ (T' : Tk) o, T'.bx = T.bx → T'.nm = T.nm → (((k, o) :: T'.hp : Hp).map (·.1)).Nodup := fun T' o e1 e2 => by
    rw [List.map_cons, List.nodup_cons]
    exact ⟨fun hm => Tk.out (Tk.lt_of hlt e1 e2) (Nat.le_refl _) hm, Tk.nodup (Tk.sep_of hs e1 e2)⟩
  refine stable_Tracker_settle.enter (by simp [SV.ok, SV.oks]; omega) (Tk.okk hlt) (by simp) ?_
  unfold stable_Tracker_settle.s
  have f1 := ne4 (show k ≠ T.bx by omega)
  have uK : List.lookup k T.hp = none := Tk.lkk hlt (Nat.le_refl _)
  have uB : List.lookup T.bx T.hp = some (.box 93 T.cells) := Tk.lkb
  have uN : T.cells[0]? = some (.d (.int .i64 T.n)) := Tk.ldn T
  refine SW.seq ?_
  (refine SW.regL [0, 1, 2, 3, 8, 9, 10, 14] mixed ?_; (repeat (first | refine RW.ro (And.intro (uK) (f1)) (h := ?_) | refine RW.skip (h := ?_) | refine RW.op (And.intro (uK) (f1)) (h := ?_) | refine RW.opN (And.intro (uK) (f1)) (h := ?_) | refine RW.skip0 (h := ?_))); refine RW.nil ⟨conf_of (by kernel_rfl), Pruned.mk (h := ?_)⟩)
  refine SW.seq ?_
  (refine SW.regL [0, 1, 2, 3, 8, 9, 10, 14] mixed ?_; (repeat (first | refine RW.ro (And.intro (uK) (f1)) (h := ?_) | refine RW.skip (h := ?_) | refine RW.op (And.intro (uK) (f1)) (h := ?_) | refine RW.opN (And.intro (uK) (f1)) (h := ?_) | refine RW.skip0 (h := ?_))); refine RW.nil ⟨conf_of (by kernel_rfl), Pruned.mk (h := ?_)⟩)
  refine SW.seq (SW.seq ?_)
  (refine SW.regL [0, 1, 2, 3, 8, 9, 10, 14] mixed ?_; (repeat (first | refine RW.ro (And.intro (uB) (And.intro (uN) (f1))) (h := ?_) | refine RW.skip (h := ?_) | refine RW.op (And.intro (uB) (And.intro (uN) (f1))) (h := ?_) | refine RW.opN (And.intro (uB) (And.intro (uN) (f1))) (h := ?_) | refine RW.skip0 (h := ?_))); refine RW.nil ⟨conf_of (by kernel_rfl), Pruned.mk (h := ?_)⟩)
  refine SW.block (SW.loop (α := {i : Nat // i ≤ T.n}) (fun i => ⟨[(9, i64 i.1), (8, i64 T.n), (1, .ptr k 0), (2, .fn (.func 73) [] [.ptr k 0])], (k, .box 26 [.ptr T.bx 0]) :: (T.settTo i.1).hp, k + 1⟩) (fun i => T.n - i.1) ⟨0, by omega⟩ id ?_ ?_)
  · exact Weak.same (by simp) (by simp [EnvW, List.lookup, SV.ren, SV.rens, SV.ok, SV.oks]) (hok1 T _ rfl rfl (Nat.le_refl _)) (lk_of_nodup (hn1 T _ rfl rfl))
  rintro ⟨i, hi⟩
  dsimp only
  obtain ⟨b1, b2, b3, b4, b5⟩ := T.settTo_bx i
  by_cases h : i < T.n
  · have h1 : decide ((i : Int) < T.n) = true := by simp only [decide_eq_true_eq]; omega
    refine SW.seq ?_
    (refine SW.regL [0, 1, 2, 3, 8, 9, 10, 14] mixed ?_; (repeat (first | refine RW.ro (h1) (h := ?_) | refine RW.skip (h := ?_) | refine RW.op (h1) (h := ?_) | refine RW.opN (h1) (h := ?_) | refine RW.skip0 (h := ?_))); refine RW.nil ⟨conf_of (by kernel_rfl), Pruned.mk (h := ?_)⟩)
    refine SW.seq (SW.condT rfl (SW.skip ?_))
    refine SW.seq (SW.block (SW.seq ?_))
    (refine SW.regL [0, 1, 2, 3, 8, 9, 10, 14] mixed ?_; (repeat (first | refine RW.ro bq_tt (h := ?_) | refine RW.skip (h := ?_) | refine RW.op bq_tt (h := ?_) | refine RW.opN bq_tt (h := ?_) | refine RW.skip0 (h := ?_))); refine RW.nil ⟨conf_of (by kernel_rfl), Pruned.mk (h := ?_)⟩)
    refine SW.block (SW.loop (α := {T' : Tk // T'.ww ∧ T'.sett i = (T.settTo i).sett i ∧ T'.bx = T.bx ∧ T'.nm = T.nm}) (fun j => ⟨[(3, i64 i), (9, i64 i), (8, i64 T.n), (1, .ptr k 0), (2, .fn (.func 73) [] [.ptr k 0])], (k, .box 26 [.ptr T.bx 0]) :: j.1.hp, k + 1⟩) (fun j => wlen (j.1.wt i)) ⟨T.settTo i, Tk.settTo_ww hww i, rfl, b1, b2⟩ id ?_ ?_)
    · exact Weak.same (by simp) (by simp [EnvW, List.lookup, SV.ren, SV.rens, SV.ok, SV.oks]) (hok1 _ _ b1 b2 (Nat.le_refl _)) (lk_of_nodup (hn1 _ _ b1 b2))
    rintro ⟨T', j1, j2, j3, j4⟩
    dsimp only
    have hs' := Tk.sep_of hs j3 j4
    have hlt' := Tk.lt_of hlt j3 j4
    refine SW.seq (SW.seq (SW.ofN ?_))
    (repeat (first | refine SWn.op bq_tt (h := ?_) | refine SWn.opN bq_tt (h := ?_) | refine SWn.skip (h := ?_)))
    have hc := pass_at hs' (r := i) (by omega) j1 (k := k + 1) (t1 := k) ⟨by rw [j3]; omega, fun r hr => by have := hlt'.nm r hr; omega⟩ (by omega) (by rw [j3]; omega) (fun r hr => by have := hlt'.nm r hr; omega)
    rw [j3] at hc
    refine SWn.callC hc (fun _ _ h => h) (h := ?_)
    rintro v F' ⟨T2, ch, rfl, rfl, hp⟩
    have c3 := hp.bx.trans j3
    have c4 := hp.nm.trans j4
    rw [c3]
    (repeat (first | refine SWn.op bq_tt (h := ?_) | refine SWn.opN bq_tt (h := ?_) | refine SWn.skip (h := ?_)))
    refine SWn.nil ?_
    have hlk := lk_hmrg (ro := false) (h := (k, Ob.box 26 [.ptr T.bx 0]) :: T'.hp) (F := (k, Ob.box 26 [.ptr T.bx 0]) :: T'.hp) (F' := (k, Ob.box 26 [.ptr T.bx 0]) :: T2.hp) (fun _ _ h => h) (fun h => by cases h)
    have hx : ∀ x, x ∈ ((k, Ob.box 26 [.ptr T.bx 0]) :: T2.hp : Hp) → lk (hmrg false ((k, Ob.box 26 [.ptr T.bx 0]) :: T'.hp) ((k, Ob.box 26 [.ptr T.bx 0]) :: T'.hp) ((k, Ob.box 26 [.ptr T.bx 0]) :: T2.hp)) x.1 = some x.2 := fun x hx => by
      have := lk_of_nodup (hn1 T2 _ c3 c4) x hx
      rw [hlk, mrg_in (.inr (by rw [this]; simp)), this]
    refine SW.weak id (st1 := ⟨[(14, bl ch), (3, i64 i), (9, i64 i), (8, i64 T.n), (1, .ptr k 0), (2, .fn (.func 73) [] [.ptr k 0])], (k, Ob.box 26 [.ptr T.bx 0]) :: T2.hp, k + 3⟩) (Weak.same (by simp) (by simp [EnvW, List.lookup, SV.ren, SV.rens, SV.ok, SV.oks]; try omega) (hok1 _ _ c3 c4 (by simp)) hx) ?_
    cases ch with
    | true =>
      refine SW.condT rfl (SW.skip (SW.block (SW.skip ?_)))
      exact ⟨⟨T2, hp.ww, hp.s.trans j2, c3, c4⟩, id, hp.yes rfl, Weak.same (by simp) (by simp [EnvW, List.lookup, SV.ren, SV.rens, SV.ok, SV.oks]; try omega) (hok1 _ _ c3 c4 (by simp)) (lk_of_nodup (hn1 T2 _ c3 c4))⟩
    | false =>
      refine SW.condF rfl (SW.exit ?_)
      have e2 : T2 = T.settTo (i + 1) := (hp.no rfl).trans j2
      refine (?_ : Sl.SW _ _ _ _ _ _)
      (refine SW.regL [0, 1, 2, 3, 8, 9, 10, 14] mixed ?_; (repeat (first | refine RW.ro bq_tt (h := ?_) | refine RW.skip (h := ?_) | refine RW.op bq_tt (h := ?_) | refine RW.opN bq_tt (h := ?_) | refine RW.skip0 (h := ?_))); refine RW.nil ⟨conf_of (by kernel_rfl), Pruned.mk (h := ?_)⟩)
      refine ⟨⟨i + 1, by omega⟩, id, by simp; omega, ?_⟩
      rw [e2] at c3 c4 ⊢
      exact Weak.same (by simp) (by simp [EnvW, List.lookup, SV.ren, SV.rens, SV.ok, SV.oks]; try omega) (hok1 _ _ c3 c4 (by simp)) (lk_of_nodup (hn1 _ _ c3 c4))
  · have h1 : decide ((i : Int) < T.n) = false := by simp only [decide_eq_false_iff_not]; omega
    have e : i = T.n := by omega
    subst e
    refine SW.seq ?_
    (refine SW.regL [0, 1, 2, 3, 8, 9, 10, 14] mixed ?_; (repeat (first | refine RW.ro (h1) (h := ?_) | refine RW.skip (h := ?_) | refine RW.op (h1) (h := ?_) | refine RW.opN (h1) (h := ?_) | refine RW.skip0 (h := ?_))); refine RW.nil ⟨conf_of (by kernel_rfl), Pruned.mk (h := ?_)⟩)
    refine SW.seq (SW.condF rfl (SW.exit ?_))
    refine (?_ : Sl.SW _ _ _ _ _ _)
    have hs1 := Tk.sep_of hs b1 b2
    have hT : T.settle = (T.settTo T.n).setC T.own T.has := rfl
    rw [hT]
    generalize T.settTo T.n = T1 at *
    have uB1 : List.lookup T.bx T1.hp = some (.box 93 T1.cells) := by rw [← b1]; exact Tk.lkb
    have uO : T1.cells[1]? = some (.d (.int .u8 T.own)) := by rw [← b4]; exact Tk.ldown T1
    have uH : (T1.cells.drop 2).take 8 = T.has.cells := by rw [← b5]; exact Tk.ldhas T1
    have uS : spl T1.cells (10 + T.own * 8) T.has.cells = (T1.setC T.own T.has).cells := Tk.splcnt T1 ho T.has
    have uR : hrep T1.hp T.bx (.box 93 (T1.setC T.own T.has).cells) = (T1.setC T.own T.has).hp := by rw [← b1]; exact Tk.hrepc
    have uL1 : (2 + 8 ≤ T1.cells.length) = True := eq_true (by rw [Tk.cells_len]; omega)
    have uL2 : (10 + T.own * 8 + 8 ≤ T1.cells.length) = True := eq_true (by rw [Tk.cells_len]; omega)
    refine SW.weak id (st1 := ⟨[(1, .ptr k 0)], (k, Ob.box 26 [.ptr T.bx 0]) :: T1.hp, k + 3⟩) (Weak.same (by simp) (by simp [EnvW, List.lookup, SV.ren, SV.rens, SV.ok, SV.oks]) (hok1 _ _ b1 b2 (by simp)) (lk_of_nodup (hn1 _ _ b1 b2))) ?_
    (refine SW.regL [0, 1, 2, 3, 8, 9, 10, 14] mixed ?_; (repeat (first | refine RW.ro (And.intro (uB1) (And.intro (uO) (And.intro (uH) (And.intro (uS) (And.intro (uR) (And.intro (uL1) (And.intro (uL2) (f1)))))))) (h := ?_) | refine RW.skip (h := ?_) | refine RW.op (And.intro (uB1) (And.intro (uO) (And.intro (uH) (And.intro (uS) (And.intro (uR) (And.intro (uL1) (And.intro (uL2) (f1)))))))) (h := ?_) | refine RW.opN (And.intro (uB1) (And.intro (uO) (And.intro (uH) (And.intro (uS) (And.intro (uR) (And.intro (uL1) (And.intro (uL2) (f1)))))))) (h := ?_) | refine RW.skip0 (h := ?_))); refine RW.nil ⟨conf_of (by kernel_rfl), Pruned.mk (h := ?_)⟩)
    refine End.mk ((T1.setC T.own T.has).hp) (h3 := fun n ob hh => ?_) (h4 := ⟨rfl, rfl⟩) (h6 := hok0 (T1.setC T.own T.has) _ b1 b2 (by omega))
    rw [lk_cons, if_neg fun e => ?_]
    · exact hh
    · rw [e] at hh
      rw [show lk (T1.setC T.own T.has).hp k = none from Tk.lkk (T := T1.setC T.own T.has) (Tk.lt_of hlt b1 b2) (Nat.le_refl _)] at hh
      cases hh
include hs in
theorem settle_at (hn : T.n ≤ 8) (ho : T.own < 8) (hww : T.ww) (hlt : T.lt k) : SCd Try.prog stable_Tracker_settle.f [.ptr T.bx 0] T.hp k 3 (.tup []) T.settle.hp := by
  unfold SCd
  obtain ⟨b1, b2, _⟩ := T.settTo_bx T.n
  have e1 : T.settle.bx = T.bx := b1
  have e2 : T.settle.nm = T.nm := b2
  have a2 : (lk T.hp T.bx).isSome = true := by rw [show lk T.hp T.bx = _ from Tk.lkb]; rfl
  have a3 : ∀ r, r < 8 → (lk T.hp (T.nm r)).isSome = true := fun r hr => by rw [show lk T.hp (T.nm r) = _ from Tk.lkm hs hr]; rfl
  refine (settle_sb hs hn ho hww hlt).here (fun n => (lk T.hp n).isSome) (fun n h e => by rw [e] at h; cases h) (by simp only [SV.oks, SV.ok, a2, Bool.and_true]) (Tk.ok a2 a3) ?_
  rintro x F ⟨rfl, rfl⟩ _ _
  refine ⟨rfl, Tk.ok (by rw [e1]; simp only [a2, Bool.true_or]) fun r hr => by rw [e2]; simp only [a3 r hr, Bool.true_or]⟩
end
end Go.Proofs.Ytdnjkeeiopcipaa
