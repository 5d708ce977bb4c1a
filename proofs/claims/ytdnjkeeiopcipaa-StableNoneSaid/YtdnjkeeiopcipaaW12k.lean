/-
  Trackers: Waits; Hear at the names that stand.
-/
import Derived.Test.YtdnjkeeiopcipaaW12j
set_option linter.unusedSectionVars false
set_option linter.unusedVariables false
set_option linter.unusedSimpArgs false
namespace Go.Proofs.Ytdnjkeeiopcipaa
open Go.Sl Go.Proofs

def Tk.mps (T : Tk) : List SV := (T.cells.drop 74).take 8
theorem Tk.mps_get (T : Tk) {r : Nat} (h : r < 8) : T.mps[r]? = some (.mp (T.nm r)) := by
  match r, h with
  | 0, _ | 1, _ | 2, _ | 3, _ | 4, _ | 5, _ | 6, _ | 7, _ => rfl
theorem Tk.mps_ok (T : Tk) {q : Nat → Bool} (h : ∀ r, r < 8 → q (T.nm r) = true) : SV.oks q T.mps = true := by
  show SV.oks q [.mp (T.nm 0), .mp (T.nm 1), .mp (T.nm 2), .mp (T.nm 3), .mp (T.nm 4), .mp (T.nm 5), .mp (T.nm 6), .mp (T.nm 7)] = true
  simp only [SV.oks, SV.ok, h 0 (by omega), h 1 (by omega), h 2 (by omega), h 3 (by omega), h 4 (by omega), h 5 (by omega), h 6 (by omega), h 7 (by omega), Bool.and_self]
/-- How many wait, of the first replicas. -/
def Tk.wsum (T : Tk) : Nat → Nat
  | 0 => 0
  | r + 1 => T.wsum r + wlen (T.wt r)
theorem Tk.hear_nm (T : Tk) (r k : Nat) (v : Vec) : (T.hearV r v k).1.bx = T.bx ∧ ∀ i, (T.hearV r v k).1.nm i = T.nm i ∨ (T.hearV r v k).1.nm i = k := by
  unfold Tk.hearV
  split
  · exact ⟨rfl, fun i => .inl rfl⟩
  split
  · exact ⟨rfl, fun i => .inl rfl⟩
  split
  · split <;> exact ⟨rfl, fun i => .inl rfl⟩
  · obtain ⟨z1, z2⟩ := ((T.opn r k).addw r v).settle_bx
    obtain ⟨b1, b2, _⟩ := (T.opn r k).addw_bx r v
    refine ⟨z1.trans (b1.trans (T.opn_bx r k).1), fun i => ?_⟩
    show ((T.opn r k).addw r v).settle.nm i = T.nm i ∨ _ = k
    rw [z2, b2]
    exact (T.opn_nm r k i).imp id fun h => h.2

section
attribute [local irreducible] SW RW SCd SC CallP Pruned Tk.cells Tk.hp Tk.up Tk.setC Tk.setH Tk.settle Tk.maps Tk.mps
variable {T : Tk} (hs : T.sep) {k : Nat}
include hs in
theorem hear_at (hlt : T.lt k) (hn0 : T.n ≠ 0) (hn : T.n ≤ 8) (ho : T.own < 8) (hww : T.ww) (r : Nat) (hr : r < 256) (v : Vec) :
    SCd Try.prog stable_Tracker_Hear.f [.ptr T.bx 0, u8 r, .agg v.cells] T.hp k 6 (i64 (T.hearV r v (k + 2)).2) (T.hearV r v (k + 2)).1.hp := by
  unfold SCd
  have a2 : (lk T.hp T.bx).isSome = true := by rw [show lk T.hp T.bx = _ from Tk.lkb]; rfl
  have a3 : ∀ r, r < 8 → (lk T.hp (T.nm r)).isSome = true := fun r hr => by rw [show lk T.hp (T.nm r) = _ from Tk.lkm hs hr]; rfl
  refine (hear_sb hs hlt hn0 hn ho hww r hr v).here (fun n => (lk T.hp n).isSome) (fun n h e => by rw [e] at h; cases h) (by simp [SV.oks, SV.ok, a2]) (Tk.ok a2 a3) ?_
  rintro x F ⟨rfl, rfl⟩ _ _
  obtain ⟨h1, h2⟩ := T.hear_nm r (k + 2) v
  refine ⟨rfl, Tk.ok (by rw [h1]; simp only [a2, Bool.true_or]) fun i hi => ?_⟩
  rcases h2 i with h | h <;> rw [h]
  · simp only [a3 i hi, Bool.true_or]
  · simp

include hs in
set_option maxHeartbeats 1000000 in
theorem waits_at (hlt : T.lt k) (hn0 : T.n ≠ 0) (hw : ∀ i, i ≤ 8 → T.wsum i < 9223372036854775808) : SCd Try.prog stable_Tracker_Waits.f [.ptr T.bx 0] T.hp k 0 (i64 (T.wsum 8)) T.hp := by
  refine Tk.here hs rfl rfl (fun _ => rfl) (fun q h => by simp [SV.oks, SV.ok, h]) ?_
  have hbx := hlt.bx
  refine stable_Tracker_Waits.enter (by simp [SV.ok, SV.oks]; omega) (Tk.okk hlt) (by simp) ?_
  unfold stable_Tracker_Waits.s
  have uB : List.lookup T.bx T.hp = some (.box 93 T.cells) := Tk.lkb
  have uK : List.lookup k T.hp = none := Tk.lkk hlt (Nat.le_refl _)
  have uN : T.cells[0]? = some (.d (.int .i64 T.n)) := Tk.ldn T
  have uP : List.take 8 (List.drop 74 T.cells) = T.mps := by unfold Tk.mps; rfl
  have uL : (74 + 8 ≤ T.cells.length) = True := eq_true (by rw [Tk.cells_len]; omega)
  have m0 : hsets (hdels T.hp T.hp T.hp) T.hp = T.hp := Tk.mrg0 hs rfl rfl
  have hm := T.mps_ok (q := fun n => decide (n < k)) fun r hr => by simpa using hlt.nm r hr
  refine SW.seq ?_
  (refine SW.regL [0, 2, 3, 5, 7, 11, 12, 13] mixed ?_; (repeat (first | refine RW.ro bq_tt (h := ?_) | refine RW.skip (h := ?_) | refine RW.op bq_tt (h := ?_) | refine RW.opN bq_tt (h := ?_) | refine RW.skip0 (h := ?_) | (refine RW.callC (h := ?_); (first | refine CallP.mk bq_tt (hs := (fun _ _ h => h)) (hc := none_at hs hlt hn0) (h := ?_))))); refine RW.nil ⟨conf_of (by kernel_rfl), Pruned.mk (h := ?_)⟩)
  refine SW.seq (SW.seq ?_)
  (refine SW.regL [0, 2, 3, 5, 7, 11, 12, 13] mixed ?_; (repeat (first | refine RW.ro (m0) (h := ?_) | refine RW.skip (h := ?_) | refine RW.op (m0) (h := ?_) | refine RW.opN (m0) (h := ?_) | refine RW.skip0 (h := ?_) | (refine RW.callC (h := ?_); (first | refine CallP.mk (m0) (hs := (fun _ _ h => h)) (hc := none_at hs hlt hn0) (h := ?_))))); refine RW.nil ⟨conf_of (by kernel_rfl), Pruned.mk (h := ?_)⟩)
  refine SW.condF rfl (SW.skip ?_)
  refine SW.seq ?_
  (refine SW.regL [0, 2, 3, 5, 7, 11, 12, 13] mixed ?_; (repeat (first | refine RW.ro bq_tt (h := ?_) | refine RW.skip (h := ?_) | refine RW.op bq_tt (h := ?_) | refine RW.opN bq_tt (h := ?_) | refine RW.skip0 (h := ?_) | (refine RW.callC (h := ?_); (first | refine CallP.mk bq_tt (hs := (fun _ _ h => h)) (hc := none_at hs hlt hn0) (h := ?_))))); refine RW.nil ⟨conf_of (by kernel_rfl), Pruned.mk (h := ?_)⟩)
  refine SW.seq (SW.seq ?_)
  (refine SW.regL [0, 2, 3, 5, 7, 11, 12, 13] mixed ?_; (repeat (first | refine RW.ro (And.intro (uB) (And.intro (uP) (uL))) (h := ?_) | refine RW.skip (h := ?_) | refine RW.op (And.intro (uB) (And.intro (uP) (uL))) (h := ?_) | refine RW.opN (And.intro (uB) (And.intro (uP) (uL))) (h := ?_) | refine RW.skip0 (h := ?_) | (refine RW.callC (h := ?_); (first | refine CallP.mk (And.intro (uB) (And.intro (uP) (uL))) (hs := (fun _ _ h => h)) (hc := none_at hs hlt hn0) (h := ?_))))); refine RW.nil ⟨conf_of (by kernel_rfl), Pruned.mk (h := ?_)⟩)
  refine SW.block (SW.loop (α := {i : Nat // i ≤ 8}) (fun i => ⟨[(12, i64 i.1), (3, i64 (T.wsum i.1)), (11, .agg T.mps)], T.hp, k⟩) (fun i => 8 - i.1) ⟨0, by omega⟩ id ?_ ?_)
  · exact Weak.same (by simp) (by simp [EnvW, List.lookup, SV.ren, SV.rens_id, SV.ok, hm, Tk.wsum]) (Tk.okk hlt) (lk_of_nodup (Tk.nodup hs))
  rintro ⟨i, hi⟩
  dsimp only
  by_cases h : i < 8
  · have h1 : decide ((i : Int) < 8) = true := by simp only [decide_eq_true_eq]; omega
    have hg := T.mps_get h
    have hsm := hw (i + 1) (by omega)
    simp only [Tk.wsum] at hsm
    have uM : List.lookup (T.nm i) T.hp = some (wob (T.wt i)) := Tk.lkm hs h
    refine SW.seq ?_
    (refine SW.regL [0, 2, 3, 5, 7, 11, 12, 13] mixed ?_; (repeat (first | refine RW.ro (h1) (h := ?_) | refine RW.skip (h := ?_) | refine RW.op (h1) (h := ?_) | refine RW.opN (h1) (h := ?_) | refine RW.skip0 (h := ?_) | (refine RW.callC (h := ?_); (first | refine CallP.mk (h1) (hs := (fun _ _ h => h)) (hc := none_at hs hlt hn0) (h := ?_))))); refine RW.nil ⟨conf_of (by kernel_rfl), Pruned.mk (h := ?_)⟩)
    refine SW.seq (SW.condT rfl (SW.skip ?_))
    refine SW.seq (SW.block (SW.seq ?_))
    (refine SW.regL [0, 2, 3, 5, 7, 11, 12, 13] mixed ?_; (repeat (first | refine RW.ro (hg) (h := ?_) | refine RW.skip (h := ?_) | refine RW.op (hg) (h := ?_) | refine RW.opN (hg) (h := ?_) | refine RW.skip0 (h := ?_) | (refine RW.callC (h := ?_); (first | refine CallP.mk (hg) (hs := (fun _ _ h => h)) (hc := none_at hs hlt hn0) (h := ?_))))); refine RW.nil ⟨conf_of (by kernel_rfl), Pruned.mk (h := ?_)⟩)
    rcases hx : T.wt i with _ | ⟨L, c⟩
    · rw [hx] at uM hsm
      have uM : List.lookup (T.nm i) T.hp = some .nomap := uM
      (refine SW.regL [0, 2, 3, 5, 7, 11, 12, 13] mixed ?_; (repeat (first | refine RW.ro (uM) (h := ?_) | refine RW.skip (h := ?_) | refine RW.op (uM) (h := ?_) | refine RW.opN (uM) (h := ?_) | refine RW.skip0 (h := ?_) | (refine RW.callC (h := ?_); (first | refine CallP.mk (uM) (hs := (fun _ _ h => h)) (hc := none_at hs hlt hn0) (h := ?_))))); refine RW.nil ⟨conf_of (by kernel_rfl), Pruned.mk (h := ?_)⟩)
      (refine SW.regL [0, 2, 3, 5, 7, 11, 12, 13] mixed ?_; (repeat (first | refine RW.ro bq_tt (h := ?_) | refine RW.skip (h := ?_) | refine RW.op bq_tt (h := ?_) | refine RW.opN bq_tt (h := ?_) | refine RW.skip0 (h := ?_) | (refine RW.callC (h := ?_); (first | refine CallP.mk bq_tt (hs := (fun _ _ h => h)) (hc := none_at hs hlt hn0) (h := ?_))))); refine RW.nil ⟨conf_of (by kernel_rfl), Pruned.mk (h := ?_)⟩)
      exact ⟨⟨i + 1, by omega⟩, id, by simp; omega, Weak.same (by simp) (by simp [EnvW, List.lookup, SV.ren, SV.rens_id, SV.ok, hm, Tk.wsum, hx, wlen]) (Tk.okk hlt) (lk_of_nodup (Tk.nodup hs))⟩
    · rw [hx] at uM hsm
      have hsm : T.wsum i + L.length < 9223372036854775808 := hsm
      have e1 : IntKind.i64.wrap ((T.wsum i : Int) + (L.length : Int)) = (T.wsum i : Int) + (L.length : Int) := wrap_i64 _ (by omega)
      have uM : List.lookup (T.nm i) T.hp = some (.map (mapE Vec.cells iv L) c) := uM
      (refine SW.regL [0, 2, 3, 5, 7, 11, 12, 13] mixed ?_; (repeat (first | refine RW.ro (And.intro (uM) (e1)) (h := ?_) | refine RW.skip (h := ?_) | refine RW.op (And.intro (uM) (e1)) (h := ?_) | refine RW.opN (And.intro (uM) (e1)) (h := ?_) | refine RW.skip0 (h := ?_) | (refine RW.callC (h := ?_); (first | refine CallP.mk (And.intro (uM) (e1)) (hs := (fun _ _ h => h)) (hc := none_at hs hlt hn0) (h := ?_))))); refine RW.nil ⟨conf_of (by kernel_rfl), Pruned.mk (h := ?_)⟩)
      (refine SW.regL [0, 2, 3, 5, 7, 11, 12, 13] mixed ?_; (repeat (first | refine RW.ro (e1) (h := ?_) | refine RW.skip (h := ?_) | refine RW.op (e1) (h := ?_) | refine RW.opN (e1) (h := ?_) | refine RW.skip0 (h := ?_) | (refine RW.callC (h := ?_); (first | refine CallP.mk (e1) (hs := (fun _ _ h => h)) (hc := none_at hs hlt hn0) (h := ?_))))); refine RW.nil ⟨conf_of (by kernel_rfl), Pruned.mk (h := ?_)⟩)
      exact ⟨⟨i + 1, by omega⟩, id, by simp; omega, Weak.same (by simp) (by simp [EnvW, List.lookup, SV.ren, SV.rens_id, SV.ok, hm, Tk.wsum, hx, wlen, e1]) (Tk.okk hlt) (lk_of_nodup (Tk.nodup hs))⟩
  · have h1 : decide ((i : Int) < 8) = false := by simp only [decide_eq_false_iff_not]; omega
    have e : i = 8 := by omega
    subst e
    refine SW.seq ?_
    (refine SW.regL [0, 2, 3, 5, 7, 11, 12, 13] mixed ?_; (repeat (first | refine RW.ro (h1) (h := ?_) | refine RW.skip (h := ?_) | refine RW.op (h1) (h := ?_) | refine RW.opN (h1) (h := ?_) | refine RW.skip0 (h := ?_) | (refine RW.callC (h := ?_); (first | refine CallP.mk (h1) (hs := (fun _ _ h => h)) (hc := none_at hs hlt hn0) (h := ?_))))); refine RW.nil ⟨conf_of (by kernel_rfl), Pruned.mk (h := ?_)⟩)
    refine SW.seq (SW.condF rfl (SW.exit ?_))
    refine (?_ : Sl.SW _ _ _ _ _ _)
    refine SW.seq ?_
    (refine SW.regL [0, 2, 3, 5, 7, 11, 12, 13] mixed ?_; (repeat (first | refine RW.ro bq_tt (h := ?_) | refine RW.skip (h := ?_) | refine RW.op bq_tt (h := ?_) | refine RW.opN bq_tt (h := ?_) | refine RW.skip0 (h := ?_) | (refine RW.callC (h := ?_); (first | refine CallP.mk bq_tt (hs := (fun _ _ h => h)) (hc := none_at hs hlt hn0) (h := ?_))))); refine RW.nil ⟨conf_of (by kernel_rfl), Pruned.mk (h := ?_)⟩)
    refine SW.ret ?_
    exact End.mk T.hp (h3 := fun _ _ h => h) (h4 := ⟨rfl, rfl⟩) (h6 := Tk.okk hlt)
end
end Go.Proofs.Ytdnjkeeiopcipaa
