/-
  Trackers: Hear.
-/
import Derived.Test.YtdnjkeeiopcipaaW12h
set_option linter.unusedSectionVars false
set_option linter.unusedVariables false
set_option linter.unusedSimpArgs false
namespace Go.Proofs.Ytdnjkeeiopcipaa
open Go.Sl Go.Proofs

/-- A replica's map, made if there is none. -/
def Tk.opn (T : Tk) (r k : Nat) : Tk := match T.wt r with
  | none => { T with nm := fun i => if i = r then k else T.nm i, wt := fun i => if i = r then some ([], 0) else T.wt i }
  | some _ => T
/-- One ack more waits. -/
def Tk.addw (T : Tk) (r : Nat) (v : Vec) : Tk := match T.wt r with
  | none => T
  | some (L, c) => T.setW r (some (MM.put L c v 1, MM.clk L c v))
/-- What Hear leaves, and tells. -/
def Tk.hearV (T : Tk) (r : Nat) (v : Vec) (k : Nat) : Tk × Nat :=
  if T.n ≤ r then (T, 2) else if T.may v = false then (T, 2) else if r = T.own then (if T.has.above v = false then (T, 9) else (T, 0)) else (((T.opn r k).addw r v).settle, 0)
theorem Tk.addw_bx (T : Tk) (r : Nat) (v : Vec) : (T.addw r v).bx = T.bx ∧ (T.addw r v).nm = T.nm ∧ (T.addw r v).n = T.n ∧ (T.addw r v).own = T.own := by unfold Tk.addw; split <;> exact ⟨rfl, rfl, rfl, rfl⟩
theorem Tk.opn_bx (T : Tk) (r k : Nat) : (T.opn r k).bx = T.bx ∧ (T.opn r k).n = T.n ∧ (T.opn r k).own = T.own ∧ (T.opn r k).has = T.has ∧ (T.opn r k).cnt = T.cnt := by unfold Tk.opn; split <;> exact ⟨rfl, rfl, rfl, rfl, rfl⟩
theorem Tk.opn_nm (T : Tk) (r k i : Nat) : (T.opn r k).nm i = T.nm i ∨ (i = r ∧ (T.opn r k).nm i = k) := by
  unfold Tk.opn
  split
  · by_cases e : i = r
    · exact .inr ⟨e, by simp [e]⟩
    · exact .inl (by simp [e])
  · exact .inl rfl
theorem Tk.opn_sep {T : Tk} (hs : T.sep) {r k : Nat} (hlt : T.lt k) : (T.opn r k).sep := by
  have hb := (T.opn_bx r k).1
  refine ⟨fun i hi => ?_, fun i j hi hj e => ?_⟩
  · rw [hb]
    rcases T.opn_nm r k i with h | ⟨_, h⟩
    · rw [h]; exact hs.bx i hi
    · rw [h]; have := hlt.bx; omega
  · rcases T.opn_nm r k i with h | ⟨h', h⟩ <;> rcases T.opn_nm r k j with g | ⟨g', g⟩ <;> rw [h, g] at e
    · exact hs.inj i j hi hj e
    · have := hlt.nm i hi; omega
    · have := hlt.nm j hj; omega
    · rw [h', g']
theorem Tk.opn_lt {T : Tk} {r k : Nat} (hlt : T.lt k) : (T.opn r k).lt (k + 1) := by
  refine ⟨by rw [(T.opn_bx r k).1]; have := hlt.bx; omega, fun i hi => ?_⟩
  rcases T.opn_nm r k i with h | ⟨_, h⟩
  · rw [h]; have := hlt.nm i hi; omega
  · rw [h]; omega
theorem Tk.opn_ww {T : Tk} (hw : T.ww) (r k : Nat) : (T.opn r k).ww := by
  unfold Tk.opn
  split
  · intro i hi L cl h
    dsimp only at h
    split at h
    · injection h with h; injection h with h1 h2; rw [← h1, ← h2]; exact MM.wf_nil
    · exact hw i hi L cl h
  · exact hw
theorem Tk.opn_some (T : Tk) (r k : Nat) : ∃ L c, (T.opn r k).wt r = some (L, c) := by
  unfold Tk.opn
  split
  · exact ⟨[], 0, by simp⟩
  · rename_i x h
    exact ⟨x.1, x.2, h⟩
theorem Tk.addw_ww {T : Tk} (hw : T.ww) {r : Nat} (hr : r < 8) (v : Vec) : (T.addw r v).ww := by
  unfold Tk.addw
  split
  · exact hw
  · rename_i L c h
    intro i hi L2 c2 h2
    simp only [Tk.setW] at h2
    split at h2
    · injection h2 with h2; injection h2 with h3 h4; rw [← h3, ← h4]; exact MM.wf_put (hw r hr L c h) v 1
    · exact hw i hi L2 c2 h2
theorem Tk.mem_hp {T : Tk} {x : Nat × Ob} (h : x ∈ T.hp) : x = (T.bx, .box 93 T.cells) ∨ ∃ r, r < 8 ∧ x = (T.nm r, wob (T.wt r)) := by
  simp only [Tk.hp, Tk.maps, List.mem_cons, List.mem_map, List.mem_range] at h
  rcases h with h | ⟨r, hr, h⟩
  · exact .inl h
  · exact .inr ⟨r, hr, h.symm⟩

theorem Tk.cons_nodup {T : Tk} (hs : T.sep) {k : Nat} {o : Ob} (h1 : T.bx ≠ k) (h2 : ∀ i, i < 8 → T.nm i ≠ k) : (((k, o) :: T.hp : Hp).map (·.1)).Nodup := by
  rw [List.map_cons, List.nodup_cons]
  refine ⟨fun hm => ?_, Tk.nodup hs⟩
  rcases Tk.names hm with e | ⟨r, hr, e⟩
  · exact h1 e.symm
  · exact h2 r hr e.symm
theorem Tk.cons_sub {T : Tk} {k : Nat} {o : Ob} (h1 : T.bx ≠ k) (h2 : ∀ i, i < 8 → T.nm i ≠ k) : HSub T.hp ((k, o) :: T.hp) := fun n ob h => by
  rw [lk_cons, if_neg fun e => ?_]
  · exact h
  · rw [e, show lk T.hp k = none from Tk.lko (Ne.symm h1) h2] at h; cases h
theorem Tk.spl_opn {T : Tk} {r k : Nat} (hw : T.wt r = none) (h : r < 8) : spl T.cells (74 + r) [.mp k] = (T.opn r k).cells := by
  rw [Tk.splw T h]
  unfold Tk.opn
  rw [hw]
  rfl
theorem Tk.lkmaps {T : Tk} (hs : T.sep) {r : Nat} (h : r < 8) : lk T.maps (T.nm r) = some (wob (T.wt r)) :=
  lookup_fam (f := fun r => wob (T.wt r)) (fun s h1 h2 => hs.inj s r (by simpa using h1) h h2) (by simpa using h)
theorem Tk.opn_lk {T : Tk} (hs : T.sep) {r k : Nat} {o : Ob} (hw : T.wt r = none) (hlt : T.lt k) : ∀ x, x ∈ ((k, o) :: (T.opn r (k + 2)).hp : Hp) → lk ((k + 2, .map [] 0) :: (k, o) :: (T.bx, .box 93 (T.opn r (k + 2)).cells) :: T.maps) x.1 = some x.2 := by
  intro x hx
  rcases List.mem_cons.1 hx with rfl | hx
  · simp [lk_cons]
  rcases Tk.mem_hp hx with rfl | ⟨i, hi, rfl⟩
  · dsimp only
    rw [(T.opn_bx r (k + 2)).1]
    have := hlt.bx
    rw [lk_cons, if_neg (by omega), lk_cons, if_neg (by omega), lk_cons, if_pos rfl]
  · dsimp only
    have e1 : (T.opn r (k + 2)).nm i = if i = r then k + 2 else T.nm i := by unfold Tk.opn; rw [hw]
    have e2 : (T.opn r (k + 2)).wt i = if i = r then some ([], 0) else T.wt i := by unfold Tk.opn; rw [hw]
    rw [e1, e2]
    by_cases e : i = r
    · rw [if_pos e, if_pos e, lk_cons, if_pos rfl]; rfl
    · rw [if_neg e, if_neg e]
      have := hlt.nm i hi
      rw [lk_cons, if_neg (by omega), lk_cons, if_neg (by omega), lk_cons, if_neg (hs.bx i hi), Tk.lkmaps hs hi]

section
attribute [local irreducible] SW RW SCd SC CallP Pruned Tk.cells Tk.hp Tk.up Tk.setC Tk.setH Tk.settle Tk.maps
variable {T : Tk} (hs : T.sep) {k : Nat}
include hs in
set_option maxHeartbeats 2000000 in
theorem hear_sb (hlt : T.lt k) (hn0 : T.n ≠ 0) (hn : T.n ≤ 8) (ho : T.own < 8) (hww : T.ww) (r : Nat) (hr : r < 256) (v : Vec) :
    SB Try.prog stable_Tracker_Hear.f [.ptr T.bx 0, u8 r, .agg v.cells] T.hp k 6 (fun x F => x = i64 (T.hearV r v (k + 2)).2 ∧ F = (T.hearV r v (k + 2)).1.hp) := by
  have hbx := hlt.bx
  have hok0 : ∀ (T' : Tk) kx, T'.bx = T.bx → T'.nm = T.nm → k ≤ kx → Hp.ok (fun n => decide (n < kx)) T'.hp = true := fun T' kx e1 e2 h => Hp.ok_less h (Tk.okk (Tk.lt_of hlt e1 e2))
  refine stable_Tracker_Hear.enter (by simp [SV.ok, SV.oks]; omega) (Tk.okk hlt) (by simp) ?_
  unfold stable_Tracker_Hear.s
  have uB : List.lookup T.bx T.hp = some (.box 93 T.cells) := Tk.lkb
  have uN : T.cells[0]? = some (.d (.int .i64 T.n)) := Tk.ldn T
  have uO : T.cells[1]? = some (.d (.int .u8 T.own)) := Tk.ldown T
  have uK : List.lookup k T.hp = none := Tk.lkk hlt (Nat.le_refl _)
  have uH : (T.cells.drop 2).take 8 = T.has.cells := Tk.ldhas T
  have uL : (2 + 8 ≤ T.cells.length) = True := eq_true (by rw [Tk.cells_len]; omega)
  have hlt1 : T.lt (k + 1) := ⟨Nat.lt_succ_of_lt hlt.bx, fun r hr => Nat.lt_succ_of_lt (hlt.nm r hr)⟩
  have hlt2 : T.lt (k + 2) := ⟨Nat.lt_succ_of_lt hlt1.bx, fun r hr => Nat.lt_succ_of_lt (hlt1.nm r hr)⟩
  have f1 := ne4 (show k ≠ T.bx by omega)
  have m1 : hsets (hdels ((k, .box 25 v.cells) :: T.hp) T.hp T.hp) T.hp = (k, .box 25 v.cells) :: T.hp := Tk.mrg1 hs hlt rfl rfl
  refine SW.seq ?_
  (refine SW.regL [0, 1, 2, 5, 6, 7, 10, 24, 40, 53] mixed ?_; (repeat (first | refine RW.ro (uK) (h := ?_) | refine RW.skip (h := ?_) | refine RW.op (uK) (h := ?_) | refine RW.opN (uK) (h := ?_) | refine RW.skip0 (h := ?_) | (refine RW.callC (h := ?_); (first | refine CallP.mk (uK) (hs := Tk.hsub1 hlt) (hc := none_at hs hlt1 hn0) (h := ?_) | refine CallP.mk (uK) (hs := Tk.hsub1 hlt) (hc := tmay_at hs hlt1 v) (h := ?_) | refine CallP.mk (uK) (hc := above_at _ _ _) (h := ?_))))); refine RW.nil ⟨conf_of (by kernel_rfl), Pruned.mk (h := ?_)⟩)
  refine SW.seq (SW.block (SW.seq ?_))
  (refine SW.regL [0, 1, 2, 5, 6, 7, 10, 24, 40, 53] mixed ?_; (repeat (first | refine RW.ro (m1) (h := ?_) | refine RW.skip (h := ?_) | refine RW.op (m1) (h := ?_) | refine RW.opN (m1) (h := ?_) | refine RW.skip0 (h := ?_) | (refine RW.callC (h := ?_); (first | refine CallP.mk (m1) (hs := Tk.hsub1 hlt) (hc := none_at hs hlt1 hn0) (h := ?_) | refine CallP.mk (m1) (hs := Tk.hsub1 hlt) (hc := tmay_at hs hlt1 v) (h := ?_) | refine CallP.mk (m1) (hc := above_at _ _ _) (h := ?_))))); refine RW.nil ⟨conf_of (by kernel_rfl), Pruned.mk (h := ?_)⟩)
  refine SW.condF rfl (SW.seq ?_)
  rcases h1 : decide ((r : Int) ≥ T.n) with _ | _
  rotate_left
  · (refine SW.regL [0, 1, 2, 5, 6, 7, 10, 24, 40, 53] mixed ?_; (repeat (first | refine RW.ro (And.intro (uB) (And.intro (uN) (And.intro (h1) (f1)))) (h := ?_) | refine RW.skip (h := ?_) | refine RW.op (And.intro (uB) (And.intro (uN) (And.intro (h1) (f1)))) (h := ?_) | refine RW.opN (And.intro (uB) (And.intro (uN) (And.intro (h1) (f1)))) (h := ?_) | refine RW.skip0 (h := ?_) | (refine RW.callC (h := ?_); (first | refine CallP.mk (And.intro (uB) (And.intro (uN) (And.intro (h1) (f1)))) (hs := Tk.hsub1 hlt) (hc := none_at hs hlt1 hn0) (h := ?_) | refine CallP.mk (And.intro (uB) (And.intro (uN) (And.intro (h1) (f1)))) (hs := Tk.hsub1 hlt) (hc := tmay_at hs hlt1 v) (h := ?_) | refine CallP.mk (And.intro (uB) (And.intro (uN) (And.intro (h1) (f1)))) (hc := above_at _ _ _) (h := ?_))))); refine RW.nil ⟨conf_of (by kernel_rfl), Pruned.mk (h := ?_)⟩)
    refine SW.condT rfl (SW.seq ?_)
    refine SW.weak id (st1 := ⟨[], T.hp, k + 6⟩) (Tk.drop1 hs hlt (by omega)) ?_
    (refine SW.regL [0, 1, 2, 5, 6, 7, 10, 24, 40, 53] mixed ?_; (repeat (first | refine RW.ro bq_tt (h := ?_) | refine RW.skip (h := ?_) | refine RW.op bq_tt (h := ?_) | refine RW.opN bq_tt (h := ?_) | refine RW.skip0 (h := ?_) | (refine RW.callC (h := ?_); (first | refine CallP.mk bq_tt (hs := Tk.hsub1 hlt) (hc := none_at hs hlt1 hn0) (h := ?_) | refine CallP.mk bq_tt (hs := Tk.hsub1 hlt) (hc := tmay_at hs hlt1 v) (h := ?_) | refine CallP.mk bq_tt (hc := above_at _ _ _) (h := ?_))))); refine RW.nil ⟨conf_of (by kernel_rfl), Pruned.mk (h := ?_)⟩)
    refine SW.ret ?_
    have e : T.hearV r v (k + 2) = (T, 2) := by unfold Tk.hearV; rw [if_pos (by simp only [decide_eq_true_eq] at h1; omega)]
    rw [e]
    exact End.mk T.hp (h3 := fun _ _ h => h) (h4 := ⟨rfl, rfl⟩) (h6 := hok0 _ _ rfl rfl (by omega))
  have hrn : r < T.n := by simp only [decide_eq_false_iff_not] at h1; omega
  rcases hm : T.may v with _ | _
  · (refine SW.regL [0, 1, 2, 5, 6, 7, 10, 24, 40, 53] mixed ?_; (repeat (first | refine RW.ro (And.intro (uB) (And.intro (uN) (And.intro (h1) (And.intro (m1) (And.intro (hm) (f1)))))) (h := ?_) | refine RW.skip (h := ?_) | refine RW.op (And.intro (uB) (And.intro (uN) (And.intro (h1) (And.intro (m1) (And.intro (hm) (f1)))))) (h := ?_) | refine RW.opN (And.intro (uB) (And.intro (uN) (And.intro (h1) (And.intro (m1) (And.intro (hm) (f1)))))) (h := ?_) | refine RW.skip0 (h := ?_) | (refine RW.callC (h := ?_); (first | refine CallP.mk (And.intro (uB) (And.intro (uN) (And.intro (h1) (And.intro (m1) (And.intro (hm) (f1)))))) (hs := Tk.hsub1 hlt) (hc := none_at hs hlt1 hn0) (h := ?_) | refine CallP.mk (And.intro (uB) (And.intro (uN) (And.intro (h1) (And.intro (m1) (And.intro (hm) (f1)))))) (hs := Tk.hsub1 hlt) (hc := tmay_at hs hlt1 v) (h := ?_) | refine CallP.mk (And.intro (uB) (And.intro (uN) (And.intro (h1) (And.intro (m1) (And.intro (hm) (f1)))))) (hc := above_at _ _ _) (h := ?_))))); refine RW.nil ⟨conf_of (by kernel_rfl), Pruned.mk (h := ?_)⟩)
    refine SW.condT rfl (SW.seq ?_)
    refine SW.weak id (st1 := ⟨[], T.hp, k + 6⟩) (Tk.drop1 hs hlt (by omega)) ?_
    (refine SW.regL [0, 1, 2, 5, 6, 7, 10, 24, 40, 53] mixed ?_; (repeat (first | refine RW.ro bq_tt (h := ?_) | refine RW.skip (h := ?_) | refine RW.op bq_tt (h := ?_) | refine RW.opN bq_tt (h := ?_) | refine RW.skip0 (h := ?_) | (refine RW.callC (h := ?_); (first | refine CallP.mk bq_tt (hs := Tk.hsub1 hlt) (hc := none_at hs hlt1 hn0) (h := ?_) | refine CallP.mk bq_tt (hs := Tk.hsub1 hlt) (hc := tmay_at hs hlt1 v) (h := ?_) | refine CallP.mk bq_tt (hc := above_at _ _ _) (h := ?_))))); refine RW.nil ⟨conf_of (by kernel_rfl), Pruned.mk (h := ?_)⟩)
    refine SW.ret ?_
    have e : T.hearV r v (k + 2) = (T, 2) := by unfold Tk.hearV; rw [if_neg (by omega), if_pos hm]
    rw [e]
    exact End.mk T.hp (h3 := fun _ _ h => h) (h4 := ⟨rfl, rfl⟩) (h6 := hok0 _ _ rfl rfl (by omega))
  (refine SW.regL [0, 1, 2, 5, 6, 7, 10, 24, 40, 53] mixed ?_; (repeat (first | refine RW.ro (And.intro (uB) (And.intro (uN) (And.intro (h1) (And.intro (m1) (And.intro (hm) (f1)))))) (h := ?_) | refine RW.skip (h := ?_) | refine RW.op (And.intro (uB) (And.intro (uN) (And.intro (h1) (And.intro (m1) (And.intro (hm) (f1)))))) (h := ?_) | refine RW.opN (And.intro (uB) (And.intro (uN) (And.intro (h1) (And.intro (m1) (And.intro (hm) (f1)))))) (h := ?_) | refine RW.skip0 (h := ?_) | (refine RW.callC (h := ?_); (first | refine CallP.mk (And.intro (uB) (And.intro (uN) (And.intro (h1) (And.intro (m1) (And.intro (hm) (f1)))))) (hs := Tk.hsub1 hlt) (hc := none_at hs hlt1 hn0) (h := ?_) | refine CallP.mk (And.intro (uB) (And.intro (uN) (And.intro (h1) (And.intro (m1) (And.intro (hm) (f1)))))) (hs := Tk.hsub1 hlt) (hc := tmay_at hs hlt1 v) (h := ?_) | refine CallP.mk (And.intro (uB) (And.intro (uN) (And.intro (h1) (And.intro (m1) (And.intro (hm) (f1)))))) (hc := above_at _ _ _) (h := ?_))))); refine RW.nil ⟨conf_of (by kernel_rfl), Pruned.mk (h := ?_)⟩)
  refine SW.condF rfl (SW.seq ?_)
  rcases h2 : ((r : Int) == T.own) with _ | _
  rotate_left
  · have hro : r = T.own := by simp at h2; omega
    rcases ha : T.has.above v with _ | _
    · (refine SW.regL [0, 1, 2, 5, 6, 7, 10, 24, 40, 53] mixed ?_; (repeat (first | refine RW.ro (And.intro (uB) (And.intro (uO) (And.intro (uH) (And.intro (uL) (And.intro (h2) (And.intro (ha) (f1))))))) (h := ?_) | refine RW.skip (h := ?_) | refine RW.op (And.intro (uB) (And.intro (uO) (And.intro (uH) (And.intro (uL) (And.intro (h2) (And.intro (ha) (f1))))))) (h := ?_) | refine RW.opN (And.intro (uB) (And.intro (uO) (And.intro (uH) (And.intro (uL) (And.intro (h2) (And.intro (ha) (f1))))))) (h := ?_) | refine RW.skip0 (h := ?_) | (refine RW.callC (h := ?_); (first | refine CallP.mk (And.intro (uB) (And.intro (uO) (And.intro (uH) (And.intro (uL) (And.intro (h2) (And.intro (ha) (f1))))))) (hs := Tk.hsub1 hlt) (hc := none_at hs hlt1 hn0) (h := ?_) | refine CallP.mk (And.intro (uB) (And.intro (uO) (And.intro (uH) (And.intro (uL) (And.intro (h2) (And.intro (ha) (f1))))))) (hs := Tk.hsub1 hlt) (hc := tmay_at hs hlt1 v) (h := ?_) | refine CallP.mk (And.intro (uB) (And.intro (uO) (And.intro (uH) (And.intro (uL) (And.intro (h2) (And.intro (ha) (f1))))))) (hc := above_at _ _ _) (h := ?_))))); refine RW.nil ⟨conf_of (by kernel_rfl), Pruned.mk (h := ?_)⟩)
      refine SW.condT rfl (SW.seq ?_)
      refine SW.weak id (st1 := ⟨[], T.hp, k + 6⟩) (Tk.drop1 hs hlt (by omega)) ?_
      (refine SW.regL [0, 1, 2, 5, 6, 7, 10, 24, 40, 53] mixed ?_; (repeat (first | refine RW.ro bq_tt (h := ?_) | refine RW.skip (h := ?_) | refine RW.op bq_tt (h := ?_) | refine RW.opN bq_tt (h := ?_) | refine RW.skip0 (h := ?_) | (refine RW.callC (h := ?_); (first | refine CallP.mk bq_tt (hs := Tk.hsub1 hlt) (hc := none_at hs hlt1 hn0) (h := ?_) | refine CallP.mk bq_tt (hs := Tk.hsub1 hlt) (hc := tmay_at hs hlt1 v) (h := ?_) | refine CallP.mk bq_tt (hc := above_at _ _ _) (h := ?_))))); refine RW.nil ⟨conf_of (by kernel_rfl), Pruned.mk (h := ?_)⟩)
      refine SW.ret ?_
      have e : T.hearV r v (k + 2) = (T, 9) := by unfold Tk.hearV; rw [if_neg (by omega), if_neg (by rw [hm]; simp), if_pos hro, if_pos ha]
      rw [e]
      exact End.mk T.hp (h3 := fun _ _ h => h) (h4 := ⟨rfl, rfl⟩) (h6 := hok0 _ _ rfl rfl (by omega))
    · (refine SW.regL [0, 1, 2, 5, 6, 7, 10, 24, 40, 53] mixed ?_; (repeat (first | refine RW.ro (And.intro (uB) (And.intro (uO) (And.intro (uH) (And.intro (uL) (And.intro (h2) (And.intro (ha) (f1))))))) (h := ?_) | refine RW.skip (h := ?_) | refine RW.op (And.intro (uB) (And.intro (uO) (And.intro (uH) (And.intro (uL) (And.intro (h2) (And.intro (ha) (f1))))))) (h := ?_) | refine RW.opN (And.intro (uB) (And.intro (uO) (And.intro (uH) (And.intro (uL) (And.intro (h2) (And.intro (ha) (f1))))))) (h := ?_) | refine RW.skip0 (h := ?_) | (refine RW.callC (h := ?_); (first | refine CallP.mk (And.intro (uB) (And.intro (uO) (And.intro (uH) (And.intro (uL) (And.intro (h2) (And.intro (ha) (f1))))))) (hs := Tk.hsub1 hlt) (hc := none_at hs hlt1 hn0) (h := ?_) | refine CallP.mk (And.intro (uB) (And.intro (uO) (And.intro (uH) (And.intro (uL) (And.intro (h2) (And.intro (ha) (f1))))))) (hs := Tk.hsub1 hlt) (hc := tmay_at hs hlt1 v) (h := ?_) | refine CallP.mk (And.intro (uB) (And.intro (uO) (And.intro (uH) (And.intro (uL) (And.intro (h2) (And.intro (ha) (f1))))))) (hc := above_at _ _ _) (h := ?_))))); refine RW.nil ⟨conf_of (by kernel_rfl), Pruned.mk (h := ?_)⟩)
      refine SW.condF rfl (SW.seq ?_)
      (refine SW.regL [0, 1, 2, 5, 6, 7, 10, 24, 40, 53] mixed ?_; (repeat (first | refine RW.ro (And.intro (uB) (And.intro (uO) (And.intro (h2) (f1)))) (h := ?_) | refine RW.skip (h := ?_) | refine RW.op (And.intro (uB) (And.intro (uO) (And.intro (h2) (f1)))) (h := ?_) | refine RW.opN (And.intro (uB) (And.intro (uO) (And.intro (h2) (f1)))) (h := ?_) | refine RW.skip0 (h := ?_) | (refine RW.callC (h := ?_); (first | refine CallP.mk (And.intro (uB) (And.intro (uO) (And.intro (h2) (f1)))) (hs := Tk.hsub1 hlt) (hc := none_at hs hlt1 hn0) (h := ?_) | refine CallP.mk (And.intro (uB) (And.intro (uO) (And.intro (h2) (f1)))) (hs := Tk.hsub1 hlt) (hc := tmay_at hs hlt1 v) (h := ?_) | refine CallP.mk (And.intro (uB) (And.intro (uO) (And.intro (h2) (f1)))) (hc := above_at _ _ _) (h := ?_))))); refine RW.nil ⟨conf_of (by kernel_rfl), Pruned.mk (h := ?_)⟩)
      refine SW.condT rfl (SW.seq ?_)
      refine SW.weak id (st1 := ⟨[], T.hp, k + 6⟩) (Tk.drop1 hs hlt (by omega)) ?_
      (refine SW.regL [0, 1, 2, 5, 6, 7, 10, 24, 40, 53] mixed ?_; (repeat (first | refine RW.ro bq_tt (h := ?_) | refine RW.skip (h := ?_) | refine RW.op bq_tt (h := ?_) | refine RW.opN bq_tt (h := ?_) | refine RW.skip0 (h := ?_) | (refine RW.callC (h := ?_); (first | refine CallP.mk bq_tt (hs := Tk.hsub1 hlt) (hc := none_at hs hlt1 hn0) (h := ?_) | refine CallP.mk bq_tt (hs := Tk.hsub1 hlt) (hc := tmay_at hs hlt1 v) (h := ?_) | refine CallP.mk bq_tt (hc := above_at _ _ _) (h := ?_))))); refine RW.nil ⟨conf_of (by kernel_rfl), Pruned.mk (h := ?_)⟩)
      refine SW.ret ?_
      have e : T.hearV r v (k + 2) = (T, 0) := by unfold Tk.hearV; rw [if_neg (by omega), if_neg (by rw [hm]; simp), if_pos hro, if_neg (by rw [ha]; simp)]
      rw [e]
      exact End.mk T.hp (h3 := fun _ _ h => h) (h4 := ⟨rfl, rfl⟩) (h6 := hok0 _ _ rfl rfl (by omega))
  (refine SW.regL [0, 1, 2, 5, 6, 7, 10, 24, 40, 53] mixed ?_; (repeat (first | refine RW.ro (And.intro (uB) (And.intro (uO) (And.intro (uH) (And.intro (uL) (And.intro (h2) (f1)))))) (h := ?_) | refine RW.skip (h := ?_) | refine RW.op (And.intro (uB) (And.intro (uO) (And.intro (uH) (And.intro (uL) (And.intro (h2) (f1)))))) (h := ?_) | refine RW.opN (And.intro (uB) (And.intro (uO) (And.intro (uH) (And.intro (uL) (And.intro (h2) (f1)))))) (h := ?_) | refine RW.skip0 (h := ?_) | (refine RW.callC (h := ?_); (first | refine CallP.mk (And.intro (uB) (And.intro (uO) (And.intro (uH) (And.intro (uL) (And.intro (h2) (f1)))))) (hs := Tk.hsub1 hlt) (hc := none_at hs hlt1 hn0) (h := ?_) | refine CallP.mk (And.intro (uB) (And.intro (uO) (And.intro (uH) (And.intro (uL) (And.intro (h2) (f1)))))) (hs := Tk.hsub1 hlt) (hc := tmay_at hs hlt1 v) (h := ?_) | refine CallP.mk (And.intro (uB) (And.intro (uO) (And.intro (uH) (And.intro (uL) (And.intro (h2) (f1)))))) (hc := above_at _ _ _) (h := ?_))))); refine RW.nil ⟨conf_of (by kernel_rfl), Pruned.mk (h := ?_)⟩)
  refine SW.condF rfl (SW.seq ?_)
  (refine SW.regL [0, 1, 2, 5, 6, 7, 10, 24, 40, 53] mixed ?_; (repeat (first | refine RW.ro (And.intro (uB) (And.intro (uO) (And.intro (h2) (f1)))) (h := ?_) | refine RW.skip (h := ?_) | refine RW.op (And.intro (uB) (And.intro (uO) (And.intro (h2) (f1)))) (h := ?_) | refine RW.opN (And.intro (uB) (And.intro (uO) (And.intro (h2) (f1)))) (h := ?_) | refine RW.skip0 (h := ?_) | (refine RW.callC (h := ?_); (first | refine CallP.mk (And.intro (uB) (And.intro (uO) (And.intro (h2) (f1)))) (hs := Tk.hsub1 hlt) (hc := none_at hs hlt1 hn0) (h := ?_) | refine CallP.mk (And.intro (uB) (And.intro (uO) (And.intro (h2) (f1)))) (hs := Tk.hsub1 hlt) (hc := tmay_at hs hlt1 v) (h := ?_) | refine CallP.mk (And.intro (uB) (And.intro (uO) (And.intro (h2) (f1)))) (hc := above_at _ _ _) (h := ?_))))); refine RW.nil ⟨conf_of (by kernel_rfl), Pruned.mk (h := ?_)⟩)
  refine SW.condF rfl (SW.skip ?_)
  refine (?_ : Sl.SW _ _ _ _ _ _)
  have h8 : r < 8 := by omega
  have hro : ¬ r = T.own := by simp at h2; omega
  have e : T.hearV r v (k + 2) = (((T.opn r (k + 2)).addw r v).settle, 0) := by unfold Tk.hearV; rw [if_neg (by omega), if_neg (by rw [hm]; simp), if_neg hro]
  rw [e]
  have uM : List.lookup (T.nm r) T.hp = some (wob (T.wt r)) := Tk.lkm hs h8
  have uW : T.cells[74 + r]? = some (.mp (T.nm r)) := Tk.ldw T h8
  have hnm := hlt.nm r h8
  have f2 := ne4 (show k ≠ T.nm r by omega)
  have f3 := ne4 (hs.bx r h8)
  have hnk : ∀ (T' : Tk) o, T'.bx = T.bx → T'.nm = T.nm → (((k, o) :: T'.hp : Hp).map (·.1)).Nodup := fun T' o e1 e2 => by
    rw [List.map_cons, List.nodup_cons]
    exact ⟨Tk.out (Tk.lt_of hlt e1 e2) (Nat.le_refl _), Tk.nodup (Tk.sep_of hs e1 e2)⟩
  have hokk : ∀ (T' : Tk) kx, T'.lt kx → k < kx → Hp.ok (fun n => decide (n < kx)) ((k, .box 25 v.cells) :: T'.hp) = true := fun T' kx h1 h2 => by
    have := Tk.okk h1
    simp only [Hp.ok, List.all_cons, Ob.ok, Vec.cells_ok, Bool.and_true, Bool.and_eq_true, decide_eq_true_eq] at this ⊢
    exact ⟨h2, this⟩
  refine SW.weak id (st1 := ⟨[(0, .ptr T.bx 0), (1, u8 r), (5, .ptr k 0)], (k, .box 25 v.cells) :: T.hp, k + 2⟩) (Weak.same (by simp) (by simp [EnvW, List.lookup, SV.ren, SV.rens, SV.ok, SV.oks]; try omega) (hokk T _ hlt2 (by simp)) (lk_of_nodup (hnk T _ rfl rfl))) ?_
  refine SW.seq (SW.seq ?_)
  obtain ⟨o1, o2, o3, o4, o5⟩ := T.opn_bx r (k + 2)
  have os := Tk.opn_sep hs (r := r) hlt2
  have ol := Tk.opn_lt (r := r) hlt2
  have ow := Tk.opn_ww hww r (k + 2)
  rcases hw : T.wt r with _ | ⟨L0, c0⟩
  · rw [hw] at uM
    have uM : List.lookup (T.nm r) T.hp = some .nomap := uM
    have uRm : hrep T.hp (T.nm r) .nomap = T.hp := hrep_same uM
    (refine SW.regL [0, 1, 2, 5, 6, 7, 10, 24, 40, 53] mixed ?_; (repeat (first | refine RW.ro (And.intro (uB) (And.intro (uW) (And.intro (uM) (And.intro (uRm) (And.intro (f1) (And.intro (f2) (f3))))))) (h := ?_) | refine RW.skip (h := ?_) | refine RW.op (And.intro (uB) (And.intro (uW) (And.intro (uM) (And.intro (uRm) (And.intro (f1) (And.intro (f2) (f3))))))) (h := ?_) | refine RW.opN (And.intro (uB) (And.intro (uW) (And.intro (uM) (And.intro (uRm) (And.intro (f1) (And.intro (f2) (f3))))))) (h := ?_) | refine RW.skip0 (h := ?_) | (refine RW.callC (h := ?_); (first | refine CallP.mk (And.intro (uB) (And.intro (uW) (And.intro (uM) (And.intro (uRm) (And.intro (f1) (And.intro (f2) (f3))))))) (hs := Tk.hsub1 hlt) (hc := none_at hs hlt1 hn0) (h := ?_) | refine CallP.mk (And.intro (uB) (And.intro (uW) (And.intro (uM) (And.intro (uRm) (And.intro (f1) (And.intro (f2) (f3))))))) (hs := Tk.hsub1 hlt) (hc := tmay_at hs hlt1 v) (h := ?_) | refine CallP.mk (And.intro (uB) (And.intro (uW) (And.intro (uM) (And.intro (uRm) (And.intro (f1) (And.intro (f2) (f3))))))) (hc := above_at _ _ _) (h := ?_))))); refine RW.nil ⟨conf_of (by kernel_rfl), Pruned.mk (h := ?_)⟩)
    have uS := Tk.spl_opn hw h8 (k := k + 2)
    have uR : ∀ c, hrep T.hp T.bx (.box 93 c) = (T.bx, .box 93 c) :: T.maps := fun _ => Tk.hrepb
    have uK2 : List.lookup (k + 2) T.hp = none := Tk.lkk hlt2 (Nat.le_refl _)
    have g1 := ne4 (show k + 2 ≠ k by omega)
    have g2 := ne4 (show k + 2 ≠ T.bx by omega)
    have uL2 : (74 + r + 1 ≤ T.cells.length) = True := eq_true (by rw [Tk.cells_len]; omega)
    refine SW.condT rfl ?_
    (refine SW.regL [0, 1, 2, 5, 6, 7, 10, 24, 40, 53] mixed ?_; (repeat (first | refine RW.ro (And.intro (uB) (And.intro (uS) (And.intro (uR) (And.intro (uK2) (And.intro (uL2) (And.intro (f1) (And.intro (g1) (g2)))))))) (h := ?_) | refine RW.skip (h := ?_) | refine RW.op (And.intro (uB) (And.intro (uS) (And.intro (uR) (And.intro (uK2) (And.intro (uL2) (And.intro (f1) (And.intro (g1) (g2)))))))) (h := ?_) | refine RW.opN (And.intro (uB) (And.intro (uS) (And.intro (uR) (And.intro (uK2) (And.intro (uL2) (And.intro (f1) (And.intro (g1) (g2)))))))) (h := ?_) | refine RW.skip0 (h := ?_) | (refine RW.callC (h := ?_); (first | refine CallP.mk (And.intro (uB) (And.intro (uS) (And.intro (uR) (And.intro (uK2) (And.intro (uL2) (And.intro (f1) (And.intro (g1) (g2)))))))) (hs := Tk.hsub1 hlt) (hc := none_at hs hlt1 hn0) (h := ?_) | refine CallP.mk (And.intro (uB) (And.intro (uS) (And.intro (uR) (And.intro (uK2) (And.intro (uL2) (And.intro (f1) (And.intro (g1) (g2)))))))) (hs := Tk.hsub1 hlt) (hc := tmay_at hs hlt1 v) (h := ?_) | refine CallP.mk (And.intro (uB) (And.intro (uS) (And.intro (uR) (And.intro (uK2) (And.intro (uL2) (And.intro (f1) (And.intro (g1) (g2)))))))) (hc := above_at _ _ _) (h := ?_))))); refine RW.nil ⟨conf_of (by kernel_rfl), Pruned.mk (h := ?_)⟩)
    refine SW.weak id (st1 := ⟨[(0, .ptr T.bx 0), (1, u8 r), (5, .ptr k 0)], (k, .box 25 v.cells) :: (T.opn r (k + 2)).hp, k + 3⟩) (Weak.same (by simp) (by simp [EnvW, List.lookup, SV.ren, SV.rens, SV.ok, SV.oks]; try omega) (hokk _ _ ol (by simp)) (Tk.opn_lk hs hw hlt)) ?_
    obtain ⟨L, c, hL⟩ := T.opn_some r (k + 2)
    have hne : ∀ i, i < 8 → (T.opn r (k + 2)).nm i ≠ k := fun i hi => by
      have := hlt.nm i hi
      rcases T.opn_nm r (k + 2) i with h | ⟨_, h⟩ <;> rw [h] <;> omega
    generalize T.opn r (k + 2) = T2 at *
    have dB : List.lookup T.bx T2.hp = some (.box 93 T2.cells) := by rw [← o1]; exact Tk.lkb
    have dW : T2.cells[74 + r]? = some (.mp (T2.nm r)) := Tk.ldw T2 h8
    have dM : List.lookup (T2.nm r) T2.hp = some (.map (mapE Vec.cells iv L) c) := by rw [Tk.lkm os h8, hL]; rfl
    have dR : hrep T2.hp (T2.nm r) (.map (mapE Vec.cells iv (MM.put L c v 1)) (MM.clk L c v)) = (T2.addw r v).hp := by
      have a3 : T2.addw r v = T2.setW r (some (MM.put L c v 1, MM.clk L c v)) := by unfold Tk.addw; rw [hL]
      rw [a3]; exact Tk.hrepm os h8 (some (MM.put L c v 1, MM.clk L c v))
    obtain ⟨b1, b2, b3, b4⟩ := T2.addw_bx r v
    have wa := Tk.addw_ww ow h8 v
    generalize T2.addw r v = T3 at *
    have hs3 : T3.sep := Tk.sep_of os b1 b2
    have hl3 : T3.lt (k + 3) := Tk.lt_of ol b1 b2
    have hse := settle_at hs3 (k := k + 3) (by rw [b3, o2]; exact hn) (by rw [b4, o3]; exact ho) wa hl3
    rw [b1, o1] at hse
    obtain ⟨z1, z2⟩ := T3.settle_bx
    have y1 : T3.bx ≠ k := by rw [b1, o1]; omega
    have y2 : ∀ i, i < 8 → T3.nm i ≠ k := by rw [b2]; exact hne
    have m2 : hsets (hdels ((k, .box 25 v.cells) :: T3.hp) T3.settle.hp T3.hp) T3.settle.hp = (k, .box 25 v.cells) :: T3.settle.hp :=
      mrg_tail (pre := [(k, .box 25 v.cells)]) (Tk.hp_same z1 z2) (Tk.cons_nodup hs3 y1 y2)
    have f7 := ne4 (hne r h8)
    have g5 := ne4 (os.bx r h8)
    rw [o1] at g5
    refine SW.seq ?_
    (refine SW.regL [0, 1, 2, 5, 6, 7, 10, 24, 40, 53] mixed ?_; (repeat (first | refine RW.ro (And.intro (dB) (And.intro (dW) (And.intro (dM) (And.intro (dR) (And.intro (f1) (And.intro (f7) (g5))))))) (h := ?_) | refine RW.skip (h := ?_) | refine RW.op (And.intro (dB) (And.intro (dW) (And.intro (dM) (And.intro (dR) (And.intro (f1) (And.intro (f7) (g5))))))) (h := ?_) | refine RW.opN (And.intro (dB) (And.intro (dW) (And.intro (dM) (And.intro (dR) (And.intro (f1) (And.intro (f7) (g5))))))) (h := ?_) | refine RW.skip0 (h := ?_) | (refine RW.callC (h := ?_); (first | refine CallP.mk (And.intro (dB) (And.intro (dW) (And.intro (dM) (And.intro (dR) (And.intro (f1) (And.intro (f7) (g5))))))) (hs := Tk.cons_sub y1 y2) (hc := hse) (h := ?_))))); refine RW.nil ⟨conf_of (by kernel_rfl), Pruned.mk (h := ?_)⟩)
    refine SW.seq ?_
    (refine SW.regL [0, 1, 2, 5, 6, 7, 10, 24, 40, 53] mixed ?_; (repeat (first | refine RW.ro (m2) (h := ?_) | refine RW.skip (h := ?_) | refine RW.op (m2) (h := ?_) | refine RW.opN (m2) (h := ?_) | refine RW.skip0 (h := ?_) | (refine RW.callC (h := ?_); (first | refine CallP.mk (m2) (hs := Tk.cons_sub y1 y2) (hc := hse) (h := ?_))))); refine RW.nil ⟨conf_of (by kernel_rfl), Pruned.mk (h := ?_)⟩)
    refine SW.seq ?_
    (refine SW.regL [0, 1, 2, 5, 6, 7, 10, 24, 40, 53] mixed ?_; (repeat (first | refine RW.ro bq_tt (h := ?_) | refine RW.skip (h := ?_) | refine RW.op bq_tt (h := ?_) | refine RW.opN bq_tt (h := ?_) | refine RW.skip0 (h := ?_) | (refine RW.callC (h := ?_); (first | refine CallP.mk bq_tt (hs := Tk.cons_sub y1 y2) (hc := hse) (h := ?_))))); refine RW.nil ⟨conf_of (by kernel_rfl), Pruned.mk (h := ?_)⟩)
    refine SW.ret ?_
    exact End.mk T3.settle.hp (h3 := Tk.cons_sub (by rw [z1]; exact y1) (by rw [z2]; exact y2)) (h4 := ⟨rfl, rfl⟩) (h6 := Hp.ok_less (by omega) (Tk.okk (Tk.lt_of hl3 z1 z2)))
  · rw [hw] at uM
    have uM : List.lookup (T.nm r) T.hp = some (.map (mapE Vec.cells iv L0) c0) := uM
    have uRm : hrep T.hp (T.nm r) (.map (mapE Vec.cells iv L0) c0) = T.hp := hrep_same uM
    (refine SW.regL [0, 1, 2, 5, 6, 7, 10, 24, 40, 53] mixed ?_; (repeat (first | refine RW.ro (And.intro (uB) (And.intro (uW) (And.intro (uM) (And.intro (uRm) (And.intro (f1) (And.intro (f2) (f3))))))) (h := ?_) | refine RW.skip (h := ?_) | refine RW.op (And.intro (uB) (And.intro (uW) (And.intro (uM) (And.intro (uRm) (And.intro (f1) (And.intro (f2) (f3))))))) (h := ?_) | refine RW.opN (And.intro (uB) (And.intro (uW) (And.intro (uM) (And.intro (uRm) (And.intro (f1) (And.intro (f2) (f3))))))) (h := ?_) | refine RW.skip0 (h := ?_) | (refine RW.callC (h := ?_); (first | refine CallP.mk (And.intro (uB) (And.intro (uW) (And.intro (uM) (And.intro (uRm) (And.intro (f1) (And.intro (f2) (f3))))))) (hs := Tk.cons_sub y1 y2) (hc := hse) (h := ?_))))); refine RW.nil ⟨conf_of (by kernel_rfl), Pruned.mk (h := ?_)⟩)
    refine SW.condF rfl (SW.skip ?_)
    have e2 : T.opn r (k + 2) = T := by unfold Tk.opn; rw [hw]
    refine SW.weak id (st1 := ⟨[(0, .ptr T.bx 0), (1, u8 r), (5, .ptr k 0)], (k, .box 25 v.cells) :: (T.opn r (k + 2)).hp, k + 3⟩) (Weak.same (by simp) (by simp [EnvW, List.lookup, SV.ren, SV.rens, SV.ok, SV.oks]; try omega) (hokk _ _ ol (by simp)) (by rw [e2]; exact lk_of_nodup (hnk T _ rfl rfl))) ?_
    obtain ⟨L, c, hL⟩ := T.opn_some r (k + 2)
    have hne : ∀ i, i < 8 → (T.opn r (k + 2)).nm i ≠ k := fun i hi => by
      have := hlt.nm i hi
      rcases T.opn_nm r (k + 2) i with h | ⟨_, h⟩ <;> rw [h] <;> omega
    generalize T.opn r (k + 2) = T2 at *
    have dB : List.lookup T.bx T2.hp = some (.box 93 T2.cells) := by rw [← o1]; exact Tk.lkb
    have dW : T2.cells[74 + r]? = some (.mp (T2.nm r)) := Tk.ldw T2 h8
    have dM : List.lookup (T2.nm r) T2.hp = some (.map (mapE Vec.cells iv L) c) := by rw [Tk.lkm os h8, hL]; rfl
    have dR : hrep T2.hp (T2.nm r) (.map (mapE Vec.cells iv (MM.put L c v 1)) (MM.clk L c v)) = (T2.addw r v).hp := by
      have a3 : T2.addw r v = T2.setW r (some (MM.put L c v 1, MM.clk L c v)) := by unfold Tk.addw; rw [hL]
      rw [a3]; exact Tk.hrepm os h8 (some (MM.put L c v 1, MM.clk L c v))
    obtain ⟨b1, b2, b3, b4⟩ := T2.addw_bx r v
    have wa := Tk.addw_ww ow h8 v
    generalize T2.addw r v = T3 at *
    have hs3 : T3.sep := Tk.sep_of os b1 b2
    have hl3 : T3.lt (k + 3) := Tk.lt_of ol b1 b2
    have hse := settle_at hs3 (k := k + 3) (by rw [b3, o2]; exact hn) (by rw [b4, o3]; exact ho) wa hl3
    rw [b1, o1] at hse
    obtain ⟨z1, z2⟩ := T3.settle_bx
    have y1 : T3.bx ≠ k := by rw [b1, o1]; omega
    have y2 : ∀ i, i < 8 → T3.nm i ≠ k := by rw [b2]; exact hne
    have m2 : hsets (hdels ((k, .box 25 v.cells) :: T3.hp) T3.settle.hp T3.hp) T3.settle.hp = (k, .box 25 v.cells) :: T3.settle.hp :=
      mrg_tail (pre := [(k, .box 25 v.cells)]) (Tk.hp_same z1 z2) (Tk.cons_nodup hs3 y1 y2)
    have f7 := ne4 (hne r h8)
    have g5 := ne4 (os.bx r h8)
    rw [o1] at g5
    refine SW.seq ?_
    (refine SW.regL [0, 1, 2, 5, 6, 7, 10, 24, 40, 53] mixed ?_; (repeat (first | refine RW.ro (And.intro (dB) (And.intro (dW) (And.intro (dM) (And.intro (dR) (And.intro (f1) (And.intro (f7) (g5))))))) (h := ?_) | refine RW.skip (h := ?_) | refine RW.op (And.intro (dB) (And.intro (dW) (And.intro (dM) (And.intro (dR) (And.intro (f1) (And.intro (f7) (g5))))))) (h := ?_) | refine RW.opN (And.intro (dB) (And.intro (dW) (And.intro (dM) (And.intro (dR) (And.intro (f1) (And.intro (f7) (g5))))))) (h := ?_) | refine RW.skip0 (h := ?_) | (refine RW.callC (h := ?_); (first | refine CallP.mk (And.intro (dB) (And.intro (dW) (And.intro (dM) (And.intro (dR) (And.intro (f1) (And.intro (f7) (g5))))))) (hs := Tk.cons_sub y1 y2) (hc := hse) (h := ?_))))); refine RW.nil ⟨conf_of (by kernel_rfl), Pruned.mk (h := ?_)⟩)
    refine SW.seq ?_
    (refine SW.regL [0, 1, 2, 5, 6, 7, 10, 24, 40, 53] mixed ?_; (repeat (first | refine RW.ro (m2) (h := ?_) | refine RW.skip (h := ?_) | refine RW.op (m2) (h := ?_) | refine RW.opN (m2) (h := ?_) | refine RW.skip0 (h := ?_) | (refine RW.callC (h := ?_); (first | refine CallP.mk (m2) (hs := Tk.cons_sub y1 y2) (hc := hse) (h := ?_))))); refine RW.nil ⟨conf_of (by kernel_rfl), Pruned.mk (h := ?_)⟩)
    refine SW.seq ?_
    (refine SW.regL [0, 1, 2, 5, 6, 7, 10, 24, 40, 53] mixed ?_; (repeat (first | refine RW.ro bq_tt (h := ?_) | refine RW.skip (h := ?_) | refine RW.op bq_tt (h := ?_) | refine RW.opN bq_tt (h := ?_) | refine RW.skip0 (h := ?_) | (refine RW.callC (h := ?_); (first | refine CallP.mk bq_tt (hs := Tk.cons_sub y1 y2) (hc := hse) (h := ?_))))); refine RW.nil ⟨conf_of (by kernel_rfl), Pruned.mk (h := ?_)⟩)
    refine SW.ret ?_
    exact End.mk T3.settle.hp (h3 := Tk.cons_sub (by rw [z1]; exact y1) (by rw [z2]; exact y2)) (h4 := ⟨rfl, rfl⟩) (h6 := Hp.ok_less (by omega) (Tk.okk (Tk.lt_of hl3 z1 z2)))
end
end Go.Proofs.Ytdnjkeeiopcipaa
