/-
  Trackers: Waits; Hear at the names that stand.
-/
import Derived.Test.YtacdkgkpoelhdaaPF
set_option linter.unusedSectionVars false
set_option linter.unusedVariables false
set_option linter.unusedSimpArgs false
namespace Go.Proofs.Ytacdkgkpoelhdaa
open Go.Sl Go.Proofs
def Tk.mps (T : Tk) : List SV := (T.cells.drop 74).take 8
theorem Tk.mps_get (T : Tk) {r : Nat} (h : r < 8) : T.mps[r]? = some (.mp (T.nm r)) := by
  match r, h with
  | 0, _ | 1, _ | 2, _ | 3, _ | 4, _ | 5, _ | 6, _ | 7, _ => rfl
theorem Tk.mps_ok (T : Tk) {q : Nat → Bool} (h : ∀ r, r < 8 → q (T.nm r) = true) : SV.oks q T.mps = true := by
  show SV.oks q [.mp (T.nm 0), .mp (T.nm 1), .mp (T.nm 2), .mp (T.nm 3), .mp (T.nm 4), .mp (T.nm 5), .mp (T.nm 6), .mp (T.nm 7)] = true
  simp only [SV.oks, SV.ok, h 0 (by omega), h 1 (by omega), h 2 (by omega), h 3 (by omega), h 4 (by omega), h 5 (by omega), h 6 (by omega), h 7 (by omega), Bool.and_self]
def Tk.wsum (T : Tk) : Nat → Nat
  | 0 => 0
  | r + 1 => T.wsum r + wlen (T.wt r)
theorem Tk.hear_nm (T : Tk) (r k : Nat) (v : Vec) : (T.hearV r v k).1.bx = T.bx ∧ ∀ i, (T.hearV r v k).1.nm i = T.nm i ∨ (T.hearV r v k).1.nm i = k := by
  unfold Tk.hearV
  split
  · exact ⟨rfl, fun i => .inl rfl⟩
  split
  · exact ⟨rfl, fun i => .inl rfl⟩
  split
  · split <;> exact ⟨rfl, fun i => .inl rfl⟩
  · obtain ⟨z1, z2⟩ := ((T.opn r k).addw r v).settle_bx
    obtain ⟨b1, b2, _⟩ := (T.opn r k).addw_bx r v
    refine ⟨z1.trans (b1.trans (T.opn_bx r k).1), fun i => ?_⟩
    show ((T.opn r k).addw r v).settle.nm i = T.nm i ∨ _ = k
    rw [z2, b2]
    exact (T.opn_nm r k i).imp id fun h => h.2
section
attribute [local irreducible] SW RW SCd SC CallP Pruned Tk.cells Tk.hp Tk.up Tk.setC Tk.setH Tk.settle Tk.maps Tk.mps
variable {T : Tk} (hs : T.sep) {k : Nat}
include hs in
theorem hear_at (hlt : T.lt k) (hn0 : T.n ≠ 0) (hn : T.n ≤ 8) (ho : T.own < 8) (hww : T.ww) (r : Nat) (hr : r < 256) (v : Vec) :
    SCd Try.prog stable_Tracker_Hear.f [.ptr T.bx 0, u8 r, .agg v.cells] T.hp k 6 (i64 (T.hearV r v (k + 2)).2) (T.hearV r v (k + 2)).1.hp := by
  unfold SCd
  have a2 : (lk T.hp T.bx).isSome = true := by rw [show lk T.hp T.bx = _ from Tk.lkb]; rfl
  have a3 : ∀ r, r < 8 → (lk T.hp (T.nm r)).isSome = true := fun r hr => by rw [show lk T.hp (T.nm r) = _ from Tk.lkm hs hr]; rfl
  refine (hear_sb hs hlt hn0 hn ho hww r hr v).here (fun n => (lk T.hp n).isSome) (fun n h e => by rw [e] at h; cases h) (by simp [SV.oks, SV.ok, a2]) (Tk.ok a2 a3) ?_
  rintro x F ⟨rfl, rfl⟩ _ _
  obtain ⟨h1, h2⟩ := T.hear_nm r (k + 2) v
  refine ⟨rfl, Tk.ok (by rw [h1]; simp only [a2, Bool.true_or]) fun i hi => ?_⟩
  rcases h2 i with h | h <;> rw [h]
  · simp only [a3 i hi, Bool.true_or]
  · simp
include hs in
set_option maxHeartbeats 1000000 in
theorem waits_at (hlt : T.lt k) (hn0 : T.n ≠ 0) (hw : ∀ i, i ≤ 8 → T.wsum i < 9223372036854775808) : SCd Try.prog stable_Tracker_Waits.f [.ptr T.bx 0] T.hp k 0 (i64 (T.wsum 8)) T.hp := by
  refine Tk.here hs rfl rfl (fun _ => rfl) (fun q h => by simp [SV.oks, SV.ok, h]) ?_
  have hbx := hlt.bx
  refine stable_Tracker_Waits.enter (by simp [SV.ok, SV.oks]; omega) (Tk.okk hlt) (by simp) ?_
  unfold stable_Tracker_Waits.s
  have uB : List.lookup T.bx T.hp = some (.box 86 T.cells) := Tk.lkb
  have uK : List.lookup k T.hp = none := Tk.lkk hlt (Nat.le_refl _)
  have uN : T.cells[0]? = some (.d (.int .i64 T.n)) := Tk.ldn T
  have uP : List.take 8 (List.drop 74 T.cells) = T.mps := by unfold Tk.mps; rfl
  have uL : (74 + 8 ≤ T.cells.length) = True := eq_true (by rw [Tk.cells_len]; omega)
  have m0 : hsets (hdels T.hp T.hp T.hp) T.hp = T.hp := Tk.mrg0 hs rfl rfl
  have hm := T.mps_ok (q := fun n => decide (n < k)) fun r hr => by simpa using hlt.nm r hr
  refine SW.seq ?_
  (refine SW.regL [0, 2, 3, 5, 7, 11, 12, 13] mixed ?_; (repeat (first | refine RW.ro bq_tt (h := ?_) | refine RW.skip (h := ?_) | refine RW.op bq_tt (h := ?_) | refine RW.opN bq_tt (h := ?_) | refine RW.skip0 (h := ?_) | (refine RW.callC (h := ?_); (first | refine CallP.mk bq_tt (hs := (fun _ _ h => h)) (hc := none_at4 hs hlt hn0) (h := ?_))))); refine RW.nil ⟨conf_of (by kernel_rfl), Pruned.mk (h := ?_)⟩)
  refine SW.seq (SW.seq ?_)
  (refine SW.regL [0, 2, 3, 5, 7, 11, 12, 13] mixed ?_; (repeat (first | refine RW.ro (m0) (h := ?_) | refine RW.skip (h := ?_) | refine RW.op (m0) (h := ?_) | refine RW.opN (m0) (h := ?_) | refine RW.skip0 (h := ?_) | (refine RW.callC (h := ?_); (first | refine CallP.mk (m0) (hs := (fun _ _ h => h)) (hc := none_at4 hs hlt hn0) (h := ?_))))); refine RW.nil ⟨conf_of (by kernel_rfl), Pruned.mk (h := ?_)⟩)
  refine SW.condF rfl (SW.skip ?_)
  refine SW.seq ?_
  (refine SW.regL [0, 2, 3, 5, 7, 11, 12, 13] mixed ?_; (repeat (first | refine RW.ro bq_tt (h := ?_) | refine RW.skip (h := ?_) | refine RW.op bq_tt (h := ?_) | refine RW.opN bq_tt (h := ?_) | refine RW.skip0 (h := ?_) | (refine RW.callC (h := ?_); (first | refine CallP.mk bq_tt (hs := (fun _ _ h => h)) (hc := none_at4 hs hlt hn0) (h := ?_))))); refine RW.nil ⟨conf_of (by kernel_rfl), Pruned.mk (h := ?_)⟩)
  refine SW.seq (SW.seq ?_)
  (have fx := (And.intro (uB) (And.intro (uP) (uL))); refine SW.regL [0, 2, 3, 5, 7, 11, 12, 13] mixed ?_; (repeat (first | refine RW.ro fx (h := ?_) | refine RW.skip (h := ?_) | refine RW.op fx (h := ?_) | refine RW.opN fx (h := ?_) | refine RW.skip0 (h := ?_) | (refine RW.callC (h := ?_); (first | refine CallP.mk fx (hs := (fun _ _ h => h)) (hc := none_at4 hs hlt hn0) (h := ?_))))); refine RW.nil ⟨conf_of (by kernel_rfl), Pruned.mk (h := ?_)⟩)
  refine SW.block (SW.loop (α := {i : Nat // i ≤ 8}) (fun i => ⟨[(12, i64 i.1), (3, i64 (T.wsum i.1)), (11, .agg T.mps)], T.hp, k⟩) (fun i => 8 - i.1) ⟨0, by omega⟩ id ?_ ?_)
  · exact Weak.same (by simp) (by simp [EnvW, List.lookup, SV.ren, SV.rens_id, SV.ok, hm, Tk.wsum]) (Tk.okk hlt) (lk_of_nodup (Tk.nodup hs))
  rintro ⟨i, hi⟩
  dsimp only
  by_cases h : i < 8
  · have h1 : decide ((i : Int) < 8) = true := by simp only [decide_eq_true_eq]; omega
    have hg := T.mps_get h
    have hsm := hw (i + 1) (by omega)
    simp only [Tk.wsum] at hsm
    have uM : List.lookup (T.nm i) T.hp = some (wob (T.wt i)) := Tk.lkm hs h
    refine SW.seq ?_
    (refine SW.regL [0, 2, 3, 5, 7, 11, 12, 13] mixed ?_; (repeat (first | refine RW.ro (h1) (h := ?_) | refine RW.skip (h := ?_) | refine RW.op (h1) (h := ?_) | refine RW.opN (h1) (h := ?_) | refine RW.skip0 (h := ?_) | (refine RW.callC (h := ?_); (first | refine CallP.mk (h1) (hs := (fun _ _ h => h)) (hc := none_at4 hs hlt hn0) (h := ?_))))); refine RW.nil ⟨conf_of (by kernel_rfl), Pruned.mk (h := ?_)⟩)
    refine SW.seq (SW.condT rfl (SW.skip ?_))
    refine SW.seq (SW.block (SW.seq ?_))
    (refine SW.regL [0, 2, 3, 5, 7, 11, 12, 13] mixed ?_; (repeat (first | refine RW.ro (hg) (h := ?_) | refine RW.skip (h := ?_) | refine RW.op (hg) (h := ?_) | refine RW.opN (hg) (h := ?_) | refine RW.skip0 (h := ?_) | (refine RW.callC (h := ?_); (first | refine CallP.mk (hg) (hs := (fun _ _ h => h)) (hc := none_at4 hs hlt hn0) (h := ?_))))); refine RW.nil ⟨conf_of (by kernel_rfl), Pruned.mk (h := ?_)⟩)
    rcases hx : T.wt i with _ | ⟨L, c⟩
    · rw [hx] at uM hsm
      have uM : List.lookup (T.nm i) T.hp = some .nomap := uM
      (refine SW.regL [0, 2, 3, 5, 7, 11, 12, 13] mixed ?_; (repeat (first | refine RW.ro (uM) (h := ?_) | refine RW.skip (h := ?_) | refine RW.op (uM) (h := ?_) | refine RW.opN (uM) (h := ?_) | refine RW.skip0 (h := ?_) | (refine RW.callC (h := ?_); (first | refine CallP.mk (uM) (hs := (fun _ _ h => h)) (hc := none_at4 hs hlt hn0) (h := ?_))))); refine RW.nil ⟨conf_of (by kernel_rfl), Pruned.mk (h := ?_)⟩)
      (refine SW.regL [0, 2, 3, 5, 7, 11, 12, 13] mixed ?_; (repeat (first | refine RW.ro bq_tt (h := ?_) | refine RW.skip (h := ?_) | refine RW.op bq_tt (h := ?_) | refine RW.opN bq_tt (h := ?_) | refine RW.skip0 (h := ?_) | (refine RW.callC (h := ?_); (first | refine CallP.mk bq_tt (hs := (fun _ _ h => h)) (hc := none_at4 hs hlt hn0) (h := ?_))))); refine RW.nil ⟨conf_of (by kernel_rfl), Pruned.mk (h := ?_)⟩)
      exact ⟨⟨i + 1, by omega⟩, id, by simp; omega, Weak.same (by simp) (by simp [EnvW, List.lookup, SV.ren, SV.rens_id, SV.ok, hm, Tk.wsum, hx, wlen]) (Tk.okk hlt) (lk_of_nodup (Tk.nodup hs))⟩
    · rw [hx] at uM hsm
      have hsm : T.wsum i + L.length < 9223372036854775808 := hsm
      have e1 : IntKind.i64.wrap ((T.wsum i : Int) + (L.length : Int)) = (T.wsum i : Int) + (L.length : Int) := wrap_i64 _ (by omega)
      have uM : List.lookup (T.nm i) T.hp = some (.map (mapE Vec.cells iv L) c) := uM
      (refine SW.regL [0, 2, 3, 5, 7, 11, 12, 13] mixed ?_; (repeat (first | refine RW.ro (And.intro (uM) (e1)) (h := ?_) | refine RW.skip (h := ?_) | refine RW.op (And.intro (uM) (e1)) (h := ?_) | refine RW.opN (And.intro (uM) (e1)) (h := ?_) | refine RW.skip0 (h := ?_) | (refine RW.callC (h := ?_); (first | refine CallP.mk (And.intro (uM) (e1)) (hs := (fun _ _ h => h)) (hc := none_at4 hs hlt hn0) (h := ?_))))); refine RW.nil ⟨conf_of (by kernel_rfl), Pruned.mk (h := ?_)⟩)
      (refine SW.regL [0, 2, 3, 5, 7, 11, 12, 13] mixed ?_; (repeat (first | refine RW.ro (e1) (h := ?_) | refine RW.skip (h := ?_) | refine RW.op (e1) (h := ?_) | refine RW.opN (e1) (h := ?_) | refine RW.skip0 (h := ?_) | (refine RW.callC (h := ?_); (first | refine CallP.mk (e1) (hs := (fun _ _ h => h)) (hc := none_at4 hs hlt hn0) (h := ?_))))); refine RW.nil ⟨conf_of (by kernel_rfl), Pruned.mk (h := ?_)⟩)
      exact ⟨⟨i + 1, by omega⟩, id, by simp; omega, Weak.same (by simp) (by simp [EnvW, List.lookup, SV.ren, SV.rens_id, SV.ok, hm, Tk.wsum, hx, wlen, e1]) (Tk.okk hlt) (lk_of_nodup (Tk.nodup hs))⟩
  · have h1 : decide ((i : Int) < 8) = false := by simp only [decide_eq_false_iff_not]; omega
    have e : i = 8 := by omega
    subst e
    refine SW.seq ?_
    (refine SW.regL [0, 2, 3, 5, 7, 11, 12, 13] mixed ?_; (repeat (first | refine RW.ro (h1) (h := ?_) | refine RW.skip (h := ?_) | refine RW.op (h1) (h := ?_) | refine RW.opN (h1) (h := ?_) | refine RW.skip0 (h := ?_) | (refine RW.callC (h := ?_); (first | refine CallP.mk (h1) (hs := (fun _ _ h => h)) (hc := none_at4 hs hlt hn0) (h := ?_))))); refine RW.nil ⟨conf_of (by kernel_rfl), Pruned.mk (h := ?_)⟩)
    refine SW.seq (SW.condF rfl (SW.exit ?_))
    refine (?_ : Sl.SW _ _ _ _ _ _)
    refine SW.seq ?_
    (refine SW.regL [0, 2, 3, 5, 7, 11, 12, 13] mixed ?_; (repeat (first | refine RW.ro bq_tt (h := ?_) | refine RW.skip (h := ?_) | refine RW.op bq_tt (h := ?_) | refine RW.opN bq_tt (h := ?_) | refine RW.skip0 (h := ?_) | (refine RW.callC (h := ?_); (first | refine CallP.mk bq_tt (hs := (fun _ _ h => h)) (hc := none_at4 hs hlt hn0) (h := ?_))))); refine RW.nil ⟨conf_of (by kernel_rfl), Pruned.mk (h := ?_)⟩)
    refine SW.ret ?_
    exact End.mk T.hp (h3 := fun _ _ h => h) (h4 := ⟨rfl, rfl⟩) (h6 := Tk.okk hlt)
end
end Go.Proofs.Ytacdkgkpoelhdaa
namespace Go.Proofs.Ytacdkgkpoelhdaa
open Go.Sl Go.Proofs
def newT (n own k : Nat) : Tk := ⟨k, fun r => k + 1 + r, n, own, Vec.zero, fun _ => Vec.zero, fun _ => none⟩
theorem newT_sep (n own k : Nat) : (newT n own k).sep := ⟨fun r _ => by show k + 1 + r ≠ k; omega, fun r s _ _ h => by have h : k + 1 + r = k + 1 + s := h; omega⟩
theorem newT_lt (n own k : Nat) : (newT n own k).lt (k + 9) := ⟨by show k < k + 9; omega, fun r hr => by show k + 1 + r < k + 9; omega⟩
theorem newT_ww (n own k : Nat) : (newT n own k).ww := fun r hr L cl h => by cases h
def mm (k : Nat) : Nat → Hp
  | 0 => []
  | j + 1 => (k + 1 + j, .nomap) :: mm k j
def newC (n own k j : Nat) : List SV :=
  i64 n :: u8 own :: (Vec.zero.cells ++ (Vec.zero.cells ++ (Vec.zero.cells ++ (Vec.zero.cells ++ (Vec.zero.cells ++ (Vec.zero.cells ++ (Vec.zero.cells ++ (Vec.zero.cells ++ (Vec.zero.cells ++
    ((List.range j).map (fun i => SV.mp (k + 1 + i)) ++ List.replicate (8 - j) (.d .nilm)))))))))))
theorem newC_get (n own k : Nat) : ∀ {j : Nat}, j < 8 → (newC n own k j)[74 + j]? = some (.d .nilm)
  | 0, _ | 1, _ | 2, _ | 3, _ | 4, _ | 5, _ | 6, _ | 7, _ => rfl
  | j + 8, h => by omega
theorem newC_set (n own k : Nat) : ∀ {j : Nat}, j < 8 → (newC n own k j).set (74 + j) (.mp (k + 1 + j)) = newC n own k (j + 1)
  | 0, _ | 1, _ | 2, _ | 3, _ | 4, _ | 5, _ | 6, _ | 7, _ => rfl
  | j + 8, h => by omega
theorem mm_lk (k : Nat) (o : Ob) : ∀ j, lk (mm k j ++ [(k, o)]) k = some o
  | 0 => by simp [mm, lk_cons]
  | j + 1 => by
    simp only [mm, List.cons_append]
    rw [lk_cons, if_neg (by omega)]
    exact mm_lk k o j
theorem mm_hrep (k : Nat) (o o' : Ob) : ∀ j, hrep (mm k j ++ [(k, o)]) k o' = mm k j ++ [(k, o')]
  | 0 => by simp [mm, hrep]
  | j + 1 => by
    simp only [mm, List.cons_append, hrep]
    rw [if_neg (by omega), mm_hrep k o o' j]
theorem SW.nilmaps {P : Program} {N k0 : Nat} {s : SCo} {Q : Exit → St → Prop} {env : List (Nat × SV)} (n own k : Nat) : ∀ (j : Nat), j ≤ 8 →
    Sl.SW P N k0 s ⟨env, mm k j ++ [(k, .box 86 (newC n own k j))], k + 1 + j⟩ Q → Sl.SW P N k0 s ⟨env, mm k 0 ++ [(k, .box 86 (newC n own k 0))], k + 1⟩ Q
  | 0, _, h => h
  | j + 1, hj, h => by
    refine SW.nilmaps n own k j (by omega) (SW.nilmap (st := ⟨env, mm k j ++ [(k, .box 86 (newC n own k j))], k + 1 + j⟩) k (74 + j) (mm_lk k _ j) (newC_get n own k (by omega)) ?_)
    have e : hset (mm k j ++ [(k, .box 86 (newC n own k j))]) k (.box 86 ((newC n own k j).set (74 + j) (.mp (k + 1 + j)))) = mm k j ++ [(k, .box 86 (newC n own k (j + 1)))] := by
      unfold hset
      rw [mm_lk]
      dsimp only
      rw [mm_hrep, newC_set n own k (by omega)]
    show Sl.SW P N k0 s ⟨env, (k + 1 + j, .nomap) :: hset (mm k j ++ [(k, .box 86 (newC n own k j))]) k (.box 86 ((newC n own k j).set (74 + j) (.mp (k + 1 + j)))), k + 1 + j + 1⟩ Q
    rw [e]
    exact h
theorem new_sub (n own k : Nat) : HSub (newT n own k).hp (mm k 8 ++ [(k, .box 86 (newC n own k 8))]) := fun m ob h => by
  have hm : (m, ob) ∈ (newT n own k).hp := by
    have : ∀ {h : Hp}, lk h m = some ob → (m, ob) ∈ h := by
      intro h
      induction h with
      | nil => intro h; simp [lk_nil] at h
      | cons y h ih =>
        intro hl
        rw [lk_cons] at hl
        split at hl
        · rename_i e; subst e; injection hl with hl; subst hl; simp
        · exact List.mem_cons_of_mem _ (ih hl)
    exact this h
  rcases Tk.mem_hp hm with e | ⟨r, hr, e⟩
  · injection e with e1 e2
    rw [e1, e2]
    exact mm_lk k _ 8
  · injection e with e1 e2
    rw [e1, e2]
    show lk _ (k + 1 + r) = some .nomap
    match r, hr with
    | 0, _ | 1, _ | 2, _ | 3, _ | 4, _ | 5, _ | 6, _ | 7, _ => simp [mm, lk_cons]
section
attribute [local irreducible] SW RW SCd SC CallP Pruned
set_option maxHeartbeats 1000000 in
theorem new_sb4 (n own : Nat) (hn : 1 ≤ n ∧ n ≤ 8) (ho : own < n) (k : Nat) : SB Try.prog stable_New.f [i64 n, u8 own] [] k 9 fun x F => x = .tup [.ptr k 0, i64 0] ∧ F = (newT n own k).hp := by
  refine stable_New.enter (by simp [SV.ok, SV.oks]) rfl (by simp) ?_
  unfold stable_New.s
  have h1 : decide ((n : Int) < 1) = false := by simp only [decide_eq_false_iff_not]; omega
  have h2 : decide ((n : Int) > 8) = false := by simp only [decide_eq_false_iff_not]; omega
  have h3 : decide ((own : Int) ≥ n) = false := by simp only [decide_eq_false_iff_not]; omega
  refine SW.seq ?_
  (refine SW.regL [0, 1, 4, 5, 17] mixed ?_; (repeat (first | refine RW.ro bq_tt (h := ?_) | refine RW.skip (h := ?_) | refine RW.op bq_tt (h := ?_) | refine RW.opN bq_tt (h := ?_) | refine RW.skip0 (h := ?_))); refine RW.nil ⟨conf_of (by kernel_rfl), Pruned.mk (h := ?_)⟩)
  refine SW.seq (SW.seq ?_)
  (have fx := (And.intro (h1) (And.intro (h2) (h3))); refine SW.regL [0, 1, 4, 5, 17] mixed ?_; (repeat (first | refine RW.ro fx (h := ?_) | refine RW.skip (h := ?_) | refine RW.op fx (h := ?_) | refine RW.opN fx (h := ?_) | refine RW.skip0 (h := ?_))); refine RW.nil ⟨conf_of (by kernel_rfl), Pruned.mk (h := ?_)⟩)
  refine SW.condF rfl (SW.skip ?_)
  refine SW.seq ?_
  have s1 : ∀ (cs : List SV) (o : Nat) (c : SV), spl cs o [c] = cs.set o c := fun _ _ _ => rfl
  have s2 : ∀ (x y : SV) (l : List SV), (x :: l).set 0 y = y :: l := fun _ _ _ => rfl
  have s3 : ∀ (x z y : SV) (l : List SV), (x :: z :: l).set 1 y = x :: y :: l := fun _ _ _ _ => rfl
  dsimp only
  (have fx := (And.intro (s1) (And.intro (s2) (s3))); refine SW.regL [0, 1, 4, 5, 17] mixed ?_; (repeat (first | refine RW.ro fx (h := ?_) | refine RW.skip (h := ?_) | refine RW.op fx (h := ?_) | refine RW.opN fx (h := ?_) | refine RW.skip0 (h := ?_))); refine RW.nil ⟨conf_of (by kernel_rfl), Pruned.mk (h := ?_)⟩)
  refine SW.nilmaps n own k 8 (by omega) (SW.ret ?_)
  refine End.mk (newT n own k).hp (h3 := new_sub n own k) (h4 := ⟨rfl, rfl⟩) (h5 := by simp [retV, SV.ok, SV.oks]) (h6 := Tk.okk (newT_lt n own k))
theorem new_at4 (n own : Nat) (hn : 1 ≤ n ∧ n ≤ 8) (ho : own < n) (k : Nat) : SCd Try.prog stable_New.f [i64 n, u8 own] [] k 9 (.tup [.ptr k 0, i64 0]) (newT n own k).hp := by
  unfold SCd
  refine (new_sb4 n own hn ho k).here (fun _ => false) (fun n h => by cases h) rfl rfl ?_
  rintro x F ⟨rfl, rfl⟩ _ _
  refine ⟨by simp [SV.ok, SV.oks], Tk.ok ?_ fun r hr => ?_⟩
  · show (false || (decide (k ≤ k) && decide (k < k + 9))) = true
    simp
  · show (false || (decide (k ≤ k + 1 + r) && decide (k + 1 + r < k + 9))) = true
    simp; omega
set_option maxHeartbeats 1000000 in
theorem new0_sb (n : Int) (own : Nat) (hn : -9223372036854775808 ≤ n ∧ n < 9223372036854775808) (ho : own < 256) (hbad : ¬ (1 ≤ n ∧ n ≤ 8 ∧ (own : Int) < n)) : Go.Sl.Pure Try.prog stable_New.f [i64 n, u8 own] (.tup [.d .nilp, i64 2]) := by
  refine stable_New.enter (by first | rfl | simp [SV.ok, SV.oks]) (by first | rfl | simp [Hp.ok, Ob.ok, SV.ok, SV.oks, Vec.cells_ok]) (by simp) ?_
  unfold stable_New.s
  refine SW.seq ?_
  (refine SW.regL [0, 1, 4, 5, 17] mixed ?_; (repeat (first | refine RW.ro bq_tt (h := ?_) | refine RW.skip (h := ?_) | refine RW.op bq_tt (h := ?_) | refine RW.opN bq_tt (h := ?_) | refine RW.skip0 (h := ?_))); refine RW.nil ⟨conf_of (by kernel_rfl), Pruned.mk (h := ?_)⟩)
  refine SW.seq (SW.seq ?_)
  rcases h1 : decide (n < 1) with _ | _
  · rcases h2 : decide (n > 8) with _ | _
    · have h3 : decide ((own : Int) ≥ n) = true := by
        simp only [decide_eq_false_iff_not, decide_eq_true_eq] at *; omega
      (have fx := (And.intro (h1) (And.intro (h2) (h3))); refine SW.regL [0, 1, 4, 5, 17] mixed ?_; (repeat (first | refine RW.ro fx (h := ?_) | refine RW.skip (h := ?_) | refine RW.op fx (h := ?_) | refine RW.opN fx (h := ?_) | refine RW.skip0 (h := ?_))); refine RW.nil ⟨conf_of (by kernel_rfl), Pruned.mk (h := ?_)⟩)
      refine SW.condT rfl (SW.seq ?_)
      (refine SW.regL [0, 1, 4, 5, 17] mixed ?_; (repeat (first | refine RW.ro bq_tt (h := ?_) | refine RW.skip (h := ?_) | refine RW.op bq_tt (h := ?_) | refine RW.opN bq_tt (h := ?_) | refine RW.skip0 (h := ?_))); refine RW.nil ⟨conf_of (by kernel_rfl), Pruned.mk (h := ?_)⟩)
      refine SW.ret ?_
      exact End.mk [] (h4 := ⟨rfl, rfl⟩)
    · (refine SW.regL [0, 1, 4, 5, 17] mixed ?_; (repeat (first | refine RW.ro (And.intro (h1) (h2)) (h := ?_) | refine RW.skip (h := ?_) | refine RW.op (And.intro (h1) (h2)) (h := ?_) | refine RW.opN (And.intro (h1) (h2)) (h := ?_) | refine RW.skip0 (h := ?_))); refine RW.nil ⟨conf_of (by kernel_rfl), Pruned.mk (h := ?_)⟩)
      refine SW.condT rfl (SW.seq ?_)
      (refine SW.regL [0, 1, 4, 5, 17] mixed ?_; (repeat (first | refine RW.ro bq_tt (h := ?_) | refine RW.skip (h := ?_) | refine RW.op bq_tt (h := ?_) | refine RW.opN bq_tt (h := ?_) | refine RW.skip0 (h := ?_))); refine RW.nil ⟨conf_of (by kernel_rfl), Pruned.mk (h := ?_)⟩)
      refine SW.ret ?_
      exact End.mk [] (h4 := ⟨rfl, rfl⟩)
  · (refine SW.regL [0, 1, 4, 5, 17] mixed ?_; (repeat (first | refine RW.ro (h1) (h := ?_) | refine RW.skip (h := ?_) | refine RW.op (h1) (h := ?_) | refine RW.opN (h1) (h := ?_) | refine RW.skip0 (h := ?_))); refine RW.nil ⟨conf_of (by kernel_rfl), Pruned.mk (h := ?_)⟩)
    refine SW.condT rfl (SW.seq ?_)
    (refine SW.regL [0, 1, 4, 5, 17] mixed ?_; (repeat (first | refine RW.ro bq_tt (h := ?_) | refine RW.skip (h := ?_) | refine RW.op bq_tt (h := ?_) | refine RW.opN bq_tt (h := ?_) | refine RW.skip0 (h := ?_))); refine RW.nil ⟨conf_of (by kernel_rfl), Pruned.mk (h := ?_)⟩)
    refine SW.ret ?_
    exact End.mk [] (h4 := ⟨rfl, rfl⟩)
end
end Go.Proofs.Ytacdkgkpoelhdaa
namespace Go.Proofs.Ytacdkgkpoelhdaa
open Go.Sl Go.Proofs
structure Tk.good (T : Tk) (k : Nat) : Prop where
  sep : T.sep
  lt : T.lt k
  ww : T.ww
  n0 : T.n ≠ 0
  n8 : T.n ≤ 8
  own : T.own < T.n
theorem Tk.good.own8 {T : Tk} {k : Nat} (h : T.good k) : T.own < 8 := Nat.lt_of_lt_of_le h.own h.n8
theorem Tk.good.mono {T : Tk} {k k' : Nat} (h : T.good k) (hk : k ≤ k') : T.good k' :=
  ⟨h.sep, ⟨Nat.lt_of_lt_of_le h.lt.bx hk, fun r hr => Nat.lt_of_lt_of_le (h.lt.nm r hr) hk⟩, h.ww, h.n0, h.n8, h.own⟩
theorem newT_good {n own : Nat} (hn : 1 ≤ n ∧ n ≤ 8) (ho : own < n) (k : Nat) : (newT n own k).good (k + 9) :=
  ⟨newT_sep n own k, newT_lt n own k, newT_ww n own k, by show n ≠ 0; omega, hn.2, ho⟩
theorem Tk.settle_ww {T : Tk} (h : T.ww) : T.settle.ww := Tk.settTo_ww h T.n
theorem Tk.settle_good {T : Tk} {k : Nat} (h : T.good k) : T.settle.good k := by
  obtain ⟨b1, b2, b3, b4, b5⟩ := T.settTo_bx T.n
  have e3 : T.settle.n = T.n := b3
  have e4 : T.settle.own = T.own := b4
  exact ⟨Tk.sep_of h.sep b1 b2, Tk.lt_of h.lt b1 b2, Tk.settle_ww h.ww, by rw [e3]; exact h.n0, by rw [e3]; exact h.n8, by rw [e3, e4]; exact h.own⟩
theorem Tk.hasV_good {T : Tk} {k : Nat} (h : T.good k) (v : Vec) : (T.hasV v).1.good k := by
  unfold Tk.hasV
  split
  · exact h
  split
  · exact h
  · exact Tk.settle_good (T := T.setH v) ⟨⟨h.sep.bx, h.sep.inj⟩, ⟨h.lt.bx, h.lt.nm⟩, h.ww, h.n0, h.n8, h.own⟩
theorem Tk.hearV_good {T : Tk} {k : Nat} (h : T.good k) (r : Nat) (v : Vec) : (T.hearV r v k).1.good (k + 1) := by
  unfold Tk.hearV
  split
  · exact h.mono (Nat.le_succ _)
  rename_i hr
  split
  · exact h.mono (Nat.le_succ _)
  split
  · split <;> exact h.mono (Nat.le_succ _)
  · refine Tk.settle_good ?_
    obtain ⟨b1, b2, b3, b4⟩ := (T.opn r k).addw_bx r v
    obtain ⟨o1, o2, o3, _⟩ := T.opn_bx r k
    have := h.n8
    exact ⟨Tk.sep_of (Tk.opn_sep h.sep h.lt) b1 b2, Tk.lt_of (Tk.opn_lt h.lt) b1 b2, Tk.addw_ww (Tk.opn_ww h.ww r k) (by omega) v, by rw [b3, o2]; exact h.n0, by rw [b3, o2]; exact h.n8, by rw [b3, b4, o2, o3]; exact h.own⟩
end Go.Proofs.Ytacdkgkpoelhdaa
namespace Go.Proofs.Ytacdkgkpoelhdaa
open Go.Sl Go.Proofs
abbrev v2 (a b : Nat) : Vec := ⟨a, b, 0, 0, 0, 0, 0, 0⟩
def hd0 : Tk := newT 2 0 0
def hd1 : Tk := (hd0.hasV (v2 2 0)).1
def hd2 : Tk := (hd1.hearV 1 (v2 1 0) 16).1
def hd3 : Tk := (hd2.hearV 1 (v2 2 1) 24).1
def hd4 : Tk := (hd3.hasV (v2 2 1)).1
def hd5 : Tk := (hd4.hasV (v2 1 1)).1
def hd6 : Tk := (hd5.hearV 2 (v2 0 0) 44).1
theorem hd_codes : (hd0.hasV (v2 2 0)).2 = 0 ∧ (hd1.hearV 1 (v2 1 0) 16).2 = 0 ∧ (hd2.hearV 1 (v2 2 1) 24).2 = 0 ∧ (hd3.hasV (v2 2 1)).2 = 0 ∧ (hd4.hasV (v2 1 1)).2 = 9 ∧ (hd5.hearV 2 (v2 0 0) 44).2 = 2 ∧ (hd6.hearV 0 (v2 9 0) 50).2 = 9 := by
  refine ⟨?_, ?_, ?_, ?_, ?_, ?_, ?_⟩ <;> decide +kernel
theorem hd_stab : hd2.stab = v2 1 0 ∧ hd3.stab = v2 1 0 ∧ hd4.stab = v2 2 1 := by
  refine ⟨?_, ?_, ?_⟩ <;> decide +kernel
theorem hd_wait : hd3.wsum 8 = 1 ∧ hd4.wsum 8 = 0 := by
  refine ⟨?_, ?_⟩ <;> decide +kernel
section
attribute [local irreducible] SW RW SCd SC CallP Pruned
theorem v_ok (a b : Nat) : Go.Sl.Pure Try.prog law12_v.f [u32 a, u32 b] (.agg (v2 a b).cells) := by
  refine law12_v.enter (by first | rfl | simp [SV.ok, SV.oks]) (by first | rfl | simp [Hp.ok, Ob.ok, SV.ok, SV.oks, Vec.cells_ok]) (by simp) ?_
  unfold law12_v.s
  have s1 : ∀ (cs : List SV) (o : Nat) (c : SV), spl cs o [c] = cs.set o c := fun _ _ _ => rfl
  have s2 : ∀ (c : SV), Vec.zero.cells.set 0 c = [c, u32 0, u32 0, u32 0, u32 0, u32 0, u32 0, u32 0] := fun _ => rfl
  have s3 : ∀ (x z y : SV) (l : List SV), (x :: z :: l).set 1 y = x :: y :: l := fun _ _ _ _ => rfl
  have s4 : spl Vec.zero.cells 0 [u32 a, u32 b, u32 0, u32 0, u32 0, u32 0, u32 0, u32 0] = (v2 a b).cells := rfl
  (repeat (first | refine SW.seq ?_ | refine SW.block ?_ | (have fx := (And.intro (s1) (And.intro (s2) (And.intro (s3) (s4)))); refine SW.regL [0, 1, 4] mixed ?_; (repeat (first | refine RW.ro fx (h := ?_) | refine RW.skip (h := ?_) | refine RW.op fx (h := ?_) | refine RW.opN fx (h := ?_) | refine RW.skip0 (h := ?_))); refine RW.nil ⟨by kernel_rfl, Pruned.mk (h := ?_)⟩) | refine SW.skip ?_ | refine SW.exit ?_ | refine SW.ret ?_ | refine SW.condT rfl ?_ | refine SW.condF rfl ?_))
  exact End.mk [] (h4 := ⟨rfl, rfl⟩)
theorem v_at (a b k : Nat) : SCd Try.prog law12_v.f [.d (.int .u32 (a : Int)), .d (.int .u32 (b : Int))] [] k 0 (.agg (v2 a b).cells) [] := (v_ok a b).sc rfl k
end
end Go.Proofs.Ytacdkgkpoelhdaa
namespace Go.Proofs.Ytacdkgkpoelhdaa
open Go.Sl Go.Proofs
theorem hmrg_self {h : Hp} : ∀ {F : Hp}, (∀ x, x ∈ F → lk h x.1 = some x.2) → hsets h F = h
  | [], _ => rfl
  | (n, o) :: F, hx => by
    simp only [hsets]
    rw [hmrg_self fun x h => hx x (List.mem_cons_of_mem _ h)]
    exact hset_same (hx (n, o) (by simp))
theorem Tk.selfX {T : Tk} (hs : T.sep) {X : Hp} (h : HSub T.hp X) : hsets (hdels X T.hp T.hp) T.hp = X := by
  rw [hdels_same fun n hn => by obtain ⟨o, ho⟩ := lk_of_mem hn; rw [ho]; rfl]
  exact hmrg_self fun x hx => h _ _ (lk_of_nodup (Tk.nodup hs) x hx)
theorem lkX {H F F' : Hp} (hs : HSub F H) : lk (hsets (hdels H F' F) F') = mrg (lk H) (lk F) (lk F') := by
  have := lk_hmrg (ro := false) hs (F' := F') (fun h => by cases h)
  exact this
theorem subX {H F F' : Hp} (hs : HSub F H) : HSub F' (hsets (hdels H F' F) F') := fun n ob h => by
  rw [lkX hs, mrg_in (.inr (by rw [h]; simp)), h]
theorem outX {H F F' : Hp} (hs : HSub F H) {n : Nat} (h1 : lk F n = none) (h2 : lk F' n = none) : lk (hsets (hdels H F' F) F') n = lk H n := by
  rw [lkX hs, mrg_out h1 h2]
theorem g0 : hd0.good 9 := newT_good (by omega) (by omega) 0
theorem g1 : hd1.good 9 := Tk.hasV_good g0 _
theorem g2 : hd2.good 17 := Tk.hearV_good (k := 16) (g1.mono (by omega)) 1 _
theorem g3 : hd3.good 25 := Tk.hearV_good (k := 24) (g2.mono (by omega)) 1 _
theorem g4 : hd4.good 25 := Tk.hasV_good g3 _
theorem g5 : hd5.good 25 := Tk.hasV_good g4 _
theorem g6 : hd6.good 45 := Tk.hearV_good (k := 44) (g5.mono (by omega)) 2 _
theorem b0 : hd0.bx = 0 := rfl
theorem b1 : hd1.bx = 0 := (hd0.hasV_bx _).1.trans b0
theorem b2 : hd2.bx = 0 := (hd1.hear_nm _ _ _).1.trans b1
theorem b3 : hd3.bx = 0 := (hd2.hear_nm _ _ _).1.trans b2
theorem b4 : hd4.bx = 0 := (hd3.hasV_bx _).1.trans b3
theorem b5 : hd5.bx = 0 := (hd4.hasV_bx _).1.trans b4
theorem b6 : hd6.bx = 0 := (hd5.hear_nm _ _ _).1.trans b5
section
attribute [local irreducible] SW RW SCd SC CallP Pruned
theorem c14 : SCd Try.prog stable_Tracker_Has.f [.ptr 0 0, .agg (v2 2 0).cells] hd0.hp 9 5 (.d (.int .i64 0)) hd1.hp := by
  have h := has_at g0.sep g0.lt g0.n0 g0.n8 g0.own8 g0.ww (v2 2 0)
  rw [hd_codes.1, b0] at h; exact h
theorem c24 : SCd Try.prog stable_Tracker_Hear.f [.ptr 0 0, .d (.int .u8 1), .agg (v2 1 0).cells] hd1.hp 14 6 (.d (.int .i64 0)) hd2.hp := by
  have g := g1.mono (k' := 14) (by omega)
  have h := hear_at g.sep g.lt g.n0 g.n8 g.own8 g.ww 1 (by omega) (v2 1 0)
  rw [show (14 + 2 : Nat) = 16 from rfl, hd_codes.2.1, b1] at h; exact h
theorem c34 : SCd Try.prog stable_Tracker_Stable.f [.ptr 0 0] hd2.hp 20 1 (.agg (v2 1 0).cells) hd2.hp := by
  have g := g2.mono (k' := 20) (by omega)
  have h := stable_at g.sep g.lt g.n0 g.n8
  rw [hd_stab.1, b2] at h; exact h
theorem c4 : SCd Try.prog stable_Tracker_Hear.f [.ptr 0 0, .d (.int .u8 1), .agg (v2 2 1).cells] hd2.hp 22 6 (.d (.int .i64 0)) hd3.hp := by
  have g := g2.mono (k' := 22) (by omega)
  have h := hear_at g.sep g.lt g.n0 g.n8 g.own8 g.ww 1 (by omega) (v2 2 1)
  rw [show (22 + 2 : Nat) = 24 from rfl, hd_codes.2.2.1, b2] at h; exact h
theorem c5 : SCd Try.prog stable_Tracker_Stable.f [.ptr 0 0] hd3.hp 28 1 (.agg (v2 1 0).cells) hd3.hp := by
  have g := g3.mono (k' := 28) (by omega)
  have h := stable_at g.sep g.lt g.n0 g.n8
  rw [hd_stab.2.1, b3] at h; exact h
theorem wle {T : Tk} {i : Nat} (h : ∀ i, i < 9 → T.wsum i < 100) : ∀ i, i ≤ 8 → T.wsum i < 9223372036854775808 := fun i hi => by have := h i (by omega); omega
theorem w3 : ∀ i, i < 9 → hd3.wsum i < 100 := by decide +kernel
theorem w4 : ∀ i, i < 9 → hd4.wsum i < 100 := by decide +kernel
theorem c6 : SCd Try.prog stable_Tracker_Waits.f [.ptr 0 0] hd3.hp 29 0 (.d (.int .i64 1)) hd3.hp := by
  have g := g3.mono (k' := 29) (by omega)
  have h := waits_at g.sep g.lt g.n0 (wle (i := 0) w3)
  rw [hd_wait.1, b3] at h; exact h
theorem c7 : SCd Try.prog stable_Tracker_Has.f [.ptr 0 0, .agg (v2 2 1).cells] hd3.hp 30 5 (.d (.int .i64 0)) hd4.hp := by
  have g := g3.mono (k' := 30) (by omega)
  have h := has_at g.sep g.lt g.n0 g.n8 g.own8 g.ww (v2 2 1)
  rw [hd_codes.2.2.2.1, b3] at h; exact h
theorem c8 : SCd Try.prog stable_Tracker_Stable.f [.ptr 0 0] hd4.hp 35 1 (.agg (v2 2 1).cells) hd4.hp := by
  have g := g4.mono (k' := 35) (by omega)
  have h := stable_at g.sep g.lt g.n0 g.n8
  rw [hd_stab.2.2, b4] at h; exact h
theorem c9 : SCd Try.prog stable_Tracker_Waits.f [.ptr 0 0] hd4.hp 36 0 (.d (.int .i64 0)) hd4.hp := by
  have g := g4.mono (k' := 36) (by omega)
  have h := waits_at g.sep g.lt g.n0 (wle (i := 0) w4)
  rw [hd_wait.2, b4] at h; exact h
theorem c10 : SCd Try.prog stable_Tracker_Has.f [.ptr 0 0, .agg (v2 1 1).cells] hd4.hp 37 5 (.d (.int .i64 9)) hd5.hp := by
  have g := g4.mono (k' := 37) (by omega)
  have h := has_at g.sep g.lt g.n0 g.n8 g.own8 g.ww (v2 1 1)
  rw [hd_codes.2.2.2.2.1, b4] at h; exact h
theorem c11 : SCd Try.prog stable_Tracker_Hear.f [.ptr 0 0, .d (.int .u8 2), .agg (v2 0 0).cells] hd5.hp 42 6 (.d (.int .i64 2)) hd6.hp := by
  have g := g5.mono (k' := 42) (by omega)
  have h := hear_at g.sep g.lt g.n0 g.n8 g.own8 g.ww 2 (by omega) (v2 0 0)
  rw [show (42 + 2 : Nat) = 44 from rfl, hd_codes.2.2.2.2.2.1, b5] at h; exact h
theorem c12 : SCd Try.prog stable_Tracker_Hear.f [.ptr 0 0, .d (.int .u8 0), .agg (v2 9 0).cells] hd6.hp 48 6 (.d (.int .i64 9)) (hd6.hearV 0 (v2 9 0) 50).1.hp := by
  have g := g6.mono (k' := 48) (by omega)
  have h := hear_at g.sep g.lt g.n0 g.n8 g.own8 g.ww 0 (by omega) (v2 9 0)
  rw [show (48 + 2 : Nat) = 50 from rfl, hd_codes.2.2.2.2.2.2, b6] at h; exact h
end
end Go.Proofs.Ytacdkgkpoelhdaa
namespace Go.Proofs.Ytacdkgkpoelhdaa
open Go.Sl Go.Proofs
theorem c0 : SCd Try.prog stable_New.f [.d (.int .i64 2), .d (.int .u8 0)] [] 0 9 (.tup [.ptr 0 0, .d (.int .i64 0)]) hd0.hp := new_at4 2 0 (by omega) (by omega) 0
abbrev vb (x : Vec) : Ob := .box 25 x.cells
theorem lkg {T : Tk} {k n : Nat} (h : T.good k) (hn : k ≤ n) : lk T.hp n = none := Tk.lkk h.lt hn
theorem okg {T : Tk} {k n : Nat} (h : T.good k) (hn : k ≤ n) : T.hp.ok (fun m => decide (m < n)) = true := Hp.ok_less hn (Tk.okk h.lt)
theorem n1 : hd1.bx = hd0.bx ∧ hd1.nm = hd0.nm := hd0.hasV_bx _
theorem n4 : hd4.bx = hd3.bx ∧ hd4.nm = hd3.nm := hd3.hasV_bx _
theorem n5 : hd5.bx = hd4.bx ∧ hd5.nm = hd4.nm := hd4.hasV_bx _
theorem subc {T : Tk} {k n : Nat} {o : Ob} (h : T.good k) (hn : k ≤ n) : HSub T.hp ((n, o) :: T.hp) := Tk.hsub1 (h.mono hn).lt
theorem sub_cons {F H : Hp} {n : Nat} {o : Ob} (hn : lk F n = none) (h : HSub F H) : HSub F ((n, o) :: H) := fun m ob hm => by
  rw [lk_cons, if_neg fun e => by rw [e, hn] at hm; cases hm]
  exact h m ob hm
theorem nd_cons {H : Hp} {n : Nat} {o : Ob} (hn : lk H n = none) (h : (H.map (·.1)).Nodup) : (((n, o) :: H).map (·.1)).Nodup := by
  rw [List.map_cons, List.nodup_cons]
  refine ⟨fun hm => ?_, h⟩
  obtain ⟨o', ho⟩ := lk_of_mem hm
  rw [hn] at ho; cases ho
theorem ok_vb {H : Hp} {n kx : Nat} {x : Vec} (h : H.ok (fun m => decide (m < kx)) = true) (hn : n < kx) : Hp.ok (fun m => decide (m < kx)) ((n, vb x) :: H) = true := by
  simp only [Hp.ok, List.all_cons, vbox_ok, Bool.and_true, Bool.and_eq_true, decide_eq_true_eq] at h ⊢
  exact ⟨hn, h⟩
theorem z3 : lk hd3.hp 21 = none := Tk.lko (by rw [b3]; decide) (by decide +kernel)
theorem z4 : lk hd4.hp 21 = none := Tk.lko (by rw [b4]; decide) (by decide +kernel)
theorem z5 : lk hd5.hp 21 = none := Tk.lko (by rw [b5]; decide) (by decide +kernel)
section
attribute [local irreducible] SW RW SCd SC CallP Pruned Tk.hp hd0 hd1 hd2 hd3 hd4 hd5 hd6
set_option maxHeartbeats 4000000 in
theorem head12_ok : Go.Sl.Pure Try.prog law12_head.f [] (bl true) := by
  refine law12_head.enter (by first | rfl | simp [SV.ok, SV.oks]) (by first | rfl | simp [Hp.ok, Ob.ok, SV.ok, SV.oks, Vec.cells_ok]) (by simp) ?_
  unfold law12_head.s
  refine SW.seq ?_
  (refine SW.regL [0, 1, 2, 3, 4, 5, 6, 7, 8, 9, 10, 11, 21] mixed ?_; (repeat (first | refine RW.ro bq_tt (h := ?_) | refine RW.skip (h := ?_) | refine RW.op bq_tt (h := ?_) | refine RW.opN bq_tt (h := ?_) | refine RW.skip0 (h := ?_) | (refine RW.callC (h := ?_); (first | refine CallP.mk bq_tt (hc := c0) (h := ?_))))); refine RW.nil ⟨conf_of (by kernel_rfl), Pruned.mk (h := ?_)⟩)
  obtain ⟨Y, hY⟩ : ∃ Y, hsets [] hd0.hp = Y := ⟨_, rfl⟩
  have sY : HSub hd0.hp Y := by rw [← hY]; exact subX (H := []) (F := []) (HSub.nil _)
  refine SW.seq ?_
  (refine SW.regL [0, 1, 2, 3, 4, 5, 6, 7, 8, 9, 10, 11, 21] mixed ?_; (repeat (first | refine RW.ro (hY) (h := ?_) | refine RW.skip (h := ?_) | refine RW.op (hY) (h := ?_) | refine RW.opN (hY) (h := ?_) | refine RW.skip0 (h := ?_) | (refine RW.callC (h := ?_); (first | refine CallP.mk (hY) (hc := c0) (h := ?_))))); refine RW.nil ⟨conf_of (by kernel_rfl), Pruned.mk (h := ?_)⟩)
  refine SW.weak id (st1 := ⟨[(1, .ptr 0 0), (2, .d (.int .i64 0))], hd0.hp, 9⟩) (Weak.same (by simp) (by simp [EnvW, List.lookup, SV.ren, SV.ok]) (okg g0 (show 9 ≤ 9 by omega)) (fun x hx => sY _ _ (lk_of_nodup (Tk.nodup g0.sep) x hx))) ?_
  refine SW.seq (SW.seq ?_)
  (refine SW.regL [0, 1, 2, 3, 4, 5, 6, 7, 8, 9, 10, 11, 21] mixed ?_; (repeat (first | refine RW.ro bq_tt (h := ?_) | refine RW.skip (h := ?_) | refine RW.op bq_tt (h := ?_) | refine RW.opN bq_tt (h := ?_) | refine RW.skip0 (h := ?_))); refine RW.nil ⟨conf_of (by kernel_rfl), Pruned.mk (h := ?_)⟩)
  refine SW.condF rfl (SW.skip ?_)
  have a1 : hsets (hdels hd0.hp hd1.hp hd0.hp) hd1.hp = hd1.hp := Tk.mrg0 g0.sep n1.1 n1.2
  obtain ⟨X2, h2⟩ : ∃ X, hsets (hdels hd1.hp hd2.hp hd1.hp) hd2.hp = X := ⟨_, rfl⟩
  have s2 : HSub hd2.hp X2 := by rw [← h2]; exact subX fun _ _ h => h
  have a2 : hsets (hdels X2 hd2.hp hd2.hp) hd2.hp = X2 := Tk.selfX g2.sep s2
  have e2 : List.lookup 21 X2 = none := by
    show lk X2 21 = none
    rw [← h2, outX (fun _ _ h => h) (lkg g1 (by omega)) (lkg g2 (by omega))]; exact lkg g1 (by omega)
  refine SW.seq ?_
  (have fx := (And.intro (a1) (And.intro (h2) (And.intro (a2) (e2)))); refine SW.regL [0, 1, 2, 3, 4, 5, 6, 7, 8, 9, 10, 11, 21] mixed ?_; (repeat (first | refine RW.ro fx (h := ?_) | refine RW.skip (h := ?_) | refine RW.op fx (h := ?_) | refine RW.opN fx (h := ?_) | refine RW.skip0 (h := ?_) | (refine RW.callC (h := ?_); (first | refine CallP.mk fx (hc := v_at 2 0 _) (h := ?_) | refine CallP.mk fx (hc := v_at 1 0 _) (h := ?_) | refine CallP.mk fx (hs := (fun _ _ h => h)) (hc := c14) (h := ?_) | refine CallP.mk fx (hs := (fun _ _ h => h)) (hc := c24) (h := ?_) | refine CallP.mk fx (hs := s2) (hc := c34) (h := ?_))))); refine RW.nil ⟨conf_of (by kernel_rfl), Pruned.mk (h := ?_)⟩)
  refine SW.weak id (st1 := ⟨[(1, .ptr 0 0), (3, .d (.int .i64 0)), (4, .d (.int .i64 0)), (5, .ptr 21 0)], (21, vb (v2 1 0)) :: hd2.hp, 22⟩) (Weak.same (by simp) (by simp [EnvW, List.lookup, SV.ren, SV.ok]) (ok_vb (okg g2 (show 17 ≤ 22 by omega)) (show 21 < 22 by omega)) (fun x hx => ?_)) ?_
  · rcases List.mem_cons.1 hx with rfl | hx
    · simp [lk_cons]
    · have := lk_of_nodup (Tk.nodup g2.sep) x hx
      have hne : x.1 ≠ 21 := fun e => by rw [e, lkg g2 (by omega)] at this; cases this
      rw [lk_cons, if_neg hne]
      exact s2 _ _ this
  have q2 : HSub hd2.hp ((21, vb (v2 1 0)) :: hd2.hp) := subc g2 (by omega)
  obtain ⟨X3, h3⟩ : ∃ X, hsets (hdels ((21, vb (v2 1 0)) :: hd2.hp) hd3.hp hd2.hp) hd3.hp = X := ⟨_, rfl⟩
  have s3 : HSub hd3.hp X3 := by rw [← h3]; exact subX q2
  have a3 : hsets (hdels X3 hd3.hp hd3.hp) hd3.hp = X3 := Tk.selfX g3.sep s3
  have e3 : List.lookup 29 X3 = none := by
    show lk X3 29 = none
    rw [← h3, outX q2 (lkg g2 (by omega)) (lkg g3 (by omega)), lk_cons, if_neg (by omega)]; exact lkg g2 (by omega)
  refine SW.seq ?_
  (have fx := (And.intro (h3) (And.intro (a3) (e3))); refine SW.regL [0, 1, 2, 3, 4, 5, 6, 7, 8, 9, 10, 11, 21] mixed ?_; (repeat (first | refine RW.ro fx (h := ?_) | refine RW.skip (h := ?_) | refine RW.op fx (h := ?_) | refine RW.opN fx (h := ?_) | refine RW.skip0 (h := ?_) | (refine RW.callC (h := ?_); (first | refine CallP.mk fx (hc := v_at 2 1 _) (h := ?_) | refine CallP.mk fx (hs := q2) (hc := c4) (h := ?_) | refine CallP.mk fx (hs := s3) (hc := c5) (h := ?_) | refine CallP.mk fx (hs := s3) (hc := c6) (h := ?_))))); refine RW.nil ⟨conf_of (by kernel_rfl), Pruned.mk (h := ?_)⟩)
  refine SW.weak id (st1 := ⟨[(1, .ptr 0 0), (3, .d (.int .i64 0)), (4, .d (.int .i64 0)), (5, .ptr 21 0), (6, .d (.int .i64 0)), (7, .ptr 29 0), (8, .d (.int .i64 1))], (29, vb (v2 1 0)) :: (21, vb (v2 1 0)) :: hd3.hp, 30⟩) (Weak.same (by simp) (by simp [EnvW, List.lookup, SV.ren, SV.ok]) (ok_vb (ok_vb (okg g3 (show 25 ≤ 30 by omega)) (show 21 < 30 by omega)) (show 29 < 30 by omega)) (fun x hx => ?_)) ?_
  · rcases List.mem_cons.1 hx with rfl | hx
    · simp [lk_cons]
    rcases List.mem_cons.1 hx with rfl | hx
    · show lk ((29, vb (v2 1 0)) :: X3) 21 = some (vb (v2 1 0))
      rw [lk_cons, if_neg (by omega), ← h3, outX q2 (lkg g2 (by omega)) z3, lk_cons, if_pos rfl]
    · have := lk_of_nodup (Tk.nodup g3.sep) x hx
      have hne : x.1 ≠ 29 := fun e => by rw [e, lkg g3 (by omega)] at this; cases this
      rw [lk_cons, if_neg hne]
      exact s3 _ _ this
  have q3 : HSub hd3.hp ((29, vb (v2 1 0)) :: (21, vb (v2 1 0)) :: hd3.hp) := sub_cons (lkg g3 (by omega)) (sub_cons z3 fun _ _ h => h)
  have q4 : HSub hd4.hp ((29, vb (v2 1 0)) :: (21, vb (v2 1 0)) :: hd4.hp) := sub_cons (lkg g4 (by omega)) (sub_cons z4 fun _ _ h => h)
  have a4 : hsets (hdels ((29, vb (v2 1 0)) :: (21, vb (v2 1 0)) :: hd3.hp) hd4.hp hd3.hp) hd4.hp = (29, vb (v2 1 0)) :: (21, vb (v2 1 0)) :: hd4.hp :=
    mrg_tail (pre := [(29, vb (v2 1 0)), (21, vb (v2 1 0))]) (Tk.hp_same n4.1 n4.2) (nd_cons (by show lk ((21, vb (v2 1 0)) :: hd3.hp) 29 = none; rw [lk_cons, if_neg (by omega)]; exact lkg g3 (by omega)) (nd_cons z3 (Tk.nodup g3.sep)))
  have a5 : hsets (hdels ((29, vb (v2 1 0)) :: (21, vb (v2 1 0)) :: hd4.hp) hd4.hp hd4.hp) hd4.hp = (29, vb (v2 1 0)) :: (21, vb (v2 1 0)) :: hd4.hp := Tk.selfX g4.sep q4
  have e4 : List.lookup 36 hd4.hp = none := lkg g4 (by omega)
  refine SW.seq ?_
  (have fx := (And.intro (a4) (And.intro (a5) (e4))); refine SW.regL [0, 1, 2, 3, 4, 5, 6, 7, 8, 9, 10, 11, 21] mixed ?_; (repeat (first | refine RW.ro fx (h := ?_) | refine RW.skip (h := ?_) | refine RW.op fx (h := ?_) | refine RW.opN fx (h := ?_) | refine RW.skip0 (h := ?_) | (refine RW.callC (h := ?_); (first | refine CallP.mk fx (hc := v_at 2 1 _) (h := ?_) | refine CallP.mk fx (hs := q3) (hc := c7) (h := ?_) | refine CallP.mk fx (hs := q4) (hc := c8) (h := ?_) | refine CallP.mk fx (hs := q4) (hc := c9) (h := ?_))))); refine RW.nil ⟨conf_of (by kernel_rfl), Pruned.mk (h := ?_)⟩)
  have q5 : HSub hd4.hp ((36, vb (v2 2 1)) :: (29, vb (v2 1 0)) :: (21, vb (v2 1 0)) :: hd4.hp) := sub_cons (lkg g4 (by omega)) q4
  have a6 : hsets (hdels ((36, vb (v2 2 1)) :: (29, vb (v2 1 0)) :: (21, vb (v2 1 0)) :: hd4.hp) hd5.hp hd4.hp) hd5.hp = (36, vb (v2 2 1)) :: (29, vb (v2 1 0)) :: (21, vb (v2 1 0)) :: hd5.hp :=
    mrg_tail (pre := [(36, vb (v2 2 1)), (29, vb (v2 1 0)), (21, vb (v2 1 0))]) (Tk.hp_same n5.1 n5.2) (nd_cons (by show lk ((29, vb (v2 1 0)) :: (21, vb (v2 1 0)) :: hd4.hp) 36 = none; rw [lk_cons, if_neg (by omega), lk_cons, if_neg (by omega)]; exact lkg g4 (by omega)) (nd_cons (by show lk ((21, vb (v2 1 0)) :: hd4.hp) 29 = none; rw [lk_cons, if_neg (by omega)]; exact lkg g4 (by omega)) (nd_cons z4 (Tk.nodup g4.sep))))
  have q6 : HSub hd5.hp ((36, vb (v2 2 1)) :: (29, vb (v2 1 0)) :: (21, vb (v2 1 0)) :: hd5.hp) := sub_cons (lkg g5 (by omega)) (sub_cons (lkg g5 (by omega)) (sub_cons z5 fun _ _ h => h))
  obtain ⟨X6, h6⟩ : ∃ X, hsets (hdels ((36, vb (v2 2 1)) :: (29, vb (v2 1 0)) :: (21, vb (v2 1 0)) :: hd5.hp) hd6.hp hd5.hp) hd6.hp = X := ⟨_, rfl⟩
  have s6 : HSub hd6.hp X6 := by rw [← h6]; exact subX q6
  obtain ⟨X7, h7⟩ : ∃ X, hsets (hdels X6 (hd6.hearV 0 (v2 9 0) 50).1.hp hd6.hp) (hd6.hearV 0 (v2 9 0) 50).1.hp = X := ⟨_, rfl⟩
  refine SW.seq ?_
  (have fx := (And.intro (a6) (And.intro (h6) (h7))); refine SW.regL [0, 1, 2, 3, 4, 5, 6, 7, 8, 9, 10, 11, 21] mixed ?_; (repeat (first | refine RW.ro fx (h := ?_) | refine RW.skip (h := ?_) | refine RW.op fx (h := ?_) | refine RW.opN fx (h := ?_) | refine RW.skip0 (h := ?_) | (refine RW.callC (h := ?_); (first | refine CallP.mk fx (hc := v_at 1 0 _) (h := ?_) | refine CallP.mk fx (hc := v_at 2 1 _) (h := ?_) | refine CallP.mk fx (hc := v_at 1 1 _) (h := ?_) | refine CallP.mk fx (hc := v_at 0 0 _) (h := ?_) | refine CallP.mk fx (hc := v_at 9 0 _) (h := ?_) | refine CallP.mk fx (hs := q5) (hc := c10) (h := ?_) | refine CallP.mk fx (hs := q6) (hc := c11) (h := ?_) | refine CallP.mk fx (hs := s6) (hc := c12) (h := ?_))))); refine RW.nil ⟨conf_of (by kernel_rfl), Pruned.mk (h := ?_)⟩)
  refine SW.ret ?_
  exact End.mk [] (h4 := ⟨rfl, rfl⟩)
end
end Go.Proofs.Ytacdkgkpoelhdaa
namespace Go.Proofs.Ytacdkgkpoelhdaa
open Go.Sl Go.Proofs
def wkeys : Option (VMap × Nat) → List Vec
  | none => []
  | some (L, _) => MM.keys L
theorem wkeys_len : ∀ x : Option (VMap × Nat), (wkeys x).length = wlen x
  | none => rfl
  | some (L, c) => by simp [wkeys, wlen, MM.keys]
theorem wkeys_nodup {T : Tk} (h : T.ww) {r : Nat} (hr : r < 8) : (wkeys (T.wt r)).Nodup := by
  cases e : T.wt r with
  | none => simp [wkeys]
  | some x => obtain ⟨L, c⟩ := x; exact (h r hr L c e).keys
structure Tk.Is (T : Tk) (H : Vec) (S : Nat → Vec → Prop) : Prop where
  has : T.has = H
  own : T.cnt T.own = H
  cle : ∀ r, r < T.n → r ≠ T.own → ∀ q, q < 8 → ∀ b, (T.cnt r).get q ≤ b ↔ ∀ v, S r v → v.get r ≤ H.get r → v.get q ≤ b
  wts : ∀ r, r < T.n → r ≠ T.own → ∀ v, v ∈ wkeys (T.wt r) ↔ S r v ∧ H.get r < v.get r
  wno : ∀ r, (T.n ≤ r ∨ r = T.own) → T.wt r = none
structure Tk.Pre (T : Tk) (H : Vec) (S : Nat → Vec → Prop) : Prop where
  has : T.has = H
  cle : ∀ r, r < T.n → r ≠ T.own → ∀ q, q < 8 → ∀ b, ((T.cnt r).get q ≤ b ∧ ∀ v, v ∈ wkeys (T.wt r) → v.get r ≤ H.get r → v.get q ≤ b) ↔ ∀ v, S r v → v.get r ≤ H.get r → v.get q ≤ b
  wts : ∀ r, r < T.n → r ≠ T.own → ∀ v, H.get r < v.get r → (v ∈ wkeys (T.wt r) ↔ S r v)
  wno : ∀ r, (T.n ≤ r ∨ r = T.own) → T.wt r = none
def Tk.cw (T : Tk) (r : Nat) : Vec × Option (VMap × Nat) := match T.wt r with
  | none => (T.cnt r, none)
  | some (L, c) => (settC T.has r (T.cnt r) L, some (settW T.has r (T.cnt r) L, c))
theorem Tk.sett_cw (T : Tk) (r i : Nat) : (T.sett r).cnt i = (if i = r then (T.cw r).1 else T.cnt i) ∧ (T.sett r).wt i = (if i = r then (T.cw r).2 else T.wt i) := by
  unfold Tk.sett Tk.cw
  cases h : T.wt r with
  | none =>
    dsimp only
    constructor
    · split
      · rename_i e; rw [e]
      · rfl
    · split
      · rename_i e; rw [e, h]
      · rfl
  | some x =>
    obtain ⟨L, c⟩ := x
    exact ⟨rfl, rfl⟩
theorem Tk.settTo_cw (T : Tk) (i : Nat) : ∀ m, (T.settTo m).cnt i = (if i < m then (T.cw i).1 else T.cnt i) ∧ (T.settTo m).wt i = (if i < m then (T.cw i).2 else T.wt i)
  | 0 => by simp [Tk.settTo]
  | m + 1 => by
    obtain ⟨h1, h2⟩ := Tk.settTo_cw T i m
    obtain ⟨g1, g2⟩ := Tk.sett_cw (T.settTo m) m i
    obtain ⟨_, _, _, _, hh⟩ := T.settTo_bx m
    have hcw : i = m → (T.settTo m).cw m = T.cw m := fun e => by
      subst e
      rw [if_neg (Nat.lt_irrefl _)] at h1 h2
      unfold Tk.cw
      rw [h2, h1, hh]
    simp only [Tk.settTo]
    rw [g1, g2]
    by_cases e : i = m
    · rw [if_pos e, if_pos e, hcw e, if_pos (by omega), if_pos (by omega), e]
      exact ⟨rfl, rfl⟩
    · rw [if_neg e, if_neg e, h1, h2]
      by_cases h : i < m
      · rw [if_pos h, if_pos h, if_pos (by omega), if_pos (by omega)]; exact ⟨rfl, rfl⟩
      · rw [if_neg h, if_neg h, if_neg (by omega), if_neg (by omega)]; exact ⟨rfl, rfl⟩
theorem Tk.settle_n (T : Tk) : T.settle.n = T.n ∧ T.settle.own = T.own ∧ T.settle.has = T.has := by
  obtain ⟨_, _, h3, h4, h5⟩ := T.settTo_bx T.n
  exact ⟨h3, h4, h5⟩
theorem Tk.cw_le (T : Tk) (r q b : Nat) (hq : q < 8) : (T.cw r).1.get q ≤ b ↔ (T.cnt r).get q ≤ b ∧ ∀ v, v ∈ wkeys (T.wt r) → v.get r ≤ T.has.get r → v.get q ≤ b := by
  unfold Tk.cw
  cases h : T.wt r with
  | none => simp [wkeys]
  | some x =>
    obtain ⟨L, c⟩ := x
    show (settC T.has r (T.cnt r) L).get q ≤ b ↔ _
    unfold settC
    rw [joinL_le hq]
    simp only [wkeys, List.mem_filter, due, decide_eq_true_eq, and_imp]
theorem Tk.cw_mem (T : Tk) (r : Nat) (v : Vec) : v ∈ wkeys (T.cw r).2 ↔ v ∈ wkeys (T.wt r) ∧ T.has.get r < v.get r ∧ (T.cw r).1.above v = false := by
  unfold Tk.cw
  cases h : T.wt r with
  | none => simp [wkeys]
  | some x =>
    obtain ⟨L, c⟩ := x
    simp only [wkeys, MM.keys, settW, List.mem_map, List.mem_filter, due, Bool.and_eq_true, Bool.not_eq_true', decide_eq_false_iff_not, Nat.not_le]
    constructor
    · rintro ⟨x, ⟨h1, h2, h3⟩, rfl⟩
      exact ⟨⟨x, h1, rfl⟩, h2, h3⟩
    · rintro ⟨⟨x, h1, rfl⟩, h2, h3⟩
      exact ⟨x, ⟨h1, h2, h3⟩, rfl⟩
theorem Tk.Pre.settle {T : Tk} {H : Vec} {S : Nat → Vec → Prop} (h : T.Pre H S) (hn : T.n ≤ 8) (ho : T.own < T.n) : T.settle.Is H S := by
  obtain ⟨e1, e2, e3⟩ := T.settle_n
  have hc : ∀ i, T.settle.cnt i = if i = T.own then T.has else (T.settTo T.n).cnt i := fun i => rfl
  have hw : ∀ i, T.settle.wt i = (T.settTo T.n).wt i := fun i => rfl
  have hle : ∀ r, r < T.n → r ≠ T.own → ∀ q, q < 8 → ∀ b, (T.cw r).1.get q ≤ b ↔ ∀ v, S r v → v.get r ≤ H.get r → v.get q ≤ b := fun r hr hro q hq b => by
    rw [T.cw_le r q b hq, h.has]; exact h.cle r hr hro q hq b
  refine ⟨e3.trans h.has, ?_, fun r hr hro q hq b => ?_, fun r hr hro v => ?_, fun r hr => ?_⟩
  · rw [e2, hc, if_pos rfl, h.has]
  · rw [e1] at hr
    rw [e2] at hro
    rw [hc, if_neg hro, (T.settTo_cw r T.n).1, if_pos hr]
    exact hle r hr hro q hq b
  · rw [e1] at hr
    rw [e2] at hro
    rw [hw, (T.settTo_cw r T.n).2, if_pos hr, T.cw_mem, h.has]
    constructor
    · rintro ⟨h1, h2, _⟩
      exact ⟨(h.wts r hr hro v h2).1 h1, h2⟩
    · rintro ⟨h1, h2⟩
      refine ⟨(h.wts r hr hro v h2).2 h1, h2, ?_⟩
      cases ha : (T.cw r).1.above v with
      | false => rfl
      | true =>
        have a1 := Vec.above_iff.1 ha r (by omega)
        have a2 := (hle r hr hro r (by omega) (H.get r)).2 fun v _ hv => hv
        omega
  · rw [e1, e2] at hr
    rw [hw, (T.settTo_cw r T.n).2]
    have := h.wno r hr
    split
    · unfold Tk.cw; rw [this]
    · exact this
theorem newT_is (n own k : Nat) : (newT n own k).Is Vec.zero (fun _ _ => False) := by
  refine ⟨rfl, rfl, fun r _ _ q hq b => ?_, fun r _ _ v => ?_, fun r _ => rfl⟩
  · have : ((newT n own k).cnt r).get q = 0 := Vec.zero_get q
    rw [this]
    simp
  · simp [newT, wkeys]
theorem Tk.Is.hasV {T : Tk} {H : Vec} {S : Nat → Vec → Prop} (h : T.Is H S) (hn : T.n ≤ 8) (ho : T.own < T.n) {v : Vec} (h0 : (T.hasV v).2 = 0) : (T.hasV v).1.Is v S := by
  unfold Tk.hasV at h0 ⊢
  split at h0
  · cases h0
  rename_i hm
  rw [if_neg hm]
  split at h0
  · cases h0
  rename_i ha
  rw [if_neg ha]
  have ha : v.above T.has = true := by simpa using ha
  rw [h.has] at ha
  refine Tk.Pre.settle (T := T.setH v) ⟨rfl, fun r hr hro q hq b => ?_, fun r hr hro u hu => ?_, h.wno⟩ hn ho
  · have hr : r < T.n := hr
    have hro : r ≠ T.own := hro
    have hv := Vec.above_iff.1 ha r (by omega)
    show ((T.cnt r).get q ≤ b ∧ ∀ u, u ∈ wkeys (T.wt r) → u.get r ≤ v.get r → u.get q ≤ b) ↔ _
    rw [h.cle r hr hro q hq b]
    constructor
    · rintro ⟨h1, h2⟩ u hu hle
      by_cases hh : u.get r ≤ H.get r
      · exact h1 u hu hh
      · exact h2 u ((h.wts r hr hro u).2 ⟨hu, by omega⟩) hle
    · intro h1
      exact ⟨fun u hu hle => h1 u hu (by omega), fun u hu hle => h1 u ((h.wts r hr hro u).1 hu).1 hle⟩
  · have hr : r < T.n := hr
    have hro : r ≠ T.own := hro
    have hv := Vec.above_iff.1 ha r (by omega)
    show u ∈ wkeys (T.wt r) ↔ _
    have hu : v.get r < u.get r := hu
    rw [h.wts r hr hro u]
    exact ⟨fun h => h.1, fun h => ⟨h, by omega⟩⟩
theorem Tk.Is.heard {T : Tk} {H : Vec} {S : Nat → Vec → Prop} (h : T.Is H S) (hn : T.n ≤ 8) (ho : T.own < T.n) {r : Nat} (hr : r < T.n) (hro : r ≠ T.own) (v : Vec) (k : Nat) :
    (((T.opn r k).addw r v).settle).Is H (fun i u => S i u ∨ (i = r ∧ u = v)) := by
  obtain ⟨_, o2, o3, o4, o5⟩ := T.opn_bx r k
  obtain ⟨_, _, a3, a4⟩ := (T.opn r k).addw_bx r v
  have a5 : ((T.opn r k).addw r v).has = T.has := by
    rw [← o4]; unfold Tk.addw; split <;> rfl
  have a6 : ((T.opn r k).addw r v).cnt = T.cnt := by
    rw [← o5]; unfold Tk.addw; split <;> rfl
  have wo : ∀ i, i ≠ r → ((T.opn r k).addw r v).wt i = T.wt i := fun i hi => by
    have q1 : ((T.opn r k).addw r v).wt i = (T.opn r k).wt i := by
      unfold Tk.addw; split
      · rfl
      · exact if_neg hi
    rw [q1]
    unfold Tk.opn; split
    · exact if_neg hi
    · rfl
  have wr : ∀ u, u ∈ wkeys (((T.opn r k).addw r v).wt r) ↔ u ∈ wkeys (T.wt r) ∨ u = v := fun u => by
    have q1 : ∀ (T' : Tk) L c, T'.wt r = some (L, c) → (T'.addw r v).wt r = some (MM.put L c v 1, MM.clk L c v) := fun T' L c e => by
      unfold Tk.addw; rw [e]; exact if_pos rfl
    have key : ∀ (L : VMap) c, u ∈ MM.keys (MM.put L c v 1) ↔ u ∈ MM.keys L ∨ u = v := fun L c => by
      rw [MM.keys_put]
      split
      · rename_i hh
        exact ⟨.inl, fun h => h.elim id fun h => h ▸ MM.has_iff.1 hh⟩
      · simp
    cases e : T.wt r with
    | none =>
      have : (T.opn r k).wt r = some ([], 0) := by unfold Tk.opn; rw [e]; exact if_pos rfl
      rw [q1 _ _ _ this]
      exact key [] 0
    | some x =>
      obtain ⟨L, c⟩ := x
      have : (T.opn r k).wt r = some (L, c) := by unfold Tk.opn; rw [e]; exact e
      rw [q1 _ _ _ this]
      exact key L c
  refine Tk.Pre.settle (T := (T.opn r k).addw r v) ⟨a5.trans h.has, fun i hi hio q hq b => ?_, fun i hi hio u hu => ?_, fun i hi => ?_⟩ (by rw [a3, o2]; exact hn) (by rw [a4, o3, a3, o2]; exact ho)
  · rw [a3, o2] at hi
    rw [a4, o3] at hio
    rw [a6, h.cle i hi hio q hq b]
    by_cases e : i = r
    · subst e
      simp only [wr]
      constructor
      · rintro ⟨h1, h2⟩ u (hu | ⟨_, rfl⟩) hle
        · exact h1 u hu hle
        · exact h2 u (.inr rfl) hle
      · intro h1
        exact ⟨fun u hu hle => h1 u (.inl hu) hle, fun u hu hle => hu.elim (fun hu => h1 u (.inl ((h.wts i hi hio u).1 hu).1) hle) fun e => h1 u (.inr ⟨trivial, e⟩) hle⟩
    · rw [wo i e]
      constructor
      · rintro ⟨h1, _⟩ u (hu | ⟨e', _⟩) hle
        · exact h1 u hu hle
        · exact absurd e' e
      · intro h1
        exact ⟨fun u hu hle => h1 u (.inl hu) hle, fun u hu hle => h1 u (.inl ((h.wts i hi hio u).1 hu).1) hle⟩
  · rw [a3, o2] at hi
    rw [a4, o3] at hio
    by_cases e : i = r
    · subst e
      rw [wr, h.wts i hi hio u]
      constructor
      · rintro (h1 | rfl)
        · exact .inl h1.1
        · exact .inr ⟨rfl, rfl⟩
      · rintro (h1 | ⟨_, rfl⟩)
        · exact .inl ⟨h1, hu⟩
        · exact .inr rfl
    · rw [wo i e, h.wts i hi hio u]
      constructor
      · rintro ⟨h1, _⟩; exact .inl h1
      · rintro (h1 | ⟨e', _⟩)
        · exact ⟨h1, hu⟩
        · exact absurd e' e
  · rw [a3, o2, a4, o3] at hi
    rw [wo i (by omega)]
    exact h.wno i hi
def Tk.takes (T : Tk) (r : Nat) (v : Vec) : Bool := decide (r < T.n) && T.may v && decide (r ≠ T.own)
theorem Tk.Is.congr {T : Tk} {H : Vec} {S S' : Nat → Vec → Prop} (h : T.Is H S) (hS : ∀ r v, S r v ↔ S' r v) : T.Is H S' := by
  have : S = S' := funext fun r => funext fun v => propext (hS r v)
  rw [← this]; exact h
theorem Tk.Is.hearV {T : Tk} {H : Vec} {S : Nat → Vec → Prop} (h : T.Is H S) (hn : T.n ≤ 8) (ho : T.own < T.n) (r : Nat) (v : Vec) (k : Nat) :
    (T.hearV r v k).1.Is H (fun i u => S i u ∨ (i = r ∧ u = v ∧ T.takes r v = true)) := by
  unfold Tk.hearV Tk.takes
  by_cases h1 : T.n ≤ r
  · rw [if_pos h1]
    refine h.congr fun i u => ⟨.inl, fun hh => hh.elim id fun hh => ?_⟩
    have := hh.2.2
    simp at this
    omega
  rw [if_neg h1]
  by_cases h2 : T.may v = false
  · rw [if_pos h2]
    refine h.congr fun i u => ⟨.inl, fun hh => hh.elim id fun hh => ?_⟩
    have := hh.2.2
    simp [h2] at this
  rw [if_neg h2]
  by_cases h3 : r = T.own
  · rw [if_pos h3]
    have : T.Is H (fun i u => S i u ∨ (i = r ∧ u = v ∧ (decide (r < T.n) && T.may v && decide (r ≠ T.own)) = true)) := h.congr fun i u => ⟨.inl, fun hh => hh.elim id fun hh => by
      have := hh.2.2
      simp [h3] at this⟩
    split <;> exact this
  · rw [if_neg h3]
    refine (h.heard hn ho (by omega) h3 v k).congr fun i u => ?_
    have : (decide (r < T.n) && T.may v && decide (r ≠ T.own)) = true := by simp [h3]; exact ⟨by omega, by simpa using h2⟩
    simp only [this, and_true]
end Go.Proofs.Ytacdkgkpoelhdaa
namespace Go.Proofs.Ytacdkgkpoelhdaa
open Go.Sl Go.Proofs
structure Ac where
  own : Bool
  r : Nat
  v : Vec
def Ac.ds (a : Ac) : List DV := .bool a.own :: .int .u8 a.r :: a.v.ds
theorem ac_len (l : List Ac) : (l.flatMap Ac.ds).length = l.length * 10 := flat_length Ac.ds 10 (fun _ => rfl) l
theorem lk_app (F G : Hp) (m : Nat) : lk (F ++ G) m = (lk F m).or (lk G m) := by
  unfold lk
  exact List.lookup_append ..
theorem Tk.ne_of_lk {T : Tk} (hs : T.sep) {m : Nat} (h : lk T.hp m = none) : m ≠ T.bx ∧ ∀ r, r < 8 → T.nm r ≠ m := by
  refine ⟨fun e => ?_, fun r hr e => ?_⟩
  · rw [e, show lk T.hp T.bx = _ from Tk.lkb] at h; cases h
  · rw [← e, show lk T.hp (T.nm r) = _ from Tk.lkm hs hr] at h; cases h
theorem Tk.has_lk {T : Tk} (hs : T.sep) (v : Vec) {m : Nat} (h : lk T.hp m = none) : lk (T.hasV v).1.hp m = none := by
  obtain ⟨h1, h2⟩ := Tk.ne_of_lk hs h
  obtain ⟨b1, b2⟩ := T.hasV_bx v
  exact Tk.lko (by rw [b1]; exact h1) fun r hr => by rw [b2]; exact h2 r hr
theorem Tk.hear_lk {T : Tk} (hs : T.sep) (r k : Nat) (v : Vec) {m : Nat} (h : lk T.hp m = none) (hk : m ≠ k) : lk (T.hearV r v k).1.hp m = none := by
  obtain ⟨h1, h2⟩ := Tk.ne_of_lk hs h
  obtain ⟨b1, b2⟩ := T.hear_nm r k v
  exact Tk.lko (by rw [b1]; exact h1) fun i hi => (b2 i).elim (fun e => by rw [e]; exact h2 i hi) fun e => by rw [e]; exact Ne.symm hk
theorem Tk.hear_n (T : Tk) (r k : Nat) (v : Vec) : (T.hearV r v k).1.n = T.n ∧ (T.hearV r v k).1.own = T.own := by
  unfold Tk.hearV
  split
  · exact ⟨rfl, rfl⟩
  split
  · exact ⟨rfl, rfl⟩
  split
  · split <;> exact ⟨rfl, rfl⟩
  · obtain ⟨e1, e2, _⟩ := ((T.opn r k).addw r v).settle_n
    obtain ⟨_, _, a3, a4⟩ := (T.opn r k).addw_bx r v
    obtain ⟨_, o2, o3, _⟩ := T.opn_bx r k
    exact ⟨e1.trans (a3.trans o2), e2.trans (a4.trans o3)⟩
theorem Tk.has_n (T : Tk) (v : Vec) : (T.hasV v).1.n = T.n ∧ (T.hasV v).1.own = T.own := by
  unfold Tk.hasV
  split
  · exact ⟨rfl, rfl⟩
  split
  · exact ⟨rfl, rfl⟩
  · obtain ⟨e1, e2, _⟩ := (T.setH v).settle_n
    exact ⟨e1, e2⟩
structure Duo (A B : Tk) (k n own : Nat) : Prop where
  a : A.good k
  b : B.good k
  an : A.n = n
  bn : B.n = n
  ao : A.own = own
  bo : B.own = own
  za : lk A.hp 0 = none
  zb : lk B.hp 0 = none
  d : ∀ m, lk B.hp m ≠ none → lk A.hp m = none
  z : 0 < k
section
variable {A B : Tk} {k n own : Nat} (h : Duo A B k n own)
include h
end
theorem newT_lk {n own b m : Nat} (h : m < b ∨ b + 9 ≤ m) : lk (newT n own b).hp m = none := Tk.lko (by show m ≠ b; omega) fun r hr => by show b + 1 + r ≠ m; omega
end Go.Proofs.Ytacdkgkpoelhdaa
