/-
  Trackers: what a tracker has in common with the document's.
-/
import Derived.Test.YtacdkgkpoelhdaaPJ
import Derived.Test.YtacdkgkpoelhdaaPI
set_option linter.unusedSectionVars false
set_option linter.unusedVariables false
set_option linter.unusedSimpArgs false
namespace Go.Proofs.Ytacdkgkpoelhdaa
open Go.Sl Go.Proofs
structure Lk (T : Tk) (q : Qt) : Prop where
  n : T.n = q.n
  own : T.own = q.own
  is : T.Is q.has (fun r v => (⟨r, v⟩ : Hd) ∈ q.l)
  mem : ∀ x, x ∈ q.l → x.r < q.n ∧ x.r ≠ q.own
theorem Lk.new {n own : Nat} (k : Nat) : Lk (newT n own k) ⟨n, own, Vec.zero, []⟩ :=
  ⟨rfl, rfl, (newT_is n own k).congr fun r v => by simp, fun x h => by cases h⟩
theorem Lk.copy {T : Tk} {q : Qt} (h : Lk T q) (k : Nat) : Lk (T.copy k) q := ⟨h.n, h.own, Tk.copy_is h.is, h.mem⟩
theorem Lk.may {T : Tk} {q : Qt} (h : Lk T q) (v : Vec) : T.may v = mayN q.n v := by unfold Tk.may mayN; rw [h.n]
theorem Lk.hasV {T : Tk} {q : Qt} (h : Lk T q) (hn : T.n ≤ 8) (ho : T.own < T.n) (v : Vec) : Lk (T.hasV v).1 (q.hasQ v).1 ∧ (T.hasV v).2 = (q.hasQ v).2 := by
  have h1 := h.may v
  have e0 : (T.hasV v).2 = (q.hasQ v).2 := by
    unfold Tk.hasV Qt.hasQ
    rw [h1, h.is.has]
    split
    · rfl
    split <;> rfl
  refine ⟨?_, e0⟩
  by_cases h0 : (T.hasV v).2 = 0
  · have hi := h.is.hasV hn ho h0
    obtain ⟨e1, e2⟩ := T.has_n v
    have e3 : (q.hasQ v).1 = { q with has := v } := by
      rw [e0] at h0
      unfold Qt.hasQ at h0 ⊢
      split at h0
      · cases h0
      rename_i g1
      split at h0
      · cases h0
      rename_i g2
      rw [if_neg g1, if_neg g2]
    rw [e3]
    exact ⟨e1.trans h.n, e2.trans h.own, hi, h.mem⟩
  · rw [Tk.hasV_err h0]
    have e3 : (q.hasQ v).1 = q := by
      rw [e0] at h0
      unfold Qt.hasQ at h0 ⊢
      split
      · rfl
      rename_i g1
      rw [if_neg g1] at h0
      split
      · rfl
      rename_i g2
      rw [if_neg g2] at h0
      exact absurd rfl h0
    rw [e3]; exact h
theorem Lk.hearV {T : Tk} {q : Qt} (h : Lk T q) (hn : T.n ≤ 8) (ho : T.own < T.n) (r : Nat) (v : Vec) (k : Nat) : Lk (T.hearV r v k).1 (q.hearQ r v).1 ∧ (T.hearV r v k).2 = (q.hearQ r v).2 := by
  have h1 := h.may v
  have hi := h.is.hearV hn ho r v k
  obtain ⟨e1, e2⟩ := T.hear_n r k v
  have ht : T.takes r v = (decide (r < q.n) && mayN q.n v && decide (r ≠ q.own)) := by unfold Tk.takes; rw [h1, h.n, h.own]
  rw [ht] at hi
  have e0 : (T.hearV r v k).2 = (q.hearQ r v).2 := by
    unfold Tk.hearV Qt.hearQ
    rw [h1, h.is.has, h.n, h.own]
    split
    · rfl
    split
    · rfl
    split
    · split <;> rfl
    · rfl
  refine ⟨?_, e0⟩
  unfold Qt.hearQ
  by_cases g1 : q.n ≤ r
  · rw [if_pos g1]
    exact ⟨e1.trans h.n, e2.trans h.own, hi.congr fun i u => by simp; omega, h.mem⟩
  rw [if_neg g1]
  by_cases g2 : mayN q.n v = false
  · rw [if_pos g2]
    exact ⟨e1.trans h.n, e2.trans h.own, hi.congr fun i u => by simp [g2], h.mem⟩
  rw [if_neg g2]
  by_cases g3 : r = q.own
  · rw [if_pos g3]
    have : ∀ q', (if q.has.above v = false then (q, 9) else (q, 0) : Qt × Nat).1 = q' → q = q' := fun q' e => by
      split at e <;> exact e
    rw [← this _ rfl]
    exact ⟨e1.trans h.n, e2.trans h.own, hi.congr fun i u => by simp [g3], h.mem⟩
  rw [if_neg g3]
  refine ⟨e1.trans h.n, e2.trans h.own, hi.congr fun i u => ?_, fun x hx => ?_⟩
  · have g2' : mayN q.n v = true := by simpa using g2
    have g1' : r < q.n := by omega
    simp [g2', g1', g3]
  · rcases List.mem_append.1 hx with hx | hx
    · exact h.mem x hx
    · rw [List.mem_singleton] at hx
      subst hx
      exact ⟨by show r < q.n; omega, g3⟩
theorem Vec.all_max_le {q b : Nat} (hq : q < 8) (l : List Vec) : (Vec.all max l).get q ≤ b ↔ ∀ v, v ∈ l → v.get q ≤ b := by
  rw [Vec.all_max]
  have := joinL_le (b := b) hq (l := l) (c := Vec.zero)
  unfold joinL at this
  rw [this, Vec.zero_get]
  simp
theorem mem_selQ {has : Vec} {r : Nat} {l : List Hd} {v : Vec} : v ∈ selQ has r l ↔ (⟨r, v⟩ : Hd) ∈ l ∧ v.get r ≤ has.get r := by
  unfold selQ
  simp only [List.mem_map, List.mem_filter, Bool.and_eq_true, decide_eq_true_eq]
  constructor
  · rintro ⟨⟨s, w⟩, ⟨h1, h2, h3⟩, rfl⟩
    dsimp only at h2 h3 ⊢
    subst h2
    exact ⟨h1, h3⟩
  · rintro ⟨h1, h2⟩
    exact ⟨⟨r, v⟩, ⟨h1, rfl, h2⟩, rfl⟩
theorem Lk.cnt {T : Tk} {q : Qt} (h : Lk T q) {r : Nat} (hr : r < q.n) : T.cnt r = (q.cntQ r).1 := by
  unfold Qt.cntQ
  rw [if_neg (by omega)]
  by_cases e : r = q.own
  · rw [if_pos e, e, ← h.own, h.is.own]
  · rw [if_neg e]
    refine Vec.ext_le fun p hp b => ?_
    rw [h.is.cle r (by rw [h.n]; exact hr) (by rw [h.own]; exact e) p hp b, Vec.all_max_le hp]
    exact ⟨fun h1 v hv => h1 v (mem_selQ.1 hv).1 (mem_selQ.1 hv).2, fun h1 v h2 h3 => h1 v (mem_selQ.2 ⟨h2, h3⟩)⟩
theorem Lk.cntV {T : Tk} {q : Qt} (h : Lk T q) (r : Nat) : T.cntV r = q.cntQ r := by
  by_cases hr : r < q.n
  · have := h.cnt hr
    unfold Tk.cntV
    rw [if_neg (by rw [h.n]; omega), this]
    unfold Qt.cntQ
    rw [if_neg (by omega)]
    split <;> rfl
  · unfold Tk.cntV Qt.cntQ
    rw [if_pos (by rw [h.n]; omega), if_pos (by omega)]
theorem Lk.stab {T : Tk} {q : Qt} (h : Lk T q) : T.stab = q.stabQ := by
  unfold Tk.stab Qt.stabQ
  rw [h.n]
  congr 1
  refine List.map_congr_left fun r hr => h.cnt (by simpa using hr)
theorem seenQ_mem (q : Qt) (hq : ∀ x, x ∈ q.l → x.r < q.n) (hn : q.n ≤ 8) (ho : q.own < q.n) : ∀ (l : List Hd), (∀ x, x ∈ l → x ∈ q.l ∧ x.r ≠ q.own) → (q.seenQ l).Nodup ∧ ∀ x, x ∈ q.seenQ l ↔ x ∈ l ∧ q.has.get x.r < x.v.get x.r := by
  have key : ∀ (l : List Hd) (s : List Hd), (∀ x, x ∈ l → x ∈ q.l ∧ x.r ≠ q.own) → s.Nodup → (l.foldl q.step s).Nodup ∧ ∀ x, x ∈ l.foldl q.step s ↔ x ∈ s ∨ (x ∈ l ∧ q.has.get x.r < x.v.get x.r) := fun l => by
    induction l with
    | nil => intro s _ hs; exact ⟨hs, fun x => by simp⟩
    | cons y l ih =>
      intro s hl hs
      have hy := hl y (by simp)
      have hab : q.has.get y.r < y.v.get y.r → (q.cntQ y.r).1.above y.v = false := fun hlt => by
        have hr := hq y hy.1
        unfold Qt.cntQ
        rw [if_neg (by omega), if_neg hy.2]
        rw [Bool.eq_false_iff]
        intro ha
        dsimp only at ha
        have h1 := Vec.above_iff.1 ha y.r (by omega)
        have h2 := (Vec.all_max_le (q := y.r) (b := q.has.get y.r) (by omega) (selQ q.has y.r q.l)).2 fun v hv => (mem_selQ.1 hv).2
        omega
      have hstep : (q.step s y).Nodup ∧ ∀ x, x ∈ q.step s y ↔ x ∈ s ∨ (x = y ∧ q.has.get y.r < y.v.get y.r) := by
        unfold Qt.step
        by_cases h1 : y ∈ s
        · rw [if_neg (by simp [h1])]
          exact ⟨hs, fun x => ⟨.inl, fun h => h.elim id fun h => by rw [h.1]; exact h1⟩⟩
        by_cases h2 : q.has.get y.r < y.v.get y.r
        · rw [if_pos (by simp [h1, h2, hab h2])]
          refine ⟨List.nodup_append.2 ⟨hs, by simp, fun a ha b hb => ?_⟩, fun x => by simp [h2]⟩
          rw [List.mem_singleton] at hb
          intro e
          exact h1 (by rw [← hb, ← e]; exact ha)
        · rw [if_neg (by simp [h2])]
          exact ⟨hs, fun x => by simp [h2]⟩
      obtain ⟨g1, g2⟩ := ih (q.step s y) (fun x hx => hl x (List.mem_cons_of_mem _ hx)) hstep.1
      rw [List.foldl_cons]
      refine ⟨g1, fun x => ?_⟩
      rw [g2, hstep.2, List.mem_cons]
      constructor
      · rintro ((h | ⟨rfl, h⟩) | ⟨h1, h2⟩)
        · exact .inl h
        · exact .inr ⟨.inl rfl, h⟩
        · exact .inr ⟨.inr h1, h2⟩
      · rintro (h | ⟨rfl | h1, h2⟩)
        · exact .inl (.inl h)
        · exact .inl (.inr ⟨rfl, h2⟩)
        · exact .inr ⟨h1, h2⟩
  intro l hl
  obtain ⟨h1, h2⟩ := key l [] hl List.nodup_nil
  exact ⟨h1, fun x => by rw [show q.seenQ l = l.foldl q.step [] from rfl, h2]; simp⟩
theorem wsum_flat (T : Tk) : ∀ m, T.wsum m = ((List.range m).flatMap fun r => (wkeys (T.wt r)).map fun v => (⟨r, v⟩ : Hd)).length
  | 0 => rfl
  | m + 1 => by
    simp only [Tk.wsum]
    rw [wsum_flat T m, List.range_succ, List.flatMap_append, List.length_append]
    simp [wkeys_len]
theorem Lk.wsum {T : Tk} {q : Qt} (h : Lk T q) (hw : T.ww) (hn : T.n ≤ 8) (ho : T.own < T.n) : T.wsum 8 = (q.seenQ q.l).length := by
  rw [wsum_flat]
  obtain ⟨s1, s2⟩ := seenQ_mem q (fun x hx => (h.mem x hx).1) (by rw [← h.n]; exact hn) (by rw [← h.n, ← h.own]; exact ho) q.l (fun x hx => ⟨hx, (h.mem x hx).2⟩)
  refine List.Perm.length_eq ((List.perm_ext_iff_of_nodup ?_ s1).2 fun x => ?_)
  · rw [List.nodup_iff_pairwise_ne, List.pairwise_flatMap]
    refine ⟨fun r hr => ?_, ?_⟩
    · rw [List.pairwise_map]
      have := wkeys_nodup hw (show r < 8 by simpa using hr)
      rw [List.nodup_iff_pairwise_ne] at this
      exact this.imp fun hne e => hne (by injection e)
    · refine List.Pairwise.imp ?_ (List.nodup_iff_pairwise_ne.1 (List.nodup_range (n := 8)))
      intro a b hab x hx y hy e
      obtain ⟨v, _, rfl⟩ := List.mem_map.1 hx
      obtain ⟨w, _, rfl⟩ := List.mem_map.1 hy
      injection e with e1 _
      exact hab e1
  · rw [s2]
    simp only [List.mem_flatMap, List.mem_range, List.mem_map]
    constructor
    · rintro ⟨r, hr, v, hv, rfl⟩
      by_cases e : T.n ≤ r ∨ r = T.own
      · rw [h.is.wno r e] at hv; cases hv
      · exact (h.is.wts r (by omega) (fun x => e (.inr x)) v).1 hv
    · rintro ⟨h1, h2⟩
      obtain ⟨m1, m2⟩ := h.mem x h1
      refine ⟨x.r, by have := h.n; omega, x.v, (h.is.wts x.r (by have := h.n; omega) (by rw [h.own]; exact m2) x.v).2 ⟨h1, h2⟩, rfl⟩
theorem wsum_mono (T : Tk) {i j : Nat} (h : i ≤ j) : T.wsum i ≤ T.wsum j := by
  induction j with
  | zero => rw [Nat.le_zero.1 h]; exact Nat.le_refl _
  | succ j ih =>
    by_cases e : i = j + 1
    · rw [e]; exact Nat.le_refl _
    · have := ih (by omega)
      simp only [Tk.wsum]; omega
theorem Lk.wle {T : Tk} {q : Qt} (h : Lk T q) (hw : T.ww) (hn : T.n ≤ 8) (ho : T.own < T.n) {i : Nat} (hi : i ≤ 8) : T.wsum i ≤ q.l.length := by
  have h1 := wsum_mono T hi
  rw [h.wsum hw hn ho] at h1
  exact Nat.le_trans h1 (seenQ_len _ _)
theorem own_above {T : Tk} {H : Vec} {S : Nat → Vec → Prop} (h : T.Is H S) (ho : T.own < T.n) : T.has.above T.stab = true := by
  refine Vec.above_iff.2 fun p hp => ?_
  rw [h.has, ← h.own]
  unfold Tk.stab
  exact all_min_le' hp (List.mem_map.2 ⟨T.own, by simpa using ho, rfl⟩)
end Go.Proofs.Ytacdkgkpoelhdaa
namespace Go.Proofs.Ytacdkgkpoelhdaa
open Go.Sl Go.Proofs
theorem resd12 {P : Program} {f : FuncId} {args : List SV} {F F' : Hp} {k nk : Nat} {r r' : SV} (h : SCd P f args F k nk r F') (hr : ∀ (p : Nat → Prop) μ M u, Rp p μ M r u → Rp p μ M r' u) : SCd P f args F k nk r' F' := by
  refine ⟨h.1, fun p μ M w vals h1 h2 h3 => (h.2 p μ M w vals h1 h2 h3).mono ?_⟩
  rintro e w' ⟨r0, F0, μ', M', u, he, ⟨rfl, rfl⟩, hu, hS, hE⟩
  exact ⟨r', _, μ', M', u, he, ⟨rfl, rfl⟩, hr _ _ _ _ hu, hS, hE⟩
theorem q0_eq (n own : Nat) : ({ n := n, own := own, has := Vec.zero, l := [] } : Qt).cells = i64 n :: u8 own :: (Vec.zero.cells ++ [.d (.sl 0 [])]) := rfl
theorem q0_rep {n own : Nat} {p : Nat → Prop} {μ : Nat → Nm} {M : Mem} {c : SV} {u : Value} (h : Rp p μ M (.tup [.agg (i64 n :: u8 own :: (Vec.zero.cells ++ [.d .nils])), c]) u) : Rp p μ M (.tup [.agg ({ n := n, own := own, has := Vec.zero, l := [] } : Qt).cells, c]) u := by
  rw [q0_eq]
  obtain ⟨vs, rfl, h1⟩ := Rp.tup_iff.1 h
  obtain ⟨a, ys, e1, h2, h3⟩ := Rps.cons_iff.1 h1
  obtain ⟨ws, rfl, h4⟩ := Rp.agg_iff.1 h2
  refine Rp.tup_iff.2 ⟨vs, rfl, ?_⟩
  rw [e1]
  refine Rps.cons_iff.2 ⟨_, _, rfl, Rp.agg_iff.2 ⟨ws, rfl, ?_⟩, h3⟩
  obtain ⟨b, bs, e2, g1, g2⟩ := Rps.cons_iff.1 h4
  obtain ⟨c, cs, rfl, g3, g4⟩ := Rps.cons_iff.1 g2
  rw [e2]
  refine Rps.cons_iff.2 ⟨_, _, rfl, g1, Rps.cons_iff.2 ⟨_, _, rfl, g3, ?_⟩⟩
  have k1 := g4.take 8
  have k2 := g4.drop 8
  have k3 : List.drop 8 (Vec.zero.cells ++ [SV.d .nils]) = [.d .nils] := rfl
  have k4 : List.take 8 (Vec.zero.cells ++ [SV.d .nils]) = Vec.zero.cells := rfl
  rw [k3] at k2
  rw [k4] at k1
  obtain ⟨d, ds, e3, g5, g6⟩ := Rps.cons_iff.1 k2
  have k5 : Rps p μ M [.d (.sl 0 [])] (cs.drop 8) := by
    rw [e3]
    exact Rps.cons_iff.2 ⟨_, _, rfl, Rp.d_iff.2 (RepD.nils_sl (Rp.d_iff.1 g5)), g6⟩
  have := k1.append k5
  rwa [List.take_append_drop] at this
section
attribute [local irreducible] SW RW SCd SC CallP Pruned
theorem rnew12_ok (n own : Nat) (hn : 1 ≤ n ∧ n ≤ 8) (ho : own < n) : Go.Sl.Pure Try.prog ref12_New.f [i64 n, u8 own] (.tup [.agg (i64 n :: u8 own :: (Vec.zero.cells ++ [.d .nils])), .d (.int .i64 0)]) := by
  refine ref12_New.enter (by first | rfl | simp [SV.ok, SV.oks]) (by first | rfl | simp [Hp.ok, Ob.ok, SV.ok, SV.oks, Vec.cells_ok]) (by simp) ?_
  unfold ref12_New.s
  have h1 : decide ((n : Int) < 1) = false := by simp only [decide_eq_false_iff_not]; omega
  have h2 : decide ((n : Int) > 8) = false := by simp only [decide_eq_false_iff_not]; omega
  have h3 : decide ((own : Int) ≥ n) = false := by simp only [decide_eq_false_iff_not]; omega
  have h4 : IntKind.i64.wrap (own : Int) = (own : Int) := wrap_i64 _ (by omega)
  refine SW.seq ?_
  (refine SW.regL [0, 1, 4, 5, 17] mixed ?_; (repeat (first | refine RW.ro bq_tt (h := ?_) | refine RW.skip (h := ?_) | refine RW.op bq_tt (h := ?_) | refine RW.opN bq_tt (h := ?_) | refine RW.skip0 (h := ?_))); refine RW.nil ⟨conf_of (by kernel_rfl), Pruned.mk (h := ?_)⟩)
  refine SW.seq (SW.seq ?_)
  (have fx := (And.intro (h1) (And.intro (h2) (And.intro (h3) (h4)))); refine SW.regL [0, 1, 4, 5, 17] mixed ?_; (repeat (first | refine RW.ro fx (h := ?_) | refine RW.skip (h := ?_) | refine RW.op fx (h := ?_) | refine RW.opN fx (h := ?_) | refine RW.skip0 (h := ?_))); refine RW.nil ⟨conf_of (by kernel_rfl), Pruned.mk (h := ?_)⟩)
  refine SW.condF rfl (SW.skip ?_)
  refine SW.seq ?_
  have b1 : spl (spl zQ 0 [i64 n]) 1 [u8 own] = [i64 n, u8 own, .d (.int .u32 0), .d (.int .u32 0), .d (.int .u32 0), .d (.int .u32 0), .d (.int .u32 0), .d (.int .u32 0), .d (.int .u32 0), .d (.int .u32 0), .d .nils] := rfl
  have b2 : spl zQ 0 [i64 n, u8 own, .d (.int .u32 0), .d (.int .u32 0), .d (.int .u32 0), .d (.int .u32 0), .d (.int .u32 0), .d (.int .u32 0), .d (.int .u32 0), .d (.int .u32 0), .d .nils] = [i64 n, u8 own, .d (.int .u32 0), .d (.int .u32 0), .d (.int .u32 0), .d (.int .u32 0), .d (.int .u32 0), .d (.int .u32 0), .d (.int .u32 0), .d (.int .u32 0), .d .nils] := rfl
  (refine SW.regL [0, 1, 4, 5, 17] mixed ?_; (repeat (first | refine RW.ro (And.intro (b1) (b2)) (h := ?_) | refine RW.skip (h := ?_) | refine RW.op (And.intro (b1) (b2)) (h := ?_) | refine RW.opN (And.intro (b1) (b2)) (h := ?_) | refine RW.skip0 (h := ?_))); refine RW.nil ⟨conf_of (by kernel_rfl), Pruned.mk (h := ?_)⟩)
  refine SW.ret ?_
  exact End.mk [] (h1 := by rfl) (h2 := by simp [ldo]) (h4 := ⟨rfl, rfl⟩)
theorem rnew12_at (n own : Nat) (hn : 1 ≤ n ∧ n ≤ 8) (ho : own < n) (k : Nat) : SCd Try.prog ref12_New.f [i64 n, u8 own] [] k 0 (.tup [.agg ({ n := n, own := own, has := Vec.zero, l := [] } : Qt).cells, .d (.int .i64 0)]) [] :=
  resd12 ((rnew12_ok n own hn ho).sc rfl k) fun _ _ _ _ h => q0_rep h
theorem rnew0_ok (n : Int) (own : Nat) (ho : own < 256) (hbad : ¬ (1 ≤ n ∧ n ≤ 8 ∧ (own : Int) < n)) : Go.Sl.Pure Try.prog ref12_New.f [.d (.int .i64 n), u8 own] (.tup [.agg zQ, .d (.int .i64 2)]) := by
  refine ref12_New.enter (by first | rfl | simp [SV.ok, SV.oks]) (by first | rfl | simp [Hp.ok, Ob.ok, SV.ok, SV.oks, Vec.cells_ok]) (by simp) ?_
  unfold ref12_New.s
  have zz : spl zQ 0 zQ = zQ := rfl
  have h4 : IntKind.i64.wrap (own : Int) = (own : Int) := wrap_i64 _ (by omega)
  refine SW.seq ?_
  (refine SW.regL [0, 1, 4, 5, 17] mixed ?_; (repeat (first | refine RW.ro bq_tt (h := ?_) | refine RW.skip (h := ?_) | refine RW.op bq_tt (h := ?_) | refine RW.opN bq_tt (h := ?_) | refine RW.skip0 (h := ?_))); refine RW.nil ⟨conf_of (by kernel_rfl), Pruned.mk (h := ?_)⟩)
  refine SW.seq (SW.seq ?_)
  have h : decide (n < 1) = true ∨ (decide (n < 1) = false ∧ decide (n > 8) = true) ∨ (decide (n < 1) = false ∧ decide (n > 8) = false ∧ decide ((own : Int) ≥ n) = true) := by
    simp only [decide_eq_false_iff_not, decide_eq_true_eq]; omega
  rcases h with h1 | ⟨h1, h2⟩ | ⟨h1, h2, h3⟩
  · (refine SW.regL [0, 1, 4, 5, 17] mixed ?_; (repeat (first | refine RW.ro (h1) (h := ?_) | refine RW.skip (h := ?_) | refine RW.op (h1) (h := ?_) | refine RW.opN (h1) (h := ?_) | refine RW.skip0 (h := ?_))); refine RW.nil ⟨conf_of (by kernel_rfl), Pruned.mk (h := ?_)⟩)
    refine SW.condT rfl (SW.seq ?_)
    (refine SW.regL [0, 1, 4, 5, 17] mixed ?_; (repeat (first | refine RW.ro (zz) (h := ?_) | refine RW.skip (h := ?_) | refine RW.op (zz) (h := ?_) | refine RW.opN (zz) (h := ?_) | refine RW.skip0 (h := ?_))); refine RW.nil ⟨conf_of (by kernel_rfl), Pruned.mk (h := ?_)⟩)
    refine SW.ret ?_
    exact End.mk [] (h1 := by rfl) (h2 := by simp [ldo]) (h4 := ⟨rfl, rfl⟩)
  · (refine SW.regL [0, 1, 4, 5, 17] mixed ?_; (repeat (first | refine RW.ro (And.intro (h1) (h2)) (h := ?_) | refine RW.skip (h := ?_) | refine RW.op (And.intro (h1) (h2)) (h := ?_) | refine RW.opN (And.intro (h1) (h2)) (h := ?_) | refine RW.skip0 (h := ?_))); refine RW.nil ⟨conf_of (by kernel_rfl), Pruned.mk (h := ?_)⟩)
    refine SW.condT rfl (SW.seq ?_)
    (refine SW.regL [0, 1, 4, 5, 17] mixed ?_; (repeat (first | refine RW.ro (zz) (h := ?_) | refine RW.skip (h := ?_) | refine RW.op (zz) (h := ?_) | refine RW.opN (zz) (h := ?_) | refine RW.skip0 (h := ?_))); refine RW.nil ⟨conf_of (by kernel_rfl), Pruned.mk (h := ?_)⟩)
    refine SW.ret ?_
    exact End.mk [] (h1 := by rfl) (h2 := by simp [ldo]) (h4 := ⟨rfl, rfl⟩)
  · (have fx := (And.intro (h1) (And.intro (h2) (And.intro (h3) (h4)))); refine SW.regL [0, 1, 4, 5, 17] mixed ?_; (repeat (first | refine RW.ro fx (h := ?_) | refine RW.skip (h := ?_) | refine RW.op fx (h := ?_) | refine RW.opN fx (h := ?_) | refine RW.skip0 (h := ?_))); refine RW.nil ⟨conf_of (by kernel_rfl), Pruned.mk (h := ?_)⟩)
    refine SW.condT rfl (SW.seq ?_)
    (refine SW.regL [0, 1, 4, 5, 17] mixed ?_; (repeat (first | refine RW.ro (zz) (h := ?_) | refine RW.skip (h := ?_) | refine RW.op (zz) (h := ?_) | refine RW.opN (zz) (h := ?_) | refine RW.skip0 (h := ?_))); refine RW.nil ⟨conf_of (by kernel_rfl), Pruned.mk (h := ?_)⟩)
    refine SW.ret ?_
    exact End.mk [] (h1 := by rfl) (h2 := by simp [ldo]) (h4 := ⟨rfl, rfl⟩)
theorem rnew0_at (n : Int) (own : Nat) (ho : own < 256) (hbad : ¬ (1 ≤ n ∧ n ≤ 8 ∧ (own : Int) < n)) (k : Nat) : SCd Try.prog ref12_New.f [.d (.int .i64 n), u8 own] [] k 0 (.tup [.agg zQ, .d (.int .i64 2)]) [] := (rnew0_ok n own ho hbad).sc rfl k
end
section
attribute [local irreducible] SW RW SCd SC CallP Pruned Tk.hp Tk.cells Tk.hasV Tk.hearV Tk.stab Tk.wsum Ac.cells Qt.cells Qt.hasQ Qt.hearQ
variable {T : Tk} {q : Qt} {k : Nat}
theorem does_frame {X : Hp} {U : Tk} {b : Ob} (hsub : HSub U.hp X) (hne : lk U.hp (k + 2) = none) : HSub U.hp (hrep X (k + 2) b) := fun m o hm => by
  rw [lk_hrep, if_neg fun e => by rw [e, hne] at hm; cases hm]
  exact hsub m o hm
set_option maxHeartbeats 4000000 in
theorem doesO_sb (hT : T.good k) (hL : Lk T q) (hl : q.l.length ≤ 1000000) (x : Ac) (hx : x.own = true) :
    SB Try.prog law12_does.f [.ptr T.bx 0, .agg q.cells, .agg x.cells] T.hp k 7 fun r F => r = .tup [.agg (q.hasQ x.v).1.cells, bl true] ∧ F = (T.hasV x.v).1.hp := by
  have hbx := hT.lt.bx
  refine law12_does.enter (by simp [SV.ok, SV.oks]; omega) (Tk.okk hT.lt) (by simp) ?_
  unfold law12_does.s
  have x0 := x.c0
  have x2 := x.c2
  have xl := x.cl
  have xo := x.one
  rw [hx] at x0
  have qo := q.one
  have ql := q.cl
  have qt := q.ct
  have hn8 : q.n ≤ 8 := by rw [← hL.n]; exact hT.n8
  have uK : ∀ i, List.lookup (k + i) T.hp = none := fun i => Tk.lkk hT.lt (by omega)
  have u0 := uK 0
  have u1 := uK 1
  have u2 := uK 2
  have u3 := uK 3
  rw [Nat.add_zero] at u0
  have f1 := ne4 (show k ≠ k + 1 by omega)
  have f2 := ne4 (show k ≠ k + 2 by omega)
  have f3 := ne4 (show k ≠ k + 3 by omega)
  have f4 := ne4 (show k + 1 ≠ k + 2 by omega)
  have f5 := ne4 (show k + 1 ≠ k + 3 by omega)
  have f6 := ne4 (show k + 2 ≠ k + 3 by omega)
  have hr := rhas12_at q hn8 x.v
  have hcode := (hL.hasV hT.n8 hT.own x.v).2
  have hc := has_at (T := T) (k := k + 4) hT.sep (hT.mono (show k ≤ k + 4 by omega)).lt hT.n0 hT.n8 hT.own8 hT.ww x.v
  have hg := Tk.hasV_good hT x.v
  have hn2 : lk (T.hasV x.v).1.hp (k + 2) = none := Tk.has_lk hT.sep x.v (uK 2)
  have hn3 : lk (T.hasV x.v).1.hp (k + 3) = none := Tk.has_lk hT.sep x.v (uK 3)
  rw [hcode] at hc
  obtain ⟨q', hq'⟩ : ∃ q', (q.hasQ x.v).1 = q' := ⟨_, rfl⟩
  obtain ⟨f, hf⟩ : ∃ f, (q.hasQ x.v).2 = f := ⟨_, rfl⟩
  obtain ⟨U, hU⟩ : ∃ U, (T.hasV x.v).1 = U := ⟨_, rfl⟩
  rw [hq', hf] at hr
  rw [hf, hU] at hc
  rw [hU] at hg hn2 hn3
  rw [hq', hU]
  have qo' := q'.one
  have ql' := q'.cl
  have qt' := q'.ct
  have qz' := spZ q'
  have zf : (((f : Nat) : Int) == ((f : Nat) : Int)) = true := by simp
  refine SW.seq ?_
  (have fx := (And.intro (xo) (And.intro (qo) (And.intro (u0) (And.intro (u1) (And.intro (u2) (And.intro (f1) (And.intro (f2) (f4)))))))); refine SW.regL [0, 1, 2, 4, 5, 6, 7, 8, 9, 10, 11, 13] mixed ?_; (repeat (first | refine RW.ro fx (h := ?_) | refine RW.skip (h := ?_) | refine RW.op fx (h := ?_) | refine RW.opN fx (h := ?_) | refine RW.skip0 (h := ?_))); refine RW.nil ⟨conf_of (by kernel_rfl), Pruned.mk (h := ?_)⟩)
  refine SW.seq (SW.seq ?_)
  (have fx := (And.intro (x0) (And.intro (xl) (And.intro (f1) (And.intro (f2) (f4))))); refine SW.regL [0, 1, 2, 4, 5, 6, 7, 8, 9, 10, 11, 13] mixed ?_; (repeat (first | refine RW.ro fx (h := ?_) | refine RW.skip (h := ?_) | refine RW.op fx (h := ?_) | refine RW.opN fx (h := ?_) | refine RW.skip0 (h := ?_))); refine RW.nil ⟨conf_of (by kernel_rfl), Pruned.mk (h := ?_)⟩)
  refine SW.condT rfl (SW.seq ?_)
  (have fx := (And.intro (x2) (And.intro (xl) (And.intro (qt) (And.intro (ql) (And.intro (qo') (And.intro (ql') (And.intro (qz') (And.intro (f1) (And.intro (f2) (And.intro (f3) (And.intro (f4) (And.intro (f5) (And.intro (f6) (And.intro (u0) (And.intro (u1) (And.intro (u2) (u3))))))))))))))))); refine SW.regL [0, 1, 2, 4, 5, 6, 7, 8, 9, 10, 11, 13] mixed ?_; (repeat (first | refine RW.ro fx (h := ?_) | refine RW.skip (h := ?_) | refine RW.op fx (h := ?_) | refine RW.opN fx (h := ?_) | refine RW.skip0 (h := ?_) | (refine RW.callC (h := ?_); (first | refine CallP.mk fx (hc := hr _) (h := ?_))))); refine RW.nil ⟨conf_of (by kernel_rfl), Pruned.mk (h := ?_)⟩)
  have hsub : HSub T.hp ((k + 3, Ob.box 69 q'.cells) :: (k + 2, Ob.box 69 zQ) :: (k + 1, Ob.box 61 x.cells) :: (k, Ob.box 69 q.cells) :: T.hp) := sub_cons (uK 3) (sub_cons (uK 2) (sub_cons (uK 1) (sub_cons (uK 0) fun _ _ h => h)))
  obtain ⟨X, hX⟩ : ∃ X, hsets (hdels ((k + 3, Ob.box 69 q'.cells) :: (k + 2, Ob.box 69 zQ) :: (k + 1, Ob.box 61 x.cells) :: (k, Ob.box 69 q.cells) :: T.hp) U.hp T.hp) U.hp = X := ⟨_, rfl⟩
  have sX : HSub U.hp X := by rw [← hX]; exact subX hsub
  have kX : List.lookup (k + 2) X = some (Ob.box 69 zQ) := by
    rw [← hX]
    refine (outX hsub (uK 2) hn2).trans ?_
    rw [lk_cons, if_neg (by omega), lk_cons, if_pos rfl]
  refine SW.seq ?_
  have cT : ∀ (a : Nat) (b : Ob), (a, b) ∈ T.hp → ¬ a = k + 3 := fun a b hy e => by have := lk_of_nodup (Tk.nodup hT.sep) (a, b) hy; dsimp only at this; rw [e, show lk T.hp (k + 3) = none from uK 3] at this; cases this
  have cU : ∀ (a : Nat) (b : Ob), (a, b) ∈ U.hp → ¬ a = k + 3 := fun a b hy e => by have := lk_of_nodup (Tk.nodup hg.sep) (a, b) hy; dsimp only at this; rw [e, hn3] at this; cases this
  have b1 : Nat.testBit 14 3 = true := rfl
  have b2 : Nat.testBit 31 4 = true := rfl
  (have fx := (And.intro (x2) (And.intro (xl) (And.intro (qt') (And.intro (ql') (And.intro (qo') (And.intro (qz') (And.intro (hX) (And.intro (kX) (And.intro (zf) (And.intro (f1) (And.intro (f2) (And.intro (f3) (And.intro (f4) (And.intro (f5) (f6))))))))))))))); refine SW.regL [0, 1, 2, 4, 5, 6, 7, 8, 9, 10, 11, 13] mixed ?_; (repeat (first | refine RW.ro fx (h := ?_) | refine RW.skip (h := ?_) | refine RW.op fx (h := ?_) | refine RW.opN fx (h := ?_) | refine RW.skip0 (h := ?_) | (refine RW.callC (h := ?_); (first | refine CallP.mk fx (hs := hsub) (hc := hc) (h := ?_))))); refine RW.nil ⟨conf_of (by simp [noConf2, all2, ordB, roOf, List.range, List.range.loop, cT, cU, b1, b2, f1, f2, f3, f4, f5, f6] <;> (first | decide | (repeat (first | assumption | refine ⟨?_, ?_⟩ | refine .inr ?_)))), Pruned.mk (h := ?_)⟩)
  refine SW.ret ?_
  have kY : lk (hrep X (k + 2) (Ob.box 69 q'.cells)) (k + 2) = some (Ob.box 69 q'.cells) := by rw [lk_hrep, if_pos rfl]
  exact End.mk U.hp (h1 := rvV_q (ty := 69) (q := q') (k := k + 2) (by simp [List.lookup]) kY rfl) (h2 := by simp [ldo, ql']) (h3 := does_frame sX hn2) (h4 := ⟨rfl, rfl⟩) (h5 := by simp [retV, SV.ok, SV.oks]) (h6 := Hp.ok_less (by omega) (Tk.okk hg.lt))
set_option maxHeartbeats 4000000 in
theorem doesH_sb (hT : T.good k) (hL : Lk T q) (hl : q.l.length ≤ 1000000) (x : Ac) (hx : x.own = false) (hxr : x.r < 256) :
    SB Try.prog law12_does.f [.ptr T.bx 0, .agg q.cells, .agg x.cells] T.hp k 7 fun r F => r = .tup [.agg (q.hearQ x.r x.v).1.cells, bl true] ∧ F = (T.hearV x.r x.v (k + 4 + 2)).1.hp := by
  have hbx := hT.lt.bx
  refine law12_does.enter (by simp [SV.ok, SV.oks]; omega) (Tk.okk hT.lt) (by simp) ?_
  unfold law12_does.s
  have x0 := x.c0
  have x2 := x.c2
  have x1 := x.c1
  have xl := x.cl
  have xo := x.one
  rw [hx] at x0
  have qo := q.one
  have ql := q.cl
  have qt := q.ct
  have hn8 : q.n ≤ 8 := by rw [← hL.n]; exact hT.n8
  have uK : ∀ i, List.lookup (k + i) T.hp = none := fun i => Tk.lkk hT.lt (by omega)
  have u0 := uK 0
  have u1 := uK 1
  have u2 := uK 2
  have u3 := uK 3
  rw [Nat.add_zero] at u0
  have f1 := ne4 (show k ≠ k + 1 by omega)
  have f2 := ne4 (show k ≠ k + 2 by omega)
  have f3 := ne4 (show k ≠ k + 3 by omega)
  have f4 := ne4 (show k + 1 ≠ k + 2 by omega)
  have f5 := ne4 (show k + 1 ≠ k + 3 by omega)
  have f6 := ne4 (show k + 2 ≠ k + 3 by omega)
  have hr := rhear12_at q hn8 hl x.r hxr x.v
  have hcode := (hL.hearV hT.n8 hT.own x.r x.v (k + 4 + 2)).2
  have hc := hear_at (T := T) (k := k + 4) hT.sep (hT.mono (show k ≤ k + 4 by omega)).lt hT.n0 hT.n8 hT.own8 hT.ww x.r hxr x.v
  have hg := (Tk.hearV_good (hT.mono (show k ≤ k + 4 + 2 by omega)) x.r x.v)
  have hn2 : lk (T.hearV x.r x.v (k + 4 + 2)).1.hp (k + 2) = none := Tk.hear_lk hT.sep _ _ _ (uK 2) (by omega)
  have hn3 : lk (T.hearV x.r x.v (k + 4 + 2)).1.hp (k + 3) = none := Tk.hear_lk hT.sep _ _ _ (uK 3) (by omega)
  rw [hcode] at hc
  obtain ⟨q', hq'⟩ : ∃ q', (q.hearQ x.r x.v).1 = q' := ⟨_, rfl⟩
  obtain ⟨f, hf⟩ : ∃ f, (q.hearQ x.r x.v).2 = f := ⟨_, rfl⟩
  obtain ⟨U, hU⟩ : ∃ U, (T.hearV x.r x.v (k + 4 + 2)).1 = U := ⟨_, rfl⟩
  rw [hq', hf] at hr
  rw [hf, hU] at hc
  rw [hU] at hg hn2 hn3
  rw [hq', hU]
  have qo' := q'.one
  have ql' := q'.cl
  have qt' := q'.ct
  have qz' := spZ q'
  have zf : (((f : Nat) : Int) == ((f : Nat) : Int)) = true := by simp
  refine SW.seq ?_
  (have fx := (And.intro (xo) (And.intro (qo) (And.intro (u0) (And.intro (u1) (And.intro (u2) (And.intro (f1) (And.intro (f2) (f4)))))))); refine SW.regL [0, 1, 2, 4, 5, 6, 7, 8, 9, 10, 11, 13] mixed ?_; (repeat (first | refine RW.ro fx (h := ?_) | refine RW.skip (h := ?_) | refine RW.op fx (h := ?_) | refine RW.opN fx (h := ?_) | refine RW.skip0 (h := ?_))); refine RW.nil ⟨conf_of (by kernel_rfl), Pruned.mk (h := ?_)⟩)
  refine SW.seq (SW.seq ?_)
  (have fx := (And.intro (x0) (And.intro (xl) (And.intro (f1) (And.intro (f2) (f4))))); refine SW.regL [0, 1, 2, 4, 5, 6, 7, 8, 9, 10, 11, 13] mixed ?_; (repeat (first | refine RW.ro fx (h := ?_) | refine RW.skip (h := ?_) | refine RW.op fx (h := ?_) | refine RW.opN fx (h := ?_) | refine RW.skip0 (h := ?_))); refine RW.nil ⟨conf_of (by kernel_rfl), Pruned.mk (h := ?_)⟩)
  refine SW.condF rfl (SW.skip ?_)
  refine SW.seq ?_
  (have fx := (And.intro (x1) (And.intro (x2) (And.intro (xl) (And.intro (qt) (And.intro (ql) (And.intro (qo') (And.intro (ql') (And.intro (qz') (And.intro (f1) (And.intro (f2) (And.intro (f3) (And.intro (f4) (And.intro (f5) (And.intro (f6) (And.intro (u0) (And.intro (u1) (And.intro (u2) (u3)))))))))))))))))); refine SW.regL [0, 1, 2, 4, 5, 6, 7, 8, 9, 10, 11, 13] mixed ?_; (repeat (first | refine RW.ro fx (h := ?_) | refine RW.skip (h := ?_) | refine RW.op fx (h := ?_) | refine RW.opN fx (h := ?_) | refine RW.skip0 (h := ?_) | (refine RW.callC (h := ?_); (first | refine CallP.mk fx (hc := hr _) (h := ?_))))); refine RW.nil ⟨conf_of (by kernel_rfl), Pruned.mk (h := ?_)⟩)
  have hsub : HSub T.hp ((k + 3, Ob.box 69 q'.cells) :: (k + 2, Ob.box 69 zQ) :: (k + 1, Ob.box 61 x.cells) :: (k, Ob.box 69 q.cells) :: T.hp) := sub_cons (uK 3) (sub_cons (uK 2) (sub_cons (uK 1) (sub_cons (uK 0) fun _ _ h => h)))
  obtain ⟨X, hX⟩ : ∃ X, hsets (hdels ((k + 3, Ob.box 69 q'.cells) :: (k + 2, Ob.box 69 zQ) :: (k + 1, Ob.box 61 x.cells) :: (k, Ob.box 69 q.cells) :: T.hp) U.hp T.hp) U.hp = X := ⟨_, rfl⟩
  have sX : HSub U.hp X := by rw [← hX]; exact subX hsub
  have kX : List.lookup (k + 2) X = some (Ob.box 69 zQ) := by
    rw [← hX]
    refine (outX hsub (uK 2) hn2).trans ?_
    rw [lk_cons, if_neg (by omega), lk_cons, if_pos rfl]
  refine SW.seq ?_
  have cT : ∀ (a : Nat) (b : Ob), (a, b) ∈ T.hp → ¬ a = k + 3 := fun a b hy e => by have := lk_of_nodup (Tk.nodup hT.sep) (a, b) hy; dsimp only at this; rw [e, show lk T.hp (k + 3) = none from uK 3] at this; cases this
  have cU : ∀ (a : Nat) (b : Ob), (a, b) ∈ U.hp → ¬ a = k + 3 := fun a b hy e => by have := lk_of_nodup (Tk.nodup hg.sep) (a, b) hy; dsimp only at this; rw [e, hn3] at this; cases this
  have b1 : Nat.testBit 62 3 = true := rfl
  have b2 : Nat.testBit 127 6 = true := rfl
  have b3 : Nat.testBit 62 5 = true := rfl
  (have fx := (And.intro (x1) (And.intro (x2) (And.intro (xl) (And.intro (qt') (And.intro (ql') (And.intro (qo') (And.intro (qz') (And.intro (hX) (And.intro (kX) (And.intro (zf) (And.intro (f1) (And.intro (f2) (And.intro (f3) (And.intro (f4) (And.intro (f5) (f6)))))))))))))))); refine SW.regL [0, 1, 2, 4, 5, 6, 7, 8, 9, 10, 11, 13] mixed ?_; (repeat (first | refine RW.ro fx (h := ?_) | refine RW.skip (h := ?_) | refine RW.op fx (h := ?_) | refine RW.opN fx (h := ?_) | refine RW.skip0 (h := ?_) | (refine RW.callC (h := ?_); (first | refine CallP.mk fx (hs := hsub) (hc := hc) (h := ?_))))); refine RW.nil ⟨conf_of (by simp [noConf2, all2, ordB, roOf, List.range, List.range.loop, cT, cU, b1, b2, b3, f1, f2, f3, f4, f5, f6] <;> (first | decide | (repeat (first | assumption | refine ⟨?_, ?_⟩ | refine .inr ?_)))), Pruned.mk (h := ?_)⟩)
  refine SW.ret ?_
  have kY : lk (hrep X (k + 2) (Ob.box 69 q'.cells)) (k + 2) = some (Ob.box 69 q'.cells) := by rw [lk_hrep, if_pos rfl]
  exact End.mk U.hp (h1 := rvV_q (ty := 69) (q := q') (k := k + 2) (by simp [List.lookup]) kY rfl) (h2 := by simp [ldo, ql']) (h3 := does_frame sX hn2) (h4 := ⟨rfl, rfl⟩) (h5 := by simp [retV, SV.ok, SV.oks]) (h6 := Hp.ok_less (show k + 4 + 2 + 1 ≤ k + 7 by omega) (Tk.okk hg.lt))
theorem isq (T : Tk) (hs : T.sep) : (fun n => (lk T.hp n).isSome) T.bx = true ∧ ∀ r, r < 8 → (fun n => (lk T.hp n).isSome) (T.nm r) = true :=
  ⟨by show (lk T.hp T.bx).isSome = true; rw [show lk T.hp T.bx = _ from Tk.lkb]; rfl, fun r hr => by show (lk T.hp (T.nm r)).isSome = true; rw [show lk T.hp (T.nm r) = _ from Tk.lkm hs hr]; rfl⟩
theorem doesO_at (hT : T.good k) (hL : Lk T q) (hl : q.l.length ≤ 1000000) (x : Ac) (hx : x.own = true) :
    SCd Try.prog law12_does.f [.ptr T.bx 0, .agg q.cells, .agg x.cells] T.hp k 7 (.tup [.agg (q.hasQ x.v).1.cells, bl true]) (T.hasV x.v).1.hp := by
  unfold SCd
  obtain ⟨a2, a3⟩ := isq T hT.sep
  refine (doesO_sb hT hL hl x hx).here (fun n => (lk T.hp n).isSome) (fun n h e => by rw [e] at h; cases h) (by simp only [SV.oks, SV.ok, Qt.ok, Ac.cells_ok, Bool.and_true]; exact a2) (Tk.ok a2 a3) ?_
  rintro x F ⟨rfl, rfl⟩ _ _
  refine ⟨by simp [SV.ok, SV.oks], ?_⟩
  obtain ⟨b1, b2⟩ := T.hasV_bx (Ac.v ‹Ac›)
  dsimp only at a2 a3
  exact Tk.ok (by rw [b1]; simp [a2]) fun r hr => by rw [b2]; simp [a3 r hr]
theorem doesH_at (hT : T.good k) (hL : Lk T q) (hl : q.l.length ≤ 1000000) (x : Ac) (hx : x.own = false) (hxr : x.r < 256) :
    SCd Try.prog law12_does.f [.ptr T.bx 0, .agg q.cells, .agg x.cells] T.hp k 7 (.tup [.agg (q.hearQ x.r x.v).1.cells, bl true]) (T.hearV x.r x.v (k + 4 + 2)).1.hp := by
  unfold SCd
  obtain ⟨a2, a3⟩ := isq T hT.sep
  refine (doesH_sb hT hL hl x hx hxr).here (fun n => (lk T.hp n).isSome) (fun n h e => by rw [e] at h; cases h) (by simp only [SV.oks, SV.ok, Qt.ok, Ac.cells_ok, Bool.and_true]; exact a2) (Tk.ok a2 a3) ?_
  rintro y F ⟨rfl, rfl⟩ _ _
  refine ⟨by simp [SV.ok, SV.oks], ?_⟩
  obtain ⟨b1, b2⟩ := T.hear_nm x.r (k + 4 + 2) x.v
  dsimp only at a2 a3
  refine Tk.ok (by rw [b1]; simp [a2]) fun r hr => ?_
  rcases b2 r with e | e
  · rw [e]; simp [a3 r hr]
  · rw [e]
    have q1 : k ≤ k + 4 + 2 := by omega
    have q2 : k + 4 + 2 < k + 7 := by omega
    simp [q1, q2]
set_option maxHeartbeats 4000000 in
theorem same12_at (hT : T.good k) (hL : Lk T q) (hl : q.l.length ≤ 1000000) : SCd Try.prog law12_same.f [.ptr T.bx 0, .agg q.cells] T.hp k 0 (bl true) T.hp := by
  refine Tk.here hT.sep rfl rfl (fun _ => rfl) (fun p h => by simp [SV.oks, SV.ok, h]) ?_
  have hbx := hT.lt.bx
  refine law12_same.enter (by simp [SV.ok, SV.oks]; omega) (Tk.okk hT.lt) (by simp) ?_
  unfold law12_same.s
  have qo := q.one
  have ql := q.cl
  have qt := q.ct
  have q2 := q.c2
  have hn8 : q.n ≤ 8 := by rw [← hL.n]; exact hT.n8
  have uK : ∀ i, k ≤ i → List.lookup i T.hp = none := fun i h => Tk.lkk hT.lt h
  have u0 := uK k (Nat.le_refl _)
  have hsub : HSub T.hp ((k, Ob.box 69 q.cells) :: T.hp) := sub_cons u0 fun _ _ h => h
  have xT := Tk.selfX hT.sep hsub
  have okE : Hp.ok (fun n => decide (n < k + 1)) ((k, .box 69 q.cells) :: T.hp) = true := by
    have := Hp.ok_less (show k ≤ k + 1 by omega) (Tk.okk hT.lt)
    simp only [Hp.ok, List.all_cons, Ob.ok, Qt.ok, Bool.and_true, Bool.and_eq_true, decide_eq_true_eq] at this ⊢
    exact ⟨by omega, this⟩
  have lkE : ∀ y, y ∈ ((k, .box 69 q.cells) :: T.hp : Hp) → lk ((k, .box 69 q.cells) :: T.hp) y.1 = some y.2 := lk_of_nodup (nd_cons (show lk T.hp k = none from u0) (Tk.nodup hT.sep))
  refine SW.seq ?_
  (refine SW.regL [0, 1, 3, 4, 5, 6, 7, 8, 9, 11, 35] mixed ?_; (repeat (first | refine RW.ro (And.intro (qo) (u0)) (h := ?_) | refine RW.skip (h := ?_) | refine RW.op (And.intro (qo) (u0)) (h := ?_) | refine RW.opN (And.intro (qo) (u0)) (h := ?_) | refine RW.skip0 (h := ?_))); refine RW.nil ⟨conf_of (by kernel_rfl), Pruned.mk (h := ?_)⟩)
  refine SW.seq (SW.seq ?_)
  (refine SW.regL [0, 1, 3, 4, 5, 6, 7, 8, 9, 11, 35] mixed ?_; (repeat (first | refine RW.ro bq_tt (h := ?_) | refine RW.skip (h := ?_) | refine RW.op bq_tt (h := ?_) | refine RW.opN bq_tt (h := ?_) | refine RW.skip0 (h := ?_))); refine RW.nil ⟨conf_of (by kernel_rfl), Pruned.mk (h := ?_)⟩)
  refine SW.block ?_
  refine SW.loop (α := {r : Nat // r ≤ 9}) (fun r => ⟨[(5, i64 r.1), (0, .ptr T.bx 0), (3, .ptr k 0)], (k, .box 69 q.cells) :: T.hp, k + 1⟩) (fun r => 9 - r.1) ⟨0, by omega⟩ id (Weak.same (by simp) (by simp [EnvW, List.lookup, SV.ren, SV.ok]; omega) okE lkE) ?_
  rintro ⟨r, hr⟩
  dsimp only
  by_cases h : r < 9
  · have h1 : decide ((r : Int) < 9) = true := by simp only [decide_eq_true_eq]; omega
    have e2 : IntKind.i64.wrap ((r : Int) + 1) = ((r + 1 : Nat) : Int) := wrap_i64 _ (by omega)
    have e8 : IntKind.u8.wrap (r : Int) = (r : Int) := wrap_u8 _ (by omega)
    have hc := counts_at (T := T) (k := k + 1) hT.sep (hT.mono (show k ≤ k + 1 by omega)).lt hT.n0 hT.n8 r (by omega)
    have hq := rcnt12_at q hn8 hl r (by omega)
    rw [hL.cntV r] at hc
    obtain ⟨a, ha⟩ : ∃ a, (q.cntQ r).1 = a := ⟨_, rfl⟩
    obtain ⟨f, hf⟩ : ∃ f, (q.cntQ r).2 = f := ⟨_, rfl⟩
    rw [ha, hf] at hc hq
    have z1 : csqS [true, true, true, true, true, true, true, true] a.cells a.cells = some true := by rw [Vec.eqb8]; simp
    have z2 : (((f : Nat) : Int) != ((f : Nat) : Int)) = false := by simp
    have f1 := ne4 (show k ≠ k + 2 by omega)
    have f2 := ne4 (show k ≠ k + 3 by omega)
    have f3 := ne4 (show k + 2 ≠ k + 3 by omega)
    have u2 := uK (k + 2) (by omega)
    have u3 := uK (k + 3) (by omega)
    refine SW.seq (SW.seq ?_)
    (refine SW.regL [0, 1, 3, 4, 5, 6, 7, 8, 9, 11, 35] mixed ?_; (repeat (first | refine RW.ro (h1) (h := ?_) | refine RW.skip (h := ?_) | refine RW.op (h1) (h := ?_) | refine RW.opN (h1) (h := ?_) | refine RW.skip0 (h := ?_))); refine RW.nil ⟨conf_of (by kernel_rfl), Pruned.mk (h := ?_)⟩)
    refine SW.condT rfl (SW.skip ?_)
    refine SW.seq (SW.block (SW.seq ?_))
    (have fx := (And.intro (e8) (And.intro (xT) (And.intro (f1) (And.intro (f2) (And.intro (f3) (And.intro (u2) (u3))))))); refine SW.regL [0, 1, 3, 4, 5, 6, 7, 8, 9, 11, 35] mixed ?_; (repeat (first | refine RW.ro fx (h := ?_) | refine RW.skip (h := ?_) | refine RW.op fx (h := ?_) | refine RW.opN fx (h := ?_) | refine RW.skip0 (h := ?_) | (refine RW.callC (h := ?_); (first | refine CallP.mk fx (hs := hsub) (hc := hc) (h := ?_))))); refine RW.nil ⟨conf_of (by kernel_rfl), Pruned.mk (h := ?_)⟩)
    refine SW.seq ?_
    (have fx := (And.intro (e8) (And.intro (qt) (And.intro (ql) (And.intro (f1) (And.intro (f2) (And.intro (f3) (And.intro (u2) (u3)))))))); refine SW.regL [0, 1, 3, 4, 5, 6, 7, 8, 9, 11, 35] mixed ?_; (repeat (first | refine RW.ro fx (h := ?_) | refine RW.skip (h := ?_) | refine RW.op fx (h := ?_) | refine RW.opN fx (h := ?_) | refine RW.skip0 (h := ?_) | (refine RW.callC (h := ?_); (first | refine CallP.mk fx (hc := hq _) (h := ?_))))); refine RW.nil ⟨conf_of (by kernel_rfl), Pruned.mk (h := ?_)⟩)
    refine SW.seq ?_
    (have fx := (And.intro (z1) (And.intro (z2) (And.intro (f1) (And.intro (f2) (f3))))); refine SW.regL [0, 1, 3, 4, 5, 6, 7, 8, 9, 11, 35] mixed ?_; (repeat (first | refine RW.ro fx (h := ?_) | refine RW.skip (h := ?_) | refine RW.op fx (h := ?_) | refine RW.opN fx (h := ?_) | refine RW.skip0 (h := ?_))); refine RW.nil ⟨conf_of (by kernel_rfl), Pruned.mk (h := ?_)⟩)
    refine SW.condF rfl (SW.skip ?_)
    (refine SW.regL [0, 1, 3, 4, 5, 6, 7, 8, 9, 11, 35] mixed ?_; (repeat (first | refine RW.ro (e2) (h := ?_) | refine RW.skip (h := ?_) | refine RW.op (e2) (h := ?_) | refine RW.opN (e2) (h := ?_) | refine RW.skip0 (h := ?_))); refine RW.nil ⟨conf_of (by kernel_rfl), Pruned.mk (h := ?_)⟩)
    exact ⟨⟨r + 1, by omega⟩, id, by simp; omega, Weak.same (by simp) (by simp [EnvW, List.lookup, SV.ren, SV.ok]; omega) okE (fun y hy => by
        have := lkE y hy
        have hlt : y.1 < k + 1 := by
          rcases List.mem_cons.1 hy with rfl | hy
          · show k < k + 1; omega
          · rcases Nat.lt_or_ge y.1 k with h1 | h1
            · omega
            · rw [lk_cons] at this
              split at this
              · omega
              · rw [show lk T.hp y.1 = none from uK _ h1] at this; cases this
        show lk ((k + 3, _) :: (k + 2, _) :: (k, _) :: T.hp) y.1 = some y.2
        rw [lk_cons, if_neg (by omega), lk_cons, if_neg (by omega)]; exact this)⟩
  · have h1 : decide ((r : Int) < 9) = false := by simp only [decide_eq_false_iff_not]; omega
    refine SW.seq (SW.seq ?_)
    (refine SW.regL [0, 1, 3, 4, 5, 6, 7, 8, 9, 11, 35] mixed ?_; (repeat (first | refine RW.ro (h1) (h := ?_) | refine RW.skip (h := ?_) | refine RW.op (h1) (h := ?_) | refine RW.opN (h1) (h := ?_) | refine RW.skip0 (h := ?_))); refine RW.nil ⟨conf_of (by kernel_rfl), Pruned.mk (h := ?_)⟩)
    refine SW.condF rfl (SW.exit ?_)
    refine (?_ : Sl.SW _ _ _ _ _ _)
    have cS := stable_at (T := T) (k := k + 1) hT.sep (hT.mono (show k ≤ k + 1 by omega)).lt hT.n0 hT.n8
    have cQ := rstab12_at q hn8 hl
    rw [hL.stab] at cS
    have dS := waits_at (T := T) (k := k + 2) hT.sep (hT.mono (show k ≤ k + 2 by omega)).lt hT.n0 (fun i hi => by have := hL.wle hT.ww hT.n8 hT.own hi; omega)
    have dQ := rwait12_at q hn8 hl (fun x hx => (hL.mem x hx).1)
    rw [hL.wsum hT.ww hT.n8 hT.own] at dS
    have eS := own_at (T := T) (k := k + 2) hT.sep (hT.mono (show k ≤ k + 2 by omega)).lt hT.n0
    rw [hL.is.has] at eS
    obtain ⟨a, ha⟩ : ∃ a, q.stabQ = a := ⟨_, rfl⟩
    obtain ⟨f, hf⟩ : ∃ f, (q.seenQ q.l).length = f := ⟨_, rfl⟩
    obtain ⟨b, hb⟩ : ∃ b, q.has = b := ⟨_, rfl⟩
    rw [ha] at cS cQ
    rw [hf] at dS dQ
    rw [hb] at eS q2
    have z1 : csqS [true, true, true, true, true, true, true, true] a.cells a.cells = some true := by rw [Vec.eqb8]; simp
    have z3 : csqS [true, true, true, true, true, true, true, true] b.cells b.cells = some true := by rw [Vec.eqb8]; simp
    have z2 : (((f : Nat) : Int) == ((f : Nat) : Int)) = true := by simp
    refine SW.seq ?_
    have b0 : Nat.testBit 63 1 = true := rfl
    have b1 : Nat.testBit 127 1 = true := rfl
    have b2 : Nat.testBit 127 2 = true := rfl
    have b3 : Nat.testBit 16383 1 = true := rfl
    have b4 : Nat.testBit 16383 2 = true := rfl
    have b5 : Nat.testBit 16383 7 = true := rfl
    have b6 : Nat.testBit 16383 8 = true := rfl
    have b7 : Nat.testBit 40959 1 = true := rfl
    have b8 : Nat.testBit 40959 2 = true := rfl
    have b9 : Nat.testBit 40959 7 = true := rfl
    have b10 : Nat.testBit 40959 8 = true := rfl
    have cT : ∀ (a : Nat) (b : Ob), (a, b) ∈ T.hp → ¬ a = k := fun a b hy e => by have := lk_of_nodup (Tk.nodup hT.sep) (a, b) hy; dsimp only at this; rw [e, show lk T.hp k = none from u0] at this; cases this
    (have fx := (And.intro (xT) (And.intro (qt) (And.intro (ql) (And.intro (q2) (And.intro (z1) (And.intro (z2) (z3))))))); refine SW.regL [0, 1, 3, 4, 5, 6, 7, 8, 9, 11, 35] mixed ?_; (repeat (first | refine RW.ro fx (h := ?_) | refine RW.skip (h := ?_) | refine RW.op fx (h := ?_) | refine RW.opN fx (h := ?_) | refine RW.skip0 (h := ?_) | (refine RW.callC (h := ?_); (first | refine CallP.mk fx (hs := hsub) (hc := cS) (h := ?_) | refine CallP.mk fx (hc := cQ _) (h := ?_) | refine CallP.mk fx (hs := hsub) (hc := dS) (h := ?_) | refine CallP.mk fx (hc := dQ _) (h := ?_) | refine CallP.mk fx (hs := hsub) (hc := eS) (h := ?_))))); refine RW.nil ⟨conf_of (by simp [noConf2, all2, ordB, roOf, List.range, List.range.loop, cT, b0, b1, b2, b3, b4, b5, b6, b7, b8, b9, b10] <;> (first | decide | (repeat (first | assumption | refine ⟨?_, ?_⟩ | refine .inr ?_)))), Pruned.mk (h := ?_)⟩)
    refine SW.ret ?_
    exact End.mk T.hp (h7 := by show k + 0 ≤ k + 2 + 1; omega) (h3 := hsub) (h4 := ⟨rfl, rfl⟩) (h6 := Tk.okk hT.lt)
end
end Go.Proofs.Ytacdkgkpoelhdaa
namespace Go.Proofs.Ytacdkgkpoelhdaa
open Go.Sl Go.Proofs
theorem ac_load {l : List Ac} {i : Nat} {x : Ac} (h : l[i]? = some x) : List.take 10 (List.drop (i * 10) (List.map SV.d (l.flatMap Ac.ds))) = x.cells := by
  rw [← List.map_drop, ← List.map_take, flat_take Ac.ds 10 (fun _ => rfl) l i x h]
  rfl
theorem ac_room10 {l : List Ac} {i : Nat} {x : Ac} (h : l[i]? = some x) : (i * 10 + 10 ≤ (List.map SV.d (l.flatMap Ac.ds)).length) = True := eq_true (by
  rw [List.length_map, ac_len]
  have := (List.getElem?_eq_some_iff.1 h).1
  omega)
theorem call_lk {H F F' pre : Hp} (hs : HSub F H) (hF : (F'.map (·.1)).Nodup) (hp : ∀ x, x ∈ pre → lk H x.1 = some x.2 ∧ lk F x.1 = none ∧ lk F' x.1 = none) : ∀ x, x ∈ pre ++ F' → lk (hsets (hdels H F' F) F') x.1 = some x.2 := fun x hx => by
  rcases List.mem_append.1 hx with hx | hx
  · obtain ⟨h1, h2, h3⟩ := hp x hx
    rw [outX hs h2 h3]; exact h1
  · exact subX hs _ _ (lk_of_nodup hF x hx)
theorem nodup_app {A B : Hp} (hA : (A.map (·.1)).Nodup) (hB : (B.map (·.1)).Nodup) (hd : ∀ m, lk A m ≠ none → lk B m = none) : ((A ++ B).map (·.1)).Nodup := by
  rw [List.map_append, List.nodup_append]
  refine ⟨hA, hB, fun a ha b hb e => ?_⟩
  obtain ⟨o, ho⟩ := lk_of_mem ha
  obtain ⟨o', ho'⟩ := lk_of_mem hb
  subst e
  rw [hd a (by rw [ho]; simp)] at ho'
  cases ho'
structure Over (A B : Tk) (k kx : Nat) : Prop where
  a : A.good kx
  b : B.good k
  hi : ∀ m, m < k → lk A.hp m = none
  le : k ≤ kx
section
variable {A B : Tk} {k kx : Nat} (h : Over A B k kx)
include h
theorem Over.dis (m : Nat) (hm : lk A.hp m ≠ none) : lk B.hp m = none := by
  rcases Nat.lt_or_ge m k with h1 | h1
  · exact absurd (h.hi m h1) hm
  · exact Tk.lkk h.b.lt h1
theorem Over.subA : HSub A.hp (A.hp ++ B.hp) := fun m o hm => by rw [lk_app, hm]; rfl
theorem Over.subB : HSub B.hp (A.hp ++ B.hp) := fun m o hm => by
  rw [lk_app, h.hi m (by
    rcases Nat.lt_or_ge m k with h1 | h1
    · exact h1
    · rw [show lk B.hp m = none from Tk.lkk h.b.lt h1] at hm; cases hm), hm]; rfl
theorem Over.out {m : Nat} (hm : kx ≤ m) : lk (A.hp ++ B.hp) m = none := by
  rw [lk_app, show lk A.hp m = none from Tk.lkk h.a.lt hm, show lk B.hp m = none from Tk.lkk h.b.lt (Nat.le_trans h.le hm)]; rfl
theorem Over.low {m : Nat} (hm : m < k) (hb : lk B.hp m = none) : lk (A.hp ++ B.hp) m = none := by rw [lk_app, h.hi m hm, hb]; rfl
theorem Over.nodup : ((A.hp ++ B.hp).map (·.1)).Nodup := nodup_app (Tk.nodup h.a.sep) (Tk.nodup h.b.sep) h.dis
theorem Over.okk : (A.hp ++ B.hp).ok (fun m => decide (m < kx)) = true := by
  have h1 := Tk.okk h.a.lt
  have h2 := Hp.ok_less h.le (Tk.okk h.b.lt)
  simp only [Hp.ok, List.all_append, Bool.and_eq_true] at h1 h2 ⊢
  exact ⟨h1, h2⟩
end
theorem copy_two {T : Tk} {k : Nat} (hT : T.good k) : Over (T.copy k) T k (k + 9) :=
  ⟨Tk.copy_good hT (Nat.le_refl _), hT, fun m hm => Tk.lko (T := T.copy k) (by show m ≠ k; omega) (fun r _ => by show k + 1 + r ≠ m; omega), by omega⟩
theorem act_ex {T : Tk} {q : Qt} {k : Nat} (hT : T.good k) (hL : Lk T q) (hl : q.l.length ≤ 1000) (x : Ac) (hx : x.r < 256) : ∃ (U : Tk) (q' : Qt),
    SCd Try.prog law12_does.f [.ptr (T.copy k).bx 0, .agg q.cells, .agg x.cells] (T.copy k).hp (k + 9) 7 (.tup [.agg q'.cells, bl true]) U.hp ∧
    Over U T k (k + 16) ∧ Lk U q' ∧ U.bx = k ∧ q'.l.length ≤ q.l.length + 1 ∧ U.stab.above T.stab = true := by
  have h2 := copy_two hT
  have hL2 := hL.copy k
  rcases hw : x.own with _ | _
  · have hc := doesH_at (T := T.copy k) (k := k + 9) h2.a hL2 (by omega) x hw hx
    refine ⟨_, _, hc, ⟨(Tk.hearV_good (h2.a.mono (show k + 9 ≤ k + 9 + 4 + 2 by omega)) x.r x.v).mono (by omega), hT, fun m hm => Tk.hear_lk h2.a.sep _ _ _ (h2.hi m hm) (by omega), by omega⟩, (hL2.hearV h2.a.n8 h2.a.own x.r x.v _).1, ((T.copy k).hear_nm x.r _ x.v).1, ?_, (Grown.hearV hL.is hT.n8 hT.n0 hT.own k x.r _ x.v).stab⟩
    unfold Qt.hearQ
    split
    · show q.l.length ≤ _; omega
    split
    · show q.l.length ≤ _; omega
    split
    · split <;> (show q.l.length ≤ _; omega)
    · simp
  · have hc := doesO_at (T := T.copy k) (k := k + 9) h2.a hL2 (by omega) x hw
    refine ⟨_, _, hc, ⟨(Tk.hasV_good h2.a x.v).mono (by omega), hT, fun m hm => Tk.has_lk h2.a.sep _ (h2.hi m hm), by omega⟩, (hL2.hasV h2.a.n8 h2.a.own x.v).1, ((T.copy k).hasV_bx x.v).1, ?_, (Grown.hasV hL.is hT.n8 hT.n0 hT.own k x.v).stab⟩
    unfold Qt.hasQ
    split
    · show q.l.length ≤ _; omega
    split
    · show q.l.length ≤ _; omega
    · show q.l.length ≤ _; omega
section
attribute [local irreducible] SW RW SCd SC CallP Pruned Tk.hp Tk.cells newT Tk.hasV Tk.hearV Tk.stab Tk.wsum Ac.cells Tk.copy Qt.cells
set_option maxHeartbeats 8000000 in
theorem plays_body (n own : Nat) (hn : 1 ≤ n ∧ n ≤ 8) (ho : own < n) (l : List Ac) (hl : ∀ x, x ∈ l → x.r < 256) (hlen : l.length ≤ 9223372036854775807) :
    Go.Sl.Pure Try.prog law12_StablePlays.f [i64 n, u8 own, acts l] (bl true) := by
  refine law12_StablePlays.enter (by first | rfl | simp [SV.ok, SV.oks]) (by first | rfl | simp [Hp.ok, Ob.ok, SV.ok, SV.oks, Vec.cells_ok]) (by simp) ?_
  unfold law12_StablePlays.s
  obtain ⟨A, hA⟩ : ∃ A, newT n own 0 = A := ⟨_, rfl⟩
  obtain ⟨q0, hq0⟩ : ∃ q0, ({ n := n, own := own, has := Vec.zero, l := [] } : Qt) = q0 := ⟨_, rfl⟩
  have bA : A.bx = 0 := by rw [← hA]; unfold newT; rfl
  have gA : A.good 9 := by rw [← hA]; exact newT_good hn ho 0
  have LA : Lk A q0 := by rw [← hA, ← hq0]; exact Lk.new 0
  have zA : ∀ m, 9 ≤ m → lk A.hp m = none := fun m hm => by rw [← hA]; exact newT_lk (.inr (by omega))
  have lA : q0.l.length = 0 := by rw [← hq0]; rfl
  have hc1 := newG_at n own hn ho 0 (u8 own) rfl
  have hc2 := rnew12_at n own hn ho
  rw [hA] at hc1
  rw [hq0] at hc2
  let G : Nat → Tk → Qt → Vec → Nat → Prop := fun i T q last k => T.good k ∧ Lk T q ∧ 10 < k ∧ lk T.hp 9 = none ∧ lk T.hp 10 = none ∧ T.stab.above last = true ∧ q.l.length ≤ i ∧ i ≤ l.length ∧ i ≤ 60
  let E : Tk → Qt → Vec → Hp := fun T q last => (10, .box 25 last.cells) :: (9, .box 69 q.cells) :: T.hp
  have okG : ∀ {i T q last k}, G i T q last k → (E T q last).ok (fun m => decide (m < k)) = true := fun hT => by
    have h1 := Tk.okk hT.1.lt
    have h2 := hT.2.2.1
    simp only [E, Hp.ok, List.all_cons, Ob.ok, Vec.cells_ok, Qt.ok, Bool.and_true, Bool.and_eq_true, decide_eq_true_eq] at h1 ⊢
    exact ⟨h2, by omega, h1⟩
  have ndG : ∀ {i T q last k}, G i T q last k → ((E T q last).map (·.1)).Nodup := fun hT =>
    nd_cons (by rw [lk_cons, if_neg (by omega)]; exact hT.2.2.2.2.1) (nd_cons hT.2.2.2.1 (Tk.nodup hT.1.sep))
  have hG0 : G 0 A q0 Vec.zero 11 := ⟨gA.mono (by omega), LA, by omega, zA 9 (by omega), zA 10 (by omega), Vec.above_iff.2 fun p _ => by rw [Vec.zero_get]; omega, by omega, by omega, by omega⟩
  refine SW.seq ?_
  (refine SW.regL [0, 1, 2, 6, 7, 8, 9, 10, 11, 12, 13, 14, 15, 16, 38, 40, 50, 78, 91] mixed ?_; (repeat (first | refine RW.ro bq_tt (h := ?_) | refine RW.skip (h := ?_) | refine RW.op bq_tt (h := ?_) | refine RW.opN bq_tt (h := ?_) | refine RW.skip0 (h := ?_))); refine RW.nil ⟨conf_of (by kernel_rfl), Pruned.mk (h := ?_)⟩)
  obtain ⟨X1, h1⟩ : ∃ X, hsets [] A.hp = X := ⟨_, rfl⟩
  have s1 : HSub A.hp X1 := by rw [← h1]; exact subX (H := []) (F := []) (HSub.nil _)
  refine SW.seq ?_
  (refine SW.regL [0, 1, 2, 6, 7, 8, 9, 10, 11, 12, 13, 14, 15, 16, 38, 40, 50, 78, 91] mixed ?_; (repeat (first | refine RW.ro (h1) (h := ?_) | refine RW.skip (h := ?_) | refine RW.op (h1) (h := ?_) | refine RW.opN (h1) (h := ?_) | refine RW.skip0 (h := ?_) | (refine RW.callC (h := ?_); (first | refine CallP.mk (h1) (hc := hc1) (h := ?_))))); refine RW.nil ⟨conf_of (by kernel_rfl), Pruned.mk (h := ?_)⟩)
  refine SW.weak id (st1 := ⟨[(0, i64 n), (1, u8 own), (2, acts l), (7, .ptr A.bx 0), (8, .d (.int .i64 0))], A.hp, 9⟩) (Weak.same (by simp) (by simp [EnvW, List.lookup, SV.ren, SV.ok, bA]) (Tk.okk gA.lt) (fun x hx => s1 _ _ (lk_of_nodup (Tk.nodup gA.sep) x hx))) ?_
  have q9 : List.lookup 9 A.hp = none := zA 9 (by omega)
  have q10 : List.lookup 10 A.hp = none := zA 10 (by omega)
  have qo := q0.one
  have ql := q0.cl
  have qz := spZ q0
  refine SW.seq ?_
  (have fx := (And.intro (q9) (And.intro (qo) (And.intro (ql) (qz)))); refine SW.regL [0, 1, 2, 6, 7, 8, 9, 10, 11, 12, 13, 14, 15, 16, 38, 40, 50, 78, 91] mixed ?_; (repeat (first | refine RW.ro fx (h := ?_) | refine RW.skip (h := ?_) | refine RW.op fx (h := ?_) | refine RW.opN fx (h := ?_) | refine RW.skip0 (h := ?_) | (refine RW.callC (h := ?_); (first | refine CallP.mk fx (hc := hc2 _) (h := ?_))))); refine RW.nil ⟨conf_of (by kernel_rfl), Pruned.mk (h := ?_)⟩)
  refine SW.seq (SW.seq ?_)
  (refine SW.regL [0, 1, 2, 6, 7, 8, 9, 10, 11, 12, 13, 14, 15, 16, 38, 40, 50, 78, 91] mixed ?_; (repeat (first | refine RW.ro bq_tt (h := ?_) | refine RW.skip (h := ?_) | refine RW.op bq_tt (h := ?_) | refine RW.opN bq_tt (h := ?_) | refine RW.skip0 (h := ?_))); refine RW.nil ⟨conf_of (by kernel_rfl), Pruned.mk (h := ?_)⟩)
  refine SW.condF rfl (SW.skip ?_)
  refine SW.seq (SW.seq ?_)
  (refine SW.regL [0, 1, 2, 6, 7, 8, 9, 10, 11, 12, 13, 14, 15, 16, 38, 40, 50, 78, 91] mixed ?_; (repeat (first | refine RW.ro bq_tt (h := ?_) | refine RW.skip (h := ?_) | refine RW.op bq_tt (h := ?_) | refine RW.opN bq_tt (h := ?_) | refine RW.skip0 (h := ?_))); refine RW.nil ⟨conf_of (by kernel_rfl), Pruned.mk (h := ?_)⟩)
  refine SW.condF rfl (SW.skip ?_)
  refine SW.seq ?_
  (refine SW.regL [0, 1, 2, 6, 7, 8, 9, 10, 11, 12, 13, 14, 15, 16, 38, 40, 50, 78, 91] mixed ?_; (repeat (first | refine RW.ro (And.intro (q9) (q10)) (h := ?_) | refine RW.skip (h := ?_) | refine RW.op (And.intro (q9) (q10)) (h := ?_) | refine RW.opN (And.intro (q9) (q10)) (h := ?_) | refine RW.skip0 (h := ?_))); refine RW.nil ⟨conf_of (by kernel_rfl), Pruned.mk (h := ?_)⟩)
  refine SW.seq (SW.seq ?_)
  (refine SW.regL [0, 1, 2, 6, 7, 8, 9, 10, 11, 12, 13, 14, 15, 16, 38, 40, 50, 78, 91] mixed ?_; (repeat (first | refine RW.ro bq_tt (h := ?_) | refine RW.skip (h := ?_) | refine RW.op bq_tt (h := ?_) | refine RW.opN bq_tt (h := ?_) | refine RW.skip0 (h := ?_))); refine RW.nil ⟨conf_of (by kernel_rfl), Pruned.mk (h := ?_)⟩)
  refine SW.block ?_
  refine SW.loop (α := {x : Nat × Tk × Qt × Vec × Nat // G x.1 x.2.1 x.2.2.1 x.2.2.2.1 x.2.2.2.2}) (fun x => ⟨[(12, i64 x.1.1), (2, acts l), (7, .ptr x.1.2.1.bx 0), (9, .ptr 9 0), (11, .ptr 10 0)], E x.1.2.1 x.1.2.2.1 x.1.2.2.2.1, x.1.2.2.2.2⟩) (fun x => l.length - x.1.1)
    ⟨(0, A, q0, Vec.zero, 11), hG0⟩ id ?_ ?_
  · exact Weak.same (by simp) (by simp [EnvW, List.lookup, SV.ren, SV.ok, bA]) (okG hG0) (lk_of_nodup (ndG hG0))
  rintro ⟨⟨i, T, q, last, k⟩, hT⟩
  dsimp only at hT ⊢
  obtain ⟨gT, hL, hk, z9, z10, hst, hql, hi, hi60⟩ := hT
  have okT := okG ⟨gT, hL, hk, z9, z10, hst, hql, hi, hi60⟩
  have ndT := ndG ⟨gT, hL, hk, z9, z10, hst, hql, hi, hi60⟩
  have hbx : T.bx < k := gT.lt.bx
  by_cases hc : i < l.length ∧ i < 60
  · obtain ⟨c1, c2⟩ := hc
    have w1 : decide ((i : Int) < l.length) = true := by simp; exact c1
    have w2 : decide ((i : Int) < 60) = true := by simp; omega
    obtain ⟨x, hx⟩ := get_of_lt c1
    have hxr := hl x (List.mem_of_getElem? hx)
    have e2 : IntKind.i64.wrap ((i : Int) + 1) = ((i + 1 : Nat) : Int) := wrap_i64 _ (by omega)
    obtain ⟨U, q', hd, hO, hL', hUb, hql', hab⟩ := act_ex gT hL (by omega) x hxr
    have hO1 := copy_two gT
    have cC := copy_at gT.sep gT.lt gT.n0
    have bC : (T.copy k).bx = k := by unfold Tk.copy; rfl
    obtain ⟨C, hC⟩ : ∃ C, T.copy k = C := ⟨_, rfl⟩
    rw [hC] at hd hO1 cC bC
    have sT : HSub T.hp (E T q last) := sub_cons z10 (sub_cons z9 fun _ _ h => h)
    obtain ⟨X, hX⟩ : ∃ X, hsets (hdels (E T q last) (C.hp ++ T.hp) T.hp) (C.hp ++ T.hp) = X := ⟨_, rfl⟩
    have lX := call_lk (pre := [(10, .box 25 last.cells), (9, .box 69 q.cells)]) sT hO1.nodup (fun y hy => by
      rcases List.mem_cons.1 hy with rfl | hy
      · exact ⟨by rw [lk_cons, if_pos rfl], z10, hO1.low hk z10⟩
      · rw [List.mem_singleton] at hy
        subst hy
        exact ⟨by rw [lk_cons, if_neg (by omega), lk_cons, if_pos rfl], z9, hO1.low (show 9 < k by omega) z9⟩)
    rw [hX] at lX
    refine SW.seq (SW.seq ?_)
    (refine SW.regL [0, 1, 2, 6, 7, 8, 9, 10, 11, 12, 13, 14, 15, 16, 38, 40, 50, 78, 91] mixed ?_; (repeat (first | refine RW.ro (And.intro (w1) (w2)) (h := ?_) | refine RW.skip (h := ?_) | refine RW.op (And.intro (w1) (w2)) (h := ?_) | refine RW.opN (And.intro (w1) (w2)) (h := ?_) | refine RW.skip0 (h := ?_))); refine RW.nil ⟨conf_of (by kernel_rfl), Pruned.mk (h := ?_)⟩)
    refine SW.condT rfl (SW.skip ?_)
    refine SW.seq (SW.block (SW.seq ?_))
    (refine SW.regL [0, 1, 2, 6, 7, 8, 9, 10, 11, 12, 13, 14, 15, 16, 38, 40, 50, 78, 91] mixed ?_; (repeat (first | refine RW.ro (hX) (h := ?_) | refine RW.skip (h := ?_) | refine RW.op (hX) (h := ?_) | refine RW.opN (hX) (h := ?_) | refine RW.skip0 (h := ?_) | (refine RW.callC (h := ?_); (first | refine CallP.mk (hX) (hs := sT) (hc := cC) (h := ?_))))); refine RW.nil ⟨conf_of (by kernel_rfl), Pruned.mk (h := ?_)⟩)
    refine SW.weak id (st1 := ⟨[(12, i64 i), (2, acts l), (7, .ptr T.bx 0), (9, .ptr 9 0), (11, .ptr 10 0), (13, .ptr C.bx 0)], (10, .box 25 last.cells) :: (9, .box 69 q.cells) :: (C.hp ++ T.hp), k + 9⟩) (Weak.same (by simp) (by simp [EnvW, List.lookup, SV.ren, SV.ok, bC]; omega) (by
      have h1 := hO1.okk
      simp only [Hp.ok, List.all_cons, Ob.ok, Vec.cells_ok, Qt.ok, Bool.and_true, Bool.and_eq_true, decide_eq_true_eq] at h1 ⊢
      exact ⟨by omega, by omega, h1⟩) lX) ?_
    clear lX hX cC
    have sC : HSub C.hp ((10, .box 25 last.cells) :: (9, .box 69 q.cells) :: (C.hp ++ T.hp)) := sub_cons (hO1.hi 10 hk) (sub_cons (hO1.hi 9 (by omega)) hO1.subA)
    obtain ⟨Y, hY⟩ : ∃ Y, hsets (hdels ((10, .box 25 last.cells) :: (9, .box 69 q.cells) :: (C.hp ++ T.hp)) U.hp C.hp) U.hp = Y := ⟨_, rfl⟩
    have lY := call_lk (pre := (10, .box 25 last.cells) :: (9, .box 69 q.cells) :: T.hp) sC (Tk.nodup hO.a.sep) (fun y hy => by
      rcases List.mem_cons.1 hy with rfl | hy
      · exact ⟨by rw [lk_cons, if_pos rfl], hO1.hi 10 hk, hO.hi 10 hk⟩
      rcases List.mem_cons.1 hy with rfl | hy
      · exact ⟨by rw [lk_cons, if_neg (by omega), lk_cons, if_pos rfl], hO1.hi 9 (by omega), hO.hi 9 (by omega)⟩
      · have h1 := lk_of_nodup (Tk.nodup gT.sep) y hy
        have hlt : y.1 < k := by
          rcases Nat.lt_or_ge y.1 k with h2 | h2
          · exact h2
          · rw [show lk T.hp y.1 = none from Tk.lkk gT.lt h2] at h1; cases h1
        exact ⟨by rw [lk_cons, if_neg (fun e => by rw [e, z10] at h1; cases h1), lk_cons, if_neg (fun e => by rw [e, z9] at h1; cases h1)]; exact hO1.subB _ _ h1, hO1.hi _ hlt, hO.hi _ hlt⟩)
    rw [hY] at lY
    have nY : List.lookup (k + 16) Y = none := by
      have h1 : lk C.hp (k + 16) = none := Tk.lkk hO1.a.lt (by omega)
      have h2 : lk U.hp (k + 16) = none := Tk.lkk hO.a.lt (by omega)
      show lk Y (k + 16) = none
      rw [← hY, outX sC h1 h2, lk_cons, if_neg (by omega), lk_cons, if_neg (by omega)]
      exact hO1.out (by omega)
    have cC' : ∀ (a : Nat) (b : Ob), (a, b) ∈ C.hp → ¬ a = k + 9 + 7 := fun a b hy e => by have := lk_of_nodup (Tk.nodup hO1.a.sep) (a, b) hy; dsimp only at this; rw [e, show lk C.hp (k + 16) = none from Tk.lkk hO1.a.lt (by omega)] at this; cases this
    have cU' : ∀ (a : Nat) (b : Ob), (a, b) ∈ U.hp → ¬ a = k + 9 + 7 := fun a b hy e => by have := lk_of_nodup (Tk.nodup hO.a.sep) (a, b) hy; dsimp only at this; rw [e, show lk U.hp (k + 16) = none from Tk.lkk hO.a.lt (by omega)] at this; cases this
    have ql := q.cl
    have qt := q.ct
    have qo' := q'.one
    have ql' := q'.cl
    have qt' := q'.ct
    have qz' := spZ q'
    have g1 := ne4 (show k + 9 + 7 ≠ 9 by omega)
    have g2 := ne4 (show k + 9 + 7 ≠ 10 by omega)
    have g3 := ne4 (show k + 18 ≠ 9 by omega)
    have g4 := ne4 (show k + 18 ≠ 10 by omega)
    have g5 := ne4 (show k + 18 ≠ k + 16 by omega)
    have g6 := ne4 (show (10 : Nat) ≠ 9 by omega)
    refine SW.seq ?_
    have b3 : Nat.testBit 63 1 = true := rfl
    have cC2 : ∀ (x : Ob), ¬ (k + 9 + 7, x) ∈ C.hp := fun x hx => cC' _ x hx rfl
    have cU2 : ∀ (x : Ob), ¬ (k + 9 + 7, x) ∈ U.hp := fun x hx => cU' _ x hx rfl
    (have fx := (And.intro (ac_load hx) (And.intro (ac_room10 hx) (And.intro (ql) (And.intro (qt) (And.intro (qo') (And.intro (ql') (And.intro (qz') (And.intro (hY) (And.intro (nY) (And.intro (g1) (And.intro (g2) (g6)))))))))))); refine SW.regL [0, 1, 2, 6, 7, 8, 9, 10, 11, 12, 13, 14, 15, 16, 38, 40, 50, 78, 91] mixed ?_; (repeat (first | refine RW.ro fx (h := ?_) | refine RW.skip (h := ?_) | refine RW.op fx (h := ?_) | refine RW.opN fx (h := ?_) | refine RW.skip0 (h := ?_) | (refine RW.callC (h := ?_); (first | refine CallP.mk fx (hs := sC) (hc := hd) (h := ?_))))); refine RW.nil ⟨conf_of (by simp [noConf2, all2, ordB, roOf, List.range, List.range.loop, cC', cU', b3, g1, g2] <;> (first | decide | (repeat (first | assumption | refine ⟨?_, ?_⟩ | refine .inr ?_)))), Pruned.mk (h := ?_)⟩)
    obtain ⟨K, hK⟩ : ∃ K, k + 17 = K := ⟨_, rfl⟩
    obtain ⟨n1, hn1⟩ : ∃ n1, k + 9 + 7 = n1 := ⟨_, rfl⟩
    obtain ⟨R, hR⟩ : ∃ R, U.hp ++ T.hp = R := ⟨_, rfl⟩
    have kU : U.bx < K := by rw [hUb]; omega
    have kT : T.bx < K := by omega
    have sUR : HSub U.hp R := by rw [← hR]; exact hO.subA
    have sTR : HSub T.hp R := by rw [← hR]; exact hO.subB
    have okR : R.ok (fun m => decide (m < K)) = true := by rw [← hR]; exact Hp.ok_less (by omega) hO.okk
    have ndR : (R.map (·.1)).Nodup := by rw [← hR]; exact hO.nodup
    have zR : ∀ m, n1 ≤ m → lk R m = none := fun m hm => by rw [← hR]; exact hO.out (by omega)
    have yR9 : lk R 9 = none := by rw [← hR]; exact hO.low (by omega) z9
    have yR10 : lk R 10 = none := by rw [← hR]; exact hO.low hk z10
    have zU : ∀ m, (m < k ∨ k + 16 ≤ m) → lk U.hp m = none := fun m hm => hm.elim (hO.hi m) fun h => Tk.lkk hO.a.lt h
    have zT : ∀ m, k ≤ m → lk T.hp m = none := fun m hm => Tk.lkk gT.lt hm
    have nn : n1 < K ∧ 10 < n1 := by omega
    have okE3 : ∀ kx, K ≤ kx → Hp.ok (fun m => decide (m < kx)) ((n1, .box 69 q'.cells) :: (10, .box 25 last.cells) :: (9, .box 69 q.cells) :: R) = true := fun kx hx => by
      have h1 := Hp.ok_less hx okR
      simp only [Hp.ok, List.all_cons, Ob.ok, Vec.cells_ok, Qt.ok, Bool.and_true, Bool.and_eq_true, decide_eq_true_eq] at h1 ⊢
      exact ⟨by omega, by omega, by omega, h1⟩
    have ndE3 : (((n1, .box 69 q'.cells) :: (10, .box 25 last.cells) :: (9, .box 69 q.cells) :: R : Hp).map (·.1)).Nodup :=
      nd_cons (by rw [lk_cons, if_neg (by omega), lk_cons, if_neg (by omega)]; exact zR _ (Nat.le_refl _)) (nd_cons (by rw [lk_cons, if_neg (by omega)]; exact yR10) (nd_cons yR9 ndR))
    rw [hn1, hK]
    refine SW.weak id (st1 := ⟨[(12, i64 i), (2, acts l), (7, .ptr T.bx 0), (9, .ptr 9 0), (11, .ptr 10 0), (13, .ptr U.bx 0), (14, .ptr n1 0), (15, bl true)], (n1, .box 69 q'.cells) :: (10, .box 25 last.cells) :: (9, .box 69 q.cells) :: R, K⟩) (Weak.same (by simp) (by simp [EnvW, List.lookup, SV.ren, SV.ok, bC, hUb]; omega) (okE3 K (Nat.le_refl _)) (fun y hy => by
      have h1 := lk_of_nodup ndE3 y hy
      show lk ((n1, .box 69 q'.cells) :: Y) y.1 = some y.2
      rcases List.mem_cons.1 hy with rfl | hy
      · rw [lk_cons, if_pos rfl]
      have hne : y.1 ≠ n1 := fun e => by
        have h2 := List.nodup_cons.1 (by simpa only [List.map_cons] using ndE3)
        exact h2.1 (by rw [← e]; exact List.mem_map_of_mem (f := (·.1)) hy)
      rw [lk_cons, if_neg hne]
      refine lY y ?_
      rw [← hR] at hy
      simp only [List.mem_cons, List.mem_append] at hy ⊢
      rcases hy with h | h | h | h
      · exact .inl (.inl h)
      · exact .inl (.inr (.inl h))
      · exact .inr h
      · exact .inl (.inr (.inr h)))) ?_
    clear lY hY nY cC' cU' okE3
    have sU3 : HSub U.hp ((n1, .box 69 q'.cells) :: (10, .box 25 last.cells) :: (9, .box 69 q.cells) :: R) := sub_cons (zU _ (by omega)) (sub_cons (zU _ (by omega)) (sub_cons (zU _ (by omega)) sUR))
    have sT3 : HSub T.hp ((n1, .box 69 q'.cells) :: (10, .box 25 last.cells) :: (9, .box 69 q.cells) :: R) := sub_cons (zT _ (by omega)) (sub_cons z10 (sub_cons z9 sTR))
    have xU3 := Tk.selfX hO.a.sep sU3
    have xT3 := Tk.selfX gT.sep sT3
    have v1 := ne4 (show n1 ≠ 9 by omega)
    have v2 := ne4 (show n1 ≠ 10 by omega)
    have v3 := ne4 (show K + 1 ≠ 9 by omega)
    have v4 := ne4 (show K + 1 ≠ 10 by omega)
    have v5 := ne4 (show K + 1 ≠ n1 by omega)
    have sm1 := fun kx (h : K ≤ kx) => same12_at (T := U) (k := kx) (hO.a.mono (by omega)) hL' (by omega)
    have sm2 := fun kx (h : K ≤ kx) => same12_at (T := T) (k := kx) (gT.mono (by omega)) hL (by omega)
    refine SW.seq (SW.seq ?_)
    (have fx := (And.intro (ql) (And.intro (qt) (And.intro (ql') (And.intro (qt') (And.intro (xU3) (And.intro (xT3) (And.intro (v1) (And.intro (v2) (g6))))))))); refine SW.regL [0, 1, 2, 6, 7, 8, 9, 10, 11, 12, 13, 14, 15, 16, 38, 40, 50, 78, 91] mixed ?_; (repeat (first | refine RW.ro fx (h := ?_) | refine RW.skip (h := ?_) | refine RW.op fx (h := ?_) | refine RW.opN fx (h := ?_) | refine RW.skip0 (h := ?_) | (refine RW.callC (h := ?_); (first | refine CallP.mk fx (hs := sU3) (hc := sm1 _ (by first | assumption | omega)) (h := ?_) | refine CallP.mk fx (hs := sT3) (hc := sm2 _ (by first | assumption | omega)) (h := ?_))))); refine RW.nil ⟨conf_of (by kernel_rfl), Pruned.mk (h := ?_)⟩)
    refine SW.condF rfl (SW.skip ?_)
    have cS := stable_at (T := U) (k := K) hO.a.sep (hO.a.mono (show k + 16 ≤ K by omega)).lt hO.a.n0 hO.a.n8
    obtain ⟨s, hs⟩ : ∃ s, U.stab = s := ⟨_, rfl⟩
    have hsl : s.above last = true := by rw [← hs]; exact Vec.above_trans hab hst
    have hown : U.has.above s = true := by rw [← hs]; exact own_above hL'.is hO.a.own
    rw [hs] at cS
    have u1 : List.lookup (K + 1) R = none := zR _ (by omega)
    refine SW.seq ?_
    (have fx := (And.intro (xU3) (And.intro (v3) (And.intro (v4) (And.intro (v5) (u1))))); refine SW.regL [0, 1, 2, 6, 7, 8, 9, 10, 11, 12, 13, 14, 15, 16, 38, 40, 50, 78, 91] mixed ?_; (repeat (first | refine RW.ro fx (h := ?_) | refine RW.skip (h := ?_) | refine RW.op fx (h := ?_) | refine RW.opN fx (h := ?_) | refine RW.skip0 (h := ?_) | (refine RW.callC (h := ?_); (first | refine CallP.mk fx (hs := sU3) (hc := cS) (h := ?_))))); refine RW.nil ⟨conf_of (by kernel_rfl), Pruned.mk (h := ?_)⟩)
    have sU4 : HSub U.hp ((K + 1, .box 25 s.cells) :: (n1, .box 69 q'.cells) :: (10, .box 25 last.cells) :: (9, .box 69 q.cells) :: R) := sub_cons (zU _ (by omega)) sU3
    have xU4 := Tk.selfX hO.a.sep sU4
    have cO := own_at (T := U) (k := K + 2) hO.a.sep (hO.a.mono (show k + 16 ≤ K + 2 by omega)).lt hO.a.n0
    obtain ⟨w, hw⟩ : ∃ w, U.has = w := ⟨_, rfl⟩
    rw [hw] at hown cO
    have ca1 := rabove_at4 s last
    have ca2 := rabove_at4 w s
    rw [hsl] at ca1
    rw [hown] at ca2
    have cU1 : ∀ (a : Nat) (b : Ob), (a, b) ∈ U.hp → ¬ a = K + 1 := fun a b hy e => by have := lk_of_nodup (Tk.nodup hO.a.sep) (a, b) hy; dsimp only at this; rw [e, zU _ (by omega)] at this; cases this
    have b1 : Nat.testBit 63 0 = true := rfl
    have b2 : Nat.testBit 63 1 = true := rfl
    refine SW.seq (SW.seq ?_)
    (have fx := (And.intro (xU4) (And.intro (v1) (And.intro (v2) (And.intro (v3) (And.intro (v4) (And.intro (v5) (g6))))))); refine SW.regL [0, 1, 2, 6, 7, 8, 9, 10, 11, 12, 13, 14, 15, 16, 38, 40, 50, 78, 91] mixed ?_; (repeat (first | refine RW.ro fx (h := ?_) | refine RW.skip (h := ?_) | refine RW.op fx (h := ?_) | refine RW.opN fx (h := ?_) | refine RW.skip0 (h := ?_) | (refine RW.callC (h := ?_); (first | refine CallP.mk fx (hc := ca1 _) (h := ?_) | refine CallP.mk fx (hc := ca2 _) (h := ?_) | refine CallP.mk fx (hs := sU4) (hc := cO) (h := ?_))))); refine RW.nil ⟨conf_of (by simp [noConf2, all2, ordB, roOf, List.range, List.range.loop, cU1, b1, b2, v3, v4, v5] <;> (first | decide | (repeat (first | assumption | refine ⟨?_, ?_⟩ | refine .inr ?_)))), Pruned.mk (h := ?_)⟩)
    refine SW.condF rfl (SW.skip ?_)
    refine SW.seq ?_
    (have fx := (And.intro (v3) (And.intro (v4) (And.intro (v5) (And.intro (v1) (And.intro (v2) (g6)))))); refine SW.regL [0, 1, 2, 6, 7, 8, 9, 10, 11, 12, 13, 14, 15, 16, 38, 40, 50, 78, 91] mixed ?_; (repeat (first | refine RW.ro fx (h := ?_) | refine RW.skip (h := ?_) | refine RW.op fx (h := ?_) | refine RW.opN fx (h := ?_) | refine RW.skip0 (h := ?_))); refine RW.nil ⟨conf_of (by kernel_rfl), Pruned.mk (h := ?_)⟩)
    refine SW.seq ?_
    (refine SW.regL [0, 1, 2, 6, 7, 8, 9, 10, 11, 12, 13, 14, 15, 16, 38, 40, 50, 78, 91] mixed ?_; (repeat (first | refine RW.ro bq_tt (h := ?_) | refine RW.skip (h := ?_) | refine RW.op bq_tt (h := ?_) | refine RW.opN bq_tt (h := ?_) | refine RW.skip0 (h := ?_))); refine RW.nil ⟨conf_of (by kernel_rfl), Pruned.mk (h := ?_)⟩)
    (have fx := (And.intro (v3) (And.intro (v4) (And.intro (v5) (And.intro (v1) (And.intro (v2) (And.intro (g6) (And.intro (qt') (And.intro (ql') (And.intro (qo') (q'.sp q.cells q.cl)))))))))); refine SW.regL [0, 1, 2, 6, 7, 8, 9, 10, 11, 12, 13, 14, 15, 16, 38, 40, 50, 78, 91] mixed ?_; (repeat (first | refine RW.ro fx (h := ?_) | refine RW.skip (h := ?_) | refine RW.op fx (h := ?_) | refine RW.opN fx (h := ?_) | refine RW.skip0 (h := ?_))); refine RW.nil ⟨conf_of (by kernel_rfl), Pruned.mk (h := ?_)⟩)
    (refine SW.regL [0, 1, 2, 6, 7, 8, 9, 10, 11, 12, 13, 14, 15, 16, 38, 40, 50, 78, 91] mixed ?_; (repeat (first | refine RW.ro (e2) (h := ?_) | refine RW.skip (h := ?_) | refine RW.op (e2) (h := ?_) | refine RW.opN (e2) (h := ?_) | refine RW.skip0 (h := ?_))); refine RW.nil ⟨conf_of (by kernel_rfl), Pruned.mk (h := ?_)⟩)
    have hG' : G (i + 1) U q' s (K + 3) := ⟨hO.a.mono (by omega), hL', by omega, zU _ (by omega), zU _ (by omega), by rw [hs]; exact Vec.above_iff.2 fun _ _ => Nat.le_refl _, by omega, by omega, by omega⟩
    exact ⟨⟨(i + 1, U, q', s, K + 3), hG'⟩, id, by show l.length - (i + 1) < l.length - i; omega, Weak.same (by simp) (by simp [EnvW, List.lookup, SV.ren, SV.ok]; omega) (okG hG') (fun y hy => by
      show lk ((K + 1, .box 25 s.cells) :: (n1, .box 69 q'.cells) :: (10, .box 25 s.cells) :: (9, .box 69 q'.cells) :: R) y.1 = some y.2
      have h1 := lk_of_nodup (ndG hG') y hy
      rcases List.mem_cons.1 hy with rfl | hy
      · rw [lk_cons, if_neg (by dsimp only; omega), lk_cons, if_neg (by dsimp only; omega), lk_cons, if_pos rfl]
      rcases List.mem_cons.1 hy with rfl | hy
      · rw [lk_cons, if_neg (by dsimp only; omega), lk_cons, if_neg (by dsimp only; omega), lk_cons, if_neg (by dsimp only; omega), lk_cons, if_pos rfl]
      have h2 := lk_of_nodup (Tk.nodup hO.a.sep) y hy
      have hne : ∀ m, lk U.hp m = none → y.1 ≠ m := fun m hm e => by rw [e, hm] at h2; cases h2
      rw [lk_cons, if_neg (hne _ (zU _ (by omega))), lk_cons, if_neg (hne _ (zU _ (by omega))), lk_cons, if_neg (hne _ (zU _ (by omega))), lk_cons, if_neg (hne _ (zU _ (by omega)))]
      exact sUR _ _ h2)⟩
  · have h3 : decide ((i : Int) < l.length) = false ∨ (decide ((i : Int) < l.length) = true ∧ decide ((i : Int) < 60) = false) := by
      simp only [decide_eq_false_iff_not, decide_eq_true_eq]; omega
    refine SW.seq (SW.seq ?_)
    rcases h3 with w | ⟨v, w⟩
    all_goals first | ((refine SW.regL [0, 1, 2, 6, 7, 8, 9, 10, 11, 12, 13, 14, 15, 16, 38, 40, 50, 78, 91] mixed ?_; (repeat (first | refine RW.ro (w) (h := ?_) | refine RW.skip (h := ?_) | refine RW.op (w) (h := ?_) | refine RW.opN (w) (h := ?_) | refine RW.skip0 (h := ?_))); refine RW.nil ⟨conf_of (by kernel_rfl), Pruned.mk (h := ?_)⟩); done) | ((refine SW.regL [0, 1, 2, 6, 7, 8, 9, 10, 11, 12, 13, 14, 15, 16, 38, 40, 50, 78, 91] mixed ?_; (repeat (first | refine RW.ro (w) (h := ?_) | refine RW.skip (h := ?_) | refine RW.op (w) (h := ?_) | refine RW.opN (w) (h := ?_) | refine RW.skip0 (h := ?_))); refine RW.nil ⟨conf_of (by kernel_rfl), Pruned.mk (h := ?_)⟩)) | ((refine SW.regL [0, 1, 2, 6, 7, 8, 9, 10, 11, 12, 13, 14, 15, 16, 38, 40, 50, 78, 91] mixed ?_; (repeat (first | refine RW.ro (And.intro (v) (w)) (h := ?_) | refine RW.skip (h := ?_) | refine RW.op (And.intro (v) (w)) (h := ?_) | refine RW.opN (And.intro (v) (w)) (h := ?_) | refine RW.skip0 (h := ?_))); refine RW.nil ⟨conf_of (by kernel_rfl), Pruned.mk (h := ?_)⟩))
    all_goals refine SW.condF rfl (SW.exit ?_)
    all_goals refine SW.weak id (st1 := ⟨[], [], k⟩) (Weak.same (by simp) (by simp [EnvW]) rfl (fun x hx => by cases hx)) ?_
    all_goals refine SW.seq ?_
    all_goals (refine SW.regL [0, 1, 2, 6, 7, 8, 9, 10, 11, 12, 13, 14, 15, 16, 38, 40, 50, 78, 91] mixed ?_; (repeat (first | refine RW.ro bq_tt (h := ?_) | refine RW.skip (h := ?_) | refine RW.op bq_tt (h := ?_) | refine RW.opN bq_tt (h := ?_) | refine RW.skip0 (h := ?_) | (refine RW.callC (h := ?_); (first | refine CallP.mk bq_tt (hc := headG_at _) (h := ?_))))); refine RW.nil ⟨conf_of (by kernel_rfl), Pruned.mk (h := ?_)⟩)
    all_goals refine SW.ret ?_
    all_goals exact End.mk [] (h4 := ⟨rfl, rfl⟩)
set_option maxHeartbeats 2000000 in
theorem plays_none (n : Int) (own : Nat) (hr : -9223372036854775808 ≤ n ∧ n < 9223372036854775808) (ho : own < 256) (hbad : ¬ (1 ≤ n ∧ n ≤ 8 ∧ (own : Int) < n)) (l : List Ac) : Go.Sl.Pure Try.prog law12_StablePlays.f [.d (.int .i64 n), u8 own, acts l] (bl true) := by
  refine law12_StablePlays.enter (by first | rfl | simp [SV.ok, SV.oks]) (by first | rfl | simp [Hp.ok, Ob.ok, SV.ok, SV.oks, Vec.cells_ok]) (by simp) ?_
  unfold law12_StablePlays.s
  have hc1 := newG0_at n own hr ho hbad 0 (u8 own) rfl
  have hc2 := rnew0_at n own ho hbad
  have zz : spl zQ 0 zQ = zQ := rfl
  refine SW.seq ?_
  (refine SW.regL [0, 1, 2, 6, 7, 8, 9, 10, 11, 12, 13, 14, 15, 16, 38, 40, 50, 78, 91] mixed ?_; (repeat (first | refine RW.ro bq_tt (h := ?_) | refine RW.skip (h := ?_) | refine RW.op bq_tt (h := ?_) | refine RW.opN bq_tt (h := ?_) | refine RW.skip0 (h := ?_))); refine RW.nil ⟨conf_of (by kernel_rfl), Pruned.mk (h := ?_)⟩)
  refine SW.seq ?_
  (refine SW.regL [0, 1, 2, 6, 7, 8, 9, 10, 11, 12, 13, 14, 15, 16, 38, 40, 50, 78, 91] mixed ?_; (repeat (first | refine RW.ro bq_tt (h := ?_) | refine RW.skip (h := ?_) | refine RW.op bq_tt (h := ?_) | refine RW.opN bq_tt (h := ?_) | refine RW.skip0 (h := ?_) | (refine RW.callC (h := ?_); (first | refine CallP.mk bq_tt (hc := hc1) (h := ?_))))); refine RW.nil ⟨conf_of (by kernel_rfl), Pruned.mk (h := ?_)⟩)
  refine SW.seq ?_
  (refine SW.regL [0, 1, 2, 6, 7, 8, 9, 10, 11, 12, 13, 14, 15, 16, 38, 40, 50, 78, 91] mixed ?_; (repeat (first | refine RW.ro (zz) (h := ?_) | refine RW.skip (h := ?_) | refine RW.op (zz) (h := ?_) | refine RW.opN (zz) (h := ?_) | refine RW.skip0 (h := ?_) | (refine RW.callC (h := ?_); (first | refine CallP.mk (zz) (hc := hc2 _) (h := ?_))))); refine RW.nil ⟨conf_of (by kernel_rfl), Pruned.mk (h := ?_)⟩)
  refine SW.seq (SW.seq ?_)
  (refine SW.regL [0, 1, 2, 6, 7, 8, 9, 10, 11, 12, 13, 14, 15, 16, 38, 40, 50, 78, 91] mixed ?_; (repeat (first | refine RW.ro bq_tt (h := ?_) | refine RW.skip (h := ?_) | refine RW.op bq_tt (h := ?_) | refine RW.opN bq_tt (h := ?_) | refine RW.skip0 (h := ?_))); refine RW.nil ⟨conf_of (by kernel_rfl), Pruned.mk (h := ?_)⟩)
  refine SW.condF rfl (SW.skip ?_)
  refine SW.seq (SW.seq ?_)
  (refine SW.regL [0, 1, 2, 6, 7, 8, 9, 10, 11, 12, 13, 14, 15, 16, 38, 40, 50, 78, 91] mixed ?_; (repeat (first | refine RW.ro bq_tt (h := ?_) | refine RW.skip (h := ?_) | refine RW.op bq_tt (h := ?_) | refine RW.opN bq_tt (h := ?_) | refine RW.skip0 (h := ?_))); refine RW.nil ⟨conf_of (by kernel_rfl), Pruned.mk (h := ?_)⟩)
  refine SW.condT rfl (SW.seq ?_)
  refine SW.weak id (st1 := ⟨[], [], 1⟩) (Weak.same (by simp) (by simp [EnvW]) rfl (fun x hx => by cases hx)) ?_
  (refine SW.regL [0, 1, 2, 6, 7, 8, 9, 10, 11, 12, 13, 14, 15, 16, 38, 40, 50, 78, 91] mixed ?_; (repeat (first | refine RW.ro bq_tt (h := ?_) | refine RW.skip (h := ?_) | refine RW.op bq_tt (h := ?_) | refine RW.opN bq_tt (h := ?_) | refine RW.skip0 (h := ?_) | (refine RW.callC (h := ?_); (first | refine CallP.mk bq_tt (hc := headG_at _) (h := ?_))))); refine RW.nil ⟨conf_of (by kernel_rfl), Pruned.mk (h := ?_)⟩)
  refine SW.ret ?_
  exact End.mk [] (h4 := ⟨rfl, rfl⟩)
theorem law_plays (n : Int) (own : Nat) (hr : -9223372036854775808 ≤ n ∧ n < 9223372036854775808) (ho : own < 256) (l : List Ac) (hl : ∀ x, x ∈ l → x.r < 256) (hlen : l.length ≤ 9223372036854775807) :
    Go.Sl.Pure Try.prog law12_StablePlays.f [.d (.int .i64 n), u8 own, acts l] (bl true) := by
  by_cases hn : 1 ≤ n ∧ n ≤ 8 ∧ (own : Int) < n
  · obtain ⟨m, rfl⟩ := Int.eq_ofNat_of_zero_le (show 0 ≤ n by omega)
    exact plays_body m own (by omega) (by omega) l hl hlen
  · exact plays_none n own hr ho hn l
end
end Go.Proofs.Ytacdkgkpoelhdaa
