/-
  Buffers: Put.
-/
import Derived.Test.YtnakpdoioammhaaDoorUD
set_option linter.unusedSectionVars false
set_option linter.unusedVariables false
set_option linter.unusedSimpArgs false
namespace Go.Proofs.YtnakpdoioammhaaDoor
open Go.Sl Go.Proofs
attribute [local irreducible] SW RW SCd SC CallP Pruned
theorem mset_ov (L : MM Dt OpD) (c : Nat) (a : Dt) (o : OpD) : msetS (mapE Dt.cells ov L) c (.agg a.cells) (.agg o.cells) (MM.idx L a) = .map (mapE Dt.cells ov (MM.put L c a o)) (MM.clk L c a) := mset_mapE (vs := ov) L c a o
structure PutOk (l : List OpD) : Prop where
  len : l.length ≤ 500000
  op : ∀ x, x ∈ l → OpR x ∧ x.cl.length ≤ 140737488351232
theorem badF_iff {n : Nat} {o : OpD} : badF n o = false ↔ 1 ≤ n ∧ n ≤ 8 ∧ Go.Sl.Form n o := by
  unfold badF
  rw [bne_eq_false_iff_eq, checkV_zero, Int.toNat_natCast]
  exact ⟨fun h => ⟨by omega, by omega, h.2.2⟩, fun h => ⟨by omega, by omega, h.2.2⟩⟩
theorem form_lines {n : Nat} {o : OpD} (h : Go.Sl.Form n o) : o.cl.length ≤ 16 := by
  by_cases h1 : 108 ∈ hasK o.kind
  · have := h.lines h1
    unfold linesV at this
    rw [Bool.and_eq_true, decide_eq_true_eq] at this
    exact this.1.2
  · have := h.zero
    unfold zeroV at this
    simp only [Bool.and_eq_true, Bool.or_eq_true, decide_eq_true_eq, h1, false_or, beq_iff_eq] at this
    omega
theorem PutOk.lns {n : Nat} {l : List OpD} (h : PutOk l) (hb : l.any (badF n) = false) {x : OpD} (hx : x ∈ l) : LnS x := by
  have h1 : badF n x = false := by
    rw [List.any_eq_false] at hb
    simpa using hb x hx
  exact ⟨(h.op x hx).1.w.lin, by have := form_lines (badF_iff.1 h1).2.2; omega⟩
theorem PutOk.wf {l : List OpD} (h : PutOk l) {x : OpD} (hx : x ∈ l) : x.dot.wf := ⟨(h.op x hx).1.dr, (h.op x hx).1.dn⟩
structure WaitOk (M : MM Dt OpD) (c : Nat) : Prop where
  wb : WB M c
  len : M.length ≤ 400000
  wf : ∀ o, o ∈ vals M → o.dot.wf
theorem putMs_len (has : Vec) : ∀ (l : List OpD) (X : MM Dt OpD × Nat), (putMs has X l).1.length ≤ X.1.length + l.length
  | [], X => Nat.le_refl _
  | o :: l, X => by
    have h1 := putMs_len has l (putM has X o)
    have h2 : (putM has X o).1.length ≤ X.1.length + 1 := by
      unfold putM
      split
      · omega
      · rename_i hn
        have hd : MM.has X.1 o.dot = false := by
          rw [Bool.or_eq_true, not_or] at hn; simpa using hn.1
        rw [put_none hd]; simp
    show (putMs has (putM has X o) l).1.length ≤ _
    rw [List.length_cons]; omega
theorem addAll_mem {has : Vec} : ∀ {l L : List OpD} {o : OpD}, o ∈ addAll has L l → o ∈ L ∨ o ∈ l
  | [], L, o, h => .inl h
  | x :: l, L, o, h => by
    rcases addAll_mem (l := l) h with h | h
    · unfold addB at h
      split at h
      · exact .inl h
      · rcases List.mem_append.1 h with h | h
        · exact .inl h
        · exact .inr (by simp at h; simp [h])
    · exact .inr (List.mem_cons_of_mem _ h)
structure PIn (R : List OpD × Vec × MM Dt OpD) (c : Nat) (out : List OpD) (has : Vec) (M : MM Dt OpD) : Prop where
  k : ∃ k, R = (out ++ (drainM k has M).1, (drainM k has M).2) ∧ (vals M).length ≤ k
  wb : WB M c
  hv : has.wf
  wf : ∀ o, o ∈ vals M → o.dot.wf
  len : out.length + M.length < 1000000
theorem PIn.done {R : List OpD × Vec × MM Dt OpD} {c : Nat} {out : List OpD} {has : Vec} {M : MM Dt OpD} (h : PIn R c out has M) (hn : nextB has (vals M) = none) : R = (out, has, M) := by
  obtain ⟨k, e, _⟩ := h.k
  rw [e, drainM_none hn, List.append_nil]
theorem del_len {M : MM Dt OpD} {c : Nat} (h : WB M c) {o : OpD} (ho : o ∈ vals M) : (MM.del M o.dot).length < M.length := by
  rw [← vals_len, ← vals_len M, vals_del h]; exact dropB_lt ho
theorem PIn.step {R : List OpD × Vec × MM Dt OpD} {c : Nat} {out : List OpD} {has : Vec} {M : MM Dt OpD} (h : PIn R c out has M) {o : OpD} (hn : nextB has (vals M) = some o) : PIn R c (out ++ [o]) (has.set o.dot.r o.dot.n) (MM.del M o.dot) := by
  obtain ⟨k, e, hk⟩ := h.k
  have hm := (nextB_some hn).1
  have hl := del_len h.wb hm
  refine ⟨?_, h.wb.del _, Vec.set_wf h.hv (h.wf o hm).2, fun x hx => ?_, ?_⟩
  · cases k with
    | zero =>
      have := List.eq_nil_of_length_eq_zero (Nat.le_zero.1 hk)
      rw [this] at hm; cases hm
    | succ k =>
      refine ⟨k, ?_, ?_⟩
      · rw [e, drainM_some hn]; simp
      · rw [vals_len]; rw [vals_len] at hk; omega
  · rw [vals_del h.wb] at hx
    exact h.wf x (mem_dropB.1 hx).1
  · have := h.len
    simp only [List.length_append, List.length_singleton]; omega
set_option maxRecDepth 100000 in
set_option maxHeartbeats 16000000 in
theorem put_sb (n : Nat) (hn : n ≤ 8) (has : Vec) (hv : has.wf) (M : MM Dt OpD) (c : Nat) (hM : WaitOk M c) (l : List OpD) (hl : PutOk l) :
    SB Tryd.prog buffer_Buffer_Put.f [.ptr 0 0, ops l] (bH 0 1 n has M c) 2 0 fun r F => (l.any (badF n) = true → r = .tup [.d .nils, i64 5] ∧ F = bH 0 1 n has M c) ∧ (l.any (badF n) = false → r = .tup [ops (putR has (M, c) l).1, i64 0] ∧ F = bH 0 1 n (putR has (M, c) l).2.1 (putR has (M, c) l).2.2 (putMs has (M, c) l).2) := by
  refine buffer_Buffer_Put.enter (by simp [SV.ok, SV.oks, SV.oks_d, ops]) (bH.ok _ _ _ _ _ _ _ rfl rfl) (by simp) ?_
  have hll := hl.len
  have hMl := hM.len
  have g2 := bfc.len n has 1
  have g9 := bfc.g9 n has 1
  have gh := bfc.has n has 1
  have c1 := fun k => none_at n has M c 0 1 (by decide) k
  have c2 := fun k => containsF_at (n := n) (has := has) (M := M) (c := c) hn (l := l) (fun x hx => ⟨(hl.op x hx).1, by have := (hl.op x hx).2; omega⟩) (by omega) 2 0 1 (by decide) k
  simp only [cH, bH] at c1 c2 ⊢
  dsimp only [buffer_Buffer_Put.s, Co.M, Co.G, Co.J, Co.H, Co.N, Co.F, Co.C, Co.Z, Co.B, Co.b8, Co.b32, Co.b64, Co.i6, Co.z8, Co.z29]
  refine SW.seq ?_
  (refine SW.regL [0, 1, 2, 4, 5, 7, 9, 10, 11, 12, 13, 14, 17, 21, 22, 23, 24, 48, 64, 90] mixed ?_; (repeat (first | refine RW.ro bq_tt (h := ?_) | refine RW.skip (h := ?_) | refine RW.op bq_tt (h := ?_) | refine RW.opN bq_tt (h := ?_) | refine RW.skip0 (h := ?_))); refine RW.nil ⟨conf_of (by kernel_rfl), Pruned.mk (h := ?_)⟩)
  refine SW.seq (SW.block (SW.seq ?_))
  (refine SW.regL [0, 1, 2, 4, 5, 7, 9, 10, 11, 12, 13, 14, 17, 21, 22, 23, 24, 48, 64, 90] mixed ?_; (repeat (first | refine RW.ro bq_tt (h := ?_) | refine RW.skip (h := ?_) | refine RW.op bq_tt (h := ?_) | refine RW.opN bq_tt (h := ?_) | refine RW.skip0 (h := ?_) | (refine RW.callC (h := ?_); (first | refine CallP.mk bq_tt (hc := c1 _) (h := ?_))))); refine RW.nil ⟨conf_of (by kernel_rfl), Pruned.mk (h := ?_)⟩)
  refine SW.condF rfl (SW.seq ?_)
  rcases hbad : l.any (badF n) with _ | _ <;> rw [hbad] at c2
  case true =>
    (refine SW.regL [0, 1, 2, 4, 5, 7, 9, 10, 11, 12, 13, 14, 17, 21, 22, 23, 24, 48, 64, 90] mixed ?_; (repeat (first | refine RW.ro bq_tt (h := ?_) | refine RW.skip (h := ?_) | refine RW.op bq_tt (h := ?_) | refine RW.opN bq_tt (h := ?_) | refine RW.skip0 (h := ?_) | (refine RW.callC (h := ?_); (first | refine CallP.mk bq_tt (hc := c2 _) (h := ?_))))); refine RW.nil ⟨conf_of (by kernel_rfl), Pruned.mk (h := ?_)⟩)
    refine SW.condT rfl (SW.seq ?_)
    (refine SW.regL [0, 1, 2, 4, 5, 7, 9, 10, 11, 12, 13, 14, 17, 21, 22, 23, 24, 48, 64, 90] mixed ?_; (repeat (first | refine RW.ro bq_tt (h := ?_) | refine RW.skip (h := ?_) | refine RW.op bq_tt (h := ?_) | refine RW.opN bq_tt (h := ?_) | refine RW.skip0 (h := ?_))); refine RW.nil ⟨conf_of (by kernel_rfl), Pruned.mk (h := ?_)⟩)
    refine SW.ret ?_
    exact End.mk (bH 0 1 n has M c) (h4 := ⟨fun _ => ⟨rfl, rfl⟩, fun h => (by cases h)⟩) (h6 := bH.ok _ _ _ _ _ _ _ rfl rfl)
  (refine SW.regL [0, 1, 2, 4, 5, 7, 9, 10, 11, 12, 13, 14, 17, 21, 22, 23, 24, 48, 64, 90] mixed ?_; (repeat (first | refine RW.ro bq_tt (h := ?_) | refine RW.skip (h := ?_) | refine RW.op bq_tt (h := ?_) | refine RW.opN bq_tt (h := ?_) | refine RW.skip0 (h := ?_) | (refine RW.callC (h := ?_); (first | refine CallP.mk bq_tt (hc := c2 _) (h := ?_))))); refine RW.nil ⟨conf_of (by kernel_rfl), Pruned.mk (h := ?_)⟩)
  refine SW.condF rfl (SW.skip (SW.seq (SW.seq ?_)))
  (refine SW.regL [0, 1, 2, 4, 5, 7, 9, 10, 11, 12, 13, 14, 17, 21, 22, 23, 24, 48, 64, 90] mixed ?_; (repeat (first | refine RW.ro bq_tt (h := ?_) | refine RW.skip (h := ?_) | refine RW.op bq_tt (h := ?_) | refine RW.opN bq_tt (h := ?_) | refine RW.skip0 (h := ?_))); refine RW.nil ⟨conf_of (by kernel_rfl), Pruned.mk (h := ?_)⟩)
  refine SW.block ?_
  have b1 : SV.rens id (bfc n has 1) = bfc n has 1 := bfc.ren _ _ _ _
  have b2 : SV.oks (fun n => decide (n < 3)) (bfc n has 1) = true := bfc.ok _ _ _ _ rfl
  have b3 : ∀ Y : MM Dt OpD, _ := fun Y => omap_ren id Y
  have b4 : ∀ Y : MM Dt OpD, _ := fun Y => omap_ok (fun n => decide (n < 3)) Y
  refine SW.loopA (α := {i : Nat // i ≤ l.length}) (fun i => ⟨[(23, i64 i.1), (22, i64 l.length), (21, ops l), (2, .ptr 2 0)], [(2, .box 23 [.ptr 0 0]), (0, .box 58 (bfc n has 1)), (1, .map (mapE Dt.cells ov (putMs has (M, c) (l.take i.1)).1) (putMs has (M, c) (l.take i.1)).2)], 3⟩) (fun i => l.length - i.1) ⟨0, by omega⟩ id (And.intro (show putMs has (M, c) [] = (M, c) from rfl) (And.intro b1 (And.intro b2 (And.intro (b3 M) (b4 M))))) (round := ?_)
  rintro ⟨i, hi⟩
  dsimp only
  by_cases h : i < l.length
  · have h1 : decide ((i : Int) < l.length) = true := by simp only [decide_eq_true_eq]; omega
    obtain ⟨x, hx⟩ := get_of_lt h
    have hxm := List.mem_of_getElem? hx
    have e2 : IntKind.i64.wrap ((i : Int) + 1) = ((i + 1 : Nat) : Int) := wrap_i64 _ (by omega)
    have e1 : l.take (i + 1) = l.take i ++ [x] := take_snoc hx
    have hsn := putMs_snoc has (M, c) (l.take i) x
    rw [← e1] at hsn
    have hwb := (putMs_ok (has := has) (l.take i) (X := (M, c)) hM.wb).1
    generalize putMs has (M, c) (l.take i) = X at hsn hwb ⊢
    obtain ⟨Y, c'⟩ := X
    dsimp only at hwb hsn ⊢
    unfold putM at hsn
    dsimp only at hsn
    have d1 := fun k => covers_at has x.dot k
    have d2 := fun k => own_at x (hl.lns hbad hxm) k
    refine SW.seq ?_
    (refine SW.regL [0, 1, 2, 4, 5, 7, 9, 10, 11, 12, 13, 14, 17, 21, 22, 23, 24, 48, 64, 90] mixed ?_; (repeat (first | refine RW.ro (h1) (h := ?_) | refine RW.skip (h := ?_) | refine RW.op (h1) (h := ?_) | refine RW.opN (h1) (h := ?_) | refine RW.skip0 (h := ?_))); refine RW.nil ⟨conf_of (by kernel_rfl), Pruned.mk (h := ?_)⟩)
    refine SW.seq (SW.condT rfl (SW.skip ?_))
    refine SW.seq (SW.block (SW.seq ?_))
    (have fx := (And.intro (op_at hx) (op_room0 hx)); refine SW.regL [0, 1, 2, 4, 5, 7, 9, 10, 11, 12, 13, 14, 17, 21, 22, 23, 24, 48, 64, 90] mixed ?_; (repeat (first | refine RW.ro fx (h := ?_) | refine RW.skip (h := ?_) | refine RW.op fx (h := ?_) | refine RW.opN fx (h := ?_) | refine RW.skip0 (h := ?_))); refine RW.nil ⟨conf_of (by kernel_rfl), Pruned.mk (h := ?_)⟩)
    refine SW.seq ?_
    rcases hh : MM.has Y x.dot with _ | _
    · rw [hh, Bool.false_or] at hsn
      (have fx := (And.intro (g2) (And.intro (g9) (And.intro (x.gDot) (hh)))); refine SW.regL [0, 1, 2, 4, 5, 7, 9, 10, 11, 12, 13, 14, 17, 21, 22, 23, 24, 48, 64, 90] mixed ?_; (repeat (first | refine RW.ro fx (h := ?_) | refine RW.skip (h := ?_) | refine RW.op fx (h := ?_) | refine RW.opN fx (h := ?_) | refine RW.skip0 (h := ?_))); refine RW.nil ⟨conf_of (by kernel_rfl), Pruned.mk (h := ?_)⟩)
      refine SW.seq ?_
      rcases hc : has.covers x.dot with _ | _ <;> rw [hc] at hsn d1
      · rw [if_neg (by decide)] at hsn
        have e3 : MM.clk Y c' x.dot = c' + 1 := by unfold MM.clk; rw [hh]; rfl
        have e4 := mset_ov Y c' x.dot x
        rw [e3] at e4
        (have fx := (And.intro (g2) (And.intro (gh) (x.gDot))); refine SW.regL [0, 1, 2, 4, 5, 7, 9, 10, 11, 12, 13, 14, 17, 21, 22, 23, 24, 48, 64, 90] mixed ?_; (repeat (first | refine RW.ro fx (h := ?_) | refine RW.skip (h := ?_) | refine RW.op fx (h := ?_) | refine RW.opN fx (h := ?_) | refine RW.skip0 (h := ?_) | (refine RW.callC (h := ?_); (first | refine CallP.mk fx (hc := d1 _) (h := ?_) | refine CallP.mk fx (hc := d2 _) (h := ?_))))); refine RW.nil ⟨conf_of (by kernel_rfl), Pruned.mk (h := ?_)⟩)
        refine SW.condT rfl ?_
        (have fx := (And.intro (g2) (And.intro (g9) (And.intro (x.gDot) (e4)))); refine SW.regL [0, 1, 2, 4, 5, 7, 9, 10, 11, 12, 13, 14, 17, 21, 22, 23, 24, 48, 64, 90] mixed ?_; (repeat (first | refine RW.ro fx (h := ?_) | refine RW.skip (h := ?_) | refine RW.op fx (h := ?_) | refine RW.opN fx (h := ?_) | refine RW.skip0 (h := ?_) | (refine RW.callC (h := ?_); (first | refine CallP.mk fx (hc := d1 _) (h := ?_) | refine CallP.mk fx (hc := d2 _) (h := ?_))))); refine RW.nil ⟨conf_of (by kernel_rfl), Pruned.mk (h := ?_)⟩)
        (refine SW.regL [0, 1, 2, 4, 5, 7, 9, 10, 11, 12, 13, 14, 17, 21, 22, 23, 24, 48, 64, 90] mixed ?_; (repeat (first | refine RW.ro (e2) (h := ?_) | refine RW.skip (h := ?_) | refine RW.op (e2) (h := ?_) | refine RW.opN (e2) (h := ?_) | refine RW.skip0 (h := ?_))); refine RW.nil ⟨conf_of (by kernel_rfl), Pruned.mk (h := ?_)⟩)
        refine ⟨⟨i + 1, by omega⟩, id, by show l.length - (i + 1) < l.length - i; omega, ?_⟩
        dsimp only
        rw [hsn]
        exact Weak.mk (And.intro b1 (And.intro b2 (And.intro (b3 (MM.put Y c' x.dot x)) (b4 (MM.put Y c' x.dot x)))))
      · rw [if_pos rfl] at hsn
        (have fx := (And.intro (g2) (And.intro (gh) (x.gDot))); refine SW.regL [0, 1, 2, 4, 5, 7, 9, 10, 11, 12, 13, 14, 17, 21, 22, 23, 24, 48, 64, 90] mixed ?_; (repeat (first | refine RW.ro fx (h := ?_) | refine RW.skip (h := ?_) | refine RW.op fx (h := ?_) | refine RW.opN fx (h := ?_) | refine RW.skip0 (h := ?_) | (refine RW.callC (h := ?_); (first | refine CallP.mk fx (hc := d1 _) (h := ?_))))); refine RW.nil ⟨conf_of (by kernel_rfl), Pruned.mk (h := ?_)⟩)
        refine SW.condF rfl (SW.skip ?_)
        (refine SW.regL [0, 1, 2, 4, 5, 7, 9, 10, 11, 12, 13, 14, 17, 21, 22, 23, 24, 48, 64, 90] mixed ?_; (repeat (first | refine RW.ro (e2) (h := ?_) | refine RW.skip (h := ?_) | refine RW.op (e2) (h := ?_) | refine RW.opN (e2) (h := ?_) | refine RW.skip0 (h := ?_))); refine RW.nil ⟨conf_of (by kernel_rfl), Pruned.mk (h := ?_)⟩)
        refine ⟨⟨i + 1, by omega⟩, id, by show l.length - (i + 1) < l.length - i; omega, ?_⟩
        dsimp only
        rw [hsn]
        exact Weak.mk (And.intro b1 (And.intro b2 (And.intro (b3 Y) (b4 Y))))
    · rw [hh, Bool.true_or, if_pos rfl] at hsn
      (have fx := (And.intro (g2) (And.intro (g9) (And.intro (x.gDot) (hh)))); refine SW.regL [0, 1, 2, 4, 5, 7, 9, 10, 11, 12, 13, 14, 17, 21, 22, 23, 24, 48, 64, 90] mixed ?_; (repeat (first | refine RW.ro fx (h := ?_) | refine RW.skip (h := ?_) | refine RW.op fx (h := ?_) | refine RW.opN fx (h := ?_) | refine RW.skip0 (h := ?_))); refine RW.nil ⟨conf_of (by kernel_rfl), Pruned.mk (h := ?_)⟩)
      refine SW.seq ?_
      (refine SW.regL [0, 1, 2, 4, 5, 7, 9, 10, 11, 12, 13, 14, 17, 21, 22, 23, 24, 48, 64, 90] mixed ?_; (repeat (first | refine RW.ro bq_tt (h := ?_) | refine RW.skip (h := ?_) | refine RW.op bq_tt (h := ?_) | refine RW.opN bq_tt (h := ?_) | refine RW.skip0 (h := ?_))); refine RW.nil ⟨conf_of (by kernel_rfl), Pruned.mk (h := ?_)⟩)
      refine SW.condF rfl (SW.skip ?_)
      (refine SW.regL [0, 1, 2, 4, 5, 7, 9, 10, 11, 12, 13, 14, 17, 21, 22, 23, 24, 48, 64, 90] mixed ?_; (repeat (first | refine RW.ro (e2) (h := ?_) | refine RW.skip (h := ?_) | refine RW.op (e2) (h := ?_) | refine RW.opN (e2) (h := ?_) | refine RW.skip0 (h := ?_))); refine RW.nil ⟨conf_of (by kernel_rfl), Pruned.mk (h := ?_)⟩)
      refine ⟨⟨i + 1, by omega⟩, id, by show l.length - (i + 1) < l.length - i; omega, ?_⟩
      dsimp only
      rw [hsn]
      exact Weak.mk (And.intro b1 (And.intro b2 (And.intro (b3 Y) (b4 Y))))
  have h1 : decide ((i : Int) < l.length) = false := by simp only [decide_eq_false_iff_not]; omega
  have h2 : i = l.length := by omega
  subst h2
  rw [List.take_length]
  refine SW.seq ?_
  (refine SW.regL [0, 1, 2, 4, 5, 7, 9, 10, 11, 12, 13, 14, 17, 21, 22, 23, 24, 48, 64, 90] mixed ?_; (repeat (first | refine RW.ro (h1) (h := ?_) | refine RW.skip (h := ?_) | refine RW.op (h1) (h := ?_) | refine RW.opN (h1) (h := ?_) | refine RW.skip0 (h := ?_))); refine RW.nil ⟨conf_of (by kernel_rfl), Pruned.mk (h := ?_)⟩)
  refine SW.seq (SW.condF rfl (SW.exit (SW.seq ?_)))
  (refine SW.regL [0, 1, 2, 4, 5, 7, 9, 10, 11, 12, 13, 14, 17, 21, 22, 23, 24, 48, 64, 90] mixed ?_; (repeat (first | refine RW.ro bq_tt (h := ?_) | refine RW.skip (h := ?_) | refine RW.op bq_tt (h := ?_) | refine RW.opN bq_tt (h := ?_) | refine RW.skip0 (h := ?_))); refine RW.nil ⟨conf_of (by kernel_rfl), Pruned.mk (h := ?_)⟩)
  refine SW.seq ?_
  (refine SW.regL [0, 1, 2, 4, 5, 7, 9, 10, 11, 12, 13, 14, 17, 21, 22, 23, 24, 48, 64, 90] mixed ?_; (repeat (first | refine RW.ro bq_tt (h := ?_) | refine RW.skip (h := ?_) | refine RW.op bq_tt (h := ?_) | refine RW.opN bq_tt (h := ?_) | refine RW.skip0 (h := ?_))); refine RW.nil ⟨conf_of (by kernel_rfl), Pruned.mk (h := ?_)⟩)
  refine SW.nilrow 11 37 29 rfl ?_
  obtain ⟨hw1, hv1⟩ := putMs_ok (has := has) l (X := (M, c)) hM.wb
  have hl1 := putMs_len has l (M, c)
  have hmem1 : ∀ o, o ∈ vals (putMs has (M, c) l).1 → o.dot.wf := fun o ho => by
    rw [hv1] at ho
    rcases addAll_mem ho with h | h
    · exact hM.wf o h
    · exact hl.wf h
  have hP : PIn (putR has (M, c) l) (putMs has (M, c) l).2 [] has (putMs has (M, c) l).1 := ⟨⟨(putMs has (M, c) l).1.length, by rw [List.nil_append]; rfl, by rw [vals_len]; exact Nat.le_refl _⟩, hw1, hv, hmem1, by show 0 + _ < _; dsimp only at hl1; omega⟩
  generalize putR has (M, c) l = R at hP ⊢
  generalize putMs has (M, c) l = X at hP ⊢
  obtain ⟨Y, c'⟩ := X
  dsimp only at hP ⊢
  have n1 := fun k => next_at9 (n := n) hP.hv hP.wb (by have := hP.len; omega) hP.wf 2 0 1 (by decide) k
  simp only [cH, bH] at n1
  refine SW.seq (SW.seq ?_)
  (refine SW.regL [0, 1, 2, 4, 5, 7, 9, 10, 11, 12, 13, 14, 17, 21, 22, 23, 24, 48, 64, 90] mixed ?_; (repeat (first | refine RW.ro bq_tt (h := ?_) | refine RW.skip (h := ?_) | refine RW.op bq_tt (h := ?_) | refine RW.opN bq_tt (h := ?_) | refine RW.skip0 (h := ?_) | (refine RW.callC (h := ?_); (first | refine CallP.mk bq_tt (hc := n1 _) (h := ?_))))); refine RW.nil ⟨conf_of (by kernel_rfl), Pruned.mk (h := ?_)⟩)
  refine SW.block ?_
  have r1 : ∀ z : OpD, SV.rens id z.cells = z.cells := fun z => SV.rens_d _
  have r2 : ∀ z : OpD, SV.oks (fun n => decide (n < 5)) z.cells = true := fun z => OpD.cells_ok z _
  have w1 : ∀ h : Vec, SV.rens id (bfc n h 1) = bfc n h 1 := fun h => bfc.ren _ _ _ _
  have w2 : ∀ h : Vec, SV.oks (fun n => decide (n < 5)) (bfc n h 1) = true := fun h => bfc.ok _ _ _ _ rfl
  have w3 : ∀ Y : MM Dt OpD, _ := fun Y => omap_ren id Y
  have w4 : ∀ Y : MM Dt OpD, _ := fun Y => omap_ok (fun n => decide (n < 5)) Y
  refine SW.loopA (α := {s : List OpD × Vec × MM Dt OpD // PIn R c' s.1 s.2.1 s.2.2}) (fun s => ⟨[(13, bl (nextB s.1.2.1 (vals s.1.2.2)).isSome), (12, .ptr 4 0), (11, .gs 3 s.1.1.length), (10, .fn (.func buffer_Buffer_Put_2.f) [] [.ptr 2 0]), (2, .ptr 2 0)], [(3, .arr 37 29 s.1.1.length (opc s.1.1)), (4, .box 37 ((nextB s.1.2.1 (vals s.1.2.2)).getD OpD.zero).cells), (2, .box 23 [.ptr 0 0]), (0, .box 58 (bfc n s.1.2.1 1)), (1, .map (mapE Dt.cells ov s.1.2.2) c')], 5⟩) (fun s => s.1.2.2.length) ⟨([], has, Y), hP⟩ id (And.intro (r1 ((nextB has (vals Y)).getD OpD.zero)) (And.intro (r2 ((nextB has (vals Y)).getD OpD.zero)) (And.intro (w1 has) (And.intro (w2 has) (And.intro (w3 Y) (w4 Y)))))) (round := ?_)
  rintro ⟨⟨out, h, Z⟩, hI⟩
  dsimp only at hI ⊢
  cases hnx : nextB h (vals Z) with
  | none =>
    have hR := hI.done hnx
    rw [hR]
    simp only [Option.isSome_none, Option.getD_none]
    refine SW.seq (SW.seq ?_)
    (refine SW.regL [0, 1, 2, 4, 5, 7, 9, 10, 11, 12, 13, 14, 17, 21, 22, 23, 24, 48, 64, 90] mixed ?_; (repeat (first | refine RW.ro bq_tt (h := ?_) | refine RW.skip (h := ?_) | refine RW.op bq_tt (h := ?_) | refine RW.opN bq_tt (h := ?_) | refine RW.skip0 (h := ?_))); refine RW.nil ⟨conf_of (by kernel_rfl), Pruned.mk (h := ?_)⟩)
    refine SW.condF rfl (SW.exit (SW.seq ?_))
    (refine SW.regL [0, 1, 2, 4, 5, 7, 9, 10, 11, 12, 13, 14, 17, 21, 22, 23, 24, 48, 64, 90] mixed ?_; (repeat (first | refine RW.ro bq_tt (h := ?_) | refine RW.skip (h := ?_) | refine RW.op bq_tt (h := ?_) | refine RW.opN bq_tt (h := ?_) | refine RW.skip0 (h := ?_))); refine RW.nil ⟨conf_of (by kernel_rfl), Pruned.mk (h := ?_)⟩)
    refine SW.freeze 3 (out.flatMap OpD.ds) rfl rfl ?_
    simp only [frzE, SV.frz, List.map_cons, List.map_nil, if_true, if_false, reduceIte, hdel, Nat.reduceEqDiff]
    refine SW.ret ?_
    exact End.mk (bH 0 1 n h Z c') (h4 := ⟨fun h => (by cases h), fun _ => ⟨rfl, rfl⟩⟩) (h6 := bH.ok _ _ _ _ _ _ _ rfl rfl)
  | some o =>
    have hS := hI.step hnx
    obtain ⟨hom, hmay⟩ := nextB_some hnx
    have h8 : o.dot.r < 8 := (mayB_iff.1 hmay).1.1
    have hlt := del_len hI.wb hom
    have hol := hI.len
    have s1 := bfc.set n h 1 h8 o.dot.n
    have s2 := bfc.len n h 1
    have s3 := bfc.g9 n h 1
    have s4 := bfc.len n (h.set o.dot.r o.dot.n) 1
    have n2 := fun k => next_at9 (n := n) hS.hv hS.wb (by have := hS.len; omega) hS.wf 2 0 1 (by decide) k
    simp only [cH, bH] at n2
    simp only [Option.isSome_some, Option.getD_some]
    refine SW.seq (SW.seq ?_)
    (refine SW.regL [0, 1, 2, 4, 5, 7, 9, 10, 11, 12, 13, 14, 17, 21, 22, 23, 24, 48, 64, 90] mixed ?_; (repeat (first | refine RW.ro bq_tt (h := ?_) | refine RW.skip (h := ?_) | refine RW.op bq_tt (h := ?_) | refine RW.opN bq_tt (h := ?_) | refine RW.skip0 (h := ?_))); refine RW.nil ⟨conf_of (by kernel_rfl), Pruned.mk (h := ?_)⟩)
    refine SW.condT rfl (SW.skip (SW.seq (SW.block (SW.seq ?_))))
    (have fx := (And.intro (s2) (And.intro (s3) (o.gDot))); refine SW.regL [0, 1, 2, 4, 5, 7, 9, 10, 11, 12, 13, 14, 17, 21, 22, 23, 24, 48, 64, 90] mixed ?_; (repeat (first | refine RW.ro fx (h := ?_) | refine RW.skip (h := ?_) | refine RW.op fx (h := ?_) | refine RW.opN fx (h := ?_) | refine RW.skip0 (h := ?_))); refine RW.nil ⟨conf_of (by kernel_rfl), Pruned.mk (h := ?_)⟩)
    refine SW.seq ?_
    (have fx := (And.intro (s2) (And.intro (s1) (And.intro (h8) (And.intro (o.gDotR) (o.gDotN))))); refine SW.regL [0, 1, 2, 4, 5, 7, 9, 10, 11, 12, 13, 14, 17, 21, 22, 23, 24, 48, 64, 90] mixed ?_; (repeat (first | refine RW.ro fx (h := ?_) | refine RW.skip (h := ?_) | refine RW.op fx (h := ?_) | refine RW.opN fx (h := ?_) | refine RW.skip0 (h := ?_))); refine RW.nil ⟨conf_of (by kernel_rfl), Pruned.mk (h := ?_)⟩)
    (refine SW.regL [0, 1, 2, 4, 5, 7, 9, 10, 11, 12, 13, 14, 17, 21, 22, 23, 24, 48, 64, 90] mixed ?_; (repeat (first | refine RW.ro bq_tt (h := ?_) | refine RW.skip (h := ?_) | refine RW.op bq_tt (h := ?_) | refine RW.opN bq_tt (h := ?_) | refine RW.skip0 (h := ?_) | refine lit1 rfl rfl (h := ?_))); refine RW.nil ⟨conf_of (by kernel_rfl), Pruned.mk (h := ?_)⟩)
    refine SW.seq (SW.seq ?_)
    (refine SW.regL [0, 1, 2, 4, 5, 7, 9, 10, 11, 12, 13, 14, 17, 21, 22, 23, 24, 48, 64, 90] mixed ?_; (repeat (first | refine RW.ro bq_tt (h := ?_) | refine RW.skip (h := ?_) | refine RW.op bq_tt (h := ?_) | refine RW.opN bq_tt (h := ?_) | refine RW.skip0 (h := ?_))); refine RW.nil ⟨conf_of (by kernel_rfl), Pruned.mk (h := ?_)⟩)
    (refine SW.regL [0, 1, 2, 4, 5, 7, 9, 10, 11, 12, 13, 14, 17, 21, 22, 23, 24, 48, 64, 90] mixed ?_; (repeat (first | refine RW.ro bq_tt (h := ?_) | refine RW.skip (h := ?_) | refine RW.op bq_tt (h := ?_) | refine RW.opN bq_tt (h := ?_) | refine RW.skip0 (h := ?_))); refine RW.nil ⟨conf_of (by kernel_rfl), Pruned.mk (h := ?_)⟩)
    (refine SW.regL [0, 1, 2, 4, 5, 7, 9, 10, 11, 12, 13, 14, 17, 21, 22, 23, 24, 48, 64, 90] mixed ?_; (repeat (first | refine RW.ro bq_tt (h := ?_) | refine RW.skip (h := ?_) | refine RW.op bq_tt (h := ?_) | refine RW.opN bq_tt (h := ?_) | refine RW.skip0 (h := ?_) | (refine RW.callC (h := ?_); (first | refine CallP.mk bq_tt (hc := n2 _) (h := ?_))))); refine RW.nil ⟨conf_of (by kernel_rfl), Pruned.mk (h := ?_)⟩)
    have e5 : (out ++ [o]).length = out.length + [o].length := by simp
    have e6 : opc (out ++ [o]) = opc out ++ List.map SV.d ([o].flatMap OpD.ds) := by simp [opc]
    have u1 : ∀ n : Nat, n < 2 → (if n = 3 then 5 else if n = 4 then 6 else n) = n := fun n hn => by rw [if_neg (by omega), if_neg (by omega)]
    have u2 : SV.rens (fun n => if n = 3 then 5 else if n = 4 then 6 else n) (bfc n (h.set o.dot.r o.dot.n) 1) = bfc n (h.set o.dot.r o.dot.n) 1 := bfc.ren _ _ _ _
    have u3 := omap_ren (fun n => if n = 3 then 5 else if n = 4 then 6 else n) (MM.del Z o.dot)
    have u4 : SV.rens (fun n => if n = 3 then 5 else if n = 4 then 6 else n) ((nextB (h.set o.dot.r o.dot.n) (vals (MM.del Z o.dot))).getD OpD.zero).cells = ((nextB (h.set o.dot.r o.dot.n) (vals (MM.del Z o.dot))).getD OpD.zero).cells := SV.rens_d _
    refine ⟨⟨(out ++ [o], h.set o.dot.r o.dot.n, MM.del Z o.dot), hS⟩, fun n => if n = 3 then 5 else if n = 4 then 6 else n, hlt, ?_⟩
    dsimp only
    rw [e5, e6]
    exact Weak.mk (And.intro (eq_true u1) (And.intro u2 (And.intro u3 (And.intro u4 (And.intro (r2 ((nextB (h.set o.dot.r o.dot.n) (vals (MM.del Z o.dot))).getD OpD.zero)) (And.intro (w2 (h.set o.dot.r o.dot.n)) (w4 (MM.del Z o.dot))))))))
end Go.Proofs.YtnakpdoioammhaaDoor
namespace Go.Proofs.YtnakpdoioammhaaDoor
open Go.Sl Go.Proofs
attribute [local irreducible] SW RW SCd SC CallP Pruned
section
variable {n : Nat} (hn : n ≤ 8) {has : Vec} (hv : has.wf) {M : MM Dt OpD} {c : Nat} (hM : WaitOk M c) {l : List OpD} (hl : PutOk l) (b m : Nat) (hbm : b ≠ m) (k : Nat)
include hn hv hM hl hbm
theorem put_good (hb : l.any (badF n) = false) : SCd Tryd.prog buffer_Buffer_Put.f [.ptr b 0, ops l] (bH b m n has M c) k 0 (.tup [ops (putR has (M, c) l).1, .d (.int .i64 0)]) (bH b m n (putR has (M, c) l).2.1 (putR has (M, c) l).2.2 (putMs has (M, c) l).2) := by
  have h := SB.atL [b, m] (SB.mono (put_sb n hn has hv M c hM l hl) fun r F h => h.2 hb) (by simp [hbm]) (fun i hi => bH.out n has M c i (by simpa using hi)) k
  simpa [SV.rens, SV.ren, atN, bH.ren, ops] using h
theorem put_wrong (hb : l.any (badF n) = true) : SCd Tryd.prog buffer_Buffer_Put.f [.ptr b 0, ops l] (bH b m n has M c) k 0 (.tup [.d .nils, .d (.int .i64 5)]) (bH b m n has M c) := by
  have h := SB.atL [b, m] (SB.mono (put_sb n hn has hv M c hM l hl) fun r F h => h.1 hb) (by simp [hbm]) (fun i hi => bH.out n has M c i (by simpa using hi)) k
  simpa [SV.rens, SV.ren, atN, bH.ren, ops] using h
end
theorem new1_ok (x : Nat) : Go.Sl.Pure Tryd.prog buffer_New_1.f [u32 x] (bl (decide ((x : Int) > 0))) := by
  refine buffer_New_1.enter (by first | rfl | simp [SV.ok, SV.oks]) (by first | rfl | simp [Hp.ok, Ob.ok, SV.ok, SV.oks, Vec.cells_ok]) (by simp) ?_
  dsimp only [buffer_New_1.s, Co.M, Co.G, Co.J, Co.H, Co.N, Co.F, Co.C, Co.Z, Co.B, Co.b8, Co.b32, Co.b64, Co.i6, Co.z8, Co.z29]
  refine SW.seq ?_
  (refine SW.regL [0, 2] mixed ?_; (repeat (first | refine RW.ro bq_tt (h := ?_) | refine RW.skip (h := ?_) | refine RW.op bq_tt (h := ?_) | refine RW.opN bq_tt (h := ?_) | refine RW.skip0 (h := ?_))); refine RW.nil ⟨by kernel_rfl, Pruned.mk (h := ?_)⟩)
  refine SW.seq ?_
  (refine SW.regL [0, 2] mixed ?_; (repeat (first | refine RW.ro bq_tt (h := ?_) | refine RW.skip (h := ?_) | refine RW.op bq_tt (h := ?_) | refine RW.opN bq_tt (h := ?_) | refine RW.skip0 (h := ?_))); refine RW.nil ⟨by kernel_rfl, Pruned.mk (h := ?_)⟩)
  refine SW.ret ?_
  exact End.mk [] (h4 := ⟨rfl, rfl⟩)
theorem new1_at (x : Nat) (k : Nat) : SCd Tryd.prog buffer_New_1.f [.d (.int .u32 (x : Int))] [] k 0 (bl (decide ((x : Int) > 0))) [] := (new1_ok x).sc rfl k
def farI (n : Nat) (v : Vec) : Int := match (List.range (8 - n)).find? fun i => decide (0 < v.get (n + i)) with
  | some i => (i : Int)
  | none => -1
def farB (n : Nat) (v : Vec) : Bool := (List.range (8 - n)).any fun i => decide (0 < v.get (n + i))
theorem farI_any (n : Nat) (v : Vec) : decide (farI n v ≥ 0) = farB n v := by
  unfold farI farB
  cases h : (List.range (8 - n)).find? fun i => decide (0 < v.get (n + i)) with
  | none =>
    have : (List.range (8 - n)).any (fun i => decide (0 < v.get (n + i))) = false := by
      rw [List.any_eq_false]; intro i hi; exact List.find?_eq_none.1 h i hi
    rw [this]; rfl
  | some i =>
    have : (List.range (8 - n)).any (fun i => decide (0 < v.get (n + i))) = true := by
      rw [List.any_eq_true]; exact ⟨i, List.mem_of_find?_eq_some h, by have := List.find?_some h; simpa using this⟩
    rw [this]; simp
theorem farI_none {n : Nat} {v : Vec} (h : ∀ i, i < 8 - n → ¬ 0 < v.get (n + i)) : farI n v = -1 := by
  unfold farI
  rw [List.find?_eq_none.2 fun i hi => by simpa using h i (List.mem_range.1 hi)]
theorem farI_some {n : Nat} {v : Vec} {j : Nat} (hj : j < 8 - n) (h : ∀ i, i < j → ¬ 0 < v.get (n + i)) (h0 : 0 < v.get (n + j)) : farI n v = (j : Int) := by
  unfold farI
  have : (List.range (8 - n)).find? (fun i => decide (0 < v.get (n + i))) = some j := by
    rw [List.find?_eq_some_iff_getElem]
    refine ⟨by simpa using h0, j, by simpa using hj, by simp, fun i hi => ?_⟩
    have := h i hi
    simp at this ⊢; omega
  rw [this]
set_option maxHeartbeats 2000000 in
theorem findV_sb (n : Nat) (hn : n ≤ 8) (v : Vec) : SB Tryd.prog slices_IndexFunc_Luint32_uint32.f [.bs 0 n (8 - n), .fn (.func buffer_New_1.f) [] []] [(0, .box 29 v.cells)] 1 0 fun r F => r = i64 (farI n v) ∧ F = [(0, .box 29 v.cells)] := by
  refine slices_IndexFunc_Luint32_uint32.enter (by simp [SV.ok, SV.oks]) (by simp [Hp.ok, Ob.ok, Vec.cells_ok]) (by simp) ?_
  dsimp only [slices_IndexFunc_Luint32_uint32.s, Co.M, Co.G, Co.J, Co.H, Co.N, Co.F, Co.C, Co.Z, Co.B, Co.b8, Co.b32, Co.b64, Co.i6, Co.z8, Co.z29]
  refine SW.seq ?_
  (refine SW.regL [0, 1, 4, 5, 7, 8, 9, 16] mixed ?_; (repeat (first | refine RW.ro bq_tt (h := ?_) | refine RW.skip (h := ?_) | refine RW.op bq_tt (h := ?_) | refine RW.opN bq_tt (h := ?_) | refine RW.skip0 (h := ?_))); refine RW.nil ⟨by kernel_rfl, Pruned.mk (h := ?_)⟩)
  refine SW.seq (SW.seq ?_)
  (refine SW.regL [0, 1, 4, 5, 7, 8, 9, 16] mixed ?_; (repeat (first | refine RW.ro bq_tt (h := ?_) | refine RW.skip (h := ?_) | refine RW.op bq_tt (h := ?_) | refine RW.opN bq_tt (h := ?_) | refine RW.skip0 (h := ?_))); refine RW.nil ⟨by kernel_rfl, Pruned.mk (h := ?_)⟩)
  refine SW.block ?_
  refine SW.loopA (α := {i : Nat // i ≤ 8 - n ∧ ∀ j, j < i → ¬ 0 < v.get (n + j)}) (fun i => ⟨[(8, i64 i.1), (7, i64 ((8 - n : Nat) : Int)), (0, .bs 0 n (8 - n)), (1, .fn (.func buffer_New_1.f) [] [])], [(0, .box 29 v.cells)], 1⟩) (fun i => (8 - n) - i.1) ⟨0, by omega, by omega⟩ id bq_tt (round := ?_)
  rintro ⟨i, hi, hs⟩
  dsimp only
  refine SW.seq ?_
  by_cases h : i < 8 - n
  · have h1 : decide ((i : Int) < ((8 - n : Nat) : Int)) = true := by simp only [decide_eq_true_eq]; omega
    have e2 : IntKind.i64.wrap ((i : Int) + 1) = ((i + 1 : Nat) : Int) := wrap_i64 _ (by omega)
    have h8 : n + i < 8 := by omega
    have hc := fun k => new1_at (v.get (n + i)) k
    have hg := Vec.cells_get v h8
    (refine SW.regL [0, 1, 4, 5, 7, 8, 9, 16] mixed ?_; (repeat (first | refine RW.ro (h1) (h := ?_) | refine RW.skip (h := ?_) | refine RW.op (h1) (h := ?_) | refine RW.opN (h1) (h := ?_) | refine RW.skip0 (h := ?_))); refine RW.nil ⟨by kernel_rfl, Pruned.mk (h := ?_)⟩)
    refine SW.seq (SW.condT rfl (SW.skip ?_))
    refine SW.seq (SW.block (SW.seq ?_))
    (refine SW.regL [0, 1, 4, 5, 7, 8, 9, 16] mixed ?_; (repeat (first | refine RW.ro bq_tt (h := ?_) | refine RW.skip (h := ?_) | refine RW.op bq_tt (h := ?_) | refine RW.opN bq_tt (h := ?_) | refine RW.skip0 (h := ?_))); refine RW.nil ⟨by kernel_rfl, Pruned.mk (h := ?_)⟩)
    refine SW.seq ?_
    rcases h0 : decide (((v.get (n + i) : Nat) : Int) > 0) with _ | _ <;> rw [h0] at hc
    · (refine SW.regL [0, 1, 4, 5, 7, 8, 9, 16] mixed ?_; (repeat (first | refine RW.ro (And.intro (h) (hg)) (h := ?_) | refine RW.skip (h := ?_) | refine RW.op (And.intro (h) (hg)) (h := ?_) | refine RW.opN (And.intro (h) (hg)) (h := ?_) | refine RW.skip0 (h := ?_) | (refine RW.callC (h := ?_); (first | refine CallP.mk (And.intro (h) (hg)) (hc := hc _) (h := ?_))))); refine RW.nil ⟨by kernel_rfl, Pruned.mk (h := ?_)⟩)
      refine SW.condF rfl (SW.skip ?_)
      (refine SW.regL [0, 1, 4, 5, 7, 8, 9, 16] mixed ?_; (repeat (first | refine RW.ro (e2) (h := ?_) | refine RW.skip (h := ?_) | refine RW.op (e2) (h := ?_) | refine RW.opN (e2) (h := ?_) | refine RW.skip0 (h := ?_))); refine RW.nil ⟨by kernel_rfl, Pruned.mk (h := ?_)⟩)
      refine ⟨⟨i + 1, by omega, fun j hj => ?_⟩, id, by show (8 - n) - (i + 1) < (8 - n) - i; omega, ?_⟩
      · rcases Nat.lt_or_ge j i with h2 | h2
        · exact hs j h2
        · have : j = i := by omega
          subst this
          simp only [decide_eq_false_iff_not] at h0; omega
      · exact Weak.mk bq_tt
    · rw [farI_some h hs (by simp only [decide_eq_true_eq] at h0; omega)]
      (refine SW.regL [0, 1, 4, 5, 7, 8, 9, 16] mixed ?_; (repeat (first | refine RW.ro (And.intro (h) (hg)) (h := ?_) | refine RW.skip (h := ?_) | refine RW.op (And.intro (h) (hg)) (h := ?_) | refine RW.opN (And.intro (h) (hg)) (h := ?_) | refine RW.skip0 (h := ?_) | (refine RW.callC (h := ?_); (first | refine CallP.mk (And.intro (h) (hg)) (hc := hc _) (h := ?_))))); refine RW.nil ⟨by kernel_rfl, Pruned.mk (h := ?_)⟩)
      refine SW.condT rfl (SW.seq ?_)
      (refine SW.regL [0, 1, 4, 5, 7, 8, 9, 16] mixed ?_; (repeat (first | refine RW.ro bq_tt (h := ?_) | refine RW.skip (h := ?_) | refine RW.op bq_tt (h := ?_) | refine RW.opN bq_tt (h := ?_) | refine RW.skip0 (h := ?_))); refine RW.nil ⟨by kernel_rfl, Pruned.mk (h := ?_)⟩)
      refine SW.ret ?_
      exact End.mk [(0, .box 29 v.cells)] (h4 := ⟨rfl, rfl⟩) (h6 := by simp [Hp.ok, Ob.ok, Vec.cells_ok])
  have h1 : decide ((i : Int) < ((8 - n : Nat) : Int)) = false := by simp only [decide_eq_false_iff_not]; omega
  rw [farI_none (n := n) (v := v) fun j hj => hs j (by omega)]
  (refine SW.regL [0, 1, 4, 5, 7, 8, 9, 16] mixed ?_; (repeat (first | refine RW.ro (h1) (h := ?_) | refine RW.skip (h := ?_) | refine RW.op (h1) (h := ?_) | refine RW.opN (h1) (h := ?_) | refine RW.skip0 (h := ?_))); refine RW.nil ⟨by kernel_rfl, Pruned.mk (h := ?_)⟩)
  refine SW.seq (SW.condF rfl (SW.exit (SW.seq ?_)))
  (refine SW.regL [0, 1, 4, 5, 7, 8, 9, 16] mixed ?_; (repeat (first | refine RW.ro bq_tt (h := ?_) | refine RW.skip (h := ?_) | refine RW.op bq_tt (h := ?_) | refine RW.opN bq_tt (h := ?_) | refine RW.skip0 (h := ?_))); refine RW.nil ⟨by kernel_rfl, Pruned.mk (h := ?_)⟩)
  refine SW.ret ?_
  exact End.mk [(0, .box 29 v.cells)] (h4 := ⟨rfl, rfl⟩) (h6 := by simp [Hp.ok, Ob.ok, Vec.cells_ok])
theorem findV_at (n : Nat) (hn : n ≤ 8) (v : Vec) (q k : Nat) : SCd Tryd.prog slices_IndexFunc_Luint32_uint32.f [.bs q n (8 - n), .fn (.func buffer_New_1.f) [] []] [(q, .box 29 v.cells)] k 0 (i64 (farI n v)) [(q, .box 29 v.cells)] := by
  have := SB.atL [q] (findV_sb n hn v) (by simp) (by simp [lk]) k
  simpa [SV.ren, SV.rens, Hp.ren, Ob.ren, atN, Vec.cells_ren] using this
theorem contV_sb (n : Nat) (hn : n ≤ 8) (v : Vec) : SB Tryd.prog slices_ContainsFunc_Luint32_uint32.f [.bs 0 n (8 - n), .fn (.func buffer_New_1.f) [] []] [(0, .box 29 v.cells)] 1 0 fun r F => r = bl (farB n v) ∧ F = [(0, .box 29 v.cells)] := by
  refine slices_ContainsFunc_Luint32_uint32.enter (by simp [SV.ok, SV.oks]) (by simp [Hp.ok, Ob.ok, Vec.cells_ok]) (by simp) ?_
  rw [← farI_any]
  have c1 := fun k => findV_at n hn v 0 k
  dsimp only [slices_ContainsFunc_Luint32_uint32.s, Co.M, Co.G, Co.J, Co.H, Co.N, Co.F, Co.C, Co.Z, Co.B, Co.b8, Co.b32, Co.b64, Co.i6, Co.z8, Co.z29]
  refine SW.seq ?_
  (refine SW.regL [0, 1, 4] mixed ?_; (repeat (first | refine RW.ro bq_tt (h := ?_) | refine RW.skip (h := ?_) | refine RW.op bq_tt (h := ?_) | refine RW.opN bq_tt (h := ?_) | refine RW.skip0 (h := ?_))); refine RW.nil ⟨by kernel_rfl, Pruned.mk (h := ?_)⟩)
  refine SW.seq ?_
  (refine SW.regL [0, 1, 4] mixed ?_; (repeat (first | refine RW.ro bq_tt (h := ?_) | refine RW.skip (h := ?_) | refine RW.op bq_tt (h := ?_) | refine RW.opN bq_tt (h := ?_) | refine RW.skip0 (h := ?_) | (refine RW.callC (h := ?_); (first | refine CallP.mk bq_tt (hc := c1 _) (h := ?_))))); refine RW.nil ⟨by kernel_rfl, Pruned.mk (h := ?_)⟩)
  refine SW.ret ?_
  exact End.mk [(0, .box 29 v.cells)] (h4 := ⟨rfl, rfl⟩) (h6 := by simp [Hp.ok, Ob.ok, Vec.cells_ok])
theorem contV_at (n : Nat) (hn : n ≤ 8) (v : Vec) (q k : Nat) : SCd Tryd.prog slices_ContainsFunc_Luint32_uint32.f [.bs q n (8 - n), .fn (.func buffer_New_1.f) [] []] [(q, .box 29 v.cells)] k 0 (bl (farB n v)) [(q, .box 29 v.cells)] := by
  have := SB.atL [q] (contV_sb n hn v) (by simp) (by simp [lk]) k
  simpa [SV.ren, SV.rens, Hp.ren, Ob.ren, atN, Vec.cells_ren] using this
set_option maxHeartbeats 2000000 in
theorem new_good (n : Nat) (h1 : 1 ≤ n) (h8 : n ≤ 8) (v : Vec) (hf : farB n v = false) : SB Tryd.prog buffer_New.f [i64 (n : Int), .agg v.cells] [] 0 3 fun r F => r = .tup [.ptr 2 0, i64 0] ∧ F = bH 2 1 n v [] 0 := by
  refine buffer_New.enter (by simp [SV.ok, SV.oks, Vec.cells_ok]) (by simp [Hp.ok]) (by simp) ?_
  have c1 := fun k => contV_at n h8 v 0 k
  rw [hf] at c1
  have e1 : decide ((n : Int) < 1) = false := by simp only [decide_eq_false_iff_not]; omega
  have e2 : decide ((n : Int) > 8) = false := by simp only [decide_eq_false_iff_not]; omega
  have s1 : spl (spl (spl [.d (.int .i64 0), .d (.int .u32 0), .d (.int .u32 0), .d (.int .u32 0), .d (.int .u32 0), .d (.int .u32 0), .d (.int .u32 0), .d (.int .u32 0), .d (.int .u32 0), .d .nilm] 0 [i64 (n : Int)]) 1 v.cells) 9 [.mp 1] = bfc n v 1 := rfl
  have s3 : (spl [.d (.int .i64 0), .d (.int .u32 0), .d (.int .u32 0), .d (.int .u32 0), .d (.int .u32 0), .d (.int .u32 0), .d (.int .u32 0), .d (.int .u32 0), .d (.int .u32 0), .d .nilm] 0 [i64 (n : Int)]).length = 10 := rfl
  have s4 : (spl (spl [.d (.int .i64 0), .d (.int .u32 0), .d (.int .u32 0), .d (.int .u32 0), .d (.int .u32 0), .d (.int .u32 0), .d (.int .u32 0), .d (.int .u32 0), .d (.int .u32 0), .d .nilm] 0 [i64 (n : Int)]) 1 v.cells).length = 10 := rfl
  have s2 := bfc.one n v 1
  have e3 : (n : Int).toNat = n := Int.toNat_natCast n
  dsimp only [buffer_New.s, Co.M, Co.G, Co.J, Co.H, Co.N, Co.F, Co.C, Co.Z, Co.B, Co.b8, Co.b32, Co.b64, Co.i6, Co.z8, Co.z29]
  refine SW.seq ?_
  (refine SW.regL [0, 1, 3, 4, 5, 16] mixed ?_; (repeat (first | refine RW.ro bq_tt (h := ?_) | refine RW.skip (h := ?_) | refine RW.op bq_tt (h := ?_) | refine RW.opN bq_tt (h := ?_) | refine RW.skip0 (h := ?_))); refine RW.nil ⟨by kernel_rfl, Pruned.mk (h := ?_)⟩)
  refine SW.seq (SW.seq ?_)
  (have fx := (And.intro (e1) (And.intro (e2) (And.intro (e3) (And.intro (h8) (And.intro (Nat.mul_one) (Nat.zero_add)))))); refine SW.regL [0, 1, 3, 4, 5, 16] mixed ?_; (repeat (first | refine RW.ro fx (h := ?_) | refine RW.skip (h := ?_) | refine RW.op fx (h := ?_) | refine RW.opN fx (h := ?_) | refine RW.skip0 (h := ?_) | (refine RW.callC (h := ?_); (first | refine CallP.mk fx (hc := c1 _) (h := ?_))))); refine RW.nil ⟨by kernel_rfl, Pruned.mk (h := ?_)⟩)
  refine SW.condF rfl (SW.skip (SW.seq ?_))
  (have fx := (And.intro (s1) (And.intro (s2) (And.intro (s3) (s4)))); refine SW.regL [0, 1, 3, 4, 5, 16] mixed ?_; (repeat (first | refine RW.ro fx (h := ?_) | refine RW.skip (h := ?_) | refine RW.op fx (h := ?_) | refine RW.opN fx (h := ?_) | refine RW.skip0 (h := ?_))); refine RW.nil ⟨by kernel_rfl, Pruned.mk (h := ?_)⟩)
  refine SW.ret ?_
  exact End.mk (bH 2 1 n v [] 0) (h4 := ⟨rfl, rfl⟩) (h6 := bH.ok _ _ _ _ _ _ _ rfl rfl)
theorem new_at (n : Nat) (h1 : 1 ≤ n) (h8 : n ≤ 8) (v : Vec) (hf : farB n v = false) (k : Nat) : SCd Tryd.prog buffer_New.f [.d (.int .i64 (n : Int)), .agg v.cells] [] k 3 (.tup [.ptr (k + 2) 0, .d (.int .i64 0)]) (bH (k + 2) (k + 1) n v [] 0) := by
  have h := SB.atL [] (new_good n h1 h8 v hf) (by simp) (by simp) k
  rw [bH.ren] at h
  simpa [SV.rens, SV.ren, atN, Vec.cells_ren, Hp.ren, Nat.add_comm] using h
set_option maxHeartbeats 2000000 in
theorem new_wrong (n : Int) (v : Vec) (hb : n < 1 ∨ 8 < n ∨ (1 ≤ n ∧ n ≤ 8 ∧ farB n.toNat v = true)) : SB Tryd.prog buffer_New.f [i64 n, .agg v.cells] [] 0 0 fun r F => r = .tup [.d .nilp, i64 2] ∧ F = [] := by
  refine buffer_New.enter (by simp [SV.ok, SV.oks, Vec.cells_ok]) (by simp [Hp.ok]) (by simp) ?_
  dsimp only [buffer_New.s, Co.M, Co.G, Co.J, Co.H, Co.N, Co.F, Co.C, Co.Z, Co.B, Co.b8, Co.b32, Co.b64, Co.i6, Co.z8, Co.z29]
  refine SW.seq ?_
  (refine SW.regL [0, 1, 3, 4, 5, 16] mixed ?_; (repeat (first | refine RW.ro bq_tt (h := ?_) | refine RW.skip (h := ?_) | refine RW.op bq_tt (h := ?_) | refine RW.opN bq_tt (h := ?_) | refine RW.skip0 (h := ?_))); refine RW.nil ⟨by kernel_rfl, Pruned.mk (h := ?_)⟩)
  refine SW.seq (SW.seq ?_)
  by_cases h1 : n < 1
  · have e1 : decide (n < 1) = true := by simp only [decide_eq_true_eq]; exact h1
    (refine SW.regL [0, 1, 3, 4, 5, 16] mixed ?_; (repeat (first | refine RW.ro (e1) (h := ?_) | refine RW.skip (h := ?_) | refine RW.op (e1) (h := ?_) | refine RW.opN (e1) (h := ?_) | refine RW.skip0 (h := ?_))); refine RW.nil ⟨by kernel_rfl, Pruned.mk (h := ?_)⟩)
    refine SW.condT rfl (SW.seq ?_)
    (refine SW.regL [0, 1, 3, 4, 5, 16] mixed ?_; (repeat (first | refine RW.ro bq_tt (h := ?_) | refine RW.skip (h := ?_) | refine RW.op bq_tt (h := ?_) | refine RW.opN bq_tt (h := ?_) | refine RW.skip0 (h := ?_))); refine RW.nil ⟨by kernel_rfl, Pruned.mk (h := ?_)⟩)
    refine SW.ret ?_
    exact End.mk [] (h4 := ⟨rfl, rfl⟩)
  have e1 : decide (n < 1) = false := by simp only [decide_eq_false_iff_not]; exact h1
  by_cases h2 : n > 8
  · have e2 : decide (n > 8) = true := by simp only [decide_eq_true_eq]; exact h2
    (refine SW.regL [0, 1, 3, 4, 5, 16] mixed ?_; (repeat (first | refine RW.ro (And.intro (e1) (e2)) (h := ?_) | refine RW.skip (h := ?_) | refine RW.op (And.intro (e1) (e2)) (h := ?_) | refine RW.opN (And.intro (e1) (e2)) (h := ?_) | refine RW.skip0 (h := ?_))); refine RW.nil ⟨by kernel_rfl, Pruned.mk (h := ?_)⟩)
    refine SW.condT rfl (SW.seq ?_)
    (refine SW.regL [0, 1, 3, 4, 5, 16] mixed ?_; (repeat (first | refine RW.ro bq_tt (h := ?_) | refine RW.skip (h := ?_) | refine RW.op bq_tt (h := ?_) | refine RW.opN bq_tt (h := ?_) | refine RW.skip0 (h := ?_))); refine RW.nil ⟨by kernel_rfl, Pruned.mk (h := ?_)⟩)
    refine SW.ret ?_
    exact End.mk [] (h4 := ⟨rfl, rfl⟩)
  have e2 : decide (n > 8) = false := by simp only [decide_eq_false_iff_not]; exact h2
  have hf : farB n.toNat v = true := by
    rcases hb with h | h | h
    · omega
    · omega
    · exact h.2.2
  obtain ⟨m, rfl⟩ : ∃ m : Nat, n = (m : Int) := ⟨n.toNat, by omega⟩
  rw [Int.toNat_natCast] at hf
  have h8 : m ≤ 8 := by omega
  have c1 := fun k => contV_at m h8 v 0 k
  rw [hf] at c1
  have e3 : (m : Int).toNat = m := Int.toNat_natCast m
  (have fx := (And.intro (e1) (And.intro (e2) (And.intro (e3) (And.intro (h8) (And.intro (Nat.mul_one) (Nat.zero_add)))))); refine SW.regL [0, 1, 3, 4, 5, 16] mixed ?_; (repeat (first | refine RW.ro fx (h := ?_) | refine RW.skip (h := ?_) | refine RW.op fx (h := ?_) | refine RW.opN fx (h := ?_) | refine RW.skip0 (h := ?_) | (refine RW.callC (h := ?_); (first | refine CallP.mk fx (hc := c1 _) (h := ?_))))); refine RW.nil ⟨by kernel_rfl, Pruned.mk (h := ?_)⟩)
  refine SW.condT rfl (SW.seq ?_)
  (refine SW.regL [0, 1, 3, 4, 5, 16] mixed ?_; (repeat (first | refine RW.ro bq_tt (h := ?_) | refine RW.skip (h := ?_) | refine RW.op bq_tt (h := ?_) | refine RW.opN bq_tt (h := ?_) | refine RW.skip0 (h := ?_))); refine RW.nil ⟨by kernel_rfl, Pruned.mk (h := ?_)⟩)
  refine SW.ret ?_
  exact End.mk [] (h4 := ⟨rfl, rfl⟩)
theorem newx_at (n : Int) (v : Vec) (hb : n < 1 ∨ 8 < n ∨ (1 ≤ n ∧ n ≤ 8 ∧ farB n.toNat v = true)) (k : Nat) : SCd Tryd.prog buffer_New.f [.d (.int .i64 n), .agg v.cells] [] k 0 (.tup [.d .nilp, .d (.int .i64 2)]) [] := by
  have h := SB.atL [] (new_wrong n v hb) (by simp) (by simp) k
  simpa [SV.rens, SV.ren, atN, Vec.cells_ren, Hp.ren] using h
theorem farB_zero (n : Nat) : farB n Vec.zero = false := by
  unfold farB
  rw [List.any_eq_false]
  intro i _
  simp [Vec.zero_get]
end Go.Proofs.YtnakpdoioammhaaDoor
namespace Go.Proofs.YtnakpdoioammhaaDoor
open Go.Sl Go.Proofs
attribute [local irreducible] SW RW SCd SC CallP Pruned
set_option maxHeartbeats 4000000 in
theorem waits_sb (n : Nat) (has : Vec) (M : MM Dt OpD) (c : Nat) (hM : WaitOk M c) (hs : ∀ o, o ∈ vals M → LnS o) : SB Tryd.prog buffer_Buffer_Waits.f [.ptr 0 0] (bH 0 1 n has M c) 2 0 fun r F => r = ops (osorted (vals M)) ∧ F = bH 0 1 n has M c := by
  refine buffer_Buffer_Waits.enter (by simp [SV.ok, SV.oks]) (bH.ok _ _ _ _ _ _ _ rfl rfl) (by simp) ?_
  have hMl := hM.len
  have c1 := fun k => none_at n has M c 0 1 (by decide) k
  have c2 := fun k => ball_at n has M c hM.wb (by omega) 0 1 (by decide) k
  have hlen : (osorted (vals M)).length ≤ 400000 := by rw [(osorted_perm _).length_eq, vals_len]; exact hMl
  have hmem : ∀ x, x ∈ osorted (vals M) → LnS x := fun x hx => hs x ((osorted_perm _).mem_iff.1 hx)
  generalize osorted (vals M) = L at c2 hlen hmem ⊢
  have b1 : SV.rens id (bfc n has 1) = bfc n has 1 := bfc.ren _ _ _ _
  have b2 : SV.oks (fun n => decide (n < 3)) (bfc n has 1) = true := bfc.ok _ _ _ _ rfl
  have b3 := omap_ren id M
  have b4 := omap_ok (fun n => decide (n < 3)) M
  simp only [bH] at c1 c2 ⊢
  dsimp only [buffer_Buffer_Waits.s, Co.M, Co.G, Co.J, Co.H, Co.N, Co.F, Co.C, Co.Z, Co.B, Co.b8, Co.b32, Co.b64, Co.i6, Co.z8, Co.z29]
  refine SW.seq ?_
  (refine SW.regL [0, 2, 3, 5, 7, 9, 10, 11, 12] mixed ?_; (repeat (first | refine RW.ro bq_tt (h := ?_) | refine RW.skip (h := ?_) | refine RW.op bq_tt (h := ?_) | refine RW.opN bq_tt (h := ?_) | refine RW.skip0 (h := ?_) | refine lit1 rfl rfl (h := ?_))); refine RW.nil ⟨conf_of (by kernel_rfl), Pruned.mk (h := ?_)⟩)
  refine SW.seq (SW.seq ?_)
  (refine SW.regL [0, 2, 3, 5, 7, 9, 10, 11, 12] mixed ?_; (repeat (first | refine RW.ro bq_tt (h := ?_) | refine RW.skip (h := ?_) | refine RW.op bq_tt (h := ?_) | refine RW.opN bq_tt (h := ?_) | refine RW.skip0 (h := ?_) | refine lit1 rfl rfl (h := ?_) | (refine RW.callC (h := ?_); (first | refine CallP.mk bq_tt (hc := c1 _) (h := ?_))))); refine RW.nil ⟨conf_of (by kernel_rfl), Pruned.mk (h := ?_)⟩)
  refine SW.condF rfl (SW.skip (SW.seq ?_))
  (refine SW.regL [0, 2, 3, 5, 7, 9, 10, 11, 12] mixed ?_; (repeat (first | refine RW.ro bq_tt (h := ?_) | refine RW.skip (h := ?_) | refine RW.op bq_tt (h := ?_) | refine RW.opN bq_tt (h := ?_) | refine RW.skip0 (h := ?_) | refine lit1 rfl rfl (h := ?_))); refine RW.nil ⟨conf_of (by kernel_rfl), Pruned.mk (h := ?_)⟩)
  refine SW.nilrow 3 37 29 rfl ?_
  refine SW.seq (SW.seq ?_)
  (refine SW.regL [0, 2, 3, 5, 7, 9, 10, 11, 12] mixed ?_; (repeat (first | refine RW.ro bq_tt (h := ?_) | refine RW.skip (h := ?_) | refine RW.op bq_tt (h := ?_) | refine RW.opN bq_tt (h := ?_) | refine RW.skip0 (h := ?_) | refine lit1 rfl rfl (h := ?_) | (refine RW.callC (h := ?_); (first | refine CallP.mk bq_tt (hc := c2 _) (h := ?_))))); refine RW.nil ⟨conf_of (by kernel_rfl), Pruned.mk (h := ?_)⟩)
  refine SW.block ?_
  refine SW.loopA (α := {i : Nat // i ≤ L.length}) (fun i => ⟨[(11, i64 i.1), (10, i64 L.length), (9, ops L), (3, .gs 2 (L.take i.1).length)], [(2, .arr 37 29 (L.take i.1).length (opc (L.take i.1))), (0, .box 58 (bfc n has 1)), (1, .map (mapE Dt.cells ov M) c)], 3⟩) (fun i => L.length - i.1) ⟨0, by omega⟩ id (And.intro b1 (And.intro b2 (And.intro b3 b4))) (round := ?_)
  rintro ⟨i, hi⟩
  dsimp only
  refine SW.seq ?_
  by_cases h : i < L.length
  · have h1 : decide ((i : Int) < L.length) = true := by simp only [decide_eq_true_eq]; omega
    obtain ⟨x, hx⟩ := get_of_lt h
    have hxm := hmem x (List.mem_of_getElem? hx)
    have e2 : IntKind.i64.wrap ((i : Int) + 1) = ((i + 1 : Nat) : Int) := wrap_i64 _ (by omega)
    have e1 : L.take (i + 1) = L.take i ++ [x] := take_snoc hx
    have hlt : (L.take i).length ≤ 400000 := by rw [List.length_take]; omega
    have d2 := fun k => own_at x hxm k
    generalize L.take i = T at e1 hlt ⊢
    (refine SW.regL [0, 2, 3, 5, 7, 9, 10, 11, 12] mixed ?_; (repeat (first | refine RW.ro (h1) (h := ?_) | refine RW.skip (h := ?_) | refine RW.op (h1) (h := ?_) | refine RW.opN (h1) (h := ?_) | refine RW.skip0 (h := ?_) | refine lit1 rfl rfl (h := ?_))); refine RW.nil ⟨conf_of (by kernel_rfl), Pruned.mk (h := ?_)⟩)
    refine SW.seq (SW.condT rfl (SW.skip ?_))
    refine SW.seq (SW.block (SW.seq ?_))
    (have fx := (And.intro (op_at hx) (op_room0 hx)); refine SW.regL [0, 2, 3, 5, 7, 9, 10, 11, 12] mixed ?_; (repeat (first | refine RW.ro fx (h := ?_) | refine RW.skip (h := ?_) | refine RW.op fx (h := ?_) | refine RW.opN fx (h := ?_) | refine RW.skip0 (h := ?_) | refine lit1 rfl rfl (h := ?_))); refine RW.nil ⟨conf_of (by kernel_rfl), Pruned.mk (h := ?_)⟩)
    (refine SW.regL [0, 2, 3, 5, 7, 9, 10, 11, 12] mixed ?_; (repeat (first | refine RW.ro bq_tt (h := ?_) | refine RW.skip (h := ?_) | refine RW.op bq_tt (h := ?_) | refine RW.opN bq_tt (h := ?_) | refine RW.skip0 (h := ?_) | refine lit1 rfl rfl (h := ?_) | (refine RW.callC (h := ?_); (first | refine CallP.mk bq_tt (hc := d2 _) (h := ?_))))); refine RW.nil ⟨conf_of (by kernel_rfl), Pruned.mk (h := ?_)⟩)
    (refine SW.regL [0, 2, 3, 5, 7, 9, 10, 11, 12] mixed ?_; (repeat (first | refine RW.ro (e2) (h := ?_) | refine RW.skip (h := ?_) | refine RW.op (e2) (h := ?_) | refine RW.opN (e2) (h := ?_) | refine RW.skip0 (h := ?_) | refine lit1 rfl rfl (h := ?_))); refine RW.nil ⟨conf_of (by kernel_rfl), Pruned.mk (h := ?_)⟩)
    have e5 : (T ++ [x]).length = T.length + [x].length := by simp
    have e6 : opc (T ++ [x]) = opc T ++ List.map SV.d ([x].flatMap OpD.ds) := by simp [opc]
    have u1 : ∀ n : Nat, n < 2 → n = 2 → 4 = n := fun n hn e => by omega
    have u2 : SV.rens (fun n => if n = 2 then 4 else n) (bfc n has 1) = bfc n has 1 := bfc.ren _ _ _ _
    have u3 := omap_ren (fun n => if n = 2 then 4 else n) M
    refine ⟨⟨i + 1, by omega⟩, fun n => if n = 2 then 4 else n, by show L.length - (i + 1) < L.length - i; omega, ?_⟩
    dsimp only
    rw [e1, e5, e6]
    exact Weak.mk (And.intro (eq_true u1) (And.intro u2 (And.intro u3 (And.intro b2 b4))))
  have h1 : decide ((i : Int) < L.length) = false := by simp only [decide_eq_false_iff_not]; omega
  have h2 : i = L.length := by omega
  subst h2
  rw [List.take_length]
  (refine SW.regL [0, 2, 3, 5, 7, 9, 10, 11, 12] mixed ?_; (repeat (first | refine RW.ro (h1) (h := ?_) | refine RW.skip (h := ?_) | refine RW.op (h1) (h := ?_) | refine RW.opN (h1) (h := ?_) | refine RW.skip0 (h := ?_) | refine lit1 rfl rfl (h := ?_))); refine RW.nil ⟨conf_of (by kernel_rfl), Pruned.mk (h := ?_)⟩)
  refine SW.seq (SW.condF rfl (SW.exit (SW.seq ?_)))
  (refine SW.regL [0, 2, 3, 5, 7, 9, 10, 11, 12] mixed ?_; (repeat (first | refine RW.ro bq_tt (h := ?_) | refine RW.skip (h := ?_) | refine RW.op bq_tt (h := ?_) | refine RW.opN bq_tt (h := ?_) | refine RW.skip0 (h := ?_) | refine lit1 rfl rfl (h := ?_))); refine RW.nil ⟨conf_of (by kernel_rfl), Pruned.mk (h := ?_)⟩)
  refine SW.freeze 2 (L.flatMap OpD.ds) rfl rfl ?_
  simp only [frzE, SV.frz, List.map_cons, List.map_nil, if_true, if_false, reduceIte, hdel, Nat.reduceEqDiff]
  refine SW.ret ?_
  exact End.mk (bH 0 1 n has M c) (h4 := ⟨rfl, rfl⟩) (h6 := bH.ok _ _ _ _ _ _ _ rfl rfl)
theorem waits_at (n : Nat) (has : Vec) (M : MM Dt OpD) (c : Nat) (hM : WaitOk M c) (hs : ∀ o, o ∈ vals M → LnS o) (b m : Nat) (hbm : b ≠ m) (k : Nat) : SCd Tryd.prog buffer_Buffer_Waits.f [.ptr b 0] (bH b m n has M c) k 0 (ops (osorted (vals M))) (bH b m n has M c) := by
  have h := SB.atL [b, m] (waits_sb n has M c hM hs) (by simp [hbm]) (fun i hi => bH.out n has M c i (by simpa using hi)) k
  simpa [SV.rens, SV.ren, atN, bH.ren, ops] using h
end Go.Proofs.YtnakpdoioammhaaDoor
