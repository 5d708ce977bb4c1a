/-
  Buffers: a copy; the document's buffer: which operation is next.
-/
import Derived.Test.YtnakpdoioammhaaDoorUF
import Derived.Test.YtnakpdoioammhaaDoorUA
set_option linter.unusedSectionVars false
set_option linter.unusedVariables false
set_option linter.unusedSimpArgs false
namespace Go.Proofs.YtnakpdoioammhaaDoor
open Go.Sl Go.Proofs
attribute [local irreducible] SW RW SCd SC CallP Pruned
set_option maxHeartbeats 4000000 in
theorem copy_sb (n : Nat) (has : Vec) (M : MM Dt OpD) (c : Nat) : SB Tryd.prog buffer_Buffer_Copy.f [.ptr 0 0] (bH 0 1 n has M c) 2 2 fun r F => r = .ptr 3 0 ∧ F = (3, .box 58 (bfc n has 2)) :: (2, .map (mapE Dt.cells ov M) c) :: bH 0 1 n has M c := by
  refine buffer_Buffer_Copy.enter (by simp [SV.ok, SV.oks]) (bH.ok _ _ _ _ _ _ _ rfl rfl) (by simp) ?_
  have c1 := fun k => none_at n has M c 0 1 (by decide) k
  have c2 : SCd Tryd.prog 38 [.mp 1] [(1, .map (mapE Dt.cells ov M) c)] 2 1 (.mp 2) [(2, .map (mapE Dt.cells ov M) c), (1, .map (mapE Dt.cells ov M) c)] := mapsClone_at 1 2 (by decide) _ (.inr ⟨_, _, rfl⟩)
  have g0 := bfc.g0 n has 1
  have g2 := bfc.len n has 1
  have g9 := bfc.g9 n has 1
  have gh := bfc.has n has 1
  have s1 : spl (spl (spl [.d (.int .i64 0), .d (.int .u32 0), .d (.int .u32 0), .d (.int .u32 0), .d (.int .u32 0), .d (.int .u32 0), .d (.int .u32 0), .d (.int .u32 0), .d (.int .u32 0), .d .nilm] 0 [i64 (n : Int)]) 1 has.cells) 9 [.mp 2] = bfc n has 2 := rfl
  have s2 := bfc.one n has 2
  have s3 : (spl [.d (.int .i64 0), .d (.int .u32 0), .d (.int .u32 0), .d (.int .u32 0), .d (.int .u32 0), .d (.int .u32 0), .d (.int .u32 0), .d (.int .u32 0), .d (.int .u32 0), .d .nilm] 0 [i64 (n : Int)]).length = 10 := rfl
  have s4 : (spl (spl [.d (.int .i64 0), .d (.int .u32 0), .d (.int .u32 0), .d (.int .u32 0), .d (.int .u32 0), .d (.int .u32 0), .d (.int .u32 0), .d (.int .u32 0), .d (.int .u32 0), .d .nilm] 0 [i64 (n : Int)]) 1 has.cells).length = 10 := rfl
  simp only [bH] at c1 ⊢
  dsimp only [buffer_Buffer_Copy.s, Co.M, Co.G, Co.J, Co.H, Co.N, Co.F, Co.C, Co.Z, Co.B, Co.b8, Co.b32, Co.b64, Co.i6, Co.z8, Co.z29]
  refine SW.seq ?_
  (refine SW.regL [0, 2, 4] mixed ?_; (repeat (first | refine RW.ro bq_tt (h := ?_) | refine RW.skip (h := ?_) | refine RW.op bq_tt (h := ?_) | refine RW.opN bq_tt (h := ?_) | refine RW.skip0 (h := ?_))); refine RW.nil ⟨by kernel_rfl, Pruned.mk (h := ?_)⟩)
  refine SW.seq (SW.seq ?_)
  (refine SW.regL [0, 2, 4] mixed ?_; (repeat (first | refine RW.ro bq_tt (h := ?_) | refine RW.skip (h := ?_) | refine RW.op bq_tt (h := ?_) | refine RW.opN bq_tt (h := ?_) | refine RW.skip0 (h := ?_) | (refine RW.callC (h := ?_); (first | refine CallP.mk bq_tt (hc := c1 _) (h := ?_))))); refine RW.nil ⟨by kernel_rfl, Pruned.mk (h := ?_)⟩)
  refine SW.condF rfl (SW.skip (SW.seq ?_))
  (have fx := (And.intro (g0) (And.intro (g2) (And.intro (g9) (And.intro (gh) (And.intro (s1) (And.intro (s2) (And.intro (s3) (s4)))))))); refine SW.regL [0, 2, 4] mixed ?_; (repeat (first | refine RW.ro fx (h := ?_) | refine RW.skip (h := ?_) | refine RW.op fx (h := ?_) | refine RW.opN fx (h := ?_) | refine RW.skip0 (h := ?_) | (refine RW.callC (h := ?_); (first | refine CallP.mk fx (hc := c2) (h := ?_))))); refine RW.nil ⟨by kernel_rfl, Pruned.mk (h := ?_)⟩)
  refine SW.ret ?_
  exact End.mk ((3, .box 58 (bfc n has 2)) :: (2, .map (mapE Dt.cells ov M) c) :: bH 0 1 n has M c) (h4 := ⟨rfl, rfl⟩) (h6 := by simp [bH, Hp.ok, Ob.ok, bfc.ok (fun n => decide (n < 4)) n has 2 rfl, bfc.ok (fun n => decide (n < 4)) n has 1 rfl, omap_ok])
theorem copy_at (n : Nat) (has : Vec) (M : MM Dt OpD) (c : Nat) (b m : Nat) (hbm : b ≠ m) (k : Nat) : SCd Tryd.prog buffer_Buffer_Copy.f [.ptr b 0] (bH b m n has M c) k 2 (.ptr (k + 1) 0) ((k + 1, .box 58 (bfc n has k)) :: (k, .map (mapE Dt.cells ov M) c) :: bH b m n has M c) := by
  have h := SB.atL [b, m] (copy_sb n has M c) (by simp [hbm]) (fun i hi => bH.out n has M c i (by simpa using hi)) k
  have e : atN [b, m] k 2 = k := by simp [atN]
  have e3 : atN [b, m] k 3 = k + 1 := by simp [atN]; omega
  have h2 : Hp.ren (atN [b, m] k) ((3, .box 58 (bfc n has 2)) :: (2, .map (mapE Dt.cells ov M) c) :: bH 0 1 n has M c) = (k + 1, .box 58 (bfc n has k)) :: (k, .map (mapE Dt.cells ov M) c) :: bH b m n has M c := by
    have := bH.ren (atN [b, m] k) 0 1 n has M c
    simp only [Hp.ren, List.map_cons, Ob.ren, bfc.ren, omap_ren, e, e3] at this ⊢
    rw [this]; simp [atN]
  rw [h2, bH.ren] at h
  simpa [SV.rens, SV.ren, atN, e3, Nat.add_comm] using h
def rqc (n : Nat) (has : Vec) (s : SV) : List SV := .d (.int .i64 (n : Int)) :: (has.cells ++ [s])
theorem rqc.len (n : Nat) (has : Vec) (s : SV) : (rqc n has s).length = 10 := rfl
theorem rqc.g0 (n : Nat) (has : Vec) (s : SV) : (rqc n has s)[0]? = some (i64 n) := rfl
theorem rqc.g9 (n : Nat) (has : Vec) (s : SV) : (rqc n has s)[9]? = some s := rfl
theorem rqc.has (n : Nat) (has : Vec) (s : SV) : List.take 8 (List.drop 1 (rqc n has s)) = has.cells := rfl
theorem rqc.t10 (n : Nat) (has : Vec) (s : SV) : List.take 10 (rqc n has s) = rqc n has s := rfl
theorem rqc.get (n : Nat) (has : Vec) (s : SV) {r : Nat} (h : r < 8) : (rqc n has s)[1 + r]? = some (u32 (has.get r)) := by
  match r, h with
  | 0, _ | 1, _ | 2, _ | 3, _ | 4, _ | 5, _ | 6, _ | 7, _ => rfl
theorem rqc.set (n : Nat) (has : Vec) (s : SV) {r : Nat} (h : r < 8) (x : Nat) : spl (rqc n has s) (1 + r) [.d (.int .u32 (x : Int))] = rqc n (has.set r x) s := by
  match r, h with
  | 0, _ | 1, _ | 2, _ | 3, _ | 4, _ | 5, _ | 6, _ | 7, _ => rfl
theorem rqc.row (n : Nat) (has : Vec) (s s' : SV) : spl (rqc n has s) 9 [s'] = rqc n has s' := rfl
theorem rqc.one (n : Nat) (has : Vec) {s : SV} (h : s.isOne = true) : (rqc n has s).all SV.isOne = true := by
  unfold rqc
  rw [List.all_cons, List.all_append, List.all_cons, List.all_nil, h, Vec.cells_one]; rfl
theorem rqc.ok (q : Nat → Bool) (n : Nat) (has : Vec) {s : SV} (h : s.ok q = true) : SV.oks q (rqc n has s) = true := by
  simp [rqc, SV.oks, SV.ok, SV.oks_append, Vec.cells_ok, h]
theorem rqc.ren (ρ : Nat → Nat) (n : Nat) (has : Vec) (s : SV) : SV.rens ρ (rqc n has s) = rqc n has (s.ren ρ) := by
  simp [rqc, SV.rens, SV.ren, SV.rens_append, Vec.cells_ren]
set_option maxHeartbeats 4000000 in
theorem rmay11_ok (n : Nat) (has : Vec) (hv : has.wf) (L : List OpD) (o : OpD) (hr : o.dot.r < 8) (h0 : 0 < o.dot.n) (ho : o.dot.wf) : Go.Sl.Pure Tryd.prog ref11_may.f [.agg (rqc n has (ops L)), .agg o.cells] (bl (mayB has o)) := by
  refine ref11_may.enter (by first | rfl | simp [SV.ok, SV.oks]) (by first | rfl | simp [Hp.ok, Ob.ok, SV.ok, SV.oks, Vec.cells_ok]) (by simp) ?_
  dsimp only [ref11_may.s, Co.M, Co.G, Co.J, Co.H, Co.N, Co.F, Co.C, Co.Z, Co.B, Co.b8, Co.b32, Co.b64, Co.i6, Co.z8, Co.z29]
  have g1 := rqc.len n has (ops L)
  have o1 := rqc.one n has (s := ops L) rfl
  have gg := fun r (h : r < 8) => rqc.get n has (ops L) h
  have hn := ho.2
  have e1 : IntKind.u32.wrap ((o.dot.n : Int) - 1) = ((o.dot.n - 1 : Nat) : Int) := by rw [show (o.dot.n : Int) - 1 = ((o.dot.n - 1 : Nat) : Int) by omega]; exact wrap_u32' _ (by omega)
  refine SW.seq ?_
  (refine SW.regL [0, 1, 2, 3, 4, 5, 16, 18, 29] mixed ?_; (repeat (first | refine RW.ro (o1) (h := ?_) | refine RW.skip (h := ?_) | refine RW.op (o1) (h := ?_) | refine RW.opN (o1) (h := ?_) | refine RW.skip0 (h := ?_))); refine RW.nil ⟨by kernel_rfl, Pruned.mk (h := ?_)⟩)
  refine SW.seq (SW.seq ?_)
  by_cases h1 : has.get o.dot.r = o.dot.n - 1
  case neg =>
    have e2 : (((has.get o.dot.r : Nat) : Int) != ((o.dot.n - 1 : Nat) : Int)) = true := by rw [bne_iff_ne]; omega
    have e3 : mayB has o = false := by
      rw [Bool.eq_false_iff]; intro hm
      have := (mayB_iff.1 hm).1.2; omega
    rw [e3]
    (have fx := (And.intro (g1) (And.intro (hr) (And.intro (gg _ hr) (And.intro (o.gDotR) (And.intro (o.gDotN) (And.intro (e1) (e2))))))); refine SW.regL [0, 1, 2, 3, 4, 5, 16, 18, 29] mixed ?_; (repeat (first | refine RW.ro fx (h := ?_) | refine RW.skip (h := ?_) | refine RW.op fx (h := ?_) | refine RW.opN fx (h := ?_) | refine RW.skip0 (h := ?_))); refine RW.nil ⟨by kernel_rfl, Pruned.mk (h := ?_)⟩)
    refine SW.condT rfl (SW.seq ?_)
    (refine SW.regL [0, 1, 2, 3, 4, 5, 16, 18, 29] mixed ?_; (repeat (first | refine RW.ro bq_tt (h := ?_) | refine RW.skip (h := ?_) | refine RW.op bq_tt (h := ?_) | refine RW.opN bq_tt (h := ?_) | refine RW.skip0 (h := ?_))); refine RW.nil ⟨by kernel_rfl, Pruned.mk (h := ?_)⟩)
    refine SW.ret ?_
    exact End.mk [] (h4 := ⟨rfl, rfl⟩)
  have e2 : (((has.get o.dot.r : Nat) : Int) != ((o.dot.n - 1 : Nat) : Int)) = false := by rw [h1]; simp
  (have fx := (And.intro (g1) (And.intro (hr) (And.intro (gg _ hr) (And.intro (o.gDotR) (And.intro (o.gDotN) (And.intro (e1) (e2))))))); refine SW.regL [0, 1, 2, 3, 4, 5, 16, 18, 29] mixed ?_; (repeat (first | refine RW.ro fx (h := ?_) | refine RW.skip (h := ?_) | refine RW.op fx (h := ?_) | refine RW.opN fx (h := ?_) | refine RW.skip0 (h := ?_))); refine RW.nil ⟨by kernel_rfl, Pruned.mk (h := ?_)⟩)
  refine SW.condF rfl (SW.skip (SW.seq (SW.seq ?_)))
  (refine SW.regL [0, 1, 2, 3, 4, 5, 16, 18, 29] mixed ?_; (repeat (first | refine RW.ro bq_tt (h := ?_) | refine RW.skip (h := ?_) | refine RW.op bq_tt (h := ?_) | refine RW.opN bq_tt (h := ?_) | refine RW.skip0 (h := ?_))); refine RW.nil ⟨by kernel_rfl, Pruned.mk (h := ?_)⟩)
  have r1 : SV.rens id o.cells = o.cells := SV.rens_d _
  have r2 : SV.oks (fun n => decide (n < 2)) o.cells = true := OpD.cells_ok o _
  have r3 : SV.rens id (rqc n has (ops L)) = rqc n has (ops L) := rqc.ren _ _ _ _
  have r4 : SV.oks (fun n => decide (n < 2)) (rqc n has (ops L)) = true := rqc.ok _ _ _ rfl
  refine SW.block ?_
  refine SW.loopA (α := {i : Nat // i ≤ 8 ∧ ∀ j, j < i → o.dep.get j ≤ has.get j}) (fun i => ⟨[(5, i64 i.1), (3, .ptr 1 0), (2, .ptr 0 0)], [(1, .box 37 o.cells), (0, .box 48 (rqc n has (ops L)))], 2⟩) (fun i => 8 - i.1) ⟨0, by omega, by omega⟩ id (And.intro r1 (And.intro r2 (And.intro r3 r4))) (round := ?_)
  rintro ⟨i, hi, hs⟩
  dsimp only
  refine SW.seq (SW.seq ?_)
  by_cases h : i < 8
  · have h2 : decide ((i : Int) < 8) = true := by simp only [decide_eq_true_eq]; omega
    have e4 : IntKind.i64.wrap ((i : Int) + 1) = ((i + 1 : Nat) : Int) := wrap_i64 _ (by omega)
    have hd := dep_get o h
    (refine SW.regL [0, 1, 2, 3, 4, 5, 16, 18, 29] mixed ?_; (repeat (first | refine RW.ro (h2) (h := ?_) | refine RW.skip (h := ?_) | refine RW.op (h2) (h := ?_) | refine RW.opN (h2) (h := ?_) | refine RW.skip0 (h := ?_))); refine RW.nil ⟨by kernel_rfl, Pruned.mk (h := ?_)⟩)
    refine SW.condT rfl (SW.skip (SW.seq (SW.block (SW.seq ?_))))
    rcases h3 : decide (((has.get i : Nat) : Int) < ((o.dep.get i : Nat) : Int)) with _ | _
    · (have fx := (And.intro (g1) (And.intro (h) (And.intro (gg _ h) (And.intro (hd) (h3))))); refine SW.regL [0, 1, 2, 3, 4, 5, 16, 18, 29] mixed ?_; (repeat (first | refine RW.ro fx (h := ?_) | refine RW.skip (h := ?_) | refine RW.op fx (h := ?_) | refine RW.opN fx (h := ?_) | refine RW.skip0 (h := ?_))); refine RW.nil ⟨by kernel_rfl, Pruned.mk (h := ?_)⟩)
      refine SW.condF rfl (SW.skip ?_)
      (refine SW.regL [0, 1, 2, 3, 4, 5, 16, 18, 29] mixed ?_; (repeat (first | refine RW.ro (e4) (h := ?_) | refine RW.skip (h := ?_) | refine RW.op (e4) (h := ?_) | refine RW.opN (e4) (h := ?_) | refine RW.skip0 (h := ?_))); refine RW.nil ⟨by kernel_rfl, Pruned.mk (h := ?_)⟩)
      refine ⟨⟨i + 1, by omega, fun j hj => ?_⟩, id, by show 8 - (i + 1) < 8 - i; omega, ?_⟩
      · rcases Nat.lt_or_ge j i with h5 | h5
        · exact hs j h5
        · have : j = i := by omega
          subst this
          simp only [decide_eq_false_iff_not] at h3; omega
      · exact Weak.mk (And.intro r1 (And.intro r2 (And.intro r3 r4)))
    · have e3 : mayB has o = false := by
        rw [Bool.eq_false_iff]; intro hm
        have := Vec.above_iff.1 (mayB_iff.1 hm).2 i h
        simp only [decide_eq_true_eq] at h3; omega
      rw [e3]
      (have fx := (And.intro (g1) (And.intro (h) (And.intro (gg _ h) (And.intro (hd) (h3))))); refine SW.regL [0, 1, 2, 3, 4, 5, 16, 18, 29] mixed ?_; (repeat (first | refine RW.ro fx (h := ?_) | refine RW.skip (h := ?_) | refine RW.op fx (h := ?_) | refine RW.opN fx (h := ?_) | refine RW.skip0 (h := ?_))); refine RW.nil ⟨by kernel_rfl, Pruned.mk (h := ?_)⟩)
      refine SW.condT rfl (SW.seq ?_)
      (refine SW.regL [0, 1, 2, 3, 4, 5, 16, 18, 29] mixed ?_; (repeat (first | refine RW.ro bq_tt (h := ?_) | refine RW.skip (h := ?_) | refine RW.op bq_tt (h := ?_) | refine RW.opN bq_tt (h := ?_) | refine RW.skip0 (h := ?_))); refine RW.nil ⟨by kernel_rfl, Pruned.mk (h := ?_)⟩)
      refine SW.ret ?_
      exact End.mk [] (h4 := ⟨rfl, rfl⟩)
  have h2 : decide ((i : Int) < 8) = false := by simp only [decide_eq_false_iff_not]; omega
  have e3 : mayB has o = true := mayB_iff.2 ⟨⟨hr, by omega⟩, Vec.above_iff.2 fun r hr => hs r (by omega)⟩
  rw [e3]
  (refine SW.regL [0, 1, 2, 3, 4, 5, 16, 18, 29] mixed ?_; (repeat (first | refine RW.ro (h2) (h := ?_) | refine RW.skip (h := ?_) | refine RW.op (h2) (h := ?_) | refine RW.opN (h2) (h := ?_) | refine RW.skip0 (h := ?_))); refine RW.nil ⟨by kernel_rfl, Pruned.mk (h := ?_)⟩)
  refine SW.condF rfl (SW.exit (SW.seq ?_))
  (refine SW.regL [0, 1, 2, 3, 4, 5, 16, 18, 29] mixed ?_; (repeat (first | refine RW.ro bq_tt (h := ?_) | refine RW.skip (h := ?_) | refine RW.op bq_tt (h := ?_) | refine RW.opN bq_tt (h := ?_) | refine RW.skip0 (h := ?_))); refine RW.nil ⟨by kernel_rfl, Pruned.mk (h := ?_)⟩)
  refine SW.ret ?_
  exact End.mk [] (h4 := ⟨rfl, rfl⟩)
theorem rmay11_at (n : Nat) (has : Vec) (hv : has.wf) (L : List OpD) (o : OpD) (hr : o.dot.r < 8) (h0 : 0 < o.dot.n) (ho : o.dot.wf) (k : Nat) : SCd Tryd.prog ref11_may.f [.agg (rqc n has (ops L)), .agg o.cells] [] k 0 (bl (mayB has o)) [] := (rmay11_ok n has hv L o hr h0 ho).sc rfl k
theorem nextB_least {has : Vec} {L : List OpD} {o : OpD} (hu : Uniq L) (ho : o ∈ L) (hm : mayB has o = true) (h : ∀ x, x ∈ L → mayB has x = true → x = o ∨ o.lt x = true) : nextB has L = some o := by
  cases hn : nextB has L with
  | none => rw [nextB_none hn ho] at hm; cases hm
  | some p =>
    obtain ⟨hp1, hp2⟩ := nextB_some hn
    rcases h p hp1 hp2 with e | hlt
    · rw [e]
    · exfalso
      unfold nextB at hn
      rw [List.find?_eq_some_iff_append] at hn
      obtain ⟨_, pre0, bs, e, hall⟩ := hn
      have hr := osorted_rises hu
      unfold Rises at hr
      have hos := (osorted_perm L).mem_iff.2 ho
      rw [e] at hr hos
      rw [List.pairwise_append] at hr
      rcases List.mem_append.1 hos with h1 | h1
      · have := hall o h1
        rw [hm] at this; cases this
      · rcases List.mem_cons.1 h1 with h1 | h1
        · rw [h1, OpD.lt_irrefl] at hlt; cases hlt
        · have := (List.pairwise_cons.1 hr.2.1).1 o h1
          rw [OpD.lt_asymm hlt] at this; cases this
structure BestI (has : Vec) (L : List OpD) (i : Nat) (b : Int) : Prop where
  none : b < 0 → b = -1 ∧ ∀ j x, j < i → L[j]? = some x → mayB has x = false
  some : 0 ≤ b → ∃ x, L[b.toNat]? = some x ∧ mayB has x = true ∧ b.toNat < i ∧ ∀ j y, j < i → L[j]? = some y → mayB has y = true → y = x ∨ x.lt y = true
def nextP (has : Vec) (L : List OpD) (b : Int) : Prop := (b = -1 ∧ nextB has L = none) ∨ ∃ (i : Nat) (x : OpD), b = (i : Int) ∧ L[i]? = some x ∧ nextB has L = some x
theorem BestI.done {has : Vec} {L : List OpD} {b : Int} (hu : Uniq L) (h : BestI has L L.length b) : nextP has L b := by
  by_cases hb : b < 0
  · obtain ⟨h1, h2⟩ := h.none hb
    refine .inl ⟨h1, ?_⟩
    cases hn : nextB has L with
    | none => rfl
    | some p =>
      obtain ⟨h3, h4⟩ := nextB_some hn
      obtain ⟨j, hj⟩ := List.mem_iff_getElem?.1 h3
      rw [h2 j p (lt_of_get hj) hj] at h4; cases h4
  · obtain ⟨x, h1, h2, h3, h4⟩ := h.some (by omega)
    refine .inr ⟨b.toNat, x, by omega, h1, nextB_least hu (List.mem_of_getElem? h1) h2 fun y hy hm => ?_⟩
    obtain ⟨j, hj⟩ := List.mem_iff_getElem?.1 hy
    exact h4 j y (lt_of_get hj) hj hm
theorem nextP.det {has : Vec} {L : List OpD} {a b : Int} (hu : Uniq L) (h : nextP has L a) (h2 : nextP has L b) : a = b := by
  rcases h with ⟨rfl, e⟩ | ⟨i, x, rfl, h1, e⟩ <;> rcases h2 with ⟨rfl, e2⟩ | ⟨j, y, rfl, h3, e2⟩
  · rfl
  · rw [e] at e2; cases e2
  · rw [e] at e2; cases e2
  · rw [e] at e2; injection e2 with e2; subst e2
    have := (List.getElem?_inj (lt_of_get h1) hu.nd).1 (h1.trans h3.symm)
    rw [this]
theorem nextP.none {has : Vec} {L : List OpD} (h : nextB has L = none) : nextP has L (-1) := .inl ⟨rfl, h⟩
theorem nextP.ex {has : Vec} {L : List OpD} {o : OpD} (h : nextB has L = some o) : ∃ i : Nat, L[i]? = some o ∧ nextP has L (i : Int) := by
  obtain ⟨i, hi⟩ := List.mem_iff_getElem?.1 (nextB_some h).1
  exact ⟨i, hi, .inr ⟨i, o, rfl, hi, h⟩⟩
set_option maxRecDepth 100000 in
set_option maxHeartbeats 4000000 in
theorem rnext11_ok (n : Nat) (has : Vec) (hv : has.wf) (L : List OpD) (hL : L.length ≤ 400000) (hu : Uniq L) (hd : ∀ o, o ∈ L → o.dot.r < 8 ∧ 0 < o.dot.n ∧ o.dot.wf) {b0 : Int} (hb0 : nextP has L b0) : Go.Sl.Pure Tryd.prog ref11_next.f [.agg (rqc n has (ops L))] (i64 b0) := by
  refine ref11_next.enter (by first | rfl | simp [SV.ok, SV.oks]) (by first | rfl | simp [Hp.ok, Ob.ok, SV.ok, SV.oks, Vec.cells_ok]) (by simp) ?_
  dsimp only [ref11_next.s, Co.M, Co.G, Co.J, Co.H, Co.N, Co.F, Co.C, Co.Z, Co.B, Co.b8, Co.b32, Co.b64, Co.i6, Co.z8, Co.z29]
  have g1 := rqc.len n has (ops L)
  have g9 := rqc.g9 n has (ops L)
  have t10 := rqc.t10 n has (ops L)
  have o1 := rqc.one n has (s := ops L) rfl
  have r3 : SV.rens id (rqc n has (ops L)) = rqc n has (ops L) := rqc.ren _ _ _ _
  have r4 : SV.oks (fun n => decide (n = 0)) (rqc n has (ops L)) = true := rqc.ok _ _ _ rfl
  refine SW.seq ?_
  (refine SW.regL [0, 1, 2, 3, 4, 9, 35] mixed ?_; (repeat (first | refine RW.ro (o1) (h := ?_) | refine RW.skip (h := ?_) | refine RW.op (o1) (h := ?_) | refine RW.opN (o1) (h := ?_) | refine RW.skip0 (h := ?_))); refine RW.nil ⟨by kernel_rfl, Pruned.mk (h := ?_)⟩)
  refine SW.seq ?_
  (refine SW.regL [0, 1, 2, 3, 4, 9, 35] mixed ?_; (repeat (first | refine RW.ro bq_tt (h := ?_) | refine RW.skip (h := ?_) | refine RW.op bq_tt (h := ?_) | refine RW.opN bq_tt (h := ?_) | refine RW.skip0 (h := ?_))); refine RW.nil ⟨by kernel_rfl, Pruned.mk (h := ?_)⟩)
  refine SW.seq (SW.seq ?_)
  (refine SW.regL [0, 1, 2, 3, 4, 9, 35] mixed ?_; (repeat (first | refine RW.ro bq_tt (h := ?_) | refine RW.skip (h := ?_) | refine RW.op bq_tt (h := ?_) | refine RW.opN bq_tt (h := ?_) | refine RW.skip0 (h := ?_))); refine RW.nil ⟨by kernel_rfl, Pruned.mk (h := ?_)⟩)
  refine SW.block ?_
  refine SW.loopA (α := {s : Nat × Int // s.1 ≤ L.length ∧ -1 ≤ s.2 ∧ s.2 ≤ (L.length : Int) ∧ BestI has L s.1 s.2}) (fun s => ⟨[(4, i64 s.1.1), (3, i64 s.1.2), (1, .ptr 0 0)], [(0, .box 48 (rqc n has (ops L)))], 1⟩) (fun s => L.length - s.1.1) ⟨(0, -1), by omega, by omega, by omega, ⟨fun _ => ⟨rfl, by omega⟩, fun h => by omega⟩⟩ id (And.intro r3 r4) (round := ?_)
  rintro ⟨⟨i, b⟩, hi, hb1, hb2, hI⟩
  dsimp only at hi hb1 hb2 hI ⊢
  refine SW.seq (SW.seq ?_)
  by_cases h : i < L.length
  · have h1 : decide ((i : Int) < L.length) = true := by simp only [decide_eq_true_eq]; omega
    obtain ⟨x, hx⟩ := get_of_lt h
    have hxd := hd x (List.mem_of_getElem? hx)
    have e2 : IntKind.i64.wrap ((i : Int) + 1) = ((i + 1 : Nat) : Int) := wrap_i64 _ (by omega)
    have hm := fun k => rmay11_at n has hv L x hxd.1 hxd.2.1 hxd.2.2 k
    (have fx := (And.intro (g1) (And.intro (g9) (h1))); refine SW.regL [0, 1, 2, 3, 4, 9, 35] mixed ?_; (repeat (first | refine RW.ro fx (h := ?_) | refine RW.skip (h := ?_) | refine RW.op fx (h := ?_) | refine RW.opN fx (h := ?_) | refine RW.skip0 (h := ?_))); refine RW.nil ⟨by kernel_rfl, Pruned.mk (h := ?_)⟩)
    refine SW.condT rfl (SW.skip (SW.seq (SW.block (SW.seq ?_))))
    rcases hmv : mayB has x with _ | _ <;> rw [hmv] at hm
    · have hI2 : BestI has L (i + 1) b := ⟨fun hb => by
        obtain ⟨h3, h4⟩ := hI.none hb
        refine ⟨h3, fun j y hj hy => ?_⟩
        rcases Nat.lt_or_ge j i with h5 | h5
        · exact h4 j y h5 hy
        · have : j = i := by omega
          subst this; rw [hx] at hy; injection hy with hy; rw [← hy]; exact hmv, fun hb => by
        obtain ⟨z, h3, h4, h5, h6⟩ := hI.some hb
        refine ⟨z, h3, h4, by omega, fun j y hj hy hym => ?_⟩
        rcases Nat.lt_or_ge j i with h7 | h7
        · exact h6 j y h7 hy hym
        · have : j = i := by omega
          subst this; rw [hx] at hy; injection hy with hy; rw [← hy, hmv] at hym; cases hym⟩
      (have fx := (And.intro (g1) (And.intro (g9) (And.intro (t10) (And.intro (op_at hx) (op_room0 hx))))); refine SW.regL [0, 1, 2, 3, 4, 9, 35] mixed ?_; (repeat (first | refine RW.ro fx (h := ?_) | refine RW.skip (h := ?_) | refine RW.op fx (h := ?_) | refine RW.opN fx (h := ?_) | refine RW.skip0 (h := ?_) | (refine RW.callC (h := ?_); (first | refine CallP.mk fx (hc := hm _) (h := ?_))))); refine RW.nil ⟨by kernel_rfl, Pruned.mk (h := ?_)⟩)
      refine SW.condF rfl (SW.skip ?_)
      (refine SW.regL [0, 1, 2, 3, 4, 9, 35] mixed ?_; (repeat (first | refine RW.ro (e2) (h := ?_) | refine RW.skip (h := ?_) | refine RW.op (e2) (h := ?_) | refine RW.opN (e2) (h := ?_) | refine RW.skip0 (h := ?_))); refine RW.nil ⟨by kernel_rfl, Pruned.mk (h := ?_)⟩)
      refine ⟨⟨(i + 1, b), by show i + 1 ≤ L.length; omega, hb1, hb2, hI2⟩, id, by show L.length - (i + 1) < L.length - i; omega, ?_⟩
      exact Weak.mk (And.intro r3 r4)
    · by_cases hb : b < 0
      · have h2 : decide (b < 0) = true := by simp only [decide_eq_true_eq]; exact hb
        have hI2 : BestI has L (i + 1) (i : Int) := ⟨fun hb => by omega, fun _ => by
          refine ⟨x, by rw [Int.toNat_natCast]; exact hx, hmv, by rw [Int.toNat_natCast]; omega, fun j y hj hy hym => ?_⟩
          rcases Nat.lt_or_ge j i with h7 | h7
          · rw [(hI.none hb).2 j y h7 hy] at hym; cases hym
          · have : j = i := by omega
            subst this; rw [hx] at hy; injection hy with hy; exact .inl hy.symm⟩
        (have fx := (And.intro (g1) (And.intro (g9) (And.intro (t10) (And.intro (op_at hx) (And.intro (op_room0 hx) (h2)))))); refine SW.regL [0, 1, 2, 3, 4, 9, 35] mixed ?_; (repeat (first | refine RW.ro fx (h := ?_) | refine RW.skip (h := ?_) | refine RW.op fx (h := ?_) | refine RW.opN fx (h := ?_) | refine RW.skip0 (h := ?_) | (refine RW.callC (h := ?_); (first | refine CallP.mk fx (hc := hm _) (h := ?_))))); refine RW.nil ⟨by kernel_rfl, Pruned.mk (h := ?_)⟩)
        refine SW.condT rfl ?_
        (refine SW.regL [0, 1, 2, 3, 4, 9, 35] mixed ?_; (repeat (first | refine RW.ro bq_tt (h := ?_) | refine RW.skip (h := ?_) | refine RW.op bq_tt (h := ?_) | refine RW.opN bq_tt (h := ?_) | refine RW.skip0 (h := ?_))); refine RW.nil ⟨by kernel_rfl, Pruned.mk (h := ?_)⟩)
        (refine SW.regL [0, 1, 2, 3, 4, 9, 35] mixed ?_; (repeat (first | refine RW.ro (e2) (h := ?_) | refine RW.skip (h := ?_) | refine RW.op (e2) (h := ?_) | refine RW.opN (e2) (h := ?_) | refine RW.skip0 (h := ?_))); refine RW.nil ⟨by kernel_rfl, Pruned.mk (h := ?_)⟩)
        refine ⟨⟨(i + 1, (i : Int)), by show i + 1 ≤ L.length; omega, by show (-1 : Int) ≤ (i : Int); omega, by show (i : Int) ≤ (L.length : Int); omega, hI2⟩, id, by show L.length - (i + 1) < L.length - i; omega, ?_⟩
        exact Weak.mk (And.intro r3 r4)
      · have h2 : decide (b < 0) = false := by simp only [decide_eq_false_iff_not]; exact hb
        obtain ⟨z, h3, h4, h5, h6⟩ := hI.some (by omega)
        obtain ⟨m, rfl⟩ : ∃ m : Nat, b = (m : Int) := ⟨b.toNat, by omega⟩
        rw [Int.toNat_natCast] at h3 h5
        have ha := fun k => ahead_at x z k
        have hlm := lt_of_get h3
        rcases hlt : x.lt z with _ | _ <;> rw [hlt] at ha
        · have hI2 : BestI has L (i + 1) (m : Int) := ⟨fun hb => by omega, fun _ => by
            refine ⟨z, by rw [Int.toNat_natCast]; exact h3, h4, by rw [Int.toNat_natCast]; omega, fun j y hj hy hym => ?_⟩
            rcases Nat.lt_or_ge j i with h7 | h7
            · exact h6 j y h7 hy hym
            · have : j = i := by omega
              subst this; rw [hx] at hy; injection hy with hy; subst hy
              by_cases e : x.dot = z.dot
              · exact .inl (hu.inj (List.mem_of_getElem? hx) (List.mem_of_getElem? h3) e)
              · rcases OpD.lt_total e with h8 | h8
                · rw [hlt] at h8; cases h8
                · exact .inr h8⟩
          (have fx := (And.intro (g1) (And.intro (g9) (And.intro (t10) (And.intro (op_at hx) (And.intro (op_room0 hx) (And.intro (op_at h3) (And.intro (op_room0 h3) (And.intro (h2) (hlm))))))))); refine SW.regL [0, 1, 2, 3, 4, 9, 35] mixed ?_; (repeat (first | refine RW.ro fx (h := ?_) | refine RW.skip (h := ?_) | refine RW.op fx (h := ?_) | refine RW.opN fx (h := ?_) | refine RW.skip0 (h := ?_) | (refine RW.callC (h := ?_); (first | refine CallP.mk fx (hc := hm _) (h := ?_) | refine CallP.mk fx (hc := ha _) (h := ?_))))); refine RW.nil ⟨by kernel_rfl, Pruned.mk (h := ?_)⟩)
          refine SW.condF rfl (SW.skip ?_)
          (refine SW.regL [0, 1, 2, 3, 4, 9, 35] mixed ?_; (repeat (first | refine RW.ro (e2) (h := ?_) | refine RW.skip (h := ?_) | refine RW.op (e2) (h := ?_) | refine RW.opN (e2) (h := ?_) | refine RW.skip0 (h := ?_))); refine RW.nil ⟨by kernel_rfl, Pruned.mk (h := ?_)⟩)
          refine ⟨⟨(i + 1, (m : Int)), by show i + 1 ≤ L.length; omega, hb1, hb2, hI2⟩, id, by show L.length - (i + 1) < L.length - i; omega, ?_⟩
          exact Weak.mk (And.intro r3 r4)
        · have hI2 : BestI has L (i + 1) (i : Int) := ⟨fun hb => by omega, fun _ => by
            refine ⟨x, by rw [Int.toNat_natCast]; exact hx, hmv, by rw [Int.toNat_natCast]; omega, fun j y hj hy hym => ?_⟩
            rcases Nat.lt_or_ge j i with h7 | h7
            · rcases h6 j y h7 hy hym with e | h8
              · rw [e]; exact .inr hlt
              · exact .inr (OpD.lt_trans hlt h8)
            · have : j = i := by omega
              subst this; rw [hx] at hy; injection hy with hy; exact .inl hy.symm⟩
          (have fx := (And.intro (g1) (And.intro (g9) (And.intro (t10) (And.intro (op_at hx) (And.intro (op_room0 hx) (And.intro (op_at h3) (And.intro (op_room0 h3) (And.intro (h2) (hlm))))))))); refine SW.regL [0, 1, 2, 3, 4, 9, 35] mixed ?_; (repeat (first | refine RW.ro fx (h := ?_) | refine RW.skip (h := ?_) | refine RW.op fx (h := ?_) | refine RW.opN fx (h := ?_) | refine RW.skip0 (h := ?_) | (refine RW.callC (h := ?_); (first | refine CallP.mk fx (hc := hm _) (h := ?_) | refine CallP.mk fx (hc := ha _) (h := ?_))))); refine RW.nil ⟨by kernel_rfl, Pruned.mk (h := ?_)⟩)
          refine SW.condT rfl ?_
          (refine SW.regL [0, 1, 2, 3, 4, 9, 35] mixed ?_; (repeat (first | refine RW.ro bq_tt (h := ?_) | refine RW.skip (h := ?_) | refine RW.op bq_tt (h := ?_) | refine RW.opN bq_tt (h := ?_) | refine RW.skip0 (h := ?_))); refine RW.nil ⟨by kernel_rfl, Pruned.mk (h := ?_)⟩)
          (refine SW.regL [0, 1, 2, 3, 4, 9, 35] mixed ?_; (repeat (first | refine RW.ro (e2) (h := ?_) | refine RW.skip (h := ?_) | refine RW.op (e2) (h := ?_) | refine RW.opN (e2) (h := ?_) | refine RW.skip0 (h := ?_))); refine RW.nil ⟨by kernel_rfl, Pruned.mk (h := ?_)⟩)
          refine ⟨⟨(i + 1, (i : Int)), by show i + 1 ≤ L.length; omega, by show (-1 : Int) ≤ (i : Int); omega, by show (i : Int) ≤ (L.length : Int); omega, hI2⟩, id, by show L.length - (i + 1) < L.length - i; omega, ?_⟩
          exact Weak.mk (And.intro r3 r4)
  have h1 : decide ((i : Int) < L.length) = false := by simp only [decide_eq_false_iff_not]; omega
  have hil : i = L.length := by omega
  subst hil
  (have fx := (And.intro (g1) (And.intro (g9) (h1))); refine SW.regL [0, 1, 2, 3, 4, 9, 35] mixed ?_; (repeat (first | refine RW.ro fx (h := ?_) | refine RW.skip (h := ?_) | refine RW.op fx (h := ?_) | refine RW.opN fx (h := ?_) | refine RW.skip0 (h := ?_))); refine RW.nil ⟨by kernel_rfl, Pruned.mk (h := ?_)⟩)
  refine SW.condF rfl (SW.exit (SW.seq ?_))
  (refine SW.regL [0, 1, 2, 3, 4, 9, 35] mixed ?_; (repeat (first | refine RW.ro bq_tt (h := ?_) | refine RW.skip (h := ?_) | refine RW.op bq_tt (h := ?_) | refine RW.opN bq_tt (h := ?_) | refine RW.skip0 (h := ?_))); refine RW.nil ⟨by kernel_rfl, Pruned.mk (h := ?_)⟩)
  refine SW.ret ?_
  have hbb := (hI.done hu).det hu hb0
  subst hbb
  exact End.mk [] (h4 := ⟨rfl, rfl⟩)
theorem rnext11_at (n : Nat) (has : Vec) (hv : has.wf) (L : List OpD) (hL : L.length ≤ 400000) (hu : Uniq L) (hd : ∀ o, o ∈ L → o.dot.r < 8 ∧ 0 < o.dot.n ∧ o.dot.wf) {b0 : Int} (hb0 : nextP has L b0) (k : Nat) : SCd Tryd.prog ref11_next.f [.agg (rqc n has (ops L))] [] k 0 (i64 b0) [] := (rnext11_ok n has hv L hL hu hd hb0).sc rfl k
end Go.Proofs.YtnakpdoioammhaaDoor
namespace Go.Proofs.YtnakpdoioammhaaDoor
open Go.Sl Go.Proofs
attribute [local irreducible] SW RW SCd SC CallP Pruned
theorem rvV_r {st : St} {t k ty n : Nat} {has : Vec} {s : SV} {r : List RV} {ss : List SV} {ob : Prop} (h1 : st.env.lookup t = some (.ptr k 0)) (h2 : lk st.hp k = some (.box ty (rqc n has s))) (h3 : rvV st r = some (ss, ob)) :
    rvV st (.cell t (some 10) :: r) = some (.agg (rqc n has s) :: ss, ldo (rqc n has s) 0 (some 10) ∧ ob) := by
  simp only [rvV, h1, h3, cellsAt, h2, ldv, List.drop_zero, rqc.t10]
theorem findO_is {L : List OpD} {d : Dt} {j : Nat} {x : OpD} (hj : L[j]? = some x) (hx : x.dot = d) : (findO L d).isSome = true := by
  unfold findO
  rw [List.find?_isSome]
  exact ⟨x, List.mem_of_getElem? hj, by simp [hx]⟩
theorem findO_not {L : List OpD} {d : Dt} (h : ∀ j x, j < L.length → L[j]? = some x → x.dot ≠ d) : (findO L d).isSome = false := by
  rw [Bool.eq_false_iff]
  intro hs
  unfold findO at hs
  rw [List.find?_isSome] at hs
  obtain ⟨x, hx, he⟩ := hs
  obtain ⟨j, hj⟩ := List.mem_iff_getElem?.1 hx
  exact h j x (lt_of_get hj) hj (by simpa using he)
set_option maxRecDepth 100000 in
set_option maxHeartbeats 4000000 in
theorem rthere_sb (n : Nat) (has : Vec) (L : List OpD) (hL : L.length ≤ 400000) (d : Dt) (hr : d.r < 8) : SB Tryd.prog ref11_there.f [.agg (rqc n has (.gs 0 L.length)), .agg d.cells] [(0, .arr 37 29 L.length (opc L))] 1 0 fun r F => r = bl ((findO L d).isSome || decide (d.n ≤ has.get d.r)) ∧ F = [(0, .arr 37 29 L.length (opc L))] := by
  refine ref11_there.enter (by simp [SV.ok, SV.oks]; exact rqc.ok _ _ _ rfl) (by simp [Hp.ok, Ob.ok, SV.oks_d]) (by simp) ?_
  have g1 := rqc.len n has (.gs 0 L.length)
  have g9 := rqc.g9 n has (.gs 0 L.length)
  have o1 := rqc.one n has (s := .gs 0 L.length) rfl
  have gg := fun r (h : r < 8) => rqc.get n has (.gs 0 L.length) h
  have r3 : SV.rens id (rqc n has (.gs 0 L.length)) = rqc n has (.gs 0 L.length) := rqc.ren _ _ _ _
  have r4 : SV.oks (fun n => decide (n < 3)) (rqc n has (.gs 0 L.length)) = true := rqc.ok _ _ _ rfl
  have r5 : SV.rens id d.cells = d.cells := rfl
  have r6 : SV.oks (fun n => decide (n < 3)) d.cells = true := rfl
  dsimp only [ref11_there.s, Co.M, Co.G, Co.J, Co.H, Co.N, Co.F, Co.C, Co.Z, Co.B, Co.b8, Co.b32, Co.b64, Co.i6, Co.z8, Co.z29]
  refine SW.seq ?_
  (refine SW.regL [0, 1, 2, 3, 4, 5, 10, 20] mixed ?_; (repeat (first | refine RW.ro (o1) (h := ?_) | refine RW.skip (h := ?_) | refine RW.op (o1) (h := ?_) | refine RW.opN (o1) (h := ?_) | refine RW.skip0 (h := ?_))); refine RW.nil ⟨by kernel_rfl, Pruned.mk (h := ?_)⟩)
  refine SW.seq (SW.seq ?_)
  (refine SW.regL [0, 1, 2, 3, 4, 5, 10, 20] mixed ?_; (repeat (first | refine RW.ro bq_tt (h := ?_) | refine RW.skip (h := ?_) | refine RW.op bq_tt (h := ?_) | refine RW.opN bq_tt (h := ?_) | refine RW.skip0 (h := ?_))); refine RW.nil ⟨by kernel_rfl, Pruned.mk (h := ?_)⟩)
  refine SW.block ?_
  refine SW.loopA (α := {i : Nat // i ≤ L.length ∧ ∀ j x, j < i → L[j]? = some x → x.dot ≠ d}) (fun i => ⟨[(5, i64 i.1), (3, .ptr 2 0), (2, .ptr 1 0)], [(2, .box 33 d.cells), (1, .box 48 (rqc n has (.gs 0 L.length))), (0, .arr 37 29 L.length (opc L))], 3⟩) (fun i => L.length - i.1) ⟨0, by omega, by omega⟩ id (And.intro r3 (And.intro r4 (And.intro r5 r6))) (round := ?_)
  rintro ⟨i, hi, hs⟩
  dsimp only
  refine SW.seq (SW.seq ?_)
  by_cases h : i < L.length
  · have h1 : decide ((i : Int) < L.length) = true := by simp only [decide_eq_true_eq]; omega
    obtain ⟨x, hx⟩ := get_of_lt h
    have e2 : IntKind.i64.wrap ((i : Int) + 1) = ((i + 1 : Nat) : Int) := wrap_i64 _ (by omega)
    have q1 := Dt.eqb x.dot d
    (have fx := (And.intro (g1) (And.intro (g9) (h1))); refine SW.regL [0, 1, 2, 3, 4, 5, 10, 20] mixed ?_; (repeat (first | refine RW.ro fx (h := ?_) | refine RW.skip (h := ?_) | refine RW.op fx (h := ?_) | refine RW.opN fx (h := ?_) | refine RW.skip0 (h := ?_))); refine RW.nil ⟨by kernel_rfl, Pruned.mk (h := ?_)⟩)
    refine SW.condT rfl (SW.skip (SW.seq (SW.block (SW.seq ?_))))
    rcases he : decide (x.dot = d) with _ | _ <;> rw [he] at q1
    · (have fx := (And.intro (g1) (And.intro (g9) (And.intro (op_at hx) (And.intro (op_room0 hx) (And.intro (op_load11 hx) (And.intro (op_roomd11 hx) (q1))))))); refine SW.regL [0, 1, 2, 3, 4, 5, 10, 20] mixed ?_; (repeat (first | refine RW.ro fx (h := ?_) | refine RW.skip (h := ?_) | refine RW.op fx (h := ?_) | refine RW.opN fx (h := ?_) | refine RW.skip0 (h := ?_))); refine RW.nil ⟨by kernel_rfl, Pruned.mk (h := ?_)⟩)
      refine SW.condF rfl (SW.skip ?_)
      (refine SW.regL [0, 1, 2, 3, 4, 5, 10, 20] mixed ?_; (repeat (first | refine RW.ro (e2) (h := ?_) | refine RW.skip (h := ?_) | refine RW.op (e2) (h := ?_) | refine RW.opN (e2) (h := ?_) | refine RW.skip0 (h := ?_))); refine RW.nil ⟨by kernel_rfl, Pruned.mk (h := ?_)⟩)
      refine ⟨⟨i + 1, by omega, fun j y hj hy => ?_⟩, id, by show L.length - (i + 1) < L.length - i; omega, ?_⟩
      · rcases Nat.lt_or_ge j i with h5 | h5
        · exact hs j y h5 hy
        · have : j = i := by omega
          subst this; rw [hx] at hy; injection hy with hy; rw [← hy]; exact of_decide_eq_false he
      · exact Weak.mk (And.intro r3 (And.intro r4 (And.intro r5 r6)))
    · rw [findO_is hx (of_decide_eq_true he), Bool.true_or]
      (have fx := (And.intro (g1) (And.intro (g9) (And.intro (op_at hx) (And.intro (op_room0 hx) (And.intro (op_load11 hx) (And.intro (op_roomd11 hx) (q1))))))); refine SW.regL [0, 1, 2, 3, 4, 5, 10, 20] mixed ?_; (repeat (first | refine RW.ro fx (h := ?_) | refine RW.skip (h := ?_) | refine RW.op fx (h := ?_) | refine RW.opN fx (h := ?_) | refine RW.skip0 (h := ?_))); refine RW.nil ⟨by kernel_rfl, Pruned.mk (h := ?_)⟩)
      refine SW.condT rfl (SW.seq ?_)
      (refine SW.regL [0, 1, 2, 3, 4, 5, 10, 20] mixed ?_; (repeat (first | refine RW.ro bq_tt (h := ?_) | refine RW.skip (h := ?_) | refine RW.op bq_tt (h := ?_) | refine RW.opN bq_tt (h := ?_) | refine RW.skip0 (h := ?_))); refine RW.nil ⟨by kernel_rfl, Pruned.mk (h := ?_)⟩)
      refine SW.ret ?_
      exact End.mk [(0, .arr 37 29 L.length (opc L))] (h4 := ⟨rfl, rfl⟩) (h6 := by simp [Hp.ok, Ob.ok, SV.oks_d])
  have h1 : decide ((i : Int) < L.length) = false := by simp only [decide_eq_false_iff_not]; omega
  have hil : i = L.length := by omega
  subst hil
  have e3 : decide (((has.get d.r : Nat) : Int) ≥ ((d.n : Nat) : Int)) = decide (d.n ≤ has.get d.r) := decide_eq_decide.2 (by omega)
  rw [findO_not hs, Bool.false_or]
  (have fx := (And.intro (g1) (And.intro (g9) (h1))); refine SW.regL [0, 1, 2, 3, 4, 5, 10, 20] mixed ?_; (repeat (first | refine RW.ro fx (h := ?_) | refine RW.skip (h := ?_) | refine RW.op fx (h := ?_) | refine RW.opN fx (h := ?_) | refine RW.skip0 (h := ?_))); refine RW.nil ⟨by kernel_rfl, Pruned.mk (h := ?_)⟩)
  refine SW.condF rfl (SW.exit (SW.seq ?_))
  have d0 : d.cells[0]? = some (u8 d.r) := rfl
  have d1 : d.cells[1]? = some (u32 d.n) := rfl
  (have fx := (And.intro (g1) (And.intro (hr) (And.intro (gg _ hr) (And.intro (d0) (And.intro (d1) (e3)))))); refine SW.regL [0, 1, 2, 3, 4, 5, 10, 20] mixed ?_; (repeat (first | refine RW.ro fx (h := ?_) | refine RW.skip (h := ?_) | refine RW.op fx (h := ?_) | refine RW.opN fx (h := ?_) | refine RW.skip0 (h := ?_))); refine RW.nil ⟨by kernel_rfl, Pruned.mk (h := ?_)⟩)
  refine SW.ret ?_
  exact End.mk [(0, .arr 37 29 L.length (opc L))] (h4 := ⟨rfl, rfl⟩) (h6 := by simp [Hp.ok, Ob.ok, SV.oks_d])
theorem rthere_at (n : Nat) (has : Vec) (L : List OpD) (hL : L.length ≤ 400000) (d : Dt) (hr : d.r < 8) (h0 : 0 < d.n) (q k : Nat) : SCd Tryd.prog ref11_there.f [.agg (rqc n has (.gs q L.length)), .agg d.cells] [(q, .arr 37 29 L.length (opc L))] k 0 (bl ((findO L d).isSome || has.covers d)) [(q, .arr 37 29 L.length (opc L))] := by
  have h := SB.atL [q] (rthere_sb n has L hL d hr) (by simp) (by simp [lk]) k
  have e : decide (d.n ≤ has.get d.r) = has.covers d := by
    rw [Bool.eq_iff_iff, decide_eq_true_eq, vcov]; omega
  rw [e] at h
  simpa [SV.rens, SV.ren, atN, Hp.ren, Ob.ren, rqc.ren, SV.rens_d, Dt.cells_ren] using h
set_option maxHeartbeats 4000000 in
theorem rnew11_ok (n : Nat) (h1 : 1 ≤ n) (h8 : n ≤ 8) : Go.Sl.Pure Tryd.prog ref11_New.f [i64 (n : Int), .agg Vec.zero.cells] (.tup [.agg (rqc n Vec.zero (.d .nils)), i64 0]) := by
  refine ref11_New.enter (by first | rfl | simp [SV.ok, SV.oks]) (by first | rfl | simp [Hp.ok, Ob.ok, SV.ok, SV.oks, Vec.cells_ok]) (by simp) ?_
  dsimp only [ref11_New.s, Co.M, Co.G, Co.J, Co.H, Co.N, Co.F, Co.C, Co.Z, Co.B, Co.b8, Co.b32, Co.b64, Co.i6, Co.z8, Co.z29]
  have v1 : decide ((n : Int) < 1) = false := by simp only [decide_eq_false_iff_not]; omega
  have v2 : decide ((n : Int) > 8) = false := by simp only [decide_eq_false_iff_not]; omega
  refine SW.seq ?_
  (refine SW.regL [0, 1, 3, 4, 5, 6, 12, 16, 22] mixed ?_; (repeat (first | refine RW.ro bq_tt (h := ?_) | refine RW.skip (h := ?_) | refine RW.op bq_tt (h := ?_) | refine RW.opN bq_tt (h := ?_) | refine RW.skip0 (h := ?_))); refine RW.nil ⟨by kernel_rfl, Pruned.mk (h := ?_)⟩)
  refine SW.seq (SW.seq ?_)
  (refine SW.regL [0, 1, 3, 4, 5, 6, 12, 16, 22] mixed ?_; (repeat (first | refine RW.ro (And.intro (v1) (v2)) (h := ?_) | refine RW.skip (h := ?_) | refine RW.op (And.intro (v1) (v2)) (h := ?_) | refine RW.opN (And.intro (v1) (v2)) (h := ?_) | refine RW.skip0 (h := ?_))); refine RW.nil ⟨by kernel_rfl, Pruned.mk (h := ?_)⟩)
  refine SW.condF rfl (SW.skip (SW.seq (SW.seq ?_)))
  (refine SW.regL [0, 1, 3, 4, 5, 6, 12, 16, 22] mixed ?_; (repeat (first | refine RW.ro bq_tt (h := ?_) | refine RW.skip (h := ?_) | refine RW.op bq_tt (h := ?_) | refine RW.opN bq_tt (h := ?_) | refine RW.skip0 (h := ?_))); refine RW.nil ⟨by kernel_rfl, Pruned.mk (h := ?_)⟩)
  refine SW.block ?_
  have r3 : SV.rens id Vec.zero.cells = Vec.zero.cells := rfl
  have r4 : SV.oks (fun n => decide (n < 2)) Vec.zero.cells = true := rfl
  have z0 : (rqc 0 Vec.zero (.d .nils)) = [.d (.int .i64 0), .d (.int .u32 0), .d (.int .u32 0), .d (.int .u32 0), .d (.int .u32 0), .d (.int .u32 0), .d (.int .u32 0), .d (.int .u32 0), .d (.int .u32 0), .d .nils] := rfl
  refine SW.loopA (α := {i : Nat // n ≤ i ∧ i ≤ 8}) (fun i => ⟨[(6, i64 i.1), (0, i64 n), (4, .ptr 1 0), (3, .ptr 0 0)], [(1, .box 48 (rqc 0 Vec.zero (.d .nils))), (0, .box 29 Vec.zero.cells)], 2⟩) (fun i => 8 - i.1) ⟨n, by omega, by omega⟩ id (And.intro z0 (And.intro r3 r4)) (round := ?_)
  rintro ⟨i, hi, hs⟩
  dsimp only
  refine SW.seq (SW.seq ?_)
  by_cases h : i < 8
  · have h2 : decide ((i : Int) < 8) = true := by simp only [decide_eq_true_eq]; omega
    have e4 : IntKind.i64.wrap ((i : Int) + 1) = ((i + 1 : Nat) : Int) := wrap_i64 _ (by omega)
    have hz : Vec.zero.cells[i]? = some (u32 0) := by
      match i, h with
      | 0, _ | 1, _ | 2, _ | 3, _ | 4, _ | 5, _ | 6, _ | 7, _ => rfl
    (refine SW.regL [0, 1, 3, 4, 5, 6, 12, 16, 22] mixed ?_; (repeat (first | refine RW.ro (h2) (h := ?_) | refine RW.skip (h := ?_) | refine RW.op (h2) (h := ?_) | refine RW.opN (h2) (h := ?_) | refine RW.skip0 (h := ?_))); refine RW.nil ⟨by kernel_rfl, Pruned.mk (h := ?_)⟩)
    refine SW.condT rfl (SW.skip (SW.seq (SW.block (SW.seq ?_))))
    (refine SW.regL [0, 1, 3, 4, 5, 6, 12, 16, 22] mixed ?_; (repeat (first | refine RW.ro (And.intro (h) (hz)) (h := ?_) | refine RW.skip (h := ?_) | refine RW.op (And.intro (h) (hz)) (h := ?_) | refine RW.opN (And.intro (h) (hz)) (h := ?_) | refine RW.skip0 (h := ?_))); refine RW.nil ⟨by kernel_rfl, Pruned.mk (h := ?_)⟩)
    refine SW.condF rfl (SW.skip ?_)
    (refine SW.regL [0, 1, 3, 4, 5, 6, 12, 16, 22] mixed ?_; (repeat (first | refine RW.ro (e4) (h := ?_) | refine RW.skip (h := ?_) | refine RW.op (e4) (h := ?_) | refine RW.opN (e4) (h := ?_) | refine RW.skip0 (h := ?_))); refine RW.nil ⟨by kernel_rfl, Pruned.mk (h := ?_)⟩)
    refine ⟨⟨i + 1, by omega, by omega⟩, id, by show 8 - (i + 1) < 8 - i; omega, ?_⟩
    exact Weak.mk (And.intro z0 (And.intro r3 r4))
  have h2 : decide ((i : Int) < 8) = false := by simp only [decide_eq_false_iff_not]; omega
  have l0 := rqc.len 0 Vec.zero (.d .nils)
  have l1 := rqc.len n Vec.zero (.d .nils)
  have o0 := rqc.one 0 Vec.zero (s := .d .nils) rfl
  have o1 := rqc.one n Vec.zero (s := .d .nils) rfl
  have s1 : spl (spl [.d (.int .i64 0), .d (.int .u32 0), .d (.int .u32 0), .d (.int .u32 0), .d (.int .u32 0), .d (.int .u32 0), .d (.int .u32 0), .d (.int .u32 0), .d (.int .u32 0), .d .nils] 0 [i64 (n : Int)]) 1 Vec.zero.cells = rqc n Vec.zero (.d .nils) := rfl
  have s2 : spl (rqc 0 Vec.zero (.d .nils)) 0 (rqc n Vec.zero (.d .nils)) = rqc n Vec.zero (.d .nils) := rfl
  have t1 := rqc.t10 n Vec.zero (.d .nils)
  (refine SW.regL [0, 1, 3, 4, 5, 6, 12, 16, 22] mixed ?_; (repeat (first | refine RW.ro (h2) (h := ?_) | refine RW.skip (h := ?_) | refine RW.op (h2) (h := ?_) | refine RW.opN (h2) (h := ?_) | refine RW.skip0 (h := ?_))); refine RW.nil ⟨by kernel_rfl, Pruned.mk (h := ?_)⟩)
  refine SW.condF rfl (SW.exit (SW.seq ?_))
  (have fx := (And.intro (l0) (And.intro (l1) (And.intro (o0) (And.intro (o1) (And.intro (s1) (s2)))))); refine SW.regL [0, 1, 3, 4, 5, 6, 12, 16, 22] mixed ?_; (repeat (first | refine RW.ro fx (h := ?_) | refine RW.skip (h := ?_) | refine RW.op fx (h := ?_) | refine RW.opN fx (h := ?_) | refine RW.skip0 (h := ?_))); refine RW.nil ⟨by kernel_rfl, Pruned.mk (h := ?_)⟩)
  refine SW.ret ?_
  exact End.mk [] (h1 := rvV_r (ty := 48) (k := 1) (by simp [List.lookup]) (by simp [lk, List.lookup]) rfl) (h2 := by simp [ldo, l1]) (h4 := ⟨rfl, rfl⟩)
theorem rnew11_at (n : Nat) (h1 : 1 ≤ n) (h8 : n ≤ 8) (k : Nat) : SCd Tryd.prog ref11_New.f [.d (.int .i64 (n : Int)), .agg Vec.zero.cells] [] k 0 (.tup [.agg (rqc n Vec.zero (.d .nils)), .d (.int .i64 0)]) [] := (rnew11_ok n h1 h8).sc rfl k
set_option maxHeartbeats 4000000 in
theorem rnewx11_ok (n : Int) (hb : n < 1 ∨ 8 < n) : Go.Sl.Pure Tryd.prog ref11_New.f [i64 n, .agg Vec.zero.cells] (.tup [.agg (rqc 0 Vec.zero (.d .nils)), i64 2]) := by
  refine ref11_New.enter (by first | rfl | simp [SV.ok, SV.oks]) (by first | rfl | simp [Hp.ok, Ob.ok, SV.ok, SV.oks, Vec.cells_ok]) (by simp) ?_
  dsimp only [ref11_New.s, Co.M, Co.G, Co.J, Co.H, Co.N, Co.F, Co.C, Co.Z, Co.B, Co.b8, Co.b32, Co.b64, Co.i6, Co.z8, Co.z29]
  have s0 : spl ([.d (.int .i64 0), .d (.int .u32 0), .d (.int .u32 0), .d (.int .u32 0), .d (.int .u32 0), .d (.int .u32 0), .d (.int .u32 0), .d (.int .u32 0), .d (.int .u32 0), .d .nils] : List SV) 0 [.d (.int .i64 0), .d (.int .u32 0), .d (.int .u32 0), .d (.int .u32 0), .d (.int .u32 0), .d (.int .u32 0), .d (.int .u32 0), .d (.int .u32 0), .d (.int .u32 0), .d .nils] = [.d (.int .i64 0), .d (.int .u32 0), .d (.int .u32 0), .d (.int .u32 0), .d (.int .u32 0), .d (.int .u32 0), .d (.int .u32 0), .d (.int .u32 0), .d (.int .u32 0), .d .nils] := rfl
  refine SW.seq ?_
  (refine SW.regL [0, 1, 3, 4, 5, 6, 12, 16, 22] mixed ?_; (repeat (first | refine RW.ro bq_tt (h := ?_) | refine RW.skip (h := ?_) | refine RW.op bq_tt (h := ?_) | refine RW.opN bq_tt (h := ?_) | refine RW.skip0 (h := ?_))); refine RW.nil ⟨by kernel_rfl, Pruned.mk (h := ?_)⟩)
  refine SW.seq (SW.seq ?_)
  rcases v1 : decide (n < 1) with _ | _
  · have v2 : decide (n > 8) = true := by simp only [decide_eq_true_eq, decide_eq_false_iff_not] at v1 ⊢; omega
    (refine SW.regL [0, 1, 3, 4, 5, 6, 12, 16, 22] mixed ?_; (repeat (first | refine RW.ro (And.intro (v1) (v2)) (h := ?_) | refine RW.skip (h := ?_) | refine RW.op (And.intro (v1) (v2)) (h := ?_) | refine RW.opN (And.intro (v1) (v2)) (h := ?_) | refine RW.skip0 (h := ?_))); refine RW.nil ⟨by kernel_rfl, Pruned.mk (h := ?_)⟩)
    refine SW.condT rfl (SW.seq ?_)
    (refine SW.regL [0, 1, 3, 4, 5, 6, 12, 16, 22] mixed ?_; (repeat (first | refine RW.ro (s0) (h := ?_) | refine RW.skip (h := ?_) | refine RW.op (s0) (h := ?_) | refine RW.opN (s0) (h := ?_) | refine RW.skip0 (h := ?_))); refine RW.nil ⟨by kernel_rfl, Pruned.mk (h := ?_)⟩)
    refine SW.ret ?_
    exact End.mk [] (h4 := ⟨rfl, rfl⟩)
  · (refine SW.regL [0, 1, 3, 4, 5, 6, 12, 16, 22] mixed ?_; (repeat (first | refine RW.ro (v1) (h := ?_) | refine RW.skip (h := ?_) | refine RW.op (v1) (h := ?_) | refine RW.opN (v1) (h := ?_) | refine RW.skip0 (h := ?_))); refine RW.nil ⟨by kernel_rfl, Pruned.mk (h := ?_)⟩)
    refine SW.condT rfl (SW.seq ?_)
    (refine SW.regL [0, 1, 3, 4, 5, 6, 12, 16, 22] mixed ?_; (repeat (first | refine RW.ro (s0) (h := ?_) | refine RW.skip (h := ?_) | refine RW.op (s0) (h := ?_) | refine RW.opN (s0) (h := ?_) | refine RW.skip0 (h := ?_))); refine RW.nil ⟨by kernel_rfl, Pruned.mk (h := ?_)⟩)
    refine SW.ret ?_
    exact End.mk [] (h4 := ⟨rfl, rfl⟩)
theorem rnewx11_at (n : Int) (hb : n < 1 ∨ 8 < n) (k : Nat) : SCd Tryd.prog ref11_New.f [.d (.int .i64 n), .agg Vec.zero.cells] [] k 0 (.tup [.agg (rqc 0 Vec.zero (.d .nils)), .d (.int .i64 2)]) [] := (rnewx11_ok n hb).sc rfl k
end Go.Proofs.YtnakpdoioammhaaDoor
namespace Go.Proofs.YtnakpdoioammhaaDoor
open Go.Sl Go.Proofs
attribute [local irreducible] SW RW SCd SC CallP Pruned
theorem rqc_nils {p : Nat → Prop} {μ : Nat → Nm} {M : Mem} {n : Nat} {has : Vec} {vs : List Value} (h : Rps p μ M (rqc n has (.d .nils)) vs) : Rps p μ M (rqc n has (ops [])) vs := by
  have h1 : Rps p μ M (i64 (n : Int) :: has.cells) (vs.take 9) := h.take 9
  have h2 : Rps p μ M [.d .nils] (vs.drop 9) := h.drop 9
  obtain ⟨u, us, e, h3, h4⟩ := Rps.cons_iff.1 h2
  have h5 : Rps p μ M [ops []] (vs.drop 9) := by
    rw [e]; exact Rps.cons_iff.2 ⟨u, us, rfl, nils_sl _ _ _ _ h3, h4⟩
  have h6 := h1.append h5
  rw [List.take_append_drop] at h6
  exact h6
theorem rnewb11_at (n : Nat) (h1 : 1 ≤ n) (h8 : n ≤ 8) (k : Nat) : SCd Tryd.prog ref11_New.f [.d (.int .i64 (n : Int)), .agg Vec.zero.cells] [] k 0 (.tup [.agg (rqc n Vec.zero (ops [])), .d (.int .i64 0)]) [] := by
  refine SC.resd (rnew11_at n h1 h8 k) fun p μ M u hu => ?_
  obtain ⟨vs, rfl, h⟩ := Rp.tup_iff.1 hu
  obtain ⟨v, us, e, h2, h3⟩ := Rps.cons_iff.1 h
  obtain ⟨ws, rfl, h4⟩ := Rp.agg_iff.1 h2
  exact Rp.tup_iff.2 ⟨vs, rfl, Rps.cons_iff.2 ⟨_, us, e, Rp.agg_iff.2 ⟨ws, rfl, rqc_nils h4⟩, h3⟩⟩
set_option maxHeartbeats 4000000 in
theorem same11_sb (n : Nat) (has : Vec) (M : MM Dt OpD) (c : Nat) (hM : WaitOk M c) (hs : ∀ o, o ∈ vals M → LnS o) (nq : Nat) (Lq : List OpD) (hL : Lq.length ≤ 400000) (he : sortedR Lq = osorted (vals M)) : SB Tryd.prog law11_same.f [.ptr 0 0, .agg (rqc nq has (ops Lq))] (bH 0 1 n has M c) 2 0 fun r F => r = bl true ∧ F = bH 0 1 n has M c := by
  refine law11_same.enter (by simp [SV.ok, SV.oks]; exact rqc.ok _ _ _ rfl) (bH.ok _ _ _ _ _ _ _ rfl rfl) (by simp) ?_
  have c1 := fun k => bhas_at n has M c 0 1 (by decide) k
  have c2 := fun k => waits_at n has M c hM hs 0 1 (by decide) k
  have c3 := fun k => rsorted_at Lq (by omega) k
  have hMl := hM.len
  have hlen : (osorted (vals M)).length ≤ 400000 := by rw [(osorted_perm _).length_eq, vals_len]; exact hMl
  have c4 := fun k => sameA_at (osorted (vals M)) (by omega) (fun x hx => .inr (hs x ((osorted_perm _).mem_iff.1 hx)).1) k
  rw [he] at c3
  have g1 := rqc.len nq has (ops Lq)
  have g9 := rqc.g9 nq has (ops Lq)
  have gh := rqc.has nq has (ops Lq)
  have o1 := rqc.one nq has (s := ops Lq) rfl
  have d2 : ∀ d : Vec, decide (d = d) = true := fun d => by simp
  generalize osorted (vals M) = S at c2 c3 c4
  simp only [bH] at c1 c2 ⊢
  dsimp only [law11_same.s, Co.M, Co.G, Co.J, Co.H, Co.N, Co.F, Co.C, Co.Z, Co.B, Co.b8, Co.b32, Co.b64, Co.i6, Co.z8, Co.z29]
  refine SW.seq ?_
  (refine SW.regL [0, 1, 3, 4] mixed ?_; (repeat (first | refine RW.ro (o1) (h := ?_) | refine RW.skip (h := ?_) | refine RW.op (o1) (h := ?_) | refine RW.opN (o1) (h := ?_) | refine RW.skip0 (h := ?_))); refine RW.nil ⟨by kernel_rfl, Pruned.mk (h := ?_)⟩)
  refine SW.seq ?_
  (have fx := (And.intro (g1) (And.intro (g9) (And.intro (gh) (d2)))); refine SW.regL [0, 1, 3, 4] mixed ?_; (repeat (first | refine RW.ro fx (h := ?_) | refine RW.skip (h := ?_) | refine RW.op fx (h := ?_) | refine RW.opN fx (h := ?_) | refine RW.skip0 (h := ?_) | (refine RW.callC (h := ?_); (first | refine CallP.mk fx (hc := c1 _) (h := ?_) | refine CallP.mk fx (hc := c2 _) (h := ?_) | refine CallP.mk fx (hc := c3 _) (h := ?_) | refine CallP.mk fx (hc := c4 _) (h := ?_))))); refine RW.nil ⟨by kernel_rfl, Pruned.mk (h := ?_)⟩)
  refine SW.ret ?_
  exact End.mk (bH 0 1 n has M c) (h4 := ⟨rfl, rfl⟩) (h6 := bH.ok _ _ _ _ _ _ _ rfl rfl)
theorem same11_at (n : Nat) (has : Vec) (M : MM Dt OpD) (c : Nat) (hM : WaitOk M c) (hs : ∀ o, o ∈ vals M → LnS o) (nq : Nat) (Lq : List OpD) (hL : Lq.length ≤ 400000) (he : sortedR Lq = osorted (vals M)) (b m : Nat) (hbm : b ≠ m) (k : Nat) : SCd Tryd.prog law11_same.f [.ptr b 0, .agg (rqc nq has (ops Lq))] (bH b m n has M c) k 0 (bl true) (bH b m n has M c) := by
  have h := SB.atL [b, m] (same11_sb n has M c hM hs nq Lq hL he) (by simp [hbm]) (fun i hi => bH.out n has M c i (by simpa using hi)) k
  have e : SV.rens (atN [b, m] k) (rqc nq has (.d (.sl Lq.length (Lq.flatMap OpD.ds)))) = rqc nq has (.d (.sl Lq.length (Lq.flatMap OpD.ds))) := rqc.ren _ _ _ _
  simpa [SV.rens, SV.ren, atN, bH.ren, ops, e] using h
end Go.Proofs.YtnakpdoioammhaaDoor
