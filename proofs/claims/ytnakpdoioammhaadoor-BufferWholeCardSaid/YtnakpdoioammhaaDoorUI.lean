/-
  Buffers: of a history all is handed on; what is handed on of a part of it is a history.
-/
import Derived.Test.YtnakpdoioammhaaDoorUG
import Derived.Test.YtnakpdoioammhaaDoorUH
set_option linter.unusedSectionVars false
set_option linter.unusedVariables false
set_option linter.unusedSimpArgs false
namespace Go.Proofs.YtnakpdoioammhaaDoor
open Go.Sl Go.Proofs
attribute [local irreducible] SW RW SCd SC CallP Pruned
theorem RowR.one {l : List OpD} (h : RowR l) : ∀ o, o ∈ l → OpR o ∧ o.cl.length < 4611686018427387904 := fun o ho => ⟨(h.op o ho).1, by have := (h.op o ho).2; omega⟩
theorem hist_any {m : Nat} {l : List OpD} (h : Hist (m : Int) l) : l.any (badF m) = false := by
  rw [List.any_eq_false]
  intro o ho
  have hf := h.form o ho
  rw [Int.toNat_natCast] at hf
  have := badF_iff.2 ⟨by have := h.n1; omega, by have := h.n8; omega, hf⟩
  rw [this]; decide
set_option maxRecDepth 100000 in
set_option maxHeartbeats 16000000 in
theorem law_whole11 (n : Int) (hn : -9223372036854775808 ≤ n) (hn2 : n ≤ 9223372036854775807) (l : List OpD) (hl : RowR l) (part : Nat) (hpart : part < 256) : Go.Sl.Pure Tryd.prog law11_BufferWhole.f [i64 n, ops l, u8 part] (bl true) := by
  have hlen := hl.len
  refine law11_BufferWhole.enter (by first | rfl | simp [SV.ok, SV.oks]) (by first | rfl | simp [Hp.ok, Ob.ok, SV.ok, SV.oks, Vec.cells_ok]) (by simp) ?_
  dsimp only [law11_BufferWhole.s, Co.M, Co.G, Co.J, Co.H, Co.N, Co.F, Co.C, Co.Z, Co.B, Co.b8, Co.b32, Co.b64, Co.i6, Co.z8, Co.z29]
  have hg := fun k => great11_at l k
  have hh := fun k => history_at n hn hn2 l (by omega) hl.one k
  refine SW.seq ?_
  (refine SW.regL [0, 1, 2, 6, 7, 8, 9, 10, 11, 12, 13, 14, 15, 23, 50, 59] mixed ?_; (repeat (first | refine RW.ro bq_tt (h := ?_) | refine RW.skip (h := ?_) | refine RW.op bq_tt (h := ?_) | refine RW.opN bq_tt (h := ?_) | refine RW.skip0 (h := ?_))); refine RW.nil ⟨conf_of (by kernel_rfl), Pruned.mk (h := ?_)⟩)
  refine SW.seq (SW.seq ?_)
  rcases hgv : decide ((l.length : Int) > 80) with _ | _ <;> rw [hgv] at hg
  case true =>
    (refine SW.regL [0, 1, 2, 6, 7, 8, 9, 10, 11, 12, 13, 14, 15, 23, 50, 59] mixed ?_; (repeat (first | refine RW.ro bq_tt (h := ?_) | refine RW.skip (h := ?_) | refine RW.op bq_tt (h := ?_) | refine RW.opN bq_tt (h := ?_) | refine RW.skip0 (h := ?_) | (refine RW.callC (h := ?_); (first | refine CallP.mk bq_tt (hc := hg _) (h := ?_))))); refine RW.nil ⟨conf_of (by kernel_rfl), Pruned.mk (h := ?_)⟩)
    refine SW.condT rfl (SW.seq ?_)
    (refine SW.regL [0, 1, 2, 6, 7, 8, 9, 10, 11, 12, 13, 14, 15, 23, 50, 59] mixed ?_; (repeat (first | refine RW.ro bq_tt (h := ?_) | refine RW.skip (h := ?_) | refine RW.op bq_tt (h := ?_) | refine RW.opN bq_tt (h := ?_) | refine RW.skip0 (h := ?_) | (refine RW.callC (h := ?_); (first | refine CallP.mk bq_tt (hc := head11_at _) (h := ?_))))); refine RW.nil ⟨conf_of (by kernel_rfl), Pruned.mk (h := ?_)⟩)
    refine SW.ret ?_
    exact End.mk [] (h4 := ⟨rfl, rfl⟩)
  have hl80 : l.length ≤ 80 := by simp only [decide_eq_false_iff_not] at hgv; omega
  by_cases hv : histV n l = 0
  case neg =>
    generalize histV n l = u at hh hv
    have h1 : (u != 0) = true := by rw [bne_iff_ne]; exact hv
    (refine SW.regL [0, 1, 2, 6, 7, 8, 9, 10, 11, 12, 13, 14, 15, 23, 50, 59] mixed ?_; (repeat (first | refine RW.ro (h1) (h := ?_) | refine RW.skip (h := ?_) | refine RW.op (h1) (h := ?_) | refine RW.opN (h1) (h := ?_) | refine RW.skip0 (h := ?_) | (refine RW.callC (h := ?_); (first | refine CallP.mk (h1) (hc := hg _) (h := ?_) | refine CallP.mk (h1) (hc := hh _) (h := ?_))))); refine RW.nil ⟨conf_of (by kernel_rfl), Pruned.mk (h := ?_)⟩)
    refine SW.condT rfl (SW.seq ?_)
    (refine SW.regL [0, 1, 2, 6, 7, 8, 9, 10, 11, 12, 13, 14, 15, 23, 50, 59] mixed ?_; (repeat (first | refine RW.ro bq_tt (h := ?_) | refine RW.skip (h := ?_) | refine RW.op bq_tt (h := ?_) | refine RW.opN bq_tt (h := ?_) | refine RW.skip0 (h := ?_) | (refine RW.callC (h := ?_); (first | refine CallP.mk bq_tt (hc := head11_at _) (h := ?_))))); refine RW.nil ⟨conf_of (by kernel_rfl), Pruned.mk (h := ?_)⟩)
    refine SW.ret ?_
    exact End.mk [] (h4 := ⟨rfl, rfl⟩)
  rw [hv] at hh
  have hH := histV_zero.1 hv
  (refine SW.regL [0, 1, 2, 6, 7, 8, 9, 10, 11, 12, 13, 14, 15, 23, 50, 59] mixed ?_; (repeat (first | refine RW.ro bq_tt (h := ?_) | refine RW.skip (h := ?_) | refine RW.op bq_tt (h := ?_) | refine RW.opN bq_tt (h := ?_) | refine RW.skip0 (h := ?_) | (refine RW.callC (h := ?_); (first | refine CallP.mk bq_tt (hc := hg _) (h := ?_) | refine CallP.mk bq_tt (hc := hh _) (h := ?_))))); refine RW.nil ⟨conf_of (by kernel_rfl), Pruned.mk (h := ?_)⟩)
  refine SW.condF rfl (SW.skip (SW.seq ?_))
  have hz1 := hH.n1
  have hz8 := hH.n8
  obtain ⟨m, rfl⟩ : ∃ m : Nat, n = (m : Int) := ⟨n.toNat, by omega⟩
  have m1 : 1 ≤ m := by omega
  have m8 : m ≤ 8 := by omega
  have n1 : SCd Tryd.prog buffer_New.f [.d (.int .i64 (m : Int)), .agg Vec.zero.cells] [] 0 3 (.tup [.ptr 2 0, .d (.int .i64 0)]) (bH 2 1 m Vec.zero [] 0) := new_at m m1 m8 Vec.zero (farB_zero m) 0
  have n2 : SCd Tryd.prog buffer_New.f [.d (.int .i64 (m : Int)), .agg Vec.zero.cells] [] 3 3 (.tup [.ptr 5 0, .d (.int .i64 0)]) (bH 5 4 m Vec.zero [] 0) := new_at m m1 m8 Vec.zero (farB_zero m) 3
  simp only [bH] at n1 n2
  (refine SW.regL [0, 1, 2, 6, 7, 8, 9, 10, 11, 12, 13, 14, 15, 23, 50, 59] mixed ?_; (repeat (first | refine RW.ro bq_tt (h := ?_) | refine RW.skip (h := ?_) | refine RW.op bq_tt (h := ?_) | refine RW.opN bq_tt (h := ?_) | refine RW.skip0 (h := ?_) | (refine RW.callC (h := ?_); (first | refine CallP.mk bq_tt (hc := n1) (h := ?_))))); refine RW.nil ⟨conf_of (by kernel_rfl), Pruned.mk (h := ?_)⟩)
  refine SW.seq ?_
  (refine SW.regL [0, 1, 2, 6, 7, 8, 9, 10, 11, 12, 13, 14, 15, 23, 50, 59] mixed ?_; (repeat (first | refine RW.ro bq_tt (h := ?_) | refine RW.skip (h := ?_) | refine RW.op bq_tt (h := ?_) | refine RW.opN bq_tt (h := ?_) | refine RW.skip0 (h := ?_) | (refine RW.callC (h := ?_); (first | refine CallP.mk bq_tt (hc := n2) (h := ?_))))); refine RW.nil ⟨conf_of (by kernel_rfl), Pruned.mk (h := ?_)⟩)
  refine SW.seq (SW.seq ?_)
  (refine SW.regL [0, 1, 2, 6, 7, 8, 9, 10, 11, 12, 13, 14, 15, 23, 50, 59] mixed ?_; (repeat (first | refine RW.ro bq_tt (h := ?_) | refine RW.skip (h := ?_) | refine RW.op bq_tt (h := ?_) | refine RW.opN bq_tt (h := ?_) | refine RW.skip0 (h := ?_))); refine RW.nil ⟨conf_of (by kernel_rfl), Pruned.mk (h := ?_)⟩)
  refine SW.condF rfl (SW.skip (SW.seq ?_))
  have hB := Buf.new m1 m8
  have hw := hB.wait (by simp)
  have hpl := hl.put (m := l) (by omega) (fun _ h => h)
  have hb := hist_any hH
  obtain ⟨hA, dA⟩ := hB.put hpl hb
  rw [List.nil_append, hH.uniq.fst] at hA dA
  have q1 := fun k => put_good m8 hB.hv hw hpl 2 1 (by decide) k hb
  obtain ⟨x1, x2, x3, x4⟩ := hist_whole hH dA
  have hxm : ∀ o, o ∈ (putR Vec.zero ([], 0) l).1 → o ∈ l := fun o ho => ((dA.mem o).1 ho).1
  have wA := hA.wait (by omega)
  have f2 := fun k => waits_at m (putR Vec.zero ([], 0) l).2.1 (putR Vec.zero ([], 0) l).2.2 (putMs Vec.zero ([], 0) l).2 wA (fun o ho => hA.lns (hA.mem ho)) 2 1 (by decide) k
  rw [x2, show osorted [] = [] by simp [osorted]] at f2
  have f1 := fun k => bhas_at m (putR Vec.zero ([], 0) l).2.1 (putR Vec.zero ([], 0) l).2.2 (putMs Vec.zero ([], 0) l).2 2 1 (by decide) k
  have f3 := fun k => history_at (m : Int) hn hn2 (putR Vec.zero ([], 0) l).1 (by omega) (fun o ho => hl.one o (hxm o ho)) k
  rw [histV_zero.2 x3] at f3
  have f4 := fun k => known_at l (by omega) (fun x hx => by have := (hl.op x hx).1; exact ⟨this.dr, this.dn⟩) k
  rw [← x4] at f4
  have lA := x1
  generalize putR Vec.zero ([], 0) l = RA at *
  generalize (putMs Vec.zero ([], 0) l).2 = cA at *
  obtain ⟨xA, vA, MA⟩ := RA
  dsimp only at *
  have q1' := q1
  simp only [bH] at q1'
  (refine SW.regL [0, 1, 2, 6, 7, 8, 9, 10, 11, 12, 13, 14, 15, 23, 50, 59] mixed ?_; (repeat (first | refine RW.ro bq_tt (h := ?_) | refine RW.skip (h := ?_) | refine RW.op bq_tt (h := ?_) | refine RW.opN bq_tt (h := ?_) | refine RW.skip0 (h := ?_) | (refine RW.callC (h := ?_); (first | refine CallP.mk bq_tt (hc := q1' _) (h := ?_))))); refine RW.nil ⟨conf_of (by kernel_rfl), Pruned.mk (h := ?_)⟩)
  refine SW.seq ?_
  (refine SW.regL [0, 1, 2, 6, 7, 8, 9, 10, 11, 12, 13, 14, 15, 23, 50, 59] mixed ?_; (repeat (first | refine RW.ro bq_tt (h := ?_) | refine RW.skip (h := ?_) | refine RW.op bq_tt (h := ?_) | refine RW.opN bq_tt (h := ?_) | refine RW.skip0 (h := ?_))); refine RW.nil ⟨conf_of (by kernel_rfl), Pruned.mk (h := ?_)⟩)
  obtain ⟨kk, hkk, hkl⟩ : ∃ kk : Nat, kk = (if l.length > 0 then part % l.length else 0) ∧ kk ≤ l.length := ⟨_, rfl, by split; (exact Nat.le_of_lt (Nat.mod_lt _ (by omega))); omega⟩
  refine SW.cut (stM := ⟨[(13, i64 kk), (12, i64 0), (11, ops xA), (9, .ptr 5 0), (7, .ptr 2 0), (1, ops l), (0, i64 m)], [(5, .box 58 (bfc m Vec.zero 4)), (4, .map [] 0), (2, .box 58 (bfc m vA 1)), (1, .map (mapE Dt.cells ov MA) cA)], 6⟩) id ?_ ?_
  · have mz : mapE Dt.cells ov ([] : MM Dt OpD) = [] := rfl
    have aw := And.intro mz <| And.intro (bfc.ren id m Vec.zero 4) (And.intro (bfc.ok (fun n => decide (n < 6)) m Vec.zero 4 rfl) (And.intro (bfc.ren id m vA 1) (And.intro (bfc.ok (fun n => decide (n < 6)) m vA 1 rfl) (And.intro (omap_ren id MA) (omap_ok (fun n => decide (n < 6)) MA)))))
    refine SW.seq ?_
    by_cases h0 : l.length > 0
    · have h1 : decide ((l.length : Int) > 0) = true := by simp only [decide_eq_true_eq]; omega
      rw [if_pos h0] at hkk
      have e4 : ((part : Int)).tmod (l.length : Int) = (kk : Int) := by rw [hkk, Int.ofNat_tmod]
      have e5 : IntKind.i64.wrap (part : Int) = (part : Int) := wrap_i64 _ (by omega)
      have e6 : IntKind.i64.wrap (kk : Int) = (kk : Int) := wrap_i64 _ (by omega)
      (refine SW.regL [0, 1, 2, 6, 7, 8, 9, 10, 11, 12, 13, 14, 15, 23, 50, 59] mixed ?_; (repeat (first | refine RW.ro (h1) (h := ?_) | refine RW.skip (h := ?_) | refine RW.op (h1) (h := ?_) | refine RW.opN (h1) (h := ?_) | refine RW.skip0 (h := ?_))); refine RW.nil ⟨conf_of (by kernel_rfl), Pruned.mk (h := ?_)⟩)
      refine SW.condT rfl ?_
      (have fx := (And.intro (e4) (And.intro (e5) (e6))); refine SW.regL [0, 1, 2, 6, 7, 8, 9, 10, 11, 12, 13, 14, 15, 23, 50, 59] mixed ?_; (repeat (first | refine RW.ro fx (h := ?_) | refine RW.skip (h := ?_) | refine RW.op fx (h := ?_) | refine RW.opN fx (h := ?_) | refine RW.skip0 (h := ?_))); refine RW.nil ⟨conf_of (by kernel_rfl), Pruned.mk (h := ?_)⟩)
      exact Weak.mk aw
    · have h1 : decide ((l.length : Int) > 0) = false := by simp only [decide_eq_false_iff_not]; omega
      rw [if_neg h0] at hkk
      subst hkk
      (refine SW.regL [0, 1, 2, 6, 7, 8, 9, 10, 11, 12, 13, 14, 15, 23, 50, 59] mixed ?_; (repeat (first | refine RW.ro (h1) (h := ?_) | refine RW.skip (h := ?_) | refine RW.op (h1) (h := ?_) | refine RW.opN (h1) (h := ?_) | refine RW.skip0 (h := ?_))); refine RW.nil ⟨conf_of (by kernel_rfl), Pruned.mk (h := ?_)⟩)
      refine SW.condF rfl (SW.skip ?_)
      exact Weak.mk aw
  have hp2 := hl.put (m := l.drop kk) (by rw [List.length_drop]; omega) (fun _ h => List.mem_of_mem_drop h)
  have hb2 := (any_part kk hb).2
  have hu2 : Uniq (l.drop kk) := hH.uniq.sub (List.drop_sublist _ _)
  obtain ⟨hB2, dB⟩ := hB.put hp2 hb2
  rw [List.nil_append, hu2.fst] at hB2 dB
  have q2 := fun k => put_good m8 hB.hv hw hp2 5 4 (by decide) k hb2
  rw [ops_suf l kk] at q2
  obtain ⟨y1, y2⟩ := hist_some hH (fun o ho => List.mem_of_mem_drop ho) dB
  have y3 := Drained.count hu2 dB
  rw [List.length_drop] at y3
  have hym : ∀ o, o ∈ (putR Vec.zero ([], 0) (l.drop kk)).1 → o ∈ l := fun o ho => List.mem_of_mem_drop ((dB.mem o).1 ho).1
  have lB := drained_len dB
  rw [List.length_drop] at lB
  have wB := hB2.wait (by rw [List.length_drop]; omega)
  have g1 := fun k => bhas_at m (putR Vec.zero ([], 0) (l.drop kk)).2.1 (putR Vec.zero ([], 0) (l.drop kk)).2.2 (putMs Vec.zero ([], 0) (l.drop kk)).2 5 4 (by decide) k
  have g2 := fun k => waits_at m (putR Vec.zero ([], 0) (l.drop kk)).2.1 (putR Vec.zero ([], 0) (l.drop kk)).2.2 (putMs Vec.zero ([], 0) (l.drop kk)).2 wB (fun o ho => hB2.lns (hB2.mem ho)) 5 4 (by decide) k
  have g3 := fun k => history_at (m : Int) hn hn2 (putR Vec.zero ([], 0) (l.drop kk)).1 (by omega) (fun o ho => hl.one o (hym o ho)) k
  rw [histV_zero.2 y1] at g3
  have g4 := fun k => known_at (putR Vec.zero ([], 0) (l.drop kk)).1 (by omega) (fun x hx => by have := (hl.op x (hym x hx)).1; exact ⟨this.dr, this.dn⟩) k
  rw [← y2] at g4
  have y4 := (osorted_perm (vals (putR Vec.zero ([], 0) (l.drop kk)).2.2)).length_eq
  generalize putR Vec.zero ([], 0) (l.drop kk) = RB at *
  generalize (putMs Vec.zero ([], 0) (l.drop kk)).2 = cB at *
  obtain ⟨xB, vB, MB⟩ := RB
  dsimp only at *
  generalize osorted (vals MB) = W at *
  have d2 : ∀ d : Vec, decide (d = d) = true := fun d => by simp
  have e1 : ((xA.length : Nat) : Int) = (l.length : Int) := by rw [lA]
  have e2 : IntKind.i64.wrap ((xB.length + W.length : Nat) : Int) = ((l.length - kk : Nat) : Int) := by rw [show xB.length + W.length = l.length - kk by omega]; exact wrap_i64 _ (by omega)
  have e3 : IntKind.i64.wrap ((l.length : Int) - (kk : Int)) = ((l.length - kk : Nat) : Int) := by rw [wrap_i64 _ (by omega)]; omega
  simp only [bH] at q2 f1 f2 g1 g2
  refine SW.seq ?_
  (refine SW.regL [0, 1, 2, 6, 7, 8, 9, 10, 11, 12, 13, 14, 15, 23, 50, 59] mixed ?_; (repeat (first | refine RW.ro (hkl) (h := ?_) | refine RW.skip (h := ?_) | refine RW.op (hkl) (h := ?_) | refine RW.opN (hkl) (h := ?_) | refine RW.skip0 (h := ?_) | (refine RW.callC (h := ?_); (first | refine CallP.mk (hkl) (hc := q2 _) (h := ?_))))); refine RW.nil ⟨conf_of (by kernel_rfl), Pruned.mk (h := ?_)⟩)
  refine SW.seq ?_
  (have fx := (And.intro (d2) (And.intro (e1) (And.intro (e2) (e3)))); refine SW.regL [0, 1, 2, 6, 7, 8, 9, 10, 11, 12, 13, 14, 15, 23, 50, 59] mixed ?_; (repeat (first | refine RW.ro fx (h := ?_) | refine RW.skip (h := ?_) | refine RW.op fx (h := ?_) | refine RW.opN fx (h := ?_) | refine RW.skip0 (h := ?_) | (refine RW.callC (h := ?_); (first | refine CallP.mk fx (hc := f1 _) (h := ?_) | refine CallP.mk fx (hc := f2 _) (h := ?_) | refine CallP.mk fx (hc := f3 _) (h := ?_) | refine CallP.mk fx (hc := f4 _) (h := ?_) | refine CallP.mk fx (hc := g1 _) (h := ?_) | refine CallP.mk fx (hc := g2 _) (h := ?_) | refine CallP.mk fx (hc := g3 _) (h := ?_) | refine CallP.mk fx (hc := g4 _) (h := ?_) | refine CallP.mk fx (hc := head11_at _) (h := ?_))))); refine RW.nil ⟨conf_of (by kernel_rfl), Pruned.mk (h := ?_)⟩)
  refine SW.ret ?_
  exact End.mk [] (h4 := ⟨rfl, rfl⟩)
end Go.Proofs.YtnakpdoioammhaaDoor
