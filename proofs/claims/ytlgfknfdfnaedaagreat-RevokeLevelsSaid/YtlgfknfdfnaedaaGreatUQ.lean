/-
  Revoke: rows of dots that grow, one by one.
-/
import Derived.Test.YtlgfknfdfnaedaaGreatUP
set_option linter.unusedSectionVars false
set_option linter.unusedVariables false
set_option linter.unusedSimpArgs false
namespace Go.Proofs.YtlgfknfdfnaedaaGreat
open Go.Sl Go.Proofs
attribute [local irreducible] SW RW SCd SC CallP Pruned
structure RowR where
  l : List Dt
  rn : Nat
theorem tdot_ok (d : Dt) : SB Tryz.prog revoke_Index_Threats_1.f [.agg d.cells] [] 0 2 fun r F => r = .agg d.cells ∧ F = [] := by
  refine revoke_Index_Threats_1.enter (by simp [SV.oks, SV.ok]) rfl (by simp) ?_
  dsimp only [revoke_Index_Threats_1.s, Co.M, Co.G, Co.J, Co.H, Co.N, Co.F, Co.C, Co.Z, Co.B, Co.b8, Co.b32, Co.b64, Co.i6, Co.z8, Co.z29]
  have s1 : spl [SV.d (.int .u8 0), .d (.int .u32 0)] 0 d.cells = d.cells := rfl
  (repeat (first | refine SW.seq ?_ | refine SW.block ?_ | (refine SW.regL [0, 1, 2] mixed ?_; (repeat (first | refine RW.ro (s1) (h := ?_) | refine RW.skip (h := ?_) | refine RW.op (s1) (h := ?_) | refine RW.opN (s1) (h := ?_) | refine RW.skip0 (h := ?_))); refine RW.nil ⟨by kernel_rfl, Pruned.mk (h := ?_)⟩) | refine SW.skip ?_ | refine SW.exit ?_ | refine SW.ret ?_ | refine SW.condT rfl ?_ | refine SW.condF rfl ?_))
  exact End.mk [] (h4 := ⟨rfl, rfl⟩)
theorem tdot_at (d : Dt) (k : Nat) : SCd Tryz.prog revoke_Index_Threats_1.f [.agg d.cells] [] k 2 (.agg d.cells) [] := by
  have := SB.new (tdot_ok d) k
  simpa [SV.rens, SV.ren, Dt.cells_ren, Hp.ren] using this
theorem todot_ok (o : OpD) : SB Tryz.prog revoke_Index_Threatened_2.f [.agg o.cells] [] 0 2 fun r F => r = .agg o.dot.cells ∧ F = [] := by
  refine revoke_Index_Threatened_2.enter (by simp [SV.oks, SV.ok, OpD.cells_ok]) rfl (by simp) ?_
  dsimp only [revoke_Index_Threatened_2.s, Co.M, Co.G, Co.J, Co.H, Co.N, Co.F, Co.C, Co.Z, Co.B, Co.b8, Co.b32, Co.b64, Co.i6, Co.z8, Co.z29]
  have s1 : spl [SV.d (.int .u8 0), .d (.int .u32 0)] 0 o.dot.cells = o.dot.cells := rfl
  have s2 : List.take 2 o.cells = o.dot.cells := rfl
  (repeat (first | refine SW.seq ?_ | refine SW.block ?_ | (refine SW.regL [0, 1, 2] mixed ?_; (repeat (first | refine RW.ro (And.intro (s1) (s2)) (h := ?_) | refine RW.skip (h := ?_) | refine RW.op (And.intro (s1) (s2)) (h := ?_) | refine RW.opN (And.intro (s1) (s2)) (h := ?_) | refine RW.skip0 (h := ?_))); refine RW.nil ⟨by kernel_rfl, Pruned.mk (h := ?_)⟩) | refine SW.skip ?_ | refine SW.exit ?_ | refine SW.ret ?_ | refine SW.condT rfl ?_ | refine SW.condF rfl ?_))
  exact End.mk [] (h4 := ⟨rfl, rfl⟩)
theorem todot_at (o : OpD) (k : Nat) : SCd Tryz.prog revoke_Index_Threatened_2.f [.agg o.cells] [] k 2 (.agg o.dot.cells) [] := by
  have := SB.new (todot_ok o) k
  simpa [SV.rens, SV.ren, Dt.cells_ren, OpD.cells_ren, Hp.ren] using this
def rowD (y bx bf : Nat) (ca cb : Code) (s : RowR) : Hp :=
  [(y, .rcd 17 [5, 3] [.ptr bx 0, .ptr bf 0] [8] ca cb .ready none), (bx, .box 40 [.gs s.rn s.l.length]), (bf, .box 107 [.fn (.func revoke_Index_Threats_1.f) [] []]), (s.rn, .arr 25 2 s.l.length ((s.l.flatMap Dt.ds).map .d))]
def invD (y bx bf : Nat) (s : RowR) (j : Nat) : Prop := (s.rn ≠ y ∧ s.rn ≠ bx ∧ s.rn ≠ bf) ∧ s.l.length + j ≤ 100000000000
def nxD (s : RowR) (x : Dt) (k : Nat) : RowR := ⟨s.l ++ [x], k + 3⟩
set_option maxHeartbeats 4000000 in
theorem bodyD {y bx bf : Nat} (h1 : y ≠ bx) (h2 : y ≠ bf) (h3 : bx ≠ bf) {ca cb : Code}
    (hca : cK Tryz.prog 17 ca = some (.reg [⟨some 6, .alloc 25 [.d (.int .u8 0), .d (.int .u32 0)], none⟩, ⟨none, .store 2 (.t 6) (.t 8), none⟩] (fullB 2) false))
    (hcb : cK Tryz.prog 17 cb = some (.block 1 (.reg [⟨some 9, .load none (.t 5), none⟩, ⟨some 10, .load none (.t 3), none⟩, ⟨some 11, .load (some 2) (.t 6), none⟩, ⟨some 12, .call (.t 10) [(.t 11)], none⟩, ⟨some 13, .bsl 25 2 1 [.d (.int .u8 0), .d (.int .u32 0)] [(0, 2, .t 12)], none⟩, ⟨some 14, .app 25 2 8 (.t 9) (.t 13), none⟩, ⟨none, .store 1 (.t 5) (.t 14), none⟩] [0, 0, 0, 6, 14, 31, 63] true))) :
    YieldD Tryz.prog y (fun x : Dt => .agg x.cells) 4 (rowD y bx bf ca cb) nxD (invD y bx bf) := by
  have f1 := ne4 h1
  have f2 := ne4 h2
  have f3 := ne4 h3
  refine ⟨fun s => by simp [rowD, lk_cons], fun s j hinv x hx => ?_, fun s j hinv => ?_, fun s x k j hinv hok => ?_⟩
  rotate_left
  · obtain ⟨⟨a1, a2, a3⟩, _⟩ := hinv
    simp [rowD, Hp.ok, Ob.ok, SV.oks, SV.ok, SV.oks_d, lk_cons, f1, f2, f3, ne4 a1, ne4 a2, ne4 a3]
  rotate_left
  · obtain ⟨⟨a1, a2, a3⟩, _⟩ := hinv
    have g1 := ne4 a1
    have g2 := ne4 a2
    have g3 := ne4 a3
    simp only [rowD, List.mem_cons, List.not_mem_nil, or_false] at hx
    rcases hx with rfl | rfl | rfl | rfl <;> simp [rowD, lk_cons, f1, f2, f3, g1, g2, g3]
  · obtain ⟨l, rn⟩ := s
    obtain ⟨⟨a1, a2, a3⟩, hlen⟩ := hinv
    dsimp only at a1 a2 a3 hlen
    have g1 := ne4 a1
    have g2 := ne4 a2
    have g3 := ne4 a3
    simp only [rowD, Hp.ok, List.all_cons, List.all_nil, Ob.ok, SV.oks, SV.ok, SV.oks_d, Bool.and_true, Bool.and_eq_true, decide_eq_true_eq] at hok
    obtain ⟨⟨k1, _⟩, ⟨k2, _⟩, k3, k4⟩ := hok
    have q1 := ne4 (show k ≠ y by omega)
    have q2 := ne4 (show k ≠ bx by omega)
    have q3 := ne4 (show k ≠ bf by omega)
    have q4 := ne4 (show k ≠ rn by omega)
    have w0 := ne4 (show k + 3 ≠ k by omega)
    have w1 := ne4 (show k + 3 ≠ y by omega)
    have w2 := ne4 (show k + 3 ≠ bx by omega)
    have w3 := ne4 (show k + 3 ≠ bf by omega)
    have w4 := ne4 (show k + 3 ≠ rn by omega)
    have ea : k + 1 + 2 = k + 3 := rfl
    have hF : ∀ n, lk (rowD y bx bf ca cb ⟨l ++ [x], k + 3⟩) n ≠ none → lk (rowD y bx bf ca cb ⟨l, rn⟩) n ≠ none ∨ (k ≤ n ∧ n < k + 4) := fun n hn => by
      by_cases e1 : n = y
      · exact .inl (by simp [rowD, lk_cons, e1])
      · by_cases e2 : n = bx
        · exact .inl (by simp [rowD, lk_cons, e2, f1])
        · by_cases e3 : n = bf
          · exact .inl (by simp [rowD, lk_cons, e3, f2, f3])
          · refine .inr ?_
            have : n = k + 3 := Classical.byContradiction fun hne => hn (by simp [rowD, lk_cons, lk_nil, e1, e2, e3, hne])
            omega
    refine ⟨?_, ⟨⟨by show k + 3 ≠ y; omega, by show k + 3 ≠ bx; omega, by show k + 3 ≠ bf; omega⟩, by show (l ++ [x]).length + j ≤ _; rw [List.length_append]; show l.length + 1 + j ≤ _; omega⟩, ?_, hF⟩
    · unfold SYd
      refine SYB.here (fun n => n == y || n == bx || n == bf || n == rn) (SYB.of_code (cs := [.ptr bx 0, .ptr bf 0]) (H := [(bx, .box 40 [.gs rn l.length]), (bf, .box 107 [.fn (.func revoke_Index_Threats_1.f) [] []]), (rn, .arr 25 2 l.length ((l.flatMap Dt.ds).map .d))]) hca hcb rfl rfl rfl (by simp) k1 (by simp [lk_cons, lk_nil, f1, f2, g1]) (by simp [SV.oks, SV.ok, Dt.cells_ok]) (by simp [Hp.ok, Ob.ok, SV.oks, SV.ok, SV.oks_d]; omega) (by simp [SV.oks, SV.ok]; omega) ?_) ?_ (by simp [SV.oks, SV.ok, Dt.cells_ok]) (by simp [rowD, Hp.ok, Ob.ok, SV.oks, SV.ok, SV.oks_d]) ?_
      · skip
        show Go.Sl.SW _ _ _ _ ⟨[(8, .agg x.cells), (5, .ptr bx 0), (3, .ptr bf 0)], _, _⟩ _
        (have fx := (And.intro (f1) (And.intro (f2) (And.intro (f3) (And.intro (g1) (And.intro (g2) (And.intro (g3) (And.intro (q1) (And.intro (q2) (And.intro (q3) (q4)))))))))); refine SW.regL [3, 5, 6, 8] mixed ?_; (repeat (first | refine RW.ro fx (h := ?_) | refine RW.skip (h := ?_) | refine RW.op fx (h := ?_) | refine RW.opN fx (h := ?_) | refine RW.skip0 (h := ?_))); refine RW.nil ⟨by kernel_rfl, Pruned.mk (h := ?_)⟩)
        refine ⟨rfl, SW.block ?_⟩
        have hcc := fun k => tdot_at x k
        (have fx := (And.intro (f1) (And.intro (f2) (And.intro (f3) (And.intro (g1) (And.intro (g2) (And.intro (g3) (And.intro (q1) (And.intro (q2) (And.intro (q3) (And.intro (q4) (And.intro (w0) (And.intro (w1) (And.intro (w2) (And.intro (w3) (And.intro (w4) (ea)))))))))))))))); refine SW.regL [3, 5, 6, 8] mixed ?_; (repeat (first | refine RW.ro fx (h := ?_) | refine RW.skip (h := ?_) | refine RW.op fx (h := ?_) | refine RW.opN fx (h := ?_) | refine RW.skip0 (h := ?_) | (refine RW.callC (h := ?_); (first | refine CallP.mk fx (hc := hcc _) (h := ?_))))); refine RW.nil ⟨conf_of (by simp [noConf2, all2, ordB, roOf, List.range, List.range.loop, f1, f2, f3, g1, g2, g3, q1, q2, q3, q4, w0, w1, w2, w3, w4] <;> (first | decide | (repeat (first | assumption | refine ⟨?_, ?_⟩ | exact .inl (by decide) | exact .inl (.inr (by decide)) | exact .inl (.inl (by decide)) | refine .inr ?_)))), Pruned.mk (h := ?_)⟩)
        have e2 : ((l ++ [x]).flatMap Dt.ds).map SV.d = (List.flatMap Dt.ds l).map SV.d ++ x.ds.map SV.d := by simp
        refine ⟨none, true, [(bx, .box 40 [.gs (k + 3) (l ++ [x]).length]), (bf, .box 107 [.fn (.func revoke_Index_Threats_1.f) [] []]), (k + 3, .arr 25 2 (l ++ [x]).length (((l ++ [x]).flatMap Dt.ds).map .d))], ⟨rfl, rfl⟩, ?_, ?_, by simp, ⟨rfl, rfl⟩⟩
        · refine HSub.cons ?_ (HSub.cons ?_ (HSub.cons ?_ (HSub.nil _)))
          · simp [lk_cons, f1, f2, f3, g1, g2, g3, q1, q2, q3, q4, w0, w1, w2, w3, w4, spl]
          · simp [lk_cons, f1, f2, f3, g1, g2, g3, q1, q2, q3, q4, w0, w1, w2, w3, w4, spl]
          · rw [e2]; simp [lk_cons, Dt.map_ds]
        · simp [Hp.ok, Ob.ok, SV.oks, SV.ok, SV.oks_d, -List.flatMap_append, -List.map_append]; omega
      · intro n hn
        simp only [Bool.or_eq_true, beq_iff_eq] at hn
        rcases hn with ((rfl | rfl) | rfl) | rfl <;> simp [rowD, lk_cons, f1, f2, f3, g1, g2, g3]
      · rintro r F' ⟨rfl, rfl⟩ _ _
        refine ⟨rfl, ?_⟩
        simp [nxD, rowD, Hp.ok, Ob.ok, SV.oks, SV.ok, SV.oks_d, -List.flatMap_append, -List.map_append]
    · simp [nxD, rowD, Hp.ok, Ob.ok, SV.oks, SV.ok, SV.oks_d, -List.flatMap_append, -List.map_append]
      omega
theorem onD {s0 s : RowR} {xs : List Dt} (h : OnBy (StpD nxD) s0 xs s) : s.l = s0.l ++ xs := by
  induction h with
  | nil => simp
  | snoc _ h ih =>
    obtain ⟨k, rfl⟩ := h
    show _ ++ [_] = _
    rw [ih]; simp
def rowP (y bx bf : Nat) (ca cb : Code) (s : RowR) : Hp :=
  [(y, .rcd 17 [5, 3] [.ptr bx 0, .ptr bf 0] [8] ca cb .ready none), (bx, .box 40 [.gs s.rn s.l.length]), (bf, .box 110 [.fn (.func revoke_Index_Threatened_2.f) [] []]), (s.rn, .arr 25 2 s.l.length ((s.l.flatMap Dt.ds).map .d))]
def invP (y bx bf : Nat) (s : RowR) (j : Nat) : Prop := (s.rn ≠ y ∧ s.rn ≠ bx ∧ s.rn ≠ bf) ∧ s.l.length + j ≤ 100000000000
def nxP (s : RowR) (x : OpD) (k : Nat) : RowR := ⟨s.l ++ [x.dot], k + 3⟩
set_option maxHeartbeats 4000000 in
theorem bodyP {y bx bf : Nat} (h1 : y ≠ bx) (h2 : y ≠ bf) (h3 : bx ≠ bf) {ca cb : Code}
    (hca : cK Tryz.prog 17 ca = some (.reg [⟨some 6, .alloc 31 zOp, none⟩, ⟨none, .store 29 (.t 6) (.t 8), none⟩] (fullB 2) false))
    (hcb : cK Tryz.prog 17 cb = some (.block 1 (.reg [⟨some 9, .load none (.t 5), none⟩, ⟨some 10, .load none (.t 3), none⟩, ⟨some 11, .load (some 29) (.t 6), none⟩, ⟨some 12, .call (.t 10) [(.t 11)], none⟩, ⟨some 13, .bsl 25 2 1 [.d (.int .u8 0), .d (.int .u32 0)] [(0, 2, .t 12)], none⟩, ⟨some 14, .app 25 2 8 (.t 9) (.t 13), none⟩, ⟨none, .store 1 (.t 5) (.t 14), none⟩] [0, 0, 0, 6, 14, 31, 63] true))) :
    YieldD Tryz.prog y (fun x : OpD => .agg x.cells) 4 (rowP y bx bf ca cb) nxP (invP y bx bf) := by
  have f1 := ne4 h1
  have f2 := ne4 h2
  have f3 := ne4 h3
  refine ⟨fun s => by simp [rowP, lk_cons], fun s j hinv x hx => ?_, fun s j hinv => ?_, fun s x k j hinv hok => ?_⟩
  rotate_left
  · obtain ⟨⟨a1, a2, a3⟩, _⟩ := hinv
    simp [rowP, Hp.ok, Ob.ok, SV.oks, SV.ok, SV.oks_d, lk_cons, f1, f2, f3, ne4 a1, ne4 a2, ne4 a3]
  rotate_left
  · obtain ⟨⟨a1, a2, a3⟩, _⟩ := hinv
    have g1 := ne4 a1
    have g2 := ne4 a2
    have g3 := ne4 a3
    simp only [rowP, List.mem_cons, List.not_mem_nil, or_false] at hx
    rcases hx with rfl | rfl | rfl | rfl <;> simp [rowP, lk_cons, f1, f2, f3, g1, g2, g3]
  · obtain ⟨l, rn⟩ := s
    obtain ⟨⟨a1, a2, a3⟩, hlen⟩ := hinv
    dsimp only at a1 a2 a3 hlen
    have g1 := ne4 a1
    have g2 := ne4 a2
    have g3 := ne4 a3
    simp only [rowP, Hp.ok, List.all_cons, List.all_nil, Ob.ok, SV.oks, SV.ok, SV.oks_d, Bool.and_true, Bool.and_eq_true, decide_eq_true_eq] at hok
    obtain ⟨⟨k1, _⟩, ⟨k2, _⟩, k3, k4⟩ := hok
    have q1 := ne4 (show k ≠ y by omega)
    have q2 := ne4 (show k ≠ bx by omega)
    have q3 := ne4 (show k ≠ bf by omega)
    have q4 := ne4 (show k ≠ rn by omega)
    have w0 := ne4 (show k + 3 ≠ k by omega)
    have w1 := ne4 (show k + 3 ≠ y by omega)
    have w2 := ne4 (show k + 3 ≠ bx by omega)
    have w3 := ne4 (show k + 3 ≠ bf by omega)
    have w4 := ne4 (show k + 3 ≠ rn by omega)
    have ea : k + 1 + 2 = k + 3 := rfl
    have hF : ∀ n, lk (rowP y bx bf ca cb ⟨l ++ [x.dot], k + 3⟩) n ≠ none → lk (rowP y bx bf ca cb ⟨l, rn⟩) n ≠ none ∨ (k ≤ n ∧ n < k + 4) := fun n hn => by
      by_cases e1 : n = y
      · exact .inl (by simp [rowP, lk_cons, e1])
      · by_cases e2 : n = bx
        · exact .inl (by simp [rowP, lk_cons, e2, f1])
        · by_cases e3 : n = bf
          · exact .inl (by simp [rowP, lk_cons, e3, f2, f3])
          · refine .inr ?_
            have : n = k + 3 := Classical.byContradiction fun hne => hn (by simp [rowP, lk_cons, lk_nil, e1, e2, e3, hne])
            omega
    refine ⟨?_, ⟨⟨by show k + 3 ≠ y; omega, by show k + 3 ≠ bx; omega, by show k + 3 ≠ bf; omega⟩, by show (l ++ [x.dot]).length + j ≤ _; rw [List.length_append]; show l.length + 1 + j ≤ _; omega⟩, ?_, hF⟩
    · unfold SYd
      refine SYB.here (fun n => n == y || n == bx || n == bf || n == rn) (SYB.of_code (cs := [.ptr bx 0, .ptr bf 0]) (H := [(bx, .box 40 [.gs rn l.length]), (bf, .box 110 [.fn (.func revoke_Index_Threatened_2.f) [] []]), (rn, .arr 25 2 l.length ((l.flatMap Dt.ds).map .d))]) hca hcb rfl rfl rfl (by simp) k1 (by simp [lk_cons, lk_nil, f1, f2, g1]) (by simp [SV.oks, SV.ok, OpD.cells_ok]) (by simp [Hp.ok, Ob.ok, SV.oks, SV.ok, SV.oks_d]; omega) (by simp [SV.oks, SV.ok]; omega) ?_) ?_ (by simp [SV.oks, SV.ok, OpD.cells_ok]) (by simp [rowP, Hp.ok, Ob.ok, SV.oks, SV.ok, SV.oks_d]) ?_
      · skip
        show Go.Sl.SW _ _ _ _ ⟨[(8, .agg x.cells), (5, .ptr bx 0), (3, .ptr bf 0)], _, _⟩ _
        (have fx := (And.intro (f1) (And.intro (f2) (And.intro (f3) (And.intro (g1) (And.intro (g2) (And.intro (g3) (And.intro (q1) (And.intro (q2) (And.intro (q3) (q4)))))))))); refine SW.regL [3, 5, 6, 8] mixed ?_; (repeat (first | refine RW.ro fx (h := ?_) | refine RW.skip (h := ?_) | refine RW.op fx (h := ?_) | refine RW.opN fx (h := ?_) | refine RW.skip0 (h := ?_))); refine RW.nil ⟨conf_of (by kernel_rfl), Pruned.mk (h := ?_)⟩)
        refine ⟨rfl, SW.block ?_⟩
        have hcc := fun k => todot_at x k
        (have fx := (And.intro (f1) (And.intro (f2) (And.intro (f3) (And.intro (g1) (And.intro (g2) (And.intro (g3) (And.intro (q1) (And.intro (q2) (And.intro (q3) (And.intro (q4) (And.intro (w0) (And.intro (w1) (And.intro (w2) (And.intro (w3) (And.intro (w4) (ea)))))))))))))))); refine SW.regL [3, 5, 6, 8] mixed ?_; (repeat (first | refine RW.ro fx (h := ?_) | refine RW.skip (h := ?_) | refine RW.op fx (h := ?_) | refine RW.opN fx (h := ?_) | refine RW.skip0 (h := ?_) | (refine RW.callC (h := ?_); (first | refine CallP.mk fx (hc := hcc _) (h := ?_))))); refine RW.nil ⟨conf_of (by simp [noConf2, all2, ordB, roOf, List.range, List.range.loop, f1, f2, f3, g1, g2, g3, q1, q2, q3, q4, w0, w1, w2, w3, w4] <;> (first | decide | (repeat (first | assumption | refine ⟨?_, ?_⟩ | exact .inl (by decide) | exact .inl (.inr (by decide)) | exact .inl (.inl (by decide)) | refine .inr ?_)))), Pruned.mk (h := ?_)⟩)
        have e2 : ((l ++ [x.dot]).flatMap Dt.ds).map SV.d = (List.flatMap Dt.ds l).map SV.d ++ x.dot.ds.map SV.d := by simp
        refine ⟨none, true, [(bx, .box 40 [.gs (k + 3) (l ++ [x.dot]).length]), (bf, .box 110 [.fn (.func revoke_Index_Threatened_2.f) [] []]), (k + 3, .arr 25 2 (l ++ [x.dot]).length (((l ++ [x.dot]).flatMap Dt.ds).map .d))], ⟨rfl, rfl⟩, ?_, ?_, by simp, ⟨rfl, rfl⟩⟩
        · refine HSub.cons ?_ (HSub.cons ?_ (HSub.cons ?_ (HSub.nil _)))
          · simp [lk_cons, f1, f2, f3, g1, g2, g3, q1, q2, q3, q4, w0, w1, w2, w3, w4, spl]
          · simp [lk_cons, f1, f2, f3, g1, g2, g3, q1, q2, q3, q4, w0, w1, w2, w3, w4, spl]
          · rw [e2]; simp [lk_cons, Dt.map_ds]
        · simp [Hp.ok, Ob.ok, SV.oks, SV.ok, SV.oks_d, -List.flatMap_append, -List.map_append]; omega
      · intro n hn
        simp only [Bool.or_eq_true, beq_iff_eq] at hn
        rcases hn with ((rfl | rfl) | rfl) | rfl <;> simp [rowP, lk_cons, f1, f2, f3, g1, g2, g3]
      · rintro r F' ⟨rfl, rfl⟩ _ _
        refine ⟨rfl, ?_⟩
        simp [nxP, rowP, Hp.ok, Ob.ok, SV.oks, SV.ok, SV.oks_d, -List.flatMap_append, -List.map_append]
    · simp [nxP, rowP, Hp.ok, Ob.ok, SV.oks, SV.ok, SV.oks_d, -List.flatMap_append, -List.map_append]
      omega
theorem onP {s0 s : RowR} {xs : List OpD} (h : OnBy (StpD nxP) s0 xs s) : s.l = s0.l ++ xs.map (·.dot) := by
  induction h with
  | nil => simp
  | snoc _ h ih =>
    obtain ⟨k, rfl⟩ := h
    show _ ++ [_] = _
    rw [ih]; simp
end Go.Proofs.YtlgfknfdfnaedaaGreat
namespace Go.Proofs.YtlgfknfdfnaedaaGreat
open Go.Sl Go.Proofs
attribute [local irreducible] SW RW SCd SC CallP Pruned nkT
theorem sortN_at (k : Nat) : SCd Tryz.prog dot_Sort.f [.d .nils] [] k 0 (dots (Dt.set [])) [] := by
  have := sort_at [] (by simp) k
  unfold SCd at this ⊢
  refine SC.args (fun p μ M vs h => ?_) this
  obtain ⟨u, us, e, h1, h2⟩ := Rps.cons_iff.1 h
  exact Rps.cons_iff.2 ⟨u, us, e, nils_sl _ _ _ _ h1, h2⟩
theorem sortd_at (L : List Dt) (hl : L.length < 1000000000) (k : Nat) : SCd Tryz.prog dot_Sort.f [dn L] [] k 0 (dots (Dt.set L)) [] := by
  cases L with
  | nil => exact sortN_at k
  | cons d L => exact sort_at (d :: L) hl k
set_option maxHeartbeats 4000000 in
theorem rrvs_sb (X : Ix) (hX : X.small) (c : Dt) : SB Tryz.prog revoke_Index_Revokes.f [.ptr 0 0, .agg c.cells] X.h0 4 1 fun r F => r = dots (Dt.set (X.rvs c)) ∧ F = X.h0 := by
  refine revoke_Index_Revokes.enter (by simp [SV.oks, SV.ok]) (X.ok0 (Nat.le_refl 4)) (by simp) ?_
  dsimp only [revoke_Index_Revokes.s, Co.M, Co.G, Co.J, Co.H, Co.N, Co.F, Co.C, Co.Z, Co.B, Co.b8, Co.b32, Co.b64, Co.i6, Co.z8, Co.z29]
  have hn := rnone_0 X
  refine SW.seq ?_
  (refine SW.regL [0, 1, 3, 4, 6] mixed ?_; (repeat (first | refine RW.ro bq_tt (h := ?_) | refine RW.skip (h := ?_) | refine RW.op bq_tt (h := ?_) | refine RW.opN bq_tt (h := ?_) | refine RW.skip0 (h := ?_))); refine RW.nil ⟨conf_of (by kernel_rfl), Pruned.mk (h := ?_)⟩)
  refine SW.seq (SW.seq ?_)
  (refine SW.regL [0, 1, 3, 4, 6] mixed ?_; (repeat (first | refine RW.ro bq_tt (h := ?_) | refine RW.skip (h := ?_) | refine RW.op bq_tt (h := ?_) | refine RW.opN bq_tt (h := ?_) | refine RW.skip0 (h := ?_) | (refine RW.callC (h := ?_); (first | refine CallP.mk bq_tt (hc := hn _) (h := ?_))))); refine RW.nil ⟨conf_of (by kernel_rfl), Pruned.mk (h := ?_)⟩)
  refine SW.condF rfl (SW.skip ?_)
  refine SW.seq ?_
  have hlk := look_dn X.of_ c
  change lookS _ _ _ = dn (X.rvs c) at hlk
  have hs := sortd_at (X.rvs c) (by have := hX.rv c; omega)
  (refine SW.regL [0, 1, 3, 4, 6] mixed ?_; (repeat (first | refine RW.ro (hlk) (h := ?_) | refine RW.skip (h := ?_) | refine RW.op (hlk) (h := ?_) | refine RW.opN (hlk) (h := ?_) | refine RW.skip0 (h := ?_) | (refine RW.callC (h := ?_); (first | refine CallP.mk (hlk) (hc := hs _) (h := ?_))))); refine RW.nil ⟨conf_of (by kernel_rfl), Pruned.mk (h := ?_)⟩)
  refine SW.ret ?_
  exact End.mk X.h0 (h4 := ⟨rfl, rfl⟩) (h6 := X.ok0 (by decide))
theorem rrvs_14 (X : Ix) (hX : X.small) (c : Dt) (k : Nat) : SCd Tryz.prog revoke_Index_Revokes.f [.ptr 14 0, .agg c.cells] X.h14 k 1 (dots (Dt.set (X.rvs c))) X.h14 :=
  Ix.at14 (rrvs_sb X hX c) (fun k => by simp [SV.rens, SV.ren, atN, Dt.cells_ren]) (fun k => by simp [SV.ren]) k
theorem thr_len (X : Ix) (hX : X.small) (o : OpD) : (X.thr o).length ≤ 1000000 := by
  unfold Ix.thr
  rw [List.length_flatMap]
  have hl := hX.ch o.dot
  have key : ∀ l : List Dt, (l.map fun c => ((X.rvs c).filter fun t => !o.before (X.op t)).length).sum ≤ l.length * 1000 := fun l => by
    induction l with
    | nil => simp
    | cons c l ih =>
      rw [List.map_cons, List.sum_cons, List.length_cons, Nat.add_mul, Nat.one_mul]
      have h1 := List.length_filter_le (fun t => !o.before (X.op t)) (X.rvs c)
      have h2 := hX.rv c
      omega
  exact Nat.le_trans (key _) (Nat.le_trans (Nat.mul_le_mul_right 1000 hl) (by decide))
theorem ok_app {q : Nat → Bool} {A B : Hp} (h1 : A.ok q = true) (h2 : B.ok q = true) : (A ++ B : Hp).ok q = true := by
  unfold Hp.ok at *
  rw [List.all_append, h1, h2]; rfl
abbrev T45 (X : Ix) (o : OpD) : Hp := TG X o 4 5
theorem T45_ok (X : Ix) (o : OpD) {k : Nat} (h : 6 ≤ k) : (T45 X o).ok (fun n => decide (n < k)) = true :=
  ok_cons (by simp; omega) (by simp [Ob.ok, SV.oks, SV.ok]; omega) (ok_cons (by simp; omega) (by simp [Ob.ok, OpD.cells_ok]) (X.ok0 (by omega)))
set_option maxHeartbeats 4000000 in
theorem sortD_sb (X : Ix) (hX : X.small) (o : OpD) : SB Tryz.prog revoke_sorted_api_Dot.f [.fn (.func revoke_Index_threats_1.f) [] [.ptr 4 0, .ptr 5 0], .fn (.func revoke_Index_Threats_1.f) [] []] (T45 X o) 6 (4 + nkT 4)
    fun r F => r = dots (Dt.set (X.thr o)) ∧ F = T45 X o := by
  have hlen := thr_len X hX o
  refine revoke_sorted_api_Dot.enter (by simp [SV.oks, SV.ok]) (T45_ok X o (Nat.le_refl 6)) (by simp) ?_
  dsimp only [revoke_sorted_api_Dot.s, Co.M, Co.G, Co.J, Co.H, Co.N, Co.F, Co.C, Co.Z, Co.B, Co.b8, Co.b32, Co.b64, Co.i6, Co.z8, Co.z29]
  refine SW.seq ?_
  (refine SW.regL [0, 1, 3, 4, 5, 6, 7, 8] mixed ?_; (repeat (first | refine RW.ro bq_tt (h := ?_) | refine RW.skip (h := ?_) | refine RW.op bq_tt (h := ?_) | refine RW.opN bq_tt (h := ?_) | refine RW.skip0 (h := ?_))); refine RW.nil ⟨conf_of (by kernel_rfl), Pruned.mk (h := ?_)⟩)
  refine SW.seq ?_
  (refine SW.regL [0, 1, 3, 4, 5, 6, 7, 8] mixed ?_; (repeat (first | refine RW.ro bq_tt (h := ?_) | refine RW.skip (h := ?_) | refine RW.op bq_tt (h := ?_) | refine RW.opN bq_tt (h := ?_) | refine RW.skip0 (h := ?_))); refine RW.nil ⟨conf_of (by kernel_rfl), Pruned.mk (h := ?_)⟩)
  refine SW.nilbox 7 40 25 2 (by rfl) ?_
  refine SW.seq (SW.seq ?_)
  (refine SW.regL [0, 1, 3, 4, 5, 6, 7, 8] mixed ?_; (repeat (first | refine RW.ro bq_tt (h := ?_) | refine RW.skip (h := ?_) | refine RW.op bq_tt (h := ?_) | refine RW.opN bq_tt (h := ?_) | refine RW.skip0 (h := ?_))); refine RW.nil ⟨conf_of (by kernel_rfl), Pruned.mk (h := ?_)⟩)
  refine SW.block (SW.rfun (nk := nkT 4) [5, 3] [.ptr 7 0, .ptr 6 0] rfl ⟨rfl, rfl, trivial⟩ fun ca cb hca hcb => ?_)
  let s0 : RowR := ⟨[], 8⟩
  have hy := bodyD (y := 9) (bx := 7) (bf := 6) (by decide) (by decide) (by decide) hca hcb
  have hF0 : (rowD 9 7 6 ca cb s0).ok (fun n => decide (n < 10)) = true := by simp [rowD, s0, Hp.ok, Ob.ok, SV.oks, SV.ok]
  have hO : Own (TG X o 4 5) (rowD 9 7 6 ca cb) s0 10 := by
    refine ⟨by simp, fun n hn => ?_, fun n hn => ?_, T45_ok X o (by omega), hF0⟩
    · simp only [TG, List.map_cons, List.map_nil, List.mem_cons, List.not_mem_nil, or_false] at hn; omega
    · simp only [TG, List.map_cons, List.map_nil, List.mem_cons, List.not_mem_nil, or_false] at hn
      rcases hn with rfl | rfl | rfl | rfl | rfl | rfl <;> simp [rowD, s0, lk_cons, lk_nil]
  have h0 : TI X o (rowD 9 7 6 ca cb) nxD (invD 9 7 6) s0 10 4 5 10 (X.thr o) s0 10 := ⟨⟨[], .nil, rfl⟩, ⟨⟨by decide, by decide, by decide⟩, by show 0 + _ ≤ _; omega⟩, hO, Nat.le_refl _, by decide, fun n hn => .inl hn⟩
  have hsb := thr1_sb (y := 9) (bx := 4) (bo := 5) (k := 10) X hX o s0 hy h0
  have hsubF : HSub (TG X o 4 5 ++ rowD 9 7 6 ca cb s0) ((9, .rcd 17 [5, 3] [.ptr 7 0, .ptr 6 0] [8] ca cb .ready none) :: (7, .box 40 [.gs 8 0]) :: (8, .arr 25 2 0 []) :: (7, .box 40 [.d .nils]) :: (6, .box 107 [.fn (.func revoke_Index_Threats_1.f) [] []]) :: T45 X o) := by
    intro n ob hn
    match n with
    | 0 | 1 | 2 | 3 | 4 | 5 | 6 | 7 | 8 | 9 => simpa [TG, rowD, s0, lk_cons] using hn
    | n + 10 => simp [TG, rowD, s0, lk_cons, lk_nil] at hn
  have hsc := (hsb.here (fun n => decide (n < 10)) (fun n hn => ?_) (by simp [SV.oks, SV.ok]) (ok_app (T45_ok X o (by omega)) hF0) ?_).frame hsubF
  · refine hsc.mono ?_
    rintro r F' ⟨F1, ⟨rfl, s', hTI, rfl⟩, rfl⟩
    obtain ⟨xs, hon, hxs⟩ := hTI.h1
    rw [List.append_nil] at hxs
    have hl' := onD hon
    obtain ⟨L, rn⟩ := s'
    have hL : L = X.thr o := by rw [hxs]; simpa [s0] using hl'
    obtain ⟨⟨b1, b2, b3⟩, _⟩ := hTI.h2
    dsimp only at b1 b2 b3
    have hno : ∀ n, n ∈ (TG X o 4 5).map (·.1) → n ≠ rn := fun n hn e => by
      have := hTI.own.no n hn
      rw [e] at this
      simp [rowD, lk_cons, b1, b2, b3] at this
    have b4 := hno 4 (by simp)
    have b5 := hno 5 (by simp)
    have c0 := hno 0 (by simp)
    have c1 := hno 1 (by simp)
    have c2 := hno 2 (by simp)
    have c3 := hno 3 (by simp)
    rw [← hL]
    have hlk := lk_hmrg (ro := false) (F' := TG X o 4 5 ++ rowD 9 7 6 ca cb ⟨L, rn⟩) hsubF (fun h => by cases h)
    generalize hmrg false _ _ _ = G at hlk
    have hG : ∀ n ob, lk (TG X o 4 5 ++ rowD 9 7 6 ca cb ⟨L, rn⟩) n = some ob → lk G n = some ob := fun n ob h => by
      rw [hlk, mrg_in (.inr (by rw [h]; simp)), h]
    refine ⟨none, hG 9 _ (by simp [TG, rowD, lk_cons, recSt]), ?_⟩
    have hrn : rn < 10 + nkT 4 := by
      have := (Hp.ok_lk hTI.own.okF (show lk (rowD 9 7 6 ca cb ⟨L, rn⟩) rn = some (.arr 25 2 L.length ((L.flatMap Dt.ds).map .d)) by simp [rowD, lk_cons, b1, b2, b3])).1
      simpa using this
    refine SW.weak (fun n => if n = 8 then rn else n) (st1 := ⟨[(5, .ptr 7 0)], (7, .box 40 [.gs 8 L.length]) :: (8, .arr 25 2 L.length ((L.flatMap Dt.ds).map .d)) :: T45 X o, 10⟩) ?_ ?_
    · have q7 := hG 7 (.box 40 [.gs rn L.length]) (by simp [TG, rowD, lk_cons])
      have q8 := hG rn (.arr 25 2 L.length ((L.flatMap Dt.ds).map .d)) (by simp [TG, rowD, lk_cons, b1, b2, b3, b4.symm, b5.symm, c0.symm, c1.symm, c2.symm, c3.symm])
      have q4 := hG 4 (.box 53 [.ptr 0 0]) (by simp [TG, lk_cons])
      have q5 := hG 5 (.box 31 o.cells) (by simp [TG, lk_cons])
      have q0 := hG 0 (.box 104 [.any, .mp 1, .mp 2, .mp 3]) (by simp [TG, lk_cons])
      have q1 := hG 1 (.map (mapE Dt.cells ov X.ops) X.co) (by simp [TG, lk_cons])
      have q2 := hG 2 (.map (mapE Dt.cells dn X.ch) X.cc) (by simp [TG, lk_cons])
      have q3 := hG 3 (.map (mapE Dt.cells dn X.of_) X.cf) (by simp [TG, lk_cons])
      refine ⟨by show 6 ≤ 10; omega, fun n hn => if_neg (by omega), ?_, ?_, ?_⟩
      · simp [EnvW, List.lookup, SV.ren, SV.ok]
      · simp [HpW, lk_hdel, Ob.ren, SV.rens, SV.ren, SV.rens_d, SV.oks_d, Ob.ok, SV.oks, SV.ok, q7, q8, q4, q5, q0, q1, q2, q3, b1, OpD.cells_ren, OpD.cells_ok, omap_ren, omap_ok, nmap_ren, nmap_ok]
      · intro a ha b hb e
        simp only [T45, TG, List.map_cons, List.map_nil, List.mem_cons, List.not_mem_nil, or_false] at ha hb
        rcases ha with rfl | rfl | rfl | rfl | rfl | rfl | rfl | rfl <;> rcases hb with rfl | rfl | rfl | rfl | rfl | rfl | rfl | rfl <;> simp at e <;> first | rfl | omega
    · refine SW.freezeB 8 (L.flatMap Dt.ds) rfl rfl ?_
      simp only [frzE, SV.frz, List.map_cons, List.map_nil, if_true, if_false, reduceIte, hdel, Nat.reduceEqDiff, frzH, T45, TG, Ix.h0, Ob.frz, SV.frzs]
      have e0 : ∀ m : MM Dt OpD, (mapE Dt.cells ov m).map (fun e => (e.1, e.2.1, e.2.2.frz 8 L.length (L.flatMap Dt.ds))) = mapE Dt.cells ov m := fun m => es_frz (q := fun _ => false) rfl (omap_ok _ _)
      have e1 : ∀ m : MM Dt (List Dt), (mapE Dt.cells dn m).map (fun e => (e.1, e.2.1, e.2.2.frz 8 L.length (L.flatMap Dt.ds))) = mapE Dt.cells dn m := fun m => es_frz (q := fun _ => false) rfl (nmap_ok _ _)
      have e2 : SV.frzs 8 L.length (L.flatMap Dt.ds) o.cells = o.cells := SV.frzs_out (q := fun _ => false) rfl _ (OpD.cells_ok _ _)
      simp only [e0, e1, e2]
      have hs := sort_at L (by rw [hL]; omega)
      refine SW.seq ?_
      (refine SW.regL [0, 1, 3, 4, 5, 6, 7, 8] mixed ?_; (repeat (first | refine RW.ro bq_tt (h := ?_) | refine RW.skip (h := ?_) | refine RW.op bq_tt (h := ?_) | refine RW.opN bq_tt (h := ?_) | refine RW.skip0 (h := ?_) | (refine RW.callC (h := ?_); (first | refine CallP.mk bq_tt (hc := hs _) (h := ?_))))); refine RW.nil ⟨conf_of (by kernel_rfl), Pruned.mk (h := ?_)⟩)
      refine SW.weak id (st1 := ⟨[(4, dots (Dt.set L))], T45 X o, 10 + nkT 4⟩) (Weak.same (by show 6 ≤ 10 + nkT 4; omega) (by simp [EnvW, List.lookup, SV.ren, SV.ok]) (T45_ok X o (by show 6 ≤ 10 + nkT 4; omega)) (fun y hy => ?_)) (SW.ret ?_)
      · simp only [T45, TG, Ix.h0, List.mem_cons, List.not_mem_nil, or_false] at hy
        rcases hy with rfl | rfl | rfl | rfl | rfl | rfl <;> rfl
      exact End.mk (T45 X o) (h4 := ⟨rfl, rfl⟩) (h6 := T45_ok X o (by omega)) (h7 := by show 6 + (4 + nkT 4) ≤ 10 + nkT 4; omega)
  · match n, hn with
    | 0, _ | 1, _ | 2, _ | 3, _ | 4, _ | 5, _ | 6, _ | 7, _ | 8, _ | 9, _ => simp [TG, rowD, s0, lk_cons]
    | n + 10, h => have : n + 10 < 10 := by simpa using h
                   omega
  · rintro r F' _ h1 h2
    refine ⟨SV.ok_more (fun n hn => ?_) _ h1, Hp.ok_mono (fun n hn => ?_) h2⟩ <;> (simp at hn ⊢; omega)
end Go.Proofs.YtlgfknfdfnaedaaGreat
namespace Go.Proofs.YtlgfknfdfnaedaaGreat
open Go.Sl Go.Proofs
attribute [local irreducible] SW RW SCd SC CallP Pruned nkT
def threatsV (X : Ix) (d : Dt) : SV := if MM.has X.ops d then .tup [dots (Dt.set (X.thr (X.op d))), i64 0] else .tup [.d .nils, i64 7]
theorem hget {X : Ix} {d : Dt} (hh : MM.has X.ops d = true) : MM.get X.ops d = some (X.op d) := by
  obtain ⟨o, ho⟩ := Option.isSome_iff_exists.1 (show (MM.get X.ops d).isSome = true from hh)
  unfold Ix.op
  rw [ho]; rfl
theorem rlevel_0 (X : Ix) (hX : X.small) (d : Dt) (k : Nat) : SCd Tryz.prog revoke_Index_Level.f [.ptr 0 0, .agg d.cells] X.h0 k 2 (levelV X d) X.h0 := by
  have := SB.atL [0, 1, 2, 3] (rlevel_sb X hX d) (by decide) X.ne0 k
  rw [show X.h0.ren (atN [0, 1, 2, 3] k) = X.h0 by simp [Hp.ren, Ob.ren, SV.rens, SV.ren, atN, omap_ren, nmap_ren], show (levelV X d).ren (atN [0, 1, 2, 3] k) = levelV X d by unfold levelV; split <;> simp [SV.rens, SV.ren]] at this
  simpa [SV.rens, SV.ren, atN, Dt.cells_ren] using this
theorem threats_0 (X : Ix) (o : OpD) (k : Nat) : SCd Tryz.prog revoke_Index_threats.f [.ptr 0 0, .agg o.cells] X.h0 k 2 (.fn (.func revoke_Index_threats_1.f) [] [.ptr k 0, .ptr (k + 1) 0]) ((k + 1, .box 31 o.cells) :: (k, .box 53 [.ptr 0 0]) :: X.h0) := by
  have := SB.atL [0, 1, 2, 3] (threats_sb X o) (by decide) X.ne0 k
  have e0 : atN [0, 1, 2, 3] k 4 = k := by simp [atN]
  have e1 : atN [0, 1, 2, 3] k 5 = k + 1 := by simp [atN]; omega
  simp [SV.rens, SV.ren, e0, e1, atN, OpD.cells_ren, Hp.ren, Ob.ren, omap_ren, nmap_ren] at this
  rw [Nat.add_comm 1 k] at this
  exact this
theorem sortD_78 (X : Ix) (hX : X.small) (o : OpD) (k : Nat) : SCd Tryz.prog revoke_sorted_api_Dot.f [.fn (.func revoke_Index_threats_1.f) [] [.ptr 7 0, .ptr 8 0], .fn (.func revoke_Index_Threats_1.f) [] []] (TG X o 7 8) k (4 + nkT 4) (dots (Dt.set (X.thr o))) (TG X o 7 8) := by
  have := SB.atL [0, 1, 2, 3, 7, 8] (sortD_sb X hX o) (by decide) (fun i hi => by
    match i, hi with
    | 0, _ | 1, _ | 2, _ | 3, _ | 4, _ | 5, _ => simp [lk_cons]) k
  simpa [SV.rens, SV.ren, atN, OpD.cells_ren, Hp.ren, Ob.ren, omap_ren, nmap_ren] using this
set_option maxHeartbeats 4000000 in
theorem rthr_sb (X : Ix) (hX : X.small) (d : Dt) : SB Tryz.prog revoke_Index_Threats.f [.ptr 0 0, .agg d.cells] X.h0 4 (9 + nkT 4) fun r F => r = threatsV X d ∧ F = X.h0 := by
  refine revoke_Index_Threats.enter (by simp [SV.oks, SV.ok]) (X.ok0 (Nat.le_refl 4)) (by simp) ?_
  dsimp only [revoke_Index_Threats.s, Co.M, Co.G, Co.J, Co.H, Co.N, Co.F, Co.C, Co.Z, Co.B, Co.b8, Co.b32, Co.b64, Co.i6, Co.z8, Co.z29]
  have hl := rlevel_0 X hX d
  refine SW.seq ?_
  (refine SW.regL [0, 1, 3, 4, 5, 7, 15] mixed ?_; (repeat (first | refine RW.ro bq_tt (h := ?_) | refine RW.skip (h := ?_) | refine RW.op bq_tt (h := ?_) | refine RW.opN bq_tt (h := ?_) | refine RW.skip0 (h := ?_))); refine RW.nil ⟨conf_of (by kernel_rfl), Pruned.mk (h := ?_)⟩)
  refine SW.seq (SW.seq ?_)
  rcases hh : MM.has X.ops d with _ | _
  · have hlv : levelV X d = .tup [i64 0, i64 7] := by unfold levelV; rw [hh]; rfl
    rw [hlv] at hl
    (refine SW.regL [0, 1, 3, 4, 5, 7, 15] mixed ?_; (repeat (first | refine RW.ro bq_tt (h := ?_) | refine RW.skip (h := ?_) | refine RW.op bq_tt (h := ?_) | refine RW.opN bq_tt (h := ?_) | refine RW.skip0 (h := ?_) | (refine RW.callC (h := ?_); (first | refine CallP.mk bq_tt (hc := hl _) (h := ?_))))); refine RW.nil ⟨conf_of (by kernel_rfl), Pruned.mk (h := ?_)⟩)
    refine SW.seq ?_
    (refine SW.regL [0, 1, 3, 4, 5, 7, 15] mixed ?_; (repeat (first | refine RW.ro bq_tt (h := ?_) | refine RW.skip (h := ?_) | refine RW.op bq_tt (h := ?_) | refine RW.opN bq_tt (h := ?_) | refine RW.skip0 (h := ?_))); refine RW.nil ⟨conf_of (by kernel_rfl), Pruned.mk (h := ?_)⟩)
    refine SW.condT rfl (SW.seq ?_)
    (refine SW.regL [0, 1, 3, 4, 5, 7, 15] mixed ?_; (repeat (first | refine RW.ro bq_tt (h := ?_) | refine RW.skip (h := ?_) | refine RW.op bq_tt (h := ?_) | refine RW.opN bq_tt (h := ?_) | refine RW.skip0 (h := ?_))); refine RW.nil ⟨conf_of (by kernel_rfl), Pruned.mk (h := ?_)⟩)
    refine SW.weak id (st1 := ⟨[(4, .d .nils), (5, i64 7)], X.h0, 4 + (9 + nkT 4)⟩) (Weak.same (by show 4 ≤ 4 + (9 + nkT 4); omega) (by simp [EnvW, List.lookup, SV.ren, SV.ok]) (X.ok0 (by show 4 ≤ 4 + (9 + nkT 4); omega)) (fun y hy => ?_)) (SW.ret ?_)
    · simp only [Ix.h0, List.mem_cons, List.not_mem_nil, or_false] at hy
      rcases hy with rfl | rfl | rfl | rfl <;> rfl
    exact End.mk X.h0 (h3 := fun _ _ h => h) (h4 := ⟨by simp [threatsV, hh, retV], rfl⟩) (h6 := X.ok0 (by omega)) (h7 := Nat.le_refl _)
  · have hlv : levelV X d = .tup [.d (.int .i64 (((X.chn d).length : Int) - 1)), i64 0] := by unfold levelV; rw [hh]; rfl
    rw [hlv] at hl
    (refine SW.regL [0, 1, 3, 4, 5, 7, 15] mixed ?_; (repeat (first | refine RW.ro bq_tt (h := ?_) | refine RW.skip (h := ?_) | refine RW.op bq_tt (h := ?_) | refine RW.opN bq_tt (h := ?_) | refine RW.skip0 (h := ?_) | (refine RW.callC (h := ?_); (first | refine CallP.mk bq_tt (hc := hl _) (h := ?_))))); refine RW.nil ⟨conf_of (by kernel_rfl), Pruned.mk (h := ?_)⟩)
    refine SW.seq ?_
    (refine SW.regL [0, 1, 3, 4, 5, 7, 15] mixed ?_; (repeat (first | refine RW.ro bq_tt (h := ?_) | refine RW.skip (h := ?_) | refine RW.op bq_tt (h := ?_) | refine RW.opN bq_tt (h := ?_) | refine RW.skip0 (h := ?_))); refine RW.nil ⟨conf_of (by kernel_rfl), Pruned.mk (h := ?_)⟩)
    refine SW.condF rfl (SW.skip ?_)
    refine SW.seq ?_
    obtain ⟨o, ho⟩ : ∃ o, (MM.get X.ops d).getD OpD.zero = o := ⟨_, rfl⟩
    have hto : X.op d = o := ho
    have hthr : SCd Tryz.prog revoke_Index_threats.f [.ptr 0 0, .agg o.cells] X.h0 7 2 (.fn (.func revoke_Index_threats_1.f) [] [.ptr 7 0, .ptr 8 0]) ((8, .box 31 o.cells) :: (7, .box 53 [.ptr 0 0]) :: X.h0) := threats_0 X o 7
    have hs := sortD_78 X hX o
    (refine SW.regL [0, 1, 3, 4, 5, 7, 15] mixed ?_; (repeat (first | refine RW.ro (ho) (h := ?_) | refine RW.skip (h := ?_) | refine RW.op (ho) (h := ?_) | refine RW.opN (ho) (h := ?_) | refine RW.skip0 (h := ?_) | (refine RW.callC (h := ?_); (first | refine CallP.mk (ho) (hc := hthr) (h := ?_) | refine CallP.mk (ho) (hc := hs _) (h := ?_))))); refine RW.nil ⟨conf_of (by kernel_rfl), Pruned.mk (h := ?_)⟩)
    refine SW.ret ?_
    exact End.mk X.h0 (h3 := HSub.cons rfl (HSub.cons rfl (HSub.cons rfl (HSub.cons rfl (HSub.nil _))))) (h4 := ⟨by unfold threatsV; rw [hh, hto]; rfl, rfl⟩) (h6 := X.ok0 (by omega)) (h7 := by show 4 + (9 + nkT 4) ≤ 7 + 2 + (4 + nkT 4); omega)
theorem rthr_14 (X : Ix) (hX : X.small) (d : Dt) (k : Nat) : SCd Tryz.prog revoke_Index_Threats.f [.ptr 14 0, .agg d.cells] X.h14 k (9 + nkT 4) (threatsV X d) X.h14 :=
  Ix.at14 (rthr_sb X hX d) (fun k => by simp [SV.rens, SV.ren, atN, Dt.cells_ren]) (fun k => by unfold threatsV; split <;> simp [SV.rens, SV.ren]) k
end Go.Proofs.YtlgfknfdfnaedaaGreat
