/-
  Dots: the iterator over a set's dots.
-/
import Derived.Test.YtkklgckpaajoeaaM03a
import Derived.Test.YtkklgckpaajoeaaL03
set_option linter.unusedSectionVars false
set_option linter.unusedVariables false
set_option linter.unusedSimpArgs false
namespace Go.Proofs.Ytkklgckpaajoeaa
open Go.Sl Go.Proofs
attribute [local irreducible] SW RW SCd SC CallP Pruned

/-- How far the iterator is. -/
structure KInv {σ : Type} (Fh : σ → Hp) (Step : σ → Dt → σ → Prop) (go : σ → Bool) (nky b m k : Nat) (L : DMap) (s0 s : σ) (xs : DMap) (kk : Nat) : Prop where
  p1 : OnBy Step s0 (MM.keys xs) s
  p2 : go s = true
  p3 : ∀ x, x ∈ xs → x ∈ L
  p4 : (xs.map (·.1)).Nodup
  p5 : k + 1 ≤ kk
  p6 : kk ≤ k + 1 + xs.length * (1 + nky)
  p7 : (Fh s).ok (fun n => decide (n < kk)) = true
  p8 : lk (Fh s) b = none
  p9 : lk (Fh s) m = none
  p10 : lk (Fh s) k = none

set_option maxHeartbeats 1000000 in
theorem keys1_sb {σ : Type} {Fh : σ → Hp} {Step : σ → Dt → σ → Prop} {go : σ → Bool} {nky y b m k c : Nat} {L : DMap} (hwf : MM.wf L c) (s0 : σ) (hy : YieldOk Try.prog y (fun x : Dt => .agg x.cells) nky Fh Step go s0 L.length) (h0 : (Fh s0).ok (fun n => decide (n < k)) = true)
    (hb : b < k) (hm : m < k) (hbm : b ≠ m) (hdb : lk (Fh s0) b = none) (hdm : lk (Fh s0) m = none) (hgo : go s0 = true) :
    SB Try.prog maps_Keys_dot_set_api_Dot_int_1.f [.yl y, .ptr b 0] ((b, .box 56 [.mp m]) :: (m, .map (mapE Dt.cells iv L) c) :: Fh s0) k (1 + L.length * (1 + nky))
      fun r F => r = .tup [] ∧ ∃ (xs : DMap) (s' : σ), OnBy Step s0 (MM.keys xs) s' ∧ (∀ x, x ∈ xs → x ∈ L) ∧ (xs.map (·.1)).Nodup ∧ (go s' = true → ∀ x, x ∈ L → x ∈ xs) ∧ (lk (Fh s') b = none ∧ lk (Fh s') m = none) ∧ F = (b, .box 56 [.mp m]) :: (m, .map (mapE Dt.cells iv L) c) :: Fh s' := by
  have hyk : y < k := by
    obtain ⟨ob, ho⟩ := Option.ne_none_iff_exists'.1 (hy.isin s0)
    simpa using (Hp.ok_lk h0 ho).1
  refine maps_Keys_dot_set_api_Dot_int_1.enter (by simp [SV.ok, SV.oks]; omega) (by simp only [Hp.ok, List.all_cons, Ob.ok, SV.oks, SV.ok, dmap_ok, Bool.and_true, Bool.and_eq_true, decide_eq_true_eq]; exact ⟨⟨hb, hm⟩, hm, h0⟩) (by simp) ?_
  unfold maps_Keys_dot_set_api_Dot_int_1.s
  have f1 := ne4 (show m ≠ b by omega)
  have f2 := ne4 (show k ≠ b by omega)
  have f3 := ne4 (show k ≠ m by omega)
  have f4 : List.lookup k (Fh s0) = none := by
    cases hh : lk (Fh s0) k with
    | none => exact hh
    | some ob => have := (Hp.ok_lk h0 hh).1; simp at this
  refine SW.seq ?_
  (refine SW.regL [0, 1, 3, 5, 7, 13] mixed ?_; (repeat (first | refine RW.ro (And.intro (f1) (And.intro (f2) (And.intro (f3) (f4)))) (h := ?_) | refine RW.skip (h := ?_) | refine RW.op (And.intro (f1) (And.intro (f2) (And.intro (f3) (f4)))) (h := ?_) | refine RW.opN (And.intro (f1) (And.intro (f2) (And.intro (f3) (f4)))) (h := ?_) | refine RW.skip0 (h := ?_))); refine RW.nil ⟨by kernel_rfl, Pruned.mk (h := ?_)⟩)
  refine SW.block (SW.mapLoop (es := fun _ => mapE Dt.cells iv L) (c := fun _ => c) (nit := fun _ => k) (nm := fun _ => m) (since := fun _ => c) (sst := fun _ => c)
    (α := {i : σ × DMap × Nat // KInv Fh Step go nky b m k L s0 i.1 i.2.1 i.2.2})
    (fun i => ⟨[(5, .it k), (0, .yl y), (1, .ptr b 0)], (k, .iter (some m) c (i.1.2.1.map (·.1)) c) :: (b, .box 56 [.mp m]) :: (m, .map (mapE Dt.cells iv L) c) :: Fh i.1.1, i.1.2.2⟩)
    (fun i => unseen (mapE Dt.cells iv L) (i.1.2.1.map (·.1))) ⟨(s0, [], k + 1), ⟨.nil, hgo, by simp, by simp, by simp, by simp, Hp.ok_less (by simp) h0, hdb, hdm, f4⟩⟩ id (seen := fun i => i.1.2.1.map (·.1)) ?_ (fun i => by simp [List.lookup]) (fun i => by simp [lk_cons]) (fun i => ?_) (fun i => by omega) (fun i e he => ?_) (fun i => Nat.le_refl _) (fun i hall => ?_) (fun i e he hs => ?_))
  · refine Weak.same (by simp) (by simp [EnvW, argE, List.lookup, SV.ren, SV.ok]; omega) ?_ ?_
    · simp only [Hp.ok, List.all_cons, Ob.ok, SV.oks, SV.ok, dmap_ok, Bool.and_true, Bool.and_eq_true, decide_eq_true_eq]
      exact ⟨⟨by omega, by omega⟩, ⟨by omega, by omega⟩, by omega, Hp.ok_less (by simp) h0⟩
    · intro x hx
      simp only [List.mem_cons] at hx
      rcases hx with rfl | rfl | rfl | hx
      · simp [lk_cons]
      · simp [lk_cons, f1, f2, f3]
      · simp [lk_cons, f1, f2, f3]
      · have := hy.nd s0 x hx
        have h1 : x.1 ≠ k := fun e => by rw [e] at this; rw [show lk (Fh s0) k = none from f4] at this; cases this
        have h2 : x.1 ≠ b := fun e => by rw [e, hdb] at this; cases this
        have h3 : x.1 ≠ m := fun e => by rw [e, hdm] at this; cases this
        simp [lk_cons, h1, h2, h3, this]
  · simp [lk_cons, f1, f2, f3]
  · obtain ⟨x, hx, rfl⟩ := mapE_mem he
    exact hwf.old x hx
  · obtain ⟨⟨s, xs, kk⟩, hi⟩ := i
    have hi : KInv Fh Step go nky b m k L s0 s xs kk := hi
    have hi' := hi
    obtain ⟨p1, p2, p3, p4, p5, p6, p7, p8, p9, p10⟩ := hi'
    dsimp only at *
    have hsub : xs.length ≤ L.length := by
      have := p4.length_le_of_subset (l₂ := L.map (·.1)) (fun t ht => by
        obtain ⟨x, hx, rfl⟩ := List.mem_map.1 ht
        exact List.mem_map.2 ⟨x, p3 x hx, rfl⟩)
      simpa using this
    have hmul : xs.length * (1 + nky) ≤ L.length * (1 + nky) := Nat.mul_le_mul_right _ hsub
    have hhp : ∀ kx, kk ≤ kx → Hp.ok (fun n => decide (n < kx)) ((b, Ob.box 56 [.mp m]) :: (m, .map (mapE Dt.cells iv L) c) :: Fh s) = true := fun kx hkx => by
      simp only [Hp.ok, List.all_cons, Ob.ok, SV.oks, SV.ok, dmap_ok, Bool.and_true, Bool.and_eq_true, decide_eq_true_eq]
      exact ⟨⟨by omega, by omega⟩, by omega, Hp.ok_less hkx p7⟩
    refine ⟨⟨[], (b, .box 56 [.mp m]) :: (m, .map (mapE Dt.cells iv L) c) :: Fh s, k + (1 + L.length * (1 + nky))⟩, id, Weak.same (Nat.le_add_right _ _) trivial (hhp _ (by show kk ≤ k + (1 + L.length * (1 + nky)); omega)) ?_, ?_⟩
    · intro x hx
      simp only [List.mem_cons] at hx
      rcases hx with rfl | rfl | hx
      · simp [lk_cons, f1, f2, f3]
      · simp [lk_cons, f1, f2, f3]
      · have := hy.nd s x hx
        have h1 : x.1 ≠ k := fun e => by rw [e, p10] at this; cases this
        have h2 : x.1 ≠ b := fun e => by rw [e, p8] at this; cases this
        have h3 : x.1 ≠ m := fun e => by rw [e, p9] at this; cases this
        simp [lk_cons, h1, h2, h3, this]
    · rw [if_pos rfl]
      refine End.mk ((b, .box 56 [.mp m]) :: (m, .map (mapE Dt.cells iv L) c) :: Fh s) (h3 := fun _ _ h => h) (h4 := ⟨rfl, xs, s, p1, p3, p4, fun _ x hx => ?_, ⟨p8, p9⟩, rfl⟩) (h6 := hhp _ (by omega)) (h7 := Nat.le_refl _)
      have := hall _ (List.mem_map.2 ⟨x, hx, rfl⟩)
      simp only [List.contains_iff_mem] at this
      obtain ⟨z, hz, e⟩ := List.mem_map.1 this
      have : z = x := MM.time_inj hwf.times (p3 z hz) hx e
      rw [← this]; exact hz
  · obtain ⟨⟨s, xs, kk⟩, hi⟩ := i
    have hi : KInv Fh Step go nky b m k L s0 s xs kk := hi
    have hi' := hi
    obtain ⟨p1, p2, p3, p4, p5, p6, p7, p8, p9, p10⟩ := hi'
    dsimp only at *
    obtain ⟨x, hx, rfl⟩ := mapE_mem he
    dsimp only at hs
    have g1 := ne4 (show kk ≠ k by omega)
    have g2 := ne4 (show kk ≠ b by omega)
    have g3 := ne4 (show kk ≠ m by omega)
    have g4 : List.lookup kk (Fh s) = none := Hp.out p7 (Nat.le_refl _)
    have g5 : (xs.map (·.1) ++ [x.1]).getLast? = some x.1 := by simp
    have g6 := mapE_find (kc := Dt.cells) (vs := iv) hwf.times hx
    rw [hset_head]
    dsimp only
    refine SW.block (SW.seq ?_)
    (refine SW.regL [0, 1, 3, 5, 7, 13] mixed ?_; (repeat (first | refine RW.ro (And.intro (f1) (And.intro (f2) (And.intro (f3) (And.intro (g1) (And.intro (g2) (And.intro (g3) (And.intro (g4) (And.intro (g5) (g6))))))))) (h := ?_) | refine RW.skip (h := ?_) | refine RW.op (And.intro (f1) (And.intro (f2) (And.intro (f3) (And.intro (g1) (And.intro (g2) (And.intro (g3) (And.intro (g4) (And.intro (g5) (g6))))))))) (h := ?_) | refine RW.opN (And.intro (f1) (And.intro (f2) (And.intro (f3) (And.intro (g1) (And.intro (g2) (And.intro (g3) (And.intro (g4) (And.intro (g5) (g6))))))))) (h := ?_) | refine RW.skip0 (h := ?_))); refine RW.nil ⟨by kernel_rfl, Pruned.mk (h := ?_)⟩)
    refine SW.seq (SW.ofN ?_)
    (repeat (first | refine SWn.op (And.intro (g1) (And.intro (g2) (g3))) (h := ?_) | refine SWn.opN (And.intro (g1) (And.intro (g2) (g3))) (h := ?_) | refine SWn.skip (h := ?_)))
    have hokk : (Fh s).ok (fun n => decide (n < kk + 1)) = true := Hp.ok_less (by omega) p7
    have hnd : ∀ s', (∀ n, lk (Fh s') n ≠ none → lk (Fh s) n ≠ none ∨ (kk + 1 ≤ n ∧ n < kk + 1 + nky)) → lk (Fh s') b = none ∧ lk (Fh s') m = none ∧ lk (Fh s') k = none := fun s' h => by
      refine ⟨?_, ?_, ?_⟩
      · exact Classical.byContradiction fun hn => (h b hn).elim (fun h => h p8) (fun h => by omega)
      · exact Classical.byContradiction fun hn => (h m hn).elim (fun h => h p9) (fun h => by omega)
      · exact Classical.byContradiction fun hn => (h k hn).elim (fun h => h p10) (fun h => by omega)
    have hxs : x ∉ xs := fun h => by
      have : (xs.map (·.1)).contains x.1 = true := by simp only [List.contains_iff_mem]; exact List.mem_map.2 ⟨x, h, rfl⟩
      rw [this] at hs; cases hs
    have hxt : x.1 ∉ xs.map (·.1) := fun h => by
      have : (xs.map (·.1)).contains x.1 = true := by simpa only [List.contains_iff_mem] using h
      rw [this] at hs; cases hs
    have q3 : ∀ z, z ∈ xs ++ [x] → z ∈ L := fun z hz => by
      rcases List.mem_append.1 hz with hz | hz
      · exact p3 z hz
      · rw [List.mem_singleton.1 hz]; exact hx
    have q4 : ((xs ++ [x]).map (·.1)).Nodup := by
      rw [List.map_append, List.nodup_append]
      refine ⟨p4, by simp, fun a ha b' hb' => ?_⟩
      simp only [List.map_cons, List.map_nil, List.mem_singleton] at hb'
      intro e
      exact hxt (by rw [← hb', ← e]; exact ha)
    have hsub2 : (xs ++ [x]).length ≤ L.length := by
      have := q4.length_le_of_subset (l₂ := L.map (·.1)) (fun t ht => by
        obtain ⟨z, hz, rfl⟩ := List.mem_map.1 ht
        exact List.mem_map.2 ⟨z, q3 z hz, rfl⟩)
      simpa using this
    have hlt : (MM.keys xs).length < L.length := by
      simp only [List.length_append, List.length_singleton] at hsub2
      simp only [MM.keys, List.length_map]; omega
    have hsub : HSub (Fh s) ((kk, Ob.box 24 x.2.1.cells) :: (k, Ob.iter (some m) c (xs.map (·.1) ++ [x.1]) c) :: (b, Ob.box 56 [.mp m]) :: (m, .map (mapE Dt.cells iv L) c) :: Fh s) := fun n ob hn => by
      have h1 : n ≠ k := fun e => by rw [e, p10] at hn; cases hn
      have h2 : n ≠ b := fun e => by rw [e, p8] at hn; cases hn
      have h3 : n ≠ m := fun e => by rw [e, p9] at hn; cases hn
      have h4 : n ≠ kk := fun e => by rw [e, show lk (Fh s) kk = none from g4] at hn; cases hn
      simp [lk_cons, h1, h2, h3, h4, hn]
    refine SWn.yield (by simp only [ev, List.lookup, Nat.reduceBEq] <;> rfl) (by simp only [ev, evs, List.lookup, Nat.reduceBEq] <;> rfl) (hy.isin s) (hy.call s _ x.2.1 (kk + 1) p1 hlt hokk p2) hsub ?_
    rintro v F' ⟨s', hstep, rfl, rfl, hok', hnm⟩
    obtain ⟨n1, n2, n3⟩ := hnd s' hnm
    rw [upd_eq]
    show SWn Try.prog 14 k _ ⟨(12, .d (.bool (go s'))) :: _, _, _⟩ _
    (repeat (first | refine SWn.op bq_tt (h := ?_) | refine SWn.opN bq_tt (h := ?_) | refine SWn.skip (h := ?_)))
    refine SWn.nil ?_
    have hlk := lk_hmrg (ro := false) hsub (F' := Fh s') (fun h => by cases h)
    have hhp : ∀ kx, kk + 1 + nky ≤ kx → Hp.ok (fun n => decide (n < kx)) ((b, Ob.box 56 [.mp m]) :: (m, .map (mapE Dt.cells iv L) c) :: Fh s') = true := fun kx hkx => by
      simp only [Hp.ok, List.all_cons, Ob.ok, SV.oks, SV.ok, dmap_ok, Bool.and_true, Bool.and_eq_true, decide_eq_true_eq]
      exact ⟨⟨by omega, by omega⟩, by omega, Hp.ok_less hkx hok'⟩
    have hin : ∀ z, z ∈ ((b, Ob.box 56 [.mp m]) :: (m, .map (mapE Dt.cells iv L) c) :: Fh s') → mrg (lk ((kk, Ob.box 24 x.2.1.cells) :: (k, Ob.iter (some m) c (xs.map (·.1) ++ [x.1]) c) :: (b, Ob.box 56 [.mp m]) :: (m, .map (mapE Dt.cells iv L) c) :: Fh s)) (lk (Fh s)) (lk (Fh s')) z.1 = some z.2 := by
      intro z hz
      simp only [List.mem_cons] at hz
      rcases hz with rfl | rfl | hz
      · rw [mrg_out p8 n1]; simp [lk_cons, f1, f2, f3, g1, g2, g3]
      · rw [mrg_out p9 n2]; simp [lk_cons, f1, f2, f3, g1, g2, g3]
      · have := hy.nd s' z hz
        rw [mrg_in (.inr (by rw [this]; simp)), this]
    have q1 : OnBy Step s0 (MM.keys (xs ++ [x])) s' := by
      have := OnBy.snoc p1 hstep
      simpa [MM.keys] using this
    have q6 : kk + 1 + nky ≤ k + 1 + (xs ++ [x]).length * (1 + nky) := by
      have e : (xs ++ [x]).length * (1 + nky) = xs.length * (1 + nky) + (1 + nky) := by rw [List.length_append, List.length_singleton, Nat.add_mul, Nat.one_mul]
      rw [e]; omega
    have hmul : (xs ++ [x]).length * (1 + nky) ≤ L.length * (1 + nky) := Nat.mul_le_mul_right _ hsub2
    cases hg : go s' with
    | true =>
      refine SW.condF (by simp [ev, List.lookup, hg]) (SW.skip ?_)
      refine ⟨⟨(s', xs ++ [x], kk + 1 + nky), q1, hg, q3, q4, by show k + 1 ≤ kk + 1 + nky; omega, q6, hok', n1, n2, n3⟩, id, ?_, Weak.same (by show k ≤ kk + 1 + nky; omega) (by simp [EnvW, List.lookup, SV.ren, SV.ok]; omega) ?_ ?_⟩
      · have := unseen_lt he hs
        simpa using this
      · have := hhp (kk + 1 + nky) (Nat.le_refl _)
        simp only [Hp.ok, List.all_cons, Ob.ok, Bool.and_eq_true, decide_eq_true_eq] at this ⊢
        exact ⟨⟨by omega, by omega⟩, this⟩
      · intro z hz
        rcases List.mem_cons.1 hz with rfl | hz
        · have : lk (hmrg false ((kk, Ob.box 24 x.2.1.cells) :: (k, Ob.iter (some m) c (xs.map (·.1) ++ [x.1]) c) :: (b, Ob.box 56 [.mp m]) :: (m, .map (mapE Dt.cells iv L) c) :: Fh s) (Fh s) (Fh s')) k = some (.iter (some m) c (xs.map (·.1) ++ [x.1]) c) := by
            rw [hlk, mrg_out p10 n3]; simp [lk_cons, g1]
          simpa [hmrg] using this
        · have : lk (hmrg false ((kk, Ob.box 24 x.2.1.cells) :: (k, Ob.iter (some m) c (xs.map (·.1) ++ [x.1]) c) :: (b, Ob.box 56 [.mp m]) :: (m, .map (mapE Dt.cells iv L) c) :: Fh s) (Fh s) (Fh s')) z.1 = some z.2 := by
            rw [hlk]; exact hin z hz
          exact this
    | false =>
      refine SW.condT (by simp [ev, List.lookup, hg]) ?_
      refine SW.weak id (st1 := ⟨[], (b, .box 56 [.mp m]) :: (m, .map (mapE Dt.cells iv L) c) :: Fh s', k + (1 + L.length * (1 + nky))⟩) (Weak.same (Nat.le_add_right _ _) trivial (hhp _ (by show kk + 1 + nky ≤ k + (1 + L.length * (1 + nky)); omega)) fun z hz => ?_) (SW.ret ?_)
      · have : lk (hmrg false ((kk, Ob.box 24 x.2.1.cells) :: (k, Ob.iter (some m) c (xs.map (·.1) ++ [x.1]) c) :: (b, Ob.box 56 [.mp m]) :: (m, .map (mapE Dt.cells iv L) c) :: Fh s) (Fh s) (Fh s')) z.1 = some z.2 := by
          rw [hlk]; exact hin z hz
        exact this
      · refine End.mk ((b, .box 56 [.mp m]) :: (m, .map (mapE Dt.cells iv L) c) :: Fh s') (h3 := fun _ _ h => h) (h4 := ⟨rfl, xs ++ [x], s', q1, q3, q4, fun (h : go s' = true) => absurd h (by rw [hg]; decide), ⟨n1, n2⟩, rfl⟩) (h6 := hhp _ (by omega)) (h7 := Nat.le_refl _)
end Go.Proofs.Ytkklgckpaajoeaa

/-
  Dots: a set's dots, in a row.
-/
set_option linter.unusedSectionVars false
set_option linter.unusedVariables false
set_option linter.unusedSimpArgs false
namespace Go.Proofs.Ytkklgckpaajoeaa
open Go.Sl Go.Proofs
attribute [local irreducible] SW RW SCd SC CallP Pruned

/-- A row that grows: its dots, its name. -/
structure RowC (y bx : Nat) where
  l : List Dt
  rn : Nat
  h1 : rn ≠ y
  h2 : rn ≠ bx
def rowC (y bx N : Nat) (ts ps : List Nat) (ca cb : Code) (s : RowC y bx) : Hp :=
  [(y, .rcd N ts [.ptr bx 0] ps ca cb .ready none), (bx, .box 39 [.gs s.rn s.l.length]), (s.rn, .arr 24 2 s.l.length ((s.l.flatMap Dt.ds).map .d))]

set_option maxHeartbeats 1000000 in
theorem appendBody {y bx B : Nat} (hyb : y ≠ bx) (s0 : RowC y bx) (hB : s0.l.length + B < 4611686018427) {ca cb : Code} (hca : cK Try.prog 13 ca = some (.reg [⟨some 5, .alloc 24 [.d (.int .u8 0), .d (.int .u32 0)], none⟩, ⟨none, .store 2 (.t 5) (.t 7), none⟩] (fullB 2) false))
    (hcb : cK Try.prog 13 cb = some (.block 1 (.reg [⟨some 8, .load none (.t 2), none⟩, ⟨some 9, .load (some 2) (.t 5), none⟩, ⟨some 10, .bsl 24 2 1 [.d (.int .u8 0), .d (.int .u32 0)] [(0, 2, .t 9)], none⟩, ⟨some 11, .app 24 2 8 (.t 8) (.t 10), none⟩, ⟨none, .store 1 (.t 2) (.t 11), none⟩] (fullB 5) false))) :
    YieldOk Try.prog y (fun x : Dt => .agg x.cells) 2 (rowC y bx 13 [2] [7] ca cb) (fun s x s' => s'.l = s.l ++ [x]) (fun _ => true) s0 B := by
  refine ⟨fun s => by simp [rowC, lk_cons], fun s x hx => ?_, fun s xs x k hon hlt hok _ => ?_⟩
  · have f1 := ne4 hyb
    have f2 := ne4 s.h1
    have f3 := ne4 s.h2
    simp only [rowC, List.mem_cons, List.not_mem_nil, or_false] at hx
    rcases hx with rfl | rfl | rfl <;> simp [rowC, lk_cons, f1, f2, f3]
  · have hlen : s.l.length = s0.l.length + xs.length := by
      clear hlt hok
      induction hon with
      | nil => rfl
      | snoc _ h ih => rw [h]; simp [ih]; omega
    obtain ⟨l, rn, h1, h2⟩ := s
    simp only at hlen
    simp only [rowC, Hp.ok, List.all_cons, List.all_nil, Ob.ok, SV.oks, SV.ok, SV.oks_d, Bool.and_true, Bool.and_eq_true, decide_eq_true_eq] at hok
    obtain ⟨⟨k1, _⟩, ⟨k2, _⟩, k3⟩ := hok
    have f1 := ne4 hyb
    have f2 := ne4 h1
    have f3 := ne4 h2
    have g1 := ne4 (show k ≠ y by omega)
    have g2 := ne4 (show k ≠ bx by omega)
    have g3 := ne4 (show k ≠ rn by omega)
    have g4 := ne4 (show k + 1 ≠ k by omega)
    have g5 := ne4 (show k + 1 ≠ y by omega)
    have g6 := ne4 (show k + 1 ≠ bx by omega)
    have g7 := ne4 (show k + 1 ≠ rn by omega)
    have e1 : (List.flatMap Dt.ds l ++ x.ds).map SV.d = (List.flatMap Dt.ds l).map SV.d ++ x.cells := by simp [Dt.map_ds]
    refine SYB.here (fun n => n == y || n == bx || n == rn) (SYB.of_code (cs := [.ptr bx 0]) (H := [(bx, .box 39 [.gs rn l.length]), (rn, .arr 24 2 l.length ((l.flatMap Dt.ds).map .d))]) hca hcb rfl rfl rfl (by simp) k1 (by simp [lk_cons, lk_nil, f1, f2]) (by simp [SV.oks, SV.ok]) (by simp [Hp.ok, Ob.ok, SV.oks, SV.ok, SV.oks_d]; omega) (by simp [SV.oks, SV.ok]; omega) ?_) ?_ (by simp [SV.oks, SV.ok]) (by simp [rowC, Hp.ok, Ob.ok, SV.oks, SV.ok, SV.oks_d]) ?_
    · skip
      show Go.Sl.SW _ _ _ _ ⟨[(7, .agg x.cells), (2, .ptr bx 0)], _, _⟩ _
      (refine SW.regL [2, 5, 7] mixed ?_; (repeat (first | refine RW.ro (And.intro (f1) (And.intro (f2) (And.intro (f3) (And.intro (g1) (And.intro (g2) (g3)))))) (h := ?_) | refine RW.skip (h := ?_) | refine RW.op (And.intro (f1) (And.intro (f2) (And.intro (f3) (And.intro (g1) (And.intro (g2) (g3)))))) (h := ?_) | refine RW.opN (And.intro (f1) (And.intro (f2) (And.intro (f3) (And.intro (g1) (And.intro (g2) (g3)))))) (h := ?_) | refine RW.skip0 (h := ?_))); refine RW.nil ⟨by kernel_rfl, Pruned.mk (h := ?_)⟩)
      refine ⟨rfl, SW.block ?_⟩
      (refine SW.regL [2, 5, 7] mixed ?_; (repeat (first | refine RW.ro (And.intro (f1) (And.intro (f2) (And.intro (f3) (And.intro (g1) (And.intro (g2) (And.intro (g3) (And.intro (g4) (And.intro (g5) (And.intro (g6) (g7)))))))))) (h := ?_) | refine RW.skip (h := ?_) | refine RW.op (And.intro (f1) (And.intro (f2) (And.intro (f3) (And.intro (g1) (And.intro (g2) (And.intro (g3) (And.intro (g4) (And.intro (g5) (And.intro (g6) (g7)))))))))) (h := ?_) | refine RW.opN (And.intro (f1) (And.intro (f2) (And.intro (f3) (And.intro (g1) (And.intro (g2) (And.intro (g3) (And.intro (g4) (And.intro (g5) (And.intro (g6) (g7)))))))))) (h := ?_) | refine RW.skip0 (h := ?_))); refine RW.nil ⟨by kernel_rfl, Pruned.mk (h := ?_)⟩)
      have e2 : ((l ++ [x]).flatMap Dt.ds).map SV.d = (List.flatMap Dt.ds l).map SV.d ++ x.ds.map SV.d := by simp
      refine ⟨none, true, [(bx, .box 39 [.gs (k + 1) (l ++ [x]).length]), (k + 1, .arr 24 2 (l ++ [x]).length (((l ++ [x]).flatMap Dt.ds).map .d))], ⟨rfl, rfl⟩, ?_, ?_, by simp, ⟨⟨l ++ [x], k + 1, by omega, by omega⟩, rfl, rfl, rfl, ?_, ?_⟩⟩
      · refine HSub.cons ?_ (HSub.cons ?_ (HSub.nil _))
        · simp [lk_cons, f1, f2, f3, g1, g2, g3, g4, g5, g6, g7, spl]
        · rw [e2]; simp [lk_cons]
      · simp [Hp.ok, Ob.ok, SV.oks, SV.ok, SV.oks_d, -List.flatMap_append, -List.map_append]; omega
      · simp [rowC, Hp.ok, Ob.ok, SV.oks, SV.ok, SV.oks_d, -List.flatMap_append, -List.map_append]; omega
      · intro n hn
        by_cases hy' : n = y
        · exact .inl (by simp [rowC, lk_cons, hy'])
        · by_cases hbx : n = bx
          · exact .inl (by simp [rowC, lk_cons, hbx, f1])
          · refine .inr ?_
            have : n = k + 1 := Classical.byContradiction fun hne => hn (by simp [rowC, lk_cons, lk_nil, hy', hbx, hne])
            omega
    · intro n hn
      simp only [Bool.or_eq_true, beq_iff_eq] at hn
      rcases hn with (rfl | rfl) | rfl <;> simp [rowC, lk_cons, f1, f2, f3]
    · rintro r F' ⟨s', hs', rfl, rfl, hok', hnm⟩ _ _
      obtain ⟨l', rn', h1', h2'⟩ := s'
      refine ⟨rfl, ?_⟩
      simp [rowC, Hp.ok, Ob.ok, SV.oks, SV.ok, SV.oks_d]
      have hh := hnm rn' (by simp [rowC, lk_cons, h1', h2'])
      rcases hh with hh | ⟨hh1, hh2⟩
      · have : rn' = rn := by
          refine Classical.byContradiction fun hne => hh ?_
          simp [rowC, lk_cons, lk_nil, h1', h2', hne]
        simp [this]
      · simp [hh1]; omega
end Go.Proofs.Ytkklgckpaajoeaa

/-
  Dots: a set's dots, in a row: slices.AppendSeq, slices.Collect.
-/
set_option linter.unusedSectionVars false
set_option linter.unusedVariables false
set_option linter.unusedSimpArgs false
namespace Go.Proofs.Ytkklgckpaajoeaa
open Go.Sl Go.Proofs
attribute [local irreducible] SW RW SCd SC CallP Pruned

theorem nodup_of_map {α β : Type} (f : α → β) : ∀ {l : List α}, (l.map f).Nodup → l.Nodup
  | [], _ => List.nodup_nil
  | x :: l, h => by
    simp only [List.map_cons, List.nodup_cons] at h ⊢
    exact ⟨fun hx => h.1 (List.mem_map.2 ⟨x, hx, rfl⟩), nodup_of_map f h.2⟩
theorem perm_of_seen {L xs : DMap} {c : Nat} (hwf : MM.wf L c) (h1 : ∀ x, x ∈ xs → x ∈ L) (h2 : (xs.map (·.1)).Nodup) (h3 : ∀ x, x ∈ L → x ∈ xs) : (MM.keys xs).Perm (MM.keys L) :=
  ((List.perm_ext_iff_of_nodup (nodup_of_map _ h2) (nodup_of_map _ hwf.times)).2 fun a => ⟨h1 a, h3 a⟩).map _

def mapH (b m : Nat) (L : DMap) (c : Nat) : Hp := [(b, .box 56 [.mp m]), (m, .map (mapE Dt.cells iv L) c)]
theorem onBy_row {y bx : Nat} {s0 s : RowC y bx} {xs : List Dt} (h : OnBy (fun (s : RowC y bx) x s' => s'.l = s.l ++ [x]) s0 xs s) : s.l = s0.l ++ xs := by
  induction h with
  | nil => simp
  | snoc _ h ih => rw [h, ih]; simp

set_option maxHeartbeats 1000000 in
theorem appendSeq_ok {L : DMap} {c : Nat} (hwf : MM.wf L c) (hL : L.length < 1000000000) :
    SB Try.prog slices_AppendSeq_Lapi_Dot_api_Dot.f [.d .nils, .fn (.func maps_Keys_dot_set_api_Dot_int_1.f) [] [.ptr 0 0]] (mapH 0 1 L c) 2 1
      fun r F => r = .gs 2 L.length ∧ ∃ l : List Dt, l.Perm (MM.keys L) ∧ F = (2, .arr 24 2 L.length ((l.flatMap Dt.ds).map .d)) :: mapH 0 1 L c := by
  refine slices_AppendSeq_Lapi_Dot_api_Dot.enter (by simp [SV.ok, SV.oks]) (by simp [mapH, Hp.ok, Ob.ok, SV.oks, SV.ok, dmap_ok]) (by simp) ?_
  unfold slices_AppendSeq_Lapi_Dot_api_Dot.s
  refine SW.nilrow 0 24 2 rfl ?_
  simp only [mapH]
  refine SW.seq ?_
  (refine SW.regL [0, 1, 2, 4, 5, 6, 7] mixed ?_; (repeat (first | refine RW.ro bq_tt (h := ?_) | refine RW.skip (h := ?_) | refine RW.op bq_tt (h := ?_) | refine RW.opN bq_tt (h := ?_) | refine RW.skip0 (h := ?_))); refine RW.nil ⟨by kernel_rfl, Pruned.mk (h := ?_)⟩)
  refine SW.seq (SW.seq ?_)
  (refine SW.regL [0, 1, 2, 4, 5, 6, 7] mixed ?_; (repeat (first | refine RW.ro bq_tt (h := ?_) | refine RW.skip (h := ?_) | refine RW.op bq_tt (h := ?_) | refine RW.opN bq_tt (h := ?_) | refine RW.skip0 (h := ?_))); refine RW.nil ⟨by kernel_rfl, Pruned.mk (h := ?_)⟩)
  refine SW.block (SW.rfun (nk := 1 + L.length * (1 + 2)) [2] [.ptr 3 0] rfl ⟨rfl, trivial⟩ fun ca cb hca hcb => ?_)
  let s0 : RowC 4 3 := ⟨[], 2, by decide, by decide⟩
  have hy := appendBody (y := 4) (bx := 3) (B := L.length) (by decide) s0 (by simp [s0]; omega) hca hcb
  have hsb := keys1_sb (y := 4) (b := 0) (m := 1) (k := 5) hwf s0 hy (by simp [rowC, s0, Hp.ok, Ob.ok, SV.oks, SV.ok]) (by decide) (by decide) (by decide) (by simp [rowC, s0, lk_cons, lk_nil]) (by simp [rowC, s0, lk_cons, lk_nil]) rfl
  have hsubF : HSub ((0, .box 56 [.mp 1]) :: (1, .map (mapE Dt.cells iv L) c) :: rowC 4 3 13 [2] [7] ca cb s0) ((4, .rcd 13 [2] [.ptr 3 0] [7] ca cb .ready none) :: [(3, .box 39 [.gs 2 0]), (2, .arr 24 2 0 []), (0, .box 56 [.mp 1]), (1, .map (mapE Dt.cells iv L) c)]) := by
    intro n ob hn
    match n with
    | 0 | 1 | 2 | 3 | 4 => simpa [rowC, s0, lk_cons] using hn
    | n + 5 => simp [rowC, s0, lk_cons, lk_nil] at hn
  have hsc := (hsb.here (fun n => decide (n < 5)) (fun n hn => ?_) (by simp [SV.oks, SV.ok]) (by simp [rowC, s0, Hp.ok, Ob.ok, SV.oks, SV.ok, dmap_ok]) ?_).frame hsubF
  · refine hsc.mono ?_
    rintro r F' ⟨F1, ⟨rfl, xs, s', hon, hin, hnd, hall, ⟨hn0, hn1⟩, rfl⟩, rfl⟩
    have hl := onBy_row hon
    have hperm := perm_of_seen hwf hin hnd (hall rfl)
    obtain ⟨l, rn, hr1, hr2⟩ := s'
    have hl : l = MM.keys xs := by simpa [s0] using hl
    have hn0 : rn ≠ 0 := fun e => by simp [rowC, e, lk_cons] at hn0
    have hn1 : rn ≠ 1 := fun e => by simp [rowC, e, lk_cons] at hn1
    have hll : l.length = L.length := by rw [hl, hperm.length_eq]; simp [MM.keys]
    rw [← hl] at hperm
    have hlk := lk_hmrg (ro := false) (h := (4, .rcd 13 [2] [.ptr 3 0] [7] ca cb .ready none) :: [(3, .box 39 [.gs 2 0]), (2, .arr 24 2 0 []), (0, .box 56 [.mp 1]), (1, .map (mapE Dt.cells iv L) c)]) (F := (0, .box 56 [.mp 1]) :: (1, .map (mapE Dt.cells iv L) c) :: rowC 4 3 13 [2] [7] ca cb s0) (F' := (0, .box 56 [.mp 1]) :: (1, .map (mapE Dt.cells iv L) c) :: rowC 4 3 13 [2] [7] ca cb ⟨l, rn, hr1, hr2⟩) hsubF (fun h => by cases h)
    generalize hmrg false _ _ _ = G at hlk
    have hG : ∀ n ob, lk ((0, Ob.box 56 [.mp 1]) :: (1, .map (mapE Dt.cells iv L) c) :: rowC 4 3 13 [2] [7] ca cb ⟨l, rn, hr1, hr2⟩) n = some ob → lk G n = some ob := fun n ob h => by
      rw [hlk, mrg_in (.inr (by rw [h]; simp)), h]
    refine ⟨none, hG 4 _ (by simp [rowC, lk_cons, recSt]), ?_⟩
    refine SW.weak (fun n => if n = 2 then rn else n) (st1 := ⟨[(2, .ptr 3 0)], [(3, .box 39 [.gs 2 L.length]), (2, .arr 24 2 L.length ((l.flatMap Dt.ds).map .d)), (0, .box 56 [.mp 1]), (1, .map (mapE Dt.cells iv L) c)], 6⟩) ?_ ?_
    · have q3 := hG 3 (.box 39 [.gs rn l.length]) (by simp [rowC, lk_cons])
      have q2 := hG rn (.arr 24 2 l.length ((l.flatMap Dt.ds).map .d)) (by simp [rowC, lk_cons, hn0, hn1, hr1, hr2])
      have q0 := hG 0 (.box 56 [.mp 1]) (by simp [lk_cons])
      have q1 := hG 1 (.map (mapE Dt.cells iv L) c) (by simp [lk_cons])
      rw [hll] at q3 q2
      refine ⟨by show 2 ≤ 6; omega, fun n hn => if_neg (by omega), ?_, ?_, ?_⟩
      · simp [EnvW, List.lookup, SV.ren, SV.ok]
      · simp [HpW, lk_hdel, Ob.ren, SV.rens, SV.ren, SV.rens_d, SV.oks_d, Ob.ok, SV.oks, SV.ok, q3, q2, q0, q1, hr1, dmap_ren, dmap_ok]
      · intro a ha b hb e
        simp only [List.map_cons, List.map_nil, List.mem_cons, List.not_mem_nil, or_false] at ha hb
        rcases ha with rfl | rfl | rfl | rfl <;> rcases hb with rfl | rfl | rfl | rfl <;> simp at e <;> first | rfl | omega
    · (repeat (first | refine SW.seq ?_ | refine SW.block ?_ | (refine SW.regL [0, 1, 2, 4, 5, 6, 7] mixed ?_; (repeat (first | refine RW.ro bq_tt (h := ?_) | refine RW.skip (h := ?_) | refine RW.op bq_tt (h := ?_) | refine RW.opN bq_tt (h := ?_) | refine RW.skip0 (h := ?_))); refine RW.nil ⟨by kernel_rfl, Pruned.mk (h := ?_)⟩) | refine SW.skip ?_ | refine SW.exit ?_ | refine SW.ret ?_ | refine SW.condT rfl ?_ | refine SW.condF rfl ?_))
      exact End.mk ((2, .arr 24 2 L.length ((l.flatMap Dt.ds).map .d)) :: mapH 0 1 L c) (h4 := ⟨rfl, l, hperm, rfl⟩) (h6 := by simp [mapH, Hp.ok, Ob.ok, SV.oks, SV.ok, SV.oks_d, dmap_ok])
  · match n, hn with
    | 0, _ | 1, _ | 2, _ | 3, _ | 4, _ => simp [rowC, s0, lk_cons]
    | n + 5, h => have : n + 5 < 5 := by simpa using h
                  omega
  · rintro r F' _ h1 h2
    refine ⟨SV.ok_more (fun n hn => ?_) _ h1, Hp.ok_mono (fun n hn => ?_) h2⟩ <;> (simp at hn ⊢; omega)
end Go.Proofs.Ytkklgckpaajoeaa

/-
  Dots: a set's dots, sorted.
-/
set_option linter.unusedSectionVars false
set_option linter.unusedVariables false
set_option linter.unusedSimpArgs false
namespace Go.Proofs.Ytkklgckpaajoeaa
open Go.Sl Go.Proofs Go.Sort
attribute [local irreducible] SW RW SCd SC CallP Pruned

theorem Dt.cmp_lt (a b : Dt) : Dt.cmp a b < 0 ↔ a.r < b.r ∨ a.r = b.r ∧ a.n < b.n := by
  unfold Dt.cmp cmpZ
  split <;> split <;> (try split) <;> (try split) <;> omega
theorem Dt.cmp_swap (a b : Dt) : Dt.cmp a b = -Dt.cmp b a := by
  unfold Dt.cmp cmpZ
  repeat' split
  all_goals omega
theorem Dt.cmp_zero (a b : Dt) : Dt.cmp a b = 0 ↔ a = b := by
  obtain ⟨a1, a2⟩ := a
  obtain ⟨b1, b2⟩ := b
  simp only [Dt.mk.injEq]
  unfold Dt.cmp cmpZ
  dsimp only
  repeat' split
  all_goals omega
theorem Dt.lt_iff (a b : Dt) : ltOf Dt.cmp a b = true ↔ a.r < b.r ∨ a.r = b.r ∧ a.n < b.n := by
  unfold ltOf; rw [decide_eq_true_eq]; exact Dt.cmp_lt a b
theorem Dt.swo : SWO (ltOf Dt.cmp) := by
  refine ⟨fun x => ?_, fun x y z h1 h2 => ?_, fun x y z h1 h2 => ?_⟩
  · rw [Bool.eq_false_iff, ne_eq, Dt.lt_iff]; omega
  · rw [Dt.lt_iff] at *; omega
  · rw [Bool.eq_false_iff, ne_eq, Dt.lt_iff] at *; omega
/-- Not behind. -/
def Dt.le (a b : Dt) : Bool := !ltOf Dt.cmp b a
theorem Dt.le_iff (a b : Dt) : Dt.le a b = true ↔ a.r < b.r ∨ a.r = b.r ∧ a.n ≤ b.n := by
  unfold Dt.le; rw [Bool.not_eq_true', Bool.eq_false_iff, ne_eq, Dt.lt_iff]; omega
theorem Dt.le_antisymm {a b : Dt} (h1 : Dt.le a b = true) (h2 : Dt.le b a = true) : a = b := by
  rw [Dt.le_iff] at *
  obtain ⟨a1, a2⟩ := a
  obtain ⟨b1, b2⟩ := b
  simp only [Dt.mk.injEq] at *
  omega
/-- A row, sorted. -/
def Dt.sorted (l : List Dt) : List Dt := l.mergeSort Dt.le
theorem Dt.sorted_pairwise (l : List Dt) : (Dt.sorted l).Pairwise fun a b => Dt.le a b = true :=
  List.pairwise_mergeSort (fun a b c h1 h2 => by rw [Dt.le_iff] at *; omega) (fun a b => by rw [Bool.or_eq_true, Dt.le_iff, Dt.le_iff]; omega) l
theorem Dt.sorted_perm (l : List Dt) : (Dt.sorted l).Perm l := List.mergeSort_perm l Dt.le
theorem Dt.sorted_unique {l l' : List Dt} (h : l'.Perm l) (hp : l'.Pairwise fun a b => Dt.le a b = true) : l' = Dt.sorted l :=
  List.Perm.eq_of_pairwise (le := fun a b => Dt.le a b = true) (fun a b _ _ h1 h2 => Dt.le_antisymm h1 h2) hp (Dt.sorted_pairwise l) (h.trans (Dt.sorted_perm l).symm)

theorem sortFunc_at (n : Nat) (l : List Dt) (hl : l.length < 4611686018427387904) (k : Nat) : SCd Try.prog slices_SortFunc_Lapi_Dot_api_Dot.f [.gs n l.length, .fn (.func dot_Compare.f) [] []] [(n, .arr 24 2 l.length ((l.flatMap Dt.ds).map .d))] k 0 (.tup []) [(n, .arr 24 2 l.length (((Dt.sorted l).flatMap Dt.ds).map .d))] := by
  have h := SC.sortFunc (P := Try.prog) (ρ := lsort_ren) lsort 2 Try.isAgg24 Try.sizeOf24 slices_SortFunc_Lapi_Dot_api_Dot.ca Dt.ds (fun _ => rfl) Dt.cmp Dt.swo dot_Compare.f [] dot_Compare.ca (fun x y k => compare_at x y k) n 24 l hl k
  unfold SCd
  refine SC.mono h ?_
  rintro r F' ⟨rfl, l', hp, hs, rfl⟩
  rw [Dt.sorted_unique hp (hs.imp fun {a b} hab => by unfold Dt.le; rw [hab]; rfl)]
  exact ⟨rfl, rfl⟩
end Go.Proofs.Ytkklgckpaajoeaa
