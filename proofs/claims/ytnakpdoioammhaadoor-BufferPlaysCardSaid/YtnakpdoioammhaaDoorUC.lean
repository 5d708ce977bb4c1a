/-
  Buffers: the iterator over a map's operations.
-/
import Derived.Test.YtnakpdoioammhaaDoorUA
import Derived.Test.YtnakpdoioammhaaDoorUK
import Derived.Test.YtnakpdoioammhaaDoorUW
import Derived.Test.YtnakpdoioammhaaDoorU8
import Derived.Test.YtnakpdoioammhaaDoorUV
import Derived.Test.YtnakpdoioammhaaDoorU7
set_option linter.unusedSectionVars false
set_option linter.unusedVariables false
set_option linter.unusedSimpArgs false
namespace Go.Proofs.YtnakpdoioammhaaDoor
open Go.Sl Go.Proofs
attribute [local irreducible] SW RW SCd SC CallP Pruned
structure oVInv {σ : Type} (Fh : σ → Hp) (Step : σ → OpD → σ → Prop) (go : σ → Bool) (nky b m k : Nat) (L : (MM Dt OpD)) (s0 s : σ) (xs : (MM Dt OpD)) (kk : Nat) : Prop where
  p1 : OnBy Step s0 (vals xs) s
  p2 : go s = true
  p3 : ∀ x, x ∈ xs → x ∈ L
  p4 : (xs.map (·.1)).Nodup
  p5 : k + 1 ≤ kk
  p6 : kk ≤ k + 1 + xs.length * (1 + nky)
  p7 : (Fh s).ok (fun n => decide (n < kk)) = true
  p8 : lk (Fh s) b = none
  p9 : lk (Fh s) m = none
  p10 : lk (Fh s) k = none
set_option maxHeartbeats 1000000 in
theorem ovals1_sb {σ : Type} {Fh : σ → Hp} {Step : σ → OpD → σ → Prop} {go : σ → Bool} {nky y b m k c : Nat} {L : (MM Dt OpD)} (hwf : MM.wf L c) (s0 : σ) (hy : YieldOk Tryd.prog y (fun x : OpD => .agg x.cells) nky Fh Step go s0 L.length) (h0 : (Fh s0).ok (fun n => decide (n < k)) = true)
    (hb : b < k) (hm : m < k) (hbm : b ≠ m) (hdb : lk (Fh s0) b = none) (hdm : lk (Fh s0) m = none) (hgo : go s0 = true) :
    SB Tryd.prog maps_Values_map_api_Dot_api_Op_api_Dot_api_Op_1.f [.yl y, .ptr b 0] ((b, .box 56 [.mp m]) :: (m, .map (mapE Dt.cells ov L) c) :: Fh s0) k (1 + L.length * (1 + nky))
      fun r F => r = .tup [] ∧ ∃ (xs : (MM Dt OpD)) (s' : σ), OnBy Step s0 (vals xs) s' ∧ (∀ x, x ∈ xs → x ∈ L) ∧ (xs.map (·.1)).Nodup ∧ (go s' = true → ∀ x, x ∈ L → x ∈ xs) ∧ (lk (Fh s') b = none ∧ lk (Fh s') m = none) ∧ F = (b, .box 56 [.mp m]) :: (m, .map (mapE Dt.cells ov L) c) :: Fh s' := by
  have hyk : y < k := by
    obtain ⟨ob, ho⟩ := Option.ne_none_iff_exists'.1 (hy.isin s0)
    simpa using (Hp.ok_lk h0 ho).1
  refine maps_Values_map_api_Dot_api_Op_api_Dot_api_Op_1.enter (by simp [SV.ok, SV.oks]; omega) (by simp only [Hp.ok, List.all_cons, Ob.ok, SV.oks, SV.ok, omap_ok, Bool.and_true, Bool.and_eq_true, decide_eq_true_eq]; exact ⟨⟨hb, hm⟩, hm, h0⟩) (by simp) ?_
  dsimp only [maps_Values_map_api_Dot_api_Op_api_Dot_api_Op_1.s, Co.M, Co.G, Co.J, Co.H, Co.N, Co.F, Co.C, Co.Z, Co.B, Co.b8, Co.b32, Co.b64, Co.i6, Co.z8, Co.z29]
  have f1 := ne4 (show m ≠ b by omega)
  have f2 := ne4 (show k ≠ b by omega)
  have f3 := ne4 (show k ≠ m by omega)
  have f4 : List.lookup k (Fh s0) = none := by
    cases hh : lk (Fh s0) k with
    | none => exact hh
    | some ob => have := (Hp.ok_lk h0 hh).1; simp at this
  refine SW.seq ?_
  (have fx := (And.intro (f1) (And.intro (f2) (And.intro (f3) (f4)))); refine SW.regL [0, 1, 4, 6, 8, 14] mixed ?_; (repeat (first | refine RW.ro fx (h := ?_) | refine RW.skip (h := ?_) | refine RW.op fx (h := ?_) | refine RW.opN fx (h := ?_) | refine RW.skip0 (h := ?_))); refine RW.nil ⟨by kernel_rfl, Pruned.mk (h := ?_)⟩)
  refine SW.block (SW.mapLoop (es := fun _ => mapE Dt.cells ov L) (c := fun _ => c) (nit := fun _ => k) (nm := fun _ => m) (since := fun _ => c) (sst := fun _ => c)
    (α := {i : σ × (MM Dt OpD) × Nat // oVInv Fh Step go nky b m k L s0 i.1 i.2.1 i.2.2})
    (fun i => ⟨[(6, .it k), (0, .yl y), (1, .ptr b 0)], (k, .iter (some m) c (i.1.2.1.map (·.1)) c) :: (b, .box 56 [.mp m]) :: (m, .map (mapE Dt.cells ov L) c) :: Fh i.1.1, i.1.2.2⟩)
    (fun i => unseen (mapE Dt.cells ov L) (i.1.2.1.map (·.1))) ⟨(s0, [], k + 1), ⟨.nil, hgo, by simp, by simp, by simp, by simp, Hp.ok_less (by simp) h0, hdb, hdm, f4⟩⟩ id (seen := fun i => i.1.2.1.map (·.1)) ?_ (fun i => by simp [List.lookup]) (fun i => by simp [lk_cons]) (fun i => ?_) (fun i => by omega) (fun i e he => ?_) (fun i => Nat.le_refl _) (fun i hall => ?_) (fun i e he hs => ?_))
  · refine Weak.same (by simp) (by simp [EnvW, argE, List.lookup, SV.ren, SV.ok]; omega) ?_ ?_
    · simp only [Hp.ok, List.all_cons, Ob.ok, SV.oks, SV.ok, omap_ok, Bool.and_true, Bool.and_eq_true, decide_eq_true_eq]
      exact ⟨⟨by omega, by omega⟩, ⟨by omega, by omega⟩, by omega, Hp.ok_less (by simp) h0⟩
    · intro x hx
      simp only [List.mem_cons] at hx
      rcases hx with rfl | rfl | rfl | hx
      · simp [lk_cons]
      · simp [lk_cons, f1, f2, f3]
      · simp [lk_cons, f1, f2, f3]
      · have := hy.nd s0 x hx
        have h1 : x.1 ≠ k := fun e => by rw [e] at this; rw [show lk (Fh s0) k = none from f4] at this; cases this
        have h2 : x.1 ≠ b := fun e => by rw [e, hdb] at this; cases this
        have h3 : x.1 ≠ m := fun e => by rw [e, hdm] at this; cases this
        simp [lk_cons, h1, h2, h3, this]
  · simp [lk_cons, f1, f2, f3]
  · obtain ⟨x, hx, rfl⟩ := mapE_mem he
    exact hwf.old x hx
  · obtain ⟨⟨s, xs, kk⟩, hi⟩ := i
    have hi : oVInv Fh Step go nky b m k L s0 s xs kk := hi
    have hi' := hi
    obtain ⟨p1, p2, p3, p4, p5, p6, p7, p8, p9, p10⟩ := hi'
    dsimp only at *
    have hsub : xs.length ≤ L.length := by
      have := p4.length_le_of_subset (l₂ := L.map (·.1)) (fun t ht => by
        obtain ⟨x, hx, rfl⟩ := List.mem_map.1 ht
        exact List.mem_map.2 ⟨x, p3 x hx, rfl⟩)
      simpa using this
    have hmul : xs.length * (1 + nky) ≤ L.length * (1 + nky) := Nat.mul_le_mul_right _ hsub
    have hhp : ∀ kx, kk ≤ kx → Hp.ok (fun n => decide (n < kx)) ((b, Ob.box 56 [.mp m]) :: (m, .map (mapE Dt.cells ov L) c) :: Fh s) = true := fun kx hkx => by
      simp only [Hp.ok, List.all_cons, Ob.ok, SV.oks, SV.ok, omap_ok, Bool.and_true, Bool.and_eq_true, decide_eq_true_eq]
      exact ⟨⟨by omega, by omega⟩, by omega, Hp.ok_less hkx p7⟩
    refine ⟨⟨[], (b, .box 56 [.mp m]) :: (m, .map (mapE Dt.cells ov L) c) :: Fh s, k + (1 + L.length * (1 + nky))⟩, id, Weak.same (Nat.le_add_right _ _) trivial (hhp _ (by show kk ≤ k + (1 + L.length * (1 + nky)); omega)) ?_, ?_⟩
    · intro x hx
      simp only [List.mem_cons] at hx
      rcases hx with rfl | rfl | hx
      · simp [lk_cons, f1, f2, f3]
      · simp [lk_cons, f1, f2, f3]
      · have := hy.nd s x hx
        have h1 : x.1 ≠ k := fun e => by rw [e, p10] at this; cases this
        have h2 : x.1 ≠ b := fun e => by rw [e, p8] at this; cases this
        have h3 : x.1 ≠ m := fun e => by rw [e, p9] at this; cases this
        simp [lk_cons, h1, h2, h3, this]
    · rw [if_pos rfl]
      refine End.mk ((b, .box 56 [.mp m]) :: (m, .map (mapE Dt.cells ov L) c) :: Fh s) (h3 := fun _ _ h => h) (h4 := ⟨rfl, xs, s, p1, p3, p4, fun _ x hx => ?_, ⟨p8, p9⟩, rfl⟩) (h6 := hhp _ (by omega)) (h7 := Nat.le_refl _)
      have := hall _ (List.mem_map.2 ⟨x, hx, rfl⟩)
      simp only [List.contains_iff_mem] at this
      obtain ⟨z, hz, e⟩ := List.mem_map.1 this
      have : z = x := MM.time_inj hwf.times (p3 z hz) hx e
      rw [← this]; exact hz
  · obtain ⟨⟨s, xs, kk⟩, hi⟩ := i
    have hi : oVInv Fh Step go nky b m k L s0 s xs kk := hi
    have hi' := hi
    obtain ⟨p1, p2, p3, p4, p5, p6, p7, p8, p9, p10⟩ := hi'
    dsimp only at *
    obtain ⟨x, hx, rfl⟩ := mapE_mem he
    dsimp only at hs
    have g1 := ne4 (show kk ≠ k by omega)
    have g2 := ne4 (show kk ≠ b by omega)
    have g3 := ne4 (show kk ≠ m by omega)
    have g4 : List.lookup kk (Fh s) = none := Hp.out p7 (Nat.le_refl _)
    have g5 : (xs.map (·.1) ++ [x.1]).getLast? = some x.1 := by simp
    have g6 := mapE_find (kc := Dt.cells) (vs := ov) hwf.times hx
    have g7 : ov x.2.2 = .agg x.2.2.cells := rfl
    rw [hset_head]
    dsimp only
    refine SW.block (SW.seq ?_)
    (have fx := (And.intro (f1) (And.intro (f2) (And.intro (f3) (And.intro (g1) (And.intro (g2) (And.intro (g3) (And.intro (g4) (And.intro (g5) (And.intro (g6) (g7)))))))))); refine SW.regL [0, 1, 4, 6, 8, 14] mixed ?_; (repeat (first | refine RW.ro fx (h := ?_) | refine RW.skip (h := ?_) | refine RW.op fx (h := ?_) | refine RW.opN fx (h := ?_) | refine RW.skip0 (h := ?_))); refine RW.nil ⟨by kernel_rfl, Pruned.mk (h := ?_)⟩)
    refine SW.seq (SW.ofN ?_)
    (repeat (first | refine SWn.op (And.intro (g1) (And.intro (g2) (g3))) (h := ?_) | refine SWn.opN (And.intro (g1) (And.intro (g2) (g3))) (h := ?_) | refine SWn.skip (h := ?_)))
    have hokk : (Fh s).ok (fun n => decide (n < kk + 1)) = true := Hp.ok_less (by omega) p7
    have hnd : ∀ s', (∀ n, lk (Fh s') n ≠ none → lk (Fh s) n ≠ none ∨ (kk + 1 ≤ n ∧ n < kk + 1 + nky)) → lk (Fh s') b = none ∧ lk (Fh s') m = none ∧ lk (Fh s') k = none := fun s' h => by
      refine ⟨?_, ?_, ?_⟩
      · exact Classical.byContradiction fun hn => (h b hn).elim (fun h => h p8) (fun h => by omega)
      · exact Classical.byContradiction fun hn => (h m hn).elim (fun h => h p9) (fun h => by omega)
      · exact Classical.byContradiction fun hn => (h k hn).elim (fun h => h p10) (fun h => by omega)
    have hxs : x ∉ xs := fun h => by
      have : (xs.map (·.1)).contains x.1 = true := by simp only [List.contains_iff_mem]; exact List.mem_map.2 ⟨x, h, rfl⟩
      rw [this] at hs; cases hs
    have hxt : x.1 ∉ xs.map (·.1) := fun h => by
      have : (xs.map (·.1)).contains x.1 = true := by simpa only [List.contains_iff_mem] using h
      rw [this] at hs; cases hs
    have q3 : ∀ z, z ∈ xs ++ [x] → z ∈ L := fun z hz => by
      rcases List.mem_append.1 hz with hz | hz
      · exact p3 z hz
      · rw [List.mem_singleton.1 hz]; exact hx
    have q4 : ((xs ++ [x]).map (·.1)).Nodup := by
      rw [List.map_append, List.nodup_append]
      refine ⟨p4, by simp, fun a ha b' hb' => ?_⟩
      simp only [List.map_cons, List.map_nil, List.mem_singleton] at hb'
      intro e
      exact hxt (by rw [← hb', ← e]; exact ha)
    have hsub2 : (xs ++ [x]).length ≤ L.length := by
      have := q4.length_le_of_subset (l₂ := L.map (·.1)) (fun t ht => by
        obtain ⟨z, hz, rfl⟩ := List.mem_map.1 ht
        exact List.mem_map.2 ⟨z, q3 z hz, rfl⟩)
      simpa using this
    have hlt : (vals xs).length < L.length := by
      simp only [List.length_append, List.length_singleton] at hsub2
      simp only [vals, List.length_map]; omega
    have hsub : HSub (Fh s) ((kk, Ob.box 37 x.2.2.cells) :: (k, Ob.iter (some m) c (xs.map (·.1) ++ [x.1]) c) :: (b, Ob.box 56 [.mp m]) :: (m, .map (mapE Dt.cells ov L) c) :: Fh s) := fun n ob hn => by
      have h1 : n ≠ k := fun e => by rw [e, p10] at hn; cases hn
      have h2 : n ≠ b := fun e => by rw [e, p8] at hn; cases hn
      have h3 : n ≠ m := fun e => by rw [e, p9] at hn; cases hn
      have h4 : n ≠ kk := fun e => by rw [e, show lk (Fh s) kk = none from g4] at hn; cases hn
      simp [lk_cons, h1, h2, h3, h4, hn]
    refine SWn.yield (by simp only [ev, List.lookup, Nat.reduceBEq] <;> rfl) (by simp only [ev, evs, List.lookup, Nat.reduceBEq] <;> rfl) (hy.isin s) (hy.call s _ x.2.2 (kk + 1) p1 hlt hokk p2) hsub ?_
    rintro v F' ⟨s', hstep, rfl, rfl, hok', hnm⟩
    obtain ⟨n1, n2, n3⟩ := hnd s' hnm
    rw [upd_eq]
    show SWn Tryd.prog 15 k _ ⟨(13, .d (.bool (go s'))) :: _, _, _⟩ _
    (repeat (first | refine SWn.op bq_tt (h := ?_) | refine SWn.opN bq_tt (h := ?_) | refine SWn.skip (h := ?_)))
    refine SWn.nil ?_
    have hlk := lk_hmrg (ro := false) hsub (F' := Fh s') (fun h => by cases h)
    have hhp : ∀ kx, kk + 1 + nky ≤ kx → Hp.ok (fun n => decide (n < kx)) ((b, Ob.box 56 [.mp m]) :: (m, .map (mapE Dt.cells ov L) c) :: Fh s') = true := fun kx hkx => by
      simp only [Hp.ok, List.all_cons, Ob.ok, SV.oks, SV.ok, omap_ok, Bool.and_true, Bool.and_eq_true, decide_eq_true_eq]
      exact ⟨⟨by omega, by omega⟩, by omega, Hp.ok_less hkx hok'⟩
    have hin : ∀ z, z ∈ ((b, Ob.box 56 [.mp m]) :: (m, .map (mapE Dt.cells ov L) c) :: Fh s') → mrg (lk ((kk, Ob.box 37 x.2.2.cells) :: (k, Ob.iter (some m) c (xs.map (·.1) ++ [x.1]) c) :: (b, Ob.box 56 [.mp m]) :: (m, .map (mapE Dt.cells ov L) c) :: Fh s)) (lk (Fh s)) (lk (Fh s')) z.1 = some z.2 := by
      intro z hz
      simp only [List.mem_cons] at hz
      rcases hz with rfl | rfl | hz
      · rw [mrg_out p8 n1]; simp [lk_cons, f1, f2, f3, g1, g2, g3]
      · rw [mrg_out p9 n2]; simp [lk_cons, f1, f2, f3, g1, g2, g3]
      · have := hy.nd s' z hz
        rw [mrg_in (.inr (by rw [this]; simp)), this]
    have q1 : OnBy Step s0 (vals (xs ++ [x])) s' := by
      have := OnBy.snoc p1 hstep
      simpa [vals] using this
    have q6 : kk + 1 + nky ≤ k + 1 + (xs ++ [x]).length * (1 + nky) := by
      have e : (xs ++ [x]).length * (1 + nky) = xs.length * (1 + nky) + (1 + nky) := by rw [List.length_append, List.length_singleton, Nat.add_mul, Nat.one_mul]
      rw [e]; omega
    have hmul : (xs ++ [x]).length * (1 + nky) ≤ L.length * (1 + nky) := Nat.mul_le_mul_right _ hsub2
    cases hg : go s' with
    | true =>
      refine SW.condF (by simp [ev, List.lookup, hg]) (SW.skip ?_)
      refine ⟨⟨(s', xs ++ [x], kk + 1 + nky), q1, hg, q3, q4, by show k + 1 ≤ kk + 1 + nky; omega, q6, hok', n1, n2, n3⟩, id, ?_, Weak.same (by show k ≤ kk + 1 + nky; omega) (by simp [EnvW, List.lookup, SV.ren, SV.ok]; omega) ?_ ?_⟩
      · have := unseen_lt he hs
        simpa using this
      · have := hhp (kk + 1 + nky) (Nat.le_refl _)
        simp only [Hp.ok, List.all_cons, Ob.ok, Bool.and_eq_true, decide_eq_true_eq] at this ⊢
        exact ⟨⟨by omega, by omega⟩, this⟩
      · intro z hz
        rcases List.mem_cons.1 hz with rfl | hz
        · have : lk (hmrg false ((kk, Ob.box 37 x.2.2.cells) :: (k, Ob.iter (some m) c (xs.map (·.1) ++ [x.1]) c) :: (b, Ob.box 56 [.mp m]) :: (m, .map (mapE Dt.cells ov L) c) :: Fh s) (Fh s) (Fh s')) k = some (.iter (some m) c (xs.map (·.1) ++ [x.1]) c) := by
            rw [hlk, mrg_out p10 n3]; simp [lk_cons, g1]
          simpa [hmrg] using this
        · have : lk (hmrg false ((kk, Ob.box 37 x.2.2.cells) :: (k, Ob.iter (some m) c (xs.map (·.1) ++ [x.1]) c) :: (b, Ob.box 56 [.mp m]) :: (m, .map (mapE Dt.cells ov L) c) :: Fh s) (Fh s) (Fh s')) z.1 = some z.2 := by
            rw [hlk]; exact hin z hz
          exact this
    | false =>
      refine SW.condT (by simp [ev, List.lookup, hg]) ?_
      refine SW.weak id (st1 := ⟨[], (b, .box 56 [.mp m]) :: (m, .map (mapE Dt.cells ov L) c) :: Fh s', k + (1 + L.length * (1 + nky))⟩) (Weak.same (Nat.le_add_right _ _) trivial (hhp _ (by show kk + 1 + nky ≤ k + (1 + L.length * (1 + nky)); omega)) fun z hz => ?_) (SW.ret ?_)
      · have : lk (hmrg false ((kk, Ob.box 37 x.2.2.cells) :: (k, Ob.iter (some m) c (xs.map (·.1) ++ [x.1]) c) :: (b, Ob.box 56 [.mp m]) :: (m, .map (mapE Dt.cells ov L) c) :: Fh s) (Fh s) (Fh s')) z.1 = some z.2 := by
          rw [hlk]; exact hin z hz
        exact this
      · refine End.mk ((b, .box 56 [.mp m]) :: (m, .map (mapE Dt.cells ov L) c) :: Fh s') (h3 := fun _ _ h => h) (h4 := ⟨rfl, xs ++ [x], s', q1, q3, q4, fun (h : go s' = true) => absurd h (by rw [hg]; decide), ⟨n1, n2⟩, rfl⟩) (h6 := hhp _ (by omega)) (h7 := Nat.le_refl _)
end Go.Proofs.YtnakpdoioammhaaDoor
namespace Go.Proofs.YtnakpdoioammhaaDoor
open Go.Sl Go.Proofs
attribute [local irreducible] SW RW SCd SC CallP Pruned
theorem nodup_of_mapB {α β : Type} (f : α → β) {l : List α} (h : (l.map f).Nodup) : l.Nodup := by
  unfold List.Nodup at h ⊢
  rw [List.pairwise_map] at h
  exact h.imp fun h e => h (by rw [e])
theorem vperm_of_seen {L xs : (MM Dt OpD)} {c : Nat} (hwf : MM.wf L c) (h1 : ∀ x, x ∈ xs → x ∈ L) (h2 : (xs.map (·.1)).Nodup) (h3 : ∀ x, x ∈ L → x ∈ xs) : (vals xs).Perm (vals L) :=
  ((List.perm_ext_iff_of_nodup (nodup_of_mapB _ h2) (nodup_of_mapB _ hwf.times)).2 fun a => ⟨h1 a, h3 a⟩).map _
def vmapH (b m : Nat) (L : (MM Dt OpD)) (c : Nat) : Hp := [(b, .box 56 [.mp m]), (m, .map (mapE Dt.cells ov L) c)]
set_option maxHeartbeats 1000000 in
theorem vappendSeq_ok {L : (MM Dt OpD)} {c : Nat} (hwf : MM.wf L c) (hL : L.length < 1000000) :
    SB Tryd.prog slices_AppendSeq_Lapi_Op_api_Op.f [.d .nils, .fn (.func maps_Values_map_api_Dot_api_Op_api_Dot_api_Op_1.f) [] [.ptr 0 0]] (vmapH 0 1 L c) 2 1
      fun r F => r = .gs 2 L.length ∧ ∃ l : List OpD, l.Perm (vals L) ∧ F = (2, .arr 37 29 L.length ((l.flatMap OpD.ds).map .d)) :: vmapH 0 1 L c := by
  refine slices_AppendSeq_Lapi_Op_api_Op.enter (by simp [SV.ok, SV.oks]) (by simp [vmapH, Hp.ok, Ob.ok, SV.oks, SV.ok, omap_ok]) (by simp) ?_
  dsimp only [slices_AppendSeq_Lapi_Op_api_Op.s, Co.M, Co.G, Co.J, Co.H, Co.N, Co.F, Co.C, Co.Z, Co.B, Co.b8, Co.b32, Co.b64, Co.i6, Co.z8, Co.z29]
  refine SW.nilrow 0 37 29 rfl ?_
  simp only [vmapH]
  refine SW.seq ?_
  (refine SW.regL [0, 1, 2, 4, 5, 6, 7] mixed ?_; (repeat (first | refine RW.ro bq_tt (h := ?_) | refine RW.skip (h := ?_) | refine RW.op bq_tt (h := ?_) | refine RW.opN bq_tt (h := ?_) | refine RW.skip0 (h := ?_))); refine RW.nil ⟨by kernel_rfl, Pruned.mk (h := ?_)⟩)
  refine SW.seq (SW.seq ?_)
  (refine SW.regL [0, 1, 2, 4, 5, 6, 7] mixed ?_; (repeat (first | refine RW.ro bq_tt (h := ?_) | refine RW.skip (h := ?_) | refine RW.op bq_tt (h := ?_) | refine RW.opN bq_tt (h := ?_) | refine RW.skip0 (h := ?_))); refine RW.nil ⟨by kernel_rfl, Pruned.mk (h := ?_)⟩)
  refine SW.block (SW.rfun (nk := 1 + L.length * (1 + 2)) [2] [.ptr 3 0] rfl ⟨rfl, trivial⟩ fun ca cb hca hcb => ?_)
  let s0 : RowO 4 3 := ⟨[], 2, by decide, by decide⟩
  have hy := appendBodyO (y := 4) (bx := 3) (B := L.length) (by decide) s0 (by simp [s0]; omega) hca hcb
  have hsb := ovals1_sb (y := 4) (b := 0) (m := 1) (k := 5) hwf s0 hy (by simp [rowO, s0, Hp.ok, Ob.ok, SV.oks, SV.ok]) (by decide) (by decide) (by decide) (by simp [rowO, s0, lk_cons, lk_nil]) (by simp [rowO, s0, lk_cons, lk_nil]) rfl
  have hsubF : HSub ((0, .box 56 [.mp 1]) :: (1, .map (mapE Dt.cells ov L) c) :: rowO 4 3 13 [2] [7] ca cb s0) ((4, .rcd 13 [2] [.ptr 3 0] [7] ca cb .ready none) :: [(3, .box 22 [.gs 2 0]), (2, .arr 37 29 0 []), (0, .box 56 [.mp 1]), (1, .map (mapE Dt.cells ov L) c)]) := by
    intro n ob hn
    match n with
    | 0 | 1 | 2 | 3 | 4 => simpa [rowO, s0, lk_cons] using hn
    | n + 5 => simp [rowO, s0, lk_cons, lk_nil] at hn
  have hsc := (hsb.here (fun n => decide (n < 5)) (fun n hn => ?_) (by simp [SV.oks, SV.ok]) (by simp [rowO, s0, Hp.ok, Ob.ok, SV.oks, SV.ok, omap_ok]) ?_).frame hsubF
  · refine hsc.mono ?_
    rintro r F' ⟨F1, ⟨rfl, xs, s', hon, hin, hnd, hall, ⟨hn0, hn1⟩, rfl⟩, rfl⟩
    have hl := onBy_rowO hon
    have hperm := vperm_of_seen hwf hin hnd (hall rfl)
    obtain ⟨l, rn, hr1, hr2⟩ := s'
    have hl : l = vals xs := by simpa [s0] using hl
    have hn0 : rn ≠ 0 := fun e => by simp [rowO, e, lk_cons] at hn0
    have hn1 : rn ≠ 1 := fun e => by simp [rowO, e, lk_cons] at hn1
    have hll : l.length = L.length := by rw [hl, hperm.length_eq]; simp [vals]
    rw [← hl] at hperm
    have hlk := lk_hmrg (ro := false) (h := (4, .rcd 13 [2] [.ptr 3 0] [7] ca cb .ready none) :: [(3, .box 22 [.gs 2 0]), (2, .arr 37 29 0 []), (0, .box 56 [.mp 1]), (1, .map (mapE Dt.cells ov L) c)]) (F := (0, .box 56 [.mp 1]) :: (1, .map (mapE Dt.cells ov L) c) :: rowO 4 3 13 [2] [7] ca cb s0) (F' := (0, .box 56 [.mp 1]) :: (1, .map (mapE Dt.cells ov L) c) :: rowO 4 3 13 [2] [7] ca cb ⟨l, rn, hr1, hr2⟩) hsubF (fun h => by cases h)
    generalize hmrg false _ _ _ = G at hlk
    have hG : ∀ n ob, lk ((0, Ob.box 56 [.mp 1]) :: (1, .map (mapE Dt.cells ov L) c) :: rowO 4 3 13 [2] [7] ca cb ⟨l, rn, hr1, hr2⟩) n = some ob → lk G n = some ob := fun n ob h => by
      rw [hlk, mrg_in (.inr (by rw [h]; simp)), h]
    refine ⟨none, hG 4 _ (by simp [rowO, lk_cons, recSt]), ?_⟩
    refine SW.weak (fun n => if n = 2 then rn else n) (st1 := ⟨[(2, .ptr 3 0)], [(3, .box 22 [.gs 2 L.length]), (2, .arr 37 29 L.length ((l.flatMap OpD.ds).map .d)), (0, .box 56 [.mp 1]), (1, .map (mapE Dt.cells ov L) c)], 6⟩) ?_ ?_
    · have q3 := hG 3 (.box 22 [.gs rn l.length]) (by simp [rowO, lk_cons])
      have q2 := hG rn (.arr 37 29 l.length ((l.flatMap OpD.ds).map .d)) (by simp [rowO, lk_cons, hn0, hn1, hr1, hr2])
      have q0 := hG 0 (.box 56 [.mp 1]) (by simp [lk_cons])
      have q1 := hG 1 (.map (mapE Dt.cells ov L) c) (by simp [lk_cons])
      rw [hll] at q3 q2
      refine ⟨by show 2 ≤ 6; omega, fun n hn => if_neg (by omega), ?_, ?_, ?_⟩
      · simp [EnvW, List.lookup, SV.ren, SV.ok]
      · simp [HpW, lk_hdel, Ob.ren, SV.rens, SV.ren, SV.rens_d, SV.oks_d, Ob.ok, SV.oks, SV.ok, q3, q2, q0, q1, hr1, omap_ren, omap_ok]
      · intro a ha b hb e
        simp only [List.map_cons, List.map_nil, List.mem_cons, List.not_mem_nil, or_false] at ha hb
        rcases ha with rfl | rfl | rfl | rfl <;> rcases hb with rfl | rfl | rfl | rfl <;> simp at e <;> first | rfl | omega
    · (repeat (first | refine SW.seq ?_ | refine SW.block ?_ | (refine SW.regL [0, 1, 2, 4, 5, 6, 7] mixed ?_; (repeat (first | refine RW.ro bq_tt (h := ?_) | refine RW.skip (h := ?_) | refine RW.op bq_tt (h := ?_) | refine RW.opN bq_tt (h := ?_) | refine RW.skip0 (h := ?_))); refine RW.nil ⟨by kernel_rfl, Pruned.mk (h := ?_)⟩) | refine SW.skip ?_ | refine SW.exit ?_ | refine SW.ret ?_ | refine SW.condT rfl ?_ | refine SW.condF rfl ?_))
      exact End.mk ((2, .arr 37 29 L.length ((l.flatMap OpD.ds).map .d)) :: vmapH 0 1 L c) (h4 := ⟨rfl, l, hperm, rfl⟩) (h6 := by simp [vmapH, Hp.ok, Ob.ok, SV.oks, SV.ok, SV.oks_d, omap_ok])
  · match n, hn with
    | 0, _ | 1, _ | 2, _ | 3, _ | 4, _ => simp [rowO, s0, lk_cons]
    | n + 5, h => have : n + 5 < 5 := by simpa using h
                  omega
  · rintro r F' _ h1 h2
    refine ⟨SV.ok_more (fun n hn => ?_) _ h1, Hp.ok_mono (fun n hn => ?_) h2⟩ <;> (simp at hn ⊢; omega)
end Go.Proofs.YtnakpdoioammhaaDoor
namespace Go.Proofs.YtnakpdoioammhaaDoor
open Go.Sl Go.Proofs Go.Sort
attribute [local irreducible] SW RW SCd SC CallP Pruned
theorem vmapH_out (L : (MM Dt OpD)) (c n : Nat) (h : decide (n < 2) = true) : lk (vmapH 0 1 L c) n ≠ none := by
  match n, h with
  | 0, _ | 1, _ => simp [vmapH, lk_cons]
  | n + 2, h => have : n + 2 < 2 := by simpa using h
                omega
theorem vmapH_ok (q : Nat → Bool) (b m : Nat) (L : (MM Dt OpD)) (c : Nat) (hb : q b = true) (hm : q m = true) : (vmapH b m L c).ok q = true := by
  simp [vmapH, Hp.ok, Ob.ok, SV.oks, SV.ok, omap_ok, hb, hm]
theorem vappendSeq_at {L : (MM Dt OpD)} {c : Nat} (hw : WB L c) (hL : L.length < 1000000) :
    SC Tryd.prog slices_AppendSeq_Lapi_Op_api_Op.f [.d .nils, .fn (.func maps_Values_map_api_Dot_api_Op_api_Dot_api_Op_1.f) [] [.ptr 0 0]] (vmapH 0 1 L c) 2 1
      fun r F => r = .gs 2 L.length ∧ ∃ l : List OpD, l.Perm (vals L) ∧ F = (2, .arr 37 29 L.length ((l.flatMap OpD.ds).map .d)) :: vmapH 0 1 L c :=
  (vappendSeq_ok hw.wf hL).here (fun n => decide (n < 2)) (vmapH_out L c) (by simp [SV.oks, SV.ok]) (vmapH_ok _ _ _ _ _ rfl rfl) fun r F' _ h1 h2 => ⟨SV.ok_more (fun n hn => by simp at hn ⊢; omega) _ h1, Hp.ok_mono (fun n hn => by simp at hn ⊢; omega) h2⟩
theorem vcollect_ok {L : (MM Dt OpD)} {c : Nat} (hw : WB L c) (hL : L.length < 1000000) :
    SB Tryd.prog slices_Collect_api_Op.f [.fn (.func maps_Values_map_api_Dot_api_Op_api_Dot_api_Op_1.f) [] [.ptr 0 0]] (vmapH 0 1 L c) 2 1
      fun r F => r = .gs 2 L.length ∧ ∃ l : List OpD, l.Perm (vals L) ∧ F = (2, .arr 37 29 L.length ((l.flatMap OpD.ds).map .d)) :: vmapH 0 1 L c := by
  refine slices_Collect_api_Op.enter (by simp [SV.ok, SV.oks]) (vmapH_ok _ _ _ _ _ rfl rfl) (by simp) ?_
  dsimp only [slices_Collect_api_Op.s, Co.M, Co.G, Co.J, Co.H, Co.N, Co.F, Co.C, Co.Z, Co.B, Co.b8, Co.b32, Co.b64, Co.i6, Co.z8, Co.z29]
  refine SW.seq ?_
  (refine SW.regL [0, 2] mixed ?_; (repeat (first | refine RW.ro bq_tt (h := ?_) | refine RW.skip (h := ?_) | refine RW.op bq_tt (h := ?_) | refine RW.opN bq_tt (h := ?_) | refine RW.skip0 (h := ?_))); refine RW.nil ⟨by kernel_rfl, Pruned.mk (h := ?_)⟩)
  refine SW.seq (SW.ofN ?_)
  (repeat (first | refine SWn.op bq_tt (h := ?_) | refine SWn.opN bq_tt (h := ?_) | refine SWn.skip (h := ?_)))
  refine SWn.callC (vappendSeq_at hw hL) (fun _ _ h => h) (h := ?_)
  rintro v F' ⟨rfl, l, hl, rfl⟩
  simp only [hmrg, hsets, hdels, hset, hrep, hdel, lk, List.lookup, Nat.reduceBEq, BEq.rfl, beq_self_eq_true, if_true, if_false, reduceIte, Nat.reduceEqDiff, Bool.false_eq_true, Option.isSome_some, Option.isSome_none, Nat.reduceAdd, vmapH]
  (repeat (first | refine SWn.op bq_tt (h := ?_) | refine SWn.opN bq_tt (h := ?_) | refine SWn.skip (h := ?_)))
  refine SWn.nil (SW.ret ?_)
  exact End.mk ((2, .arr 37 29 L.length ((l.flatMap OpD.ds).map .d)) :: vmapH 0 1 L c) (h4 := ⟨rfl, l, hl, rfl⟩) (h6 := by simp [vmapH, Hp.ok, Ob.ok, SV.oks, SV.ok, SV.oks_d, omap_ok])
theorem vcollect_at {L : (MM Dt OpD)} {c : Nat} (hw : WB L c) (hL : L.length < 1000000) :
    SC Tryd.prog slices_Collect_api_Op.f [.fn (.func maps_Values_map_api_Dot_api_Op_api_Dot_api_Op_1.f) [] [.ptr 0 0]] (vmapH 0 1 L c) 2 1
      fun r F => r = .gs 2 L.length ∧ ∃ l : List OpD, l.Perm (vals L) ∧ F = (2, .arr 37 29 L.length ((l.flatMap OpD.ds).map .d)) :: vmapH 0 1 L c :=
  (vcollect_ok hw hL).here (fun n => decide (n < 2)) (vmapH_out L c) (by simp [SV.oks, SV.ok]) (vmapH_ok _ _ _ _ _ rfl rfl) fun r F' _ h1 h2 => ⟨SV.ok_more (fun n hn => by simp at hn ⊢; omega) _ h1, Hp.ok_mono (fun n hn => by simp at hn ⊢; omega) h2⟩
theorem vsortedFunc_ok {L : (MM Dt OpD)} {c : Nat} (hw : WB L c) (hL : L.length < 1000000) :
    SB Tryd.prog slices_SortedFunc_api_Op.f [.fn (.func maps_Values_map_api_Dot_api_Op_api_Dot_api_Op_1.f) [] [.ptr 0 0], .fn (.func order_Compare.f) [] []] (vmapH 0 1 L c) 2 0
      fun r F => r = ops (osorted (vals L)) ∧ F = vmapH 0 1 L c := by
  refine slices_SortedFunc_api_Op.enter (by simp [SV.ok, SV.oks]) (vmapH_ok _ _ _ _ _ rfl rfl) (by simp) ?_
  dsimp only [slices_SortedFunc_api_Op.s, Co.M, Co.G, Co.J, Co.H, Co.N, Co.F, Co.C, Co.Z, Co.B, Co.b8, Co.b32, Co.b64, Co.i6, Co.z8, Co.z29]
  refine SW.seq ?_
  (refine SW.regL [0, 1, 4, 5] mixed ?_; (repeat (first | refine RW.ro bq_tt (h := ?_) | refine RW.skip (h := ?_) | refine RW.op bq_tt (h := ?_) | refine RW.opN bq_tt (h := ?_) | refine RW.skip0 (h := ?_))); refine RW.nil ⟨by kernel_rfl, Pruned.mk (h := ?_)⟩)
  refine SW.seq (SW.ofN ?_)
  (repeat (first | refine SWn.op bq_tt (h := ?_) | refine SWn.opN bq_tt (h := ?_) | refine SWn.skip (h := ?_)))
  refine SWn.callC (vcollect_at hw hL) (fun _ _ h => h) (h := ?_)
  rintro v F' ⟨rfl, l, hl, rfl⟩
  simp only [hmrg, hsets, hdels, hset, hrep, hdel, lk, List.lookup, Nat.reduceBEq, BEq.rfl, beq_self_eq_true, if_true, if_false, reduceIte, Nat.reduceEqDiff, Bool.false_eq_true, Option.isSome_some, Option.isSome_none, Nat.reduceAdd, vmapH]
  (repeat (first | refine SWn.op bq_tt (h := ?_) | refine SWn.opN bq_tt (h := ?_) | refine SWn.skip (h := ?_)))
  refine SWn.nil ?_
  have hlen : l.length = L.length := by rw [hl.length_eq]; simp [vals]
  have hu : Uniq l := hw.uniq.perm hl
  refine SW.seq (SW.ofN ?_)
  (repeat (first | refine SWn.op bq_tt (h := ?_) | refine SWn.opN bq_tt (h := ?_) | refine SWn.skip (h := ?_)))
  rw [← hlen]
  refine SWn.callD bq_tt (opsort_at 2 l hu (by omega) 3) (h := ?_)
  refine SWn.nil ?_
  refine SW.seq ?_
  (refine SW.regL [0, 1, 4, 5] mixed ?_; (repeat (first | refine RW.ro bq_tt (h := ?_) | refine RW.skip (h := ?_) | refine RW.op bq_tt (h := ?_) | refine RW.opN bq_tt (h := ?_) | refine RW.skip0 (h := ?_))); refine RW.nil ⟨by kernel_rfl, Pruned.mk (h := ?_)⟩)
  have hsl : (osorted l).length = l.length := (osorted_perm l).length_eq
  have hse : osorted l = osorted (vals L) := (osorted_rises hu).unique (osorted_rises hw.uniq) (((osorted_perm l).trans hl).trans (osorted_perm _).symm)
  refine SW.weak id (st1 := ⟨[(4, .gs 2 l.length)], [(2, .arr 37 29 l.length (((osorted l).flatMap OpD.ds).map .d)), (0, .box 56 [.mp 1]), (1, .map (mapE Dt.cells ov L) c)], 3⟩) (Weak.same (by simp) (by simp [EnvW, List.lookup, SV.ren, SV.ok]) (by simp [Hp.ok, Ob.ok, SV.oks, SV.ok, SV.oks_d, omap_ok]) (by simp [lk_cons])) ?_
  refine SW.freeze 2 ((osorted l).flatMap OpD.ds) rfl rfl ?_
  have e1 : frzE 2 l.length ((osorted l).flatMap OpD.ds) [(4, .gs 2 l.length)] = [(4, ops (osorted (vals L)))] := by
    rw [← hse]
    simp only [frzE, List.map_cons, List.map_nil, SV.frz, if_true, ops, hsl]
  show Go.Sl.SW _ _ _ _ ⟨frzE 2 l.length ((osorted l).flatMap OpD.ds) [(4, .gs 2 l.length)], vmapH 0 1 L c, 3⟩ _
  rw [e1]
  refine SW.ret ?_
  exact End.mk (vmapH 0 1 L c) (h3 := fun _ _ h => h) (h4 := ⟨rfl, rfl⟩) (h5 := rfl) (h6 := vmapH_ok _ _ _ _ _ rfl rfl)
theorem vsortedFunc_at {L : (MM Dt OpD)} {c : Nat} (hw : WB L c) (hL : L.length < 1000000) (k : Nat) (b m : Nat) (hbm : b ≠ m) :
    SCd Tryd.prog slices_SortedFunc_api_Op.f [.fn (.func maps_Values_map_api_Dot_api_Op_api_Dot_api_Op_1.f) [] [.ptr b 0], .fn (.func order_Compare.f) [] []] (vmapH b m L c) k 0 (ops (osorted (vals L))) (vmapH b m L c) := by
  have h := SB.atL [b, m] (vsortedFunc_ok hw hL) (by simp [hbm]) (fun i hi => vmapH_out L c i (by simpa using hi)) k
  simpa [SV.rens, SV.ren, atN, vmapH, Hp.ren, Ob.ren, omap_ren] using h
theorem ovals_ok (L : (MM Dt OpD)) (c : Nat) : SB Tryd.prog maps_Values_map_api_Dot_api_Op_api_Dot_api_Op.f [.mp 0] [(0, .map (mapE Dt.cells ov L) c)] 1 1 fun r F => r = .fn (.func maps_Values_map_api_Dot_api_Op_api_Dot_api_Op_1.f) [] [.ptr 1 0] ∧ F = [(1, .box 56 [.mp 0]), (0, .map (mapE Dt.cells ov L) c)] := by
  refine maps_Values_map_api_Dot_api_Op_api_Dot_api_Op.enter rfl (by simp [Hp.ok, Ob.ok, omap_ok]) (by simp) ?_
  dsimp only [maps_Values_map_api_Dot_api_Op_api_Dot_api_Op.s, Co.M, Co.G, Co.J, Co.H, Co.N, Co.F, Co.C, Co.Z, Co.B, Co.b8, Co.b32, Co.b64, Co.i6, Co.z8, Co.z29]
  (repeat (first | refine SW.seq ?_ | refine SW.block ?_ | (refine SW.regL [0, 1, 2] mixed ?_; (repeat (first | refine RW.ro bq_tt (h := ?_) | refine RW.skip (h := ?_) | refine RW.op bq_tt (h := ?_) | refine RW.opN bq_tt (h := ?_) | refine RW.skip0 (h := ?_))); refine RW.nil ⟨by kernel_rfl, Pruned.mk (h := ?_)⟩) | refine SW.skip ?_ | refine SW.exit ?_ | refine SW.ret ?_ | refine SW.condT rfl ?_ | refine SW.condF rfl ?_))
  exact End.mk [(1, .box 56 [.mp 0]), (0, .map (mapE Dt.cells ov L) c)] (h4 := ⟨rfl, rfl⟩) (h6 := by simp [Hp.ok, Ob.ok, SV.oks, SV.ok, omap_ok])
theorem ovals_at (L : (MM Dt OpD)) (c : Nat) (n k : Nat) : SCd Tryd.prog maps_Values_map_api_Dot_api_Op_api_Dot_api_Op.f [.mp n] [(n, .map (mapE Dt.cells ov L) c)] k 1 (.fn (.func maps_Values_map_api_Dot_api_Op_api_Dot_api_Op_1.f) [] [.ptr k 0]) [(k, .box 56 [.mp n]), (n, .map (mapE Dt.cells ov L) c)] := by
  have h := SB.atL [n] (ovals_ok L c) (by simp) (fun i hi => by cases i with | zero => simp [lk_cons] | succ i => simp at hi) k
  simpa [SV.rens, SV.ren, atN, Hp.ren, Ob.ren, omap_ren] using h
end Go.Proofs.YtnakpdoioammhaaDoor
namespace Go.Proofs.YtnakpdoioammhaaDoor
open Go.Sl Go.Proofs
theorem max_ok (a b : Nat) : Pure Tryd.prog vector_Merge_1.f [u32 a, u32 b] (u32 (max a b)) := by
  refine vector_Merge_1.enter rfl rfl (by simp) ?_
  dsimp only [vector_Merge_1.s, Co.M, Co.G, Co.J, Co.H, Co.N, Co.F, Co.C, Co.Z, Co.B, Co.b8, Co.b32, Co.b64, Co.i6, Co.z8, Co.z29]
  refine SW.seq ?_
  refine SW.reg [] mixed (by simp only [runs, runOp, goOp, sop, ev, evs, evp, upd, argE, List.lookup, Nat.reduceBEq, Nat.reduceAdd, Nat.reduceMul, Nat.zero_add, SV.cells, if_true, if_false, reduceIte, Bool.false_eq_true, roOf, hmrg, hsets, hdels, hset, hrep, hdel, touchL, lk, List.filter, Nat.reduceBNe, bne_self_eq_false, ldv, ldo, cellsAt, binV, binK, mvp, Vec.cells_one, BEq.rfl, beq_self_eq_true, Bool.true_or, Nat.reduceEqDiff, List.map_cons, List.map_nil, List.nil_append, List.cons_append, List.append_nil, Int.toNat_natCast, Nat.mul_one, Nat.add_zero, findS, keyOk, isAggS, msetS, mdelS, lookS, lookOk, Option.isSome_some, Option.isSome_none, Option.isNone_some, Option.isNone_none, Nat.zero_ne_one, Nat.one_ne_zero, Bool.and_false, Bool.and_true, List.drop_zero, Vec.zero_cells, Vec.take_all, Vec.spl_all, Dt.cells_one, Dt.take_all, Dt.get0, Dt.get1, Dt.spl_all, Dt.zero_cells, Dt.bld, bldS, datas, appB, appX, List.all_cons, List.all_nil, SV.isOne, Int.cast_ofNat_Int, Int.reduceBNe, Int.reduceBEq, Int.reduceLT, Int.reduceLE, Int.reduceGT, Int.reduceGE, one_map, bq_ft, bq_tf, Bool.not_true, Bool.not_false, Bool.or_false, Bool.or_true, Bool.false_or, Bool.or_self, Vec.row0, Vec.row8, Vec.row16, Vec.row24, Vec.datas_app, Vec.datas_one, Dt.row0, Dt.row2, Dt.datas_app, Dt.datas_one, List.all_append, Vec.eqb8, Dt.eqb, Bool.cond_true, Bool.cond_false]; rfl) (by simp [-List.length_flatMap, -Int.natCast_add] <;> omega) (by rfl) ?_
  refine SW.seq ?_
  refine SW.reg [] mixed (by simp only [runs, runOp, goOp, sop, ev, evs, evp, upd, argE, List.lookup, Nat.reduceBEq, Nat.reduceAdd, Nat.reduceMul, Nat.zero_add, SV.cells, if_true, if_false, reduceIte, Bool.false_eq_true, roOf, hmrg, hsets, hdels, hset, hrep, hdel, touchL, lk, List.filter, Nat.reduceBNe, bne_self_eq_false, ldv, ldo, cellsAt, binV, binK, mvp, Vec.cells_one, BEq.rfl, beq_self_eq_true, Bool.true_or, Nat.reduceEqDiff, List.map_cons, List.map_nil, List.nil_append, List.cons_append, List.append_nil, Int.toNat_natCast, Nat.mul_one, Nat.add_zero, findS, keyOk, isAggS, msetS, mdelS, lookS, lookOk, Option.isSome_some, Option.isSome_none, Option.isNone_some, Option.isNone_none, Nat.zero_ne_one, Nat.one_ne_zero, Bool.and_false, Bool.and_true, List.drop_zero, Vec.zero_cells, Vec.take_all, Vec.spl_all, Dt.cells_one, Dt.take_all, Dt.get0, Dt.get1, Dt.spl_all, Dt.zero_cells, Dt.bld, bldS, datas, appB, appX, List.all_cons, List.all_nil, SV.isOne, Int.cast_ofNat_Int, Int.reduceBNe, Int.reduceBEq, Int.reduceLT, Int.reduceLE, Int.reduceGT, Int.reduceGE, one_map, bq_ft, bq_tf, Bool.not_true, Bool.not_false, Bool.or_false, Bool.or_true, Bool.false_or, Bool.or_self, Vec.row0, Vec.row8, Vec.row16, Vec.row24, Vec.datas_app, Vec.datas_one, Dt.row0, Dt.row2, Dt.datas_app, Dt.datas_one, List.all_append, Vec.eqb8, Dt.eqb, Bool.cond_true, Bool.cond_false]; rfl) (by simp [-List.length_flatMap, -Int.natCast_add] <;> omega) (by rfl) ?_
  refine SW.ret ?_
  refine fin_pure (by rfl) trivial ?_ rfl
  simp only [retV, u32]
  congr 2
  split <;> omega
def Two (g : Nat) (op : Nat → Nat → Nat) : Prop := ∀ a b k : Nat, SCd Tryd.prog g [.d (.int .u32 (a : Int)), .d (.int .u32 (b : Int))] [] k 0 (.d (.int .u32 ((op a b : Nat) : Int))) []
theorem two_max : Two vector_Merge_1.f max := fun a b k => (max_ok a b).sc rfl k
abbrev fnOb (g : Nat) : Ob := .box T_func_uint32_uint32_uint32 [.fn (.func g) [] []]
theorem each1_ok {g : Nat} {op : Nat → Nat → Nat} (hg : Two g op) (a b : Vec) : SB Tryd.prog vector_each_1.f [.agg a.cells, .agg b.cells, .ptr 0 0] [(0, fnOb g)] 1 0 fun r F => r = .agg (Vec.zip op a b).cells ∧ F = [(0, fnOb g)] := by
  refine vector_each_1.enter rfl rfl (by simp) ?_
  dsimp only [vector_each_1.s, Co.M, Co.G, Co.J, Co.H, Co.N, Co.F, Co.C, Co.Z, Co.B, Co.b8, Co.b32, Co.b64, Co.i6, Co.z8, Co.z29]
  refine SW.seq ?_
  refine SW.reg [] mixed (by simp only [runs, runOp, goOp, sop, ev, evs, evp, upd, argE, List.lookup, Nat.reduceBEq, Nat.reduceAdd, Nat.reduceMul, Nat.zero_add, SV.cells, if_true, if_false, reduceIte, Bool.false_eq_true, roOf, hmrg, hsets, hdels, hset, hrep, hdel, touchL, lk, List.filter, Nat.reduceBNe, bne_self_eq_false, ldv, ldo, cellsAt, binV, binK, mvp, Vec.cells_one, BEq.rfl, beq_self_eq_true, Bool.true_or, Nat.reduceEqDiff, List.map_cons, List.map_nil, List.nil_append, List.cons_append, List.append_nil, Int.toNat_natCast, Nat.mul_one, Nat.add_zero, findS, keyOk, isAggS, msetS, mdelS, lookS, lookOk, Option.isSome_some, Option.isSome_none, Option.isNone_some, Option.isNone_none, Nat.zero_ne_one, Nat.one_ne_zero, Bool.and_false, Bool.and_true, List.drop_zero, Vec.zero_cells, Vec.take_all, Vec.spl_all, Dt.cells_one, Dt.take_all, Dt.get0, Dt.get1, Dt.spl_all, Dt.zero_cells, Dt.bld, bldS, datas, appB, appX, List.all_cons, List.all_nil, SV.isOne, Int.cast_ofNat_Int, Int.reduceBNe, Int.reduceBEq, Int.reduceLT, Int.reduceLE, Int.reduceGT, Int.reduceGE, one_map, bq_ft, bq_tf, Bool.not_true, Bool.not_false, Bool.or_false, Bool.or_true, Bool.false_or, Bool.or_self, Vec.row0, Vec.row8, Vec.row16, Vec.row24, Vec.datas_app, Vec.datas_one, Dt.row0, Dt.row2, Dt.datas_app, Dt.datas_one, List.all_append, Vec.eqb8, Dt.eqb, Bool.cond_true, Bool.cond_false]; rfl) (by simp [-List.length_flatMap, -Int.natCast_add] <;> omega) (by rfl) ?_
  refine SW.seq ?_
  refine SW.seq ?_
  refine SW.reg [] mixed (by simp only [runs, runOp, goOp, sop, ev, evs, evp, upd, argE, List.lookup, Nat.reduceBEq, Nat.reduceAdd, Nat.reduceMul, Nat.zero_add, SV.cells, if_true, if_false, reduceIte, Bool.false_eq_true, roOf, hmrg, hsets, hdels, hset, hrep, hdel, touchL, lk, List.filter, Nat.reduceBNe, bne_self_eq_false, ldv, ldo, cellsAt, binV, binK, mvp, Vec.cells_one, BEq.rfl, beq_self_eq_true, Bool.true_or, Nat.reduceEqDiff, List.map_cons, List.map_nil, List.nil_append, List.cons_append, List.append_nil, Int.toNat_natCast, Nat.mul_one, Nat.add_zero, findS, keyOk, isAggS, msetS, mdelS, lookS, lookOk, Option.isSome_some, Option.isSome_none, Option.isNone_some, Option.isNone_none, Nat.zero_ne_one, Nat.one_ne_zero, Bool.and_false, Bool.and_true, List.drop_zero, Vec.zero_cells, Vec.take_all, Vec.spl_all, Dt.cells_one, Dt.take_all, Dt.get0, Dt.get1, Dt.spl_all, Dt.zero_cells, Dt.bld, bldS, datas, appB, appX, List.all_cons, List.all_nil, SV.isOne, Int.cast_ofNat_Int, Int.reduceBNe, Int.reduceBEq, Int.reduceLT, Int.reduceLE, Int.reduceGT, Int.reduceGE, one_map, bq_ft, bq_tf, Bool.not_true, Bool.not_false, Bool.or_false, Bool.or_true, Bool.false_or, Bool.or_self, Vec.row0, Vec.row8, Vec.row16, Vec.row24, Vec.datas_app, Vec.datas_one, Dt.row0, Dt.row2, Dt.datas_app, Dt.datas_one, List.all_append, Vec.eqb8, Dt.eqb, Bool.cond_true, Bool.cond_false]; rfl) (by simp [-List.length_flatMap, -Int.natCast_add] <;> omega) (by rfl) ?_
  refine SW.block ?_
  refine SW.loopS (α := {i : Nat // i ≤ 8}) (fun i => ⟨[(7, i64 i.1), (2, .ptr 0 0), (3, .ptr 1 0), (4, .ptr 2 0), (5, .ptr 3 0)], [(0, fnOb g), (1, .box 29 a.cells), (2, .box 29 b.cells), (3, .box 29 (Vec.upto i.1 (Vec.zip op a b) Vec.zero).cells)], 4⟩) (fun i => 8 - i.1) ⟨0, by omega⟩ (by simp only [Vec.upto_zero]; simp [Go.Sl.Sub, EnvS, HpS, SV.ok, Ob.ok, SV.oks, lk, List.lookup, Vec.cells_ok]) ?_
  rintro ⟨i, hi⟩
  refine SW.seq ?_
  refine SW.reg [] mixed (by simp only [runs, runOp, goOp, sop, ev, evs, evp, upd, argE, List.lookup, Nat.reduceBEq, Nat.reduceAdd, Nat.reduceMul, Nat.zero_add, SV.cells, if_true, if_false, reduceIte, Bool.false_eq_true, roOf, hmrg, hsets, hdels, hset, hrep, hdel, touchL, lk, List.filter, Nat.reduceBNe, bne_self_eq_false, ldv, ldo, cellsAt, binV, binK, mvp, Vec.cells_one, BEq.rfl, beq_self_eq_true, Bool.true_or, Nat.reduceEqDiff, List.map_cons, List.map_nil, List.nil_append, List.cons_append, List.append_nil, Int.toNat_natCast, Nat.mul_one, Nat.add_zero, findS, keyOk, isAggS, msetS, mdelS, lookS, lookOk, Option.isSome_some, Option.isSome_none, Option.isNone_some, Option.isNone_none, Nat.zero_ne_one, Nat.one_ne_zero, Bool.and_false, Bool.and_true, List.drop_zero, Vec.zero_cells, Vec.take_all, Vec.spl_all, Dt.cells_one, Dt.take_all, Dt.get0, Dt.get1, Dt.spl_all, Dt.zero_cells, Dt.bld, bldS, datas, appB, appX, List.all_cons, List.all_nil, SV.isOne, Int.cast_ofNat_Int, Int.reduceBNe, Int.reduceBEq, Int.reduceLT, Int.reduceLE, Int.reduceGT, Int.reduceGE, one_map, bq_ft, bq_tf, Bool.not_true, Bool.not_false, Bool.or_false, Bool.or_true, Bool.false_or, Bool.or_self, Vec.row0, Vec.row8, Vec.row16, Vec.row24, Vec.datas_app, Vec.datas_one, Dt.row0, Dt.row2, Dt.datas_app, Dt.datas_one, List.all_append, Vec.eqb8, Dt.eqb, Bool.cond_true, Bool.cond_false]; rfl) (by simp [-List.length_flatMap, -Int.natCast_add] <;> omega) (by rfl) ?_
  refine SW.seq ?_
  refine SW.cond rfl (fun h => SW.skip ?_) (fun h => SW.exit ?_)
  · have h : i < 8 := by simp at h; omega
    refine SW.seq ?_
    refine SW.block ?_
    refine SW.seq ?_
    refine SW.reg [] mixed (by simp only [runs, runOp, goOp, sop, ev, evs, evp, upd, argE, List.lookup, Nat.reduceBEq, Nat.reduceAdd, Nat.reduceMul, Nat.zero_add, SV.cells, if_true, if_false, reduceIte, Bool.false_eq_true, roOf, hmrg, hsets, hdels, hset, hrep, hdel, touchL, lk, List.filter, Nat.reduceBNe, bne_self_eq_false, ldv, ldo, cellsAt, binV, binK, mvp, Vec.cells_one, BEq.rfl, beq_self_eq_true, Bool.true_or, Nat.reduceEqDiff, List.map_cons, List.map_nil, List.nil_append, List.cons_append, List.append_nil, Int.toNat_natCast, Nat.mul_one, Nat.add_zero, findS, keyOk, isAggS, msetS, mdelS, lookS, lookOk, Option.isSome_some, Option.isSome_none, Option.isNone_some, Option.isNone_none, Nat.zero_ne_one, Nat.one_ne_zero, Bool.and_false, Bool.and_true, List.drop_zero, Vec.zero_cells, Vec.take_all, Vec.spl_all, Dt.cells_one, Dt.take_all, Dt.get0, Dt.get1, Dt.spl_all, Dt.zero_cells, Dt.bld, bldS, datas, appB, appX, List.all_cons, List.all_nil, SV.isOne, Int.cast_ofNat_Int, Int.reduceBNe, Int.reduceBEq, Int.reduceLT, Int.reduceLE, Int.reduceGT, Int.reduceGE, one_map, bq_ft, bq_tf, Bool.not_true, Bool.not_false, Bool.or_false, Bool.or_true, Bool.false_or, Bool.or_self, Vec.row0, Vec.row8, Vec.row16, Vec.row24, Vec.datas_app, Vec.datas_one, Dt.row0, Dt.row2, Dt.datas_app, Dt.datas_one, List.all_append, Vec.eqb8, Dt.eqb, Bool.cond_true, Bool.cond_false]; rfl) (by simp [-List.length_flatMap, -Int.natCast_add] <;> omega) (by rfl) ?_
    refine SW.reg [.call [] (u32 (op (a.get i) (b.get i))) [] 0] mixed (by simp only [runs, runOp, goOp, sop, ev, evs, evp, upd, argE, List.lookup, Nat.reduceBEq, Nat.reduceAdd, Nat.reduceMul, Nat.zero_add, SV.cells, if_true, if_false, reduceIte, Bool.false_eq_true, roOf, hmrg, hsets, hdels, hset, hrep, hdel, touchL, lk, List.filter, Nat.reduceBNe, bne_self_eq_false, ldv, ldo, cellsAt, binV, binK, mvp, Vec.cells_one, BEq.rfl, beq_self_eq_true, Bool.true_or, Nat.reduceEqDiff, List.map_cons, List.map_nil, List.nil_append, List.cons_append, List.append_nil, Int.toNat_natCast, Nat.mul_one, Nat.add_zero, findS, keyOk, isAggS, msetS, mdelS, lookS, lookOk, Option.isSome_some, Option.isSome_none, Option.isNone_some, Option.isNone_none, Nat.zero_ne_one, Nat.one_ne_zero, Bool.and_false, Bool.and_true, List.drop_zero, Vec.zero_cells, Vec.take_all, Vec.spl_all, Dt.cells_one, Dt.take_all, Dt.get0, Dt.get1, Dt.spl_all, Dt.zero_cells, Dt.bld, bldS, datas, appB, appX, List.all_cons, List.all_nil, SV.isOne, Int.cast_ofNat_Int, Int.reduceBNe, Int.reduceBEq, Int.reduceLT, Int.reduceLE, Int.reduceGT, Int.reduceGE, one_map, bq_ft, bq_tf, Bool.not_true, Bool.not_false, Bool.or_false, Bool.or_true, Bool.false_or, Bool.or_self, Vec.row0, Vec.row8, Vec.row16, Vec.row24, Vec.datas_app, Vec.datas_one, Dt.row0, Dt.row2, Dt.datas_app, Dt.datas_one, List.all_append, Vec.eqb8, Dt.eqb, Bool.cond_true, Bool.cond_false, a.cells_get h, b.cells_get h]; rfl) (by simp [-List.length_flatMap, -Int.natCast_add, lk, List.lookup, hg (a.get i) (b.get i)] <;> omega) (by rfl) ?_
    have e : (Vec.upto i (Vec.zip op a b) Vec.zero).set i (op (a.get i) (b.get i)) = Vec.upto (i + 1) (Vec.zip op a b) Vec.zero := by
      rw [← Vec.upto_succ _ _ h]; congr 1; simp [Vec.zip, Vec.get_of _ h]
    simp only [Vec.spl_set _ h, e]
    refine SW.reg [] mixed (by simp only [runs, runOp, goOp, sop, ev, evs, evp, upd, argE, List.lookup, Nat.reduceBEq, Nat.reduceAdd, Nat.reduceMul, Nat.zero_add, SV.cells, if_true, if_false, reduceIte, Bool.false_eq_true, roOf, hmrg, hsets, hdels, hset, hrep, hdel, touchL, lk, List.filter, Nat.reduceBNe, bne_self_eq_false, ldv, ldo, cellsAt, binV, binK, mvp, Vec.cells_one, BEq.rfl, beq_self_eq_true, Bool.true_or, Nat.reduceEqDiff, List.map_cons, List.map_nil, List.nil_append, List.cons_append, List.append_nil, Int.toNat_natCast, Nat.mul_one, Nat.add_zero, findS, keyOk, isAggS, msetS, mdelS, lookS, lookOk, Option.isSome_some, Option.isSome_none, Option.isNone_some, Option.isNone_none, Nat.zero_ne_one, Nat.one_ne_zero, Bool.and_false, Bool.and_true, List.drop_zero, Vec.zero_cells, Vec.take_all, Vec.spl_all, Dt.cells_one, Dt.take_all, Dt.get0, Dt.get1, Dt.spl_all, Dt.zero_cells, Dt.bld, bldS, datas, appB, appX, List.all_cons, List.all_nil, SV.isOne, Int.cast_ofNat_Int, Int.reduceBNe, Int.reduceBEq, Int.reduceLT, Int.reduceLE, Int.reduceGT, Int.reduceGE, one_map, bq_ft, bq_tf, Bool.not_true, Bool.not_false, Bool.or_false, Bool.or_true, Bool.false_or, Bool.or_self, Vec.row0, Vec.row8, Vec.row16, Vec.row24, Vec.datas_app, Vec.datas_one, Dt.row0, Dt.row2, Dt.datas_app, Dt.datas_one, List.all_append, Vec.eqb8, Dt.eqb, Bool.cond_true, Bool.cond_false, wrap_succ i (by omega)]; rfl) (by simp [-List.length_flatMap, -Int.natCast_add] <;> omega) (by rfl) ?_
    exact ⟨⟨i + 1, by omega⟩, by simp; omega, by simp [Go.Sl.Sub, EnvS, HpS, SV.ok, Ob.ok, SV.oks, lk, List.lookup, Vec.cells_ok]⟩
  · have h : i = 8 := by simp at h; omega
    subst h
    refine SW.seq ?_
    simp only [Vec.upto_all]
    refine SW.reg [] mixed (by simp only [runs, runOp, goOp, sop, ev, evs, evp, upd, argE, List.lookup, Nat.reduceBEq, Nat.reduceAdd, Nat.reduceMul, Nat.zero_add, SV.cells, if_true, if_false, reduceIte, Bool.false_eq_true, roOf, hmrg, hsets, hdels, hset, hrep, hdel, touchL, lk, List.filter, Nat.reduceBNe, bne_self_eq_false, ldv, ldo, cellsAt, binV, binK, mvp, Vec.cells_one, BEq.rfl, beq_self_eq_true, Bool.true_or, Nat.reduceEqDiff, List.map_cons, List.map_nil, List.nil_append, List.cons_append, List.append_nil, Int.toNat_natCast, Nat.mul_one, Nat.add_zero, findS, keyOk, isAggS, msetS, mdelS, lookS, lookOk, Option.isSome_some, Option.isSome_none, Option.isNone_some, Option.isNone_none, Nat.zero_ne_one, Nat.one_ne_zero, Bool.and_false, Bool.and_true, List.drop_zero, Vec.zero_cells, Vec.take_all, Vec.spl_all, Dt.cells_one, Dt.take_all, Dt.get0, Dt.get1, Dt.spl_all, Dt.zero_cells, Dt.bld, bldS, datas, appB, appX, List.all_cons, List.all_nil, SV.isOne, Int.cast_ofNat_Int, Int.reduceBNe, Int.reduceBEq, Int.reduceLT, Int.reduceLE, Int.reduceGT, Int.reduceGE, one_map, bq_ft, bq_tf, Bool.not_true, Bool.not_false, Bool.or_false, Bool.or_true, Bool.false_or, Bool.or_self, Vec.row0, Vec.row8, Vec.row16, Vec.row24, Vec.datas_app, Vec.datas_one, Dt.row0, Dt.row2, Dt.datas_app, Dt.datas_one, List.all_append, Vec.eqb8, Dt.eqb, Bool.cond_true, Bool.cond_false]; rfl) (by simp [-List.length_flatMap, -Int.natCast_add] <;> omega) (by rfl) ?_
    refine SW.ret ?_
    exact ⟨_, _, [(0, fnOb g)], by rfl, by simp [ldo], by simp [lk], ⟨rfl, rfl⟩, rfl, rfl, by simp⟩
theorem each1_at {g : Nat} {op : Nat → Nat → Nat} (hg : Two g op) (a b : Vec) (n k : Nat) : SCd Tryd.prog vector_each_1.f [.agg a.cells, .agg b.cells, .ptr n 0] [(n, fnOb g)] k 0 (.agg (Vec.zip op a b).cells) [(n, fnOb g)] :=
  SB.atL [n] (each1_ok hg a b) (by simp) (by simp [lk]) k
theorem each_ok (g : Nat) : SB Tryd.prog vector_each.f [.fn (.func g) [] []] [] 0 1 fun r F => r = .fn (.func vector_each_1.f) [] [.ptr 0 0] ∧ F = [(0, fnOb g)] := by
  refine vector_each.enter rfl rfl (by simp) ?_
  dsimp only [vector_each.s, Co.M, Co.G, Co.J, Co.H, Co.N, Co.F, Co.C, Co.Z, Co.B, Co.b8, Co.b32, Co.b64, Co.i6, Co.z8, Co.z29]
  refine SW.seq ?_
  refine SW.reg [] mixed (by simp only [runs, runOp, goOp, sop, ev, evs, evp, upd, argE, List.lookup, Nat.reduceBEq, Nat.reduceAdd, Nat.reduceMul, Nat.zero_add, SV.cells, if_true, if_false, reduceIte, Bool.false_eq_true, roOf, hmrg, hsets, hdels, hset, hrep, hdel, touchL, lk, List.filter, Nat.reduceBNe, bne_self_eq_false, ldv, ldo, cellsAt, binV, binK, mvp, Vec.cells_one, BEq.rfl, beq_self_eq_true, Bool.true_or, Nat.reduceEqDiff, List.map_cons, List.map_nil, List.nil_append, List.cons_append, List.append_nil, Int.toNat_natCast, Nat.mul_one, Nat.add_zero, findS, keyOk, isAggS, msetS, mdelS, lookS, lookOk, Option.isSome_some, Option.isSome_none, Option.isNone_some, Option.isNone_none, Nat.zero_ne_one, Nat.one_ne_zero, Bool.and_false, Bool.and_true, List.drop_zero, Vec.zero_cells, Vec.take_all, Vec.spl_all, Dt.cells_one, Dt.take_all, Dt.get0, Dt.get1, Dt.spl_all, Dt.zero_cells, Dt.bld, bldS, datas, appB, appX, List.all_cons, List.all_nil, SV.isOne, Int.cast_ofNat_Int, Int.reduceBNe, Int.reduceBEq, Int.reduceLT, Int.reduceLE, Int.reduceGT, Int.reduceGE, one_map, bq_ft, bq_tf, Bool.not_true, Bool.not_false, Bool.or_false, Bool.or_true, Bool.false_or, Bool.or_self, Vec.row0, Vec.row8, Vec.row16, Vec.row24, Vec.datas_app, Vec.datas_one, Dt.row0, Dt.row2, Dt.datas_app, Dt.datas_one, List.all_append, Vec.eqb8, Dt.eqb, Bool.cond_true, Bool.cond_false]; rfl) (by simp [-List.length_flatMap, -Int.natCast_add] <;> omega) (by rfl) ?_
  refine SW.seq ?_
  refine SW.reg [] mixed (by simp only [runs, runOp, goOp, sop, ev, evs, evp, upd, argE, List.lookup, Nat.reduceBEq, Nat.reduceAdd, Nat.reduceMul, Nat.zero_add, SV.cells, if_true, if_false, reduceIte, Bool.false_eq_true, roOf, hmrg, hsets, hdels, hset, hrep, hdel, touchL, lk, List.filter, Nat.reduceBNe, bne_self_eq_false, ldv, ldo, cellsAt, binV, binK, mvp, Vec.cells_one, BEq.rfl, beq_self_eq_true, Bool.true_or, Nat.reduceEqDiff, List.map_cons, List.map_nil, List.nil_append, List.cons_append, List.append_nil, Int.toNat_natCast, Nat.mul_one, Nat.add_zero, findS, keyOk, isAggS, msetS, mdelS, lookS, lookOk, Option.isSome_some, Option.isSome_none, Option.isNone_some, Option.isNone_none, Nat.zero_ne_one, Nat.one_ne_zero, Bool.and_false, Bool.and_true, List.drop_zero, Vec.zero_cells, Vec.take_all, Vec.spl_all, Dt.cells_one, Dt.take_all, Dt.get0, Dt.get1, Dt.spl_all, Dt.zero_cells, Dt.bld, bldS, datas, appB, appX, List.all_cons, List.all_nil, SV.isOne, Int.cast_ofNat_Int, Int.reduceBNe, Int.reduceBEq, Int.reduceLT, Int.reduceLE, Int.reduceGT, Int.reduceGE, one_map, bq_ft, bq_tf, Bool.not_true, Bool.not_false, Bool.or_false, Bool.or_true, Bool.false_or, Bool.or_self, Vec.row0, Vec.row8, Vec.row16, Vec.row24, Vec.datas_app, Vec.datas_one, Dt.row0, Dt.row2, Dt.datas_app, Dt.datas_one, List.all_append, Vec.eqb8, Dt.eqb, Bool.cond_true, Bool.cond_false]; rfl) (by simp [-List.length_flatMap, -Int.natCast_add] <;> omega) (by rfl) ?_
  refine SW.ret ?_
  exact ⟨_, _, [(0, fnOb g)], by rfl, by simp [ldo], by simp [lk], ⟨rfl, rfl⟩, rfl, rfl, by simp⟩
theorem each_at (g k : Nat) : SCd Tryd.prog vector_each.f [.fn (.func g) [] []] [] k 1 (.fn (.func vector_each_1.f) [] [.ptr k 0]) [(k, fnOb g)] := by
  have := SB.new (each_ok g) k
  simpa [SV.ren, SV.rens, Hp.ren, Ob.ren, atN] using this
theorem all_ok {g : Nat} {op : Nat → Nat → Nat} (hg : Two g op) (l : List Vec) (hl : l.length < 1000000000) : SB Tryd.prog vector_all_api_Vector.f [.fn (.func vector_each_1.f) [] [.ptr 0 0], vecs l] [(0, fnOb g)] 1 0
    fun r F => r = .agg (Vec.all op l).cells ∧ F = [(0, fnOb g)] := by
  refine vector_all_api_Vector.enter rfl rfl (by simp) ?_
  dsimp only [vector_all_api_Vector.s, Co.M, Co.G, Co.J, Co.H, Co.N, Co.F, Co.C, Co.Z, Co.B, Co.b8, Co.b32, Co.b64, Co.i6, Co.z8, Co.z29]
  refine SW.seq ?_
  refine SW.reg [] mixed (by simp only [runs, runOp, goOp, sop, ev, evs, evp, upd, argE, List.lookup, Nat.reduceBEq, Nat.reduceAdd, Nat.reduceMul, Nat.zero_add, SV.cells, if_true, if_false, reduceIte, Bool.false_eq_true, roOf, hmrg, hsets, hdels, hset, hrep, hdel, touchL, lk, List.filter, Nat.reduceBNe, bne_self_eq_false, ldv, ldo, cellsAt, binV, binK, mvp, Vec.cells_one, BEq.rfl, beq_self_eq_true, Bool.true_or, Nat.reduceEqDiff, List.map_cons, List.map_nil, List.nil_append, List.cons_append, List.append_nil, Int.toNat_natCast, Nat.mul_one, Nat.add_zero, findS, keyOk, isAggS, msetS, mdelS, lookS, lookOk, Option.isSome_some, Option.isSome_none, Option.isNone_some, Option.isNone_none, Nat.zero_ne_one, Nat.one_ne_zero, Bool.and_false, Bool.and_true, List.drop_zero, Vec.zero_cells, Vec.take_all, Vec.spl_all, Dt.cells_one, Dt.take_all, Dt.get0, Dt.get1, Dt.spl_all, Dt.zero_cells, Dt.bld, bldS, datas, appB, appX, List.all_cons, List.all_nil, SV.isOne, Int.cast_ofNat_Int, Int.reduceBNe, Int.reduceBEq, Int.reduceLT, Int.reduceLE, Int.reduceGT, Int.reduceGE, one_map, bq_ft, bq_tf, Bool.not_true, Bool.not_false, Bool.or_false, Bool.or_true, Bool.false_or, Bool.or_self, Vec.row0, Vec.row8, Vec.row16, Vec.row24, Vec.datas_app, Vec.datas_one, Dt.row0, Dt.row2, Dt.datas_app, Dt.datas_one, List.all_append, Vec.eqb8, Dt.eqb, Bool.cond_true, Bool.cond_false]; rfl) (by simp [-List.length_flatMap, -Int.natCast_add] <;> omega) (by rfl) ?_
  refine SW.seq ?_
  refine SW.seq ?_
  refine SW.reg [] mixed (by simp only [runs, runOp, goOp, sop, ev, evs, evp, upd, argE, List.lookup, Nat.reduceBEq, Nat.reduceAdd, Nat.reduceMul, Nat.zero_add, SV.cells, if_true, if_false, reduceIte, Bool.false_eq_true, roOf, hmrg, hsets, hdels, hset, hrep, hdel, touchL, lk, List.filter, Nat.reduceBNe, bne_self_eq_false, ldv, ldo, cellsAt, binV, binK, mvp, Vec.cells_one, BEq.rfl, beq_self_eq_true, Bool.true_or, Nat.reduceEqDiff, List.map_cons, List.map_nil, List.nil_append, List.cons_append, List.append_nil, Int.toNat_natCast, Nat.mul_one, Nat.add_zero, findS, keyOk, isAggS, msetS, mdelS, lookS, lookOk, Option.isSome_some, Option.isSome_none, Option.isNone_some, Option.isNone_none, Nat.zero_ne_one, Nat.one_ne_zero, Bool.and_false, Bool.and_true, List.drop_zero, Vec.zero_cells, Vec.take_all, Vec.spl_all, Dt.cells_one, Dt.take_all, Dt.get0, Dt.get1, Dt.spl_all, Dt.zero_cells, Dt.bld, bldS, datas, appB, appX, List.all_cons, List.all_nil, SV.isOne, Int.cast_ofNat_Int, Int.reduceBNe, Int.reduceBEq, Int.reduceLT, Int.reduceLE, Int.reduceGT, Int.reduceGE, one_map, bq_ft, bq_tf, Bool.not_true, Bool.not_false, Bool.or_false, Bool.or_true, Bool.false_or, Bool.or_self, Vec.row0, Vec.row8, Vec.row16, Vec.row24, Vec.datas_app, Vec.datas_one, Dt.row0, Dt.row2, Dt.datas_app, Dt.datas_one, List.all_append, Vec.eqb8, Dt.eqb, Bool.cond_true, Bool.cond_false]; rfl) (by simp [-List.length_flatMap, -Int.natCast_add] <;> omega) (by rfl) ?_
  refine SW.block ?_
  refine SW.loopS (α := {i : Nat // i ≤ l.length}) (fun i => ⟨[(9, i64 i.1), (8, i64 l.length), (7, vecs l), (4, .ptr 1 0), (0, .fn (.func vector_each_1.f) [] [.ptr 0 0])], [(0, fnOb g), (1, .box 29 (Vec.all op (l.take i.1)).cells)], 2⟩) (fun i => l.length - i.1) ⟨0, by omega⟩ (by simp [Vec.all]; simp [Go.Sl.Sub, EnvS, HpS, SV.ok, Ob.ok, SV.oks, lk, List.lookup, Vec.cells_ok]) ?_
  rintro ⟨i, hi⟩
  refine SW.seq ?_
  refine SW.reg [] mixed (by simp only [runs, runOp, goOp, sop, ev, evs, evp, upd, argE, List.lookup, Nat.reduceBEq, Nat.reduceAdd, Nat.reduceMul, Nat.zero_add, SV.cells, if_true, if_false, reduceIte, Bool.false_eq_true, roOf, hmrg, hsets, hdels, hset, hrep, hdel, touchL, lk, List.filter, Nat.reduceBNe, bne_self_eq_false, ldv, ldo, cellsAt, binV, binK, mvp, Vec.cells_one, BEq.rfl, beq_self_eq_true, Bool.true_or, Nat.reduceEqDiff, List.map_cons, List.map_nil, List.nil_append, List.cons_append, List.append_nil, Int.toNat_natCast, Nat.mul_one, Nat.add_zero, findS, keyOk, isAggS, msetS, mdelS, lookS, lookOk, Option.isSome_some, Option.isSome_none, Option.isNone_some, Option.isNone_none, Nat.zero_ne_one, Nat.one_ne_zero, Bool.and_false, Bool.and_true, List.drop_zero, Vec.zero_cells, Vec.take_all, Vec.spl_all, Dt.cells_one, Dt.take_all, Dt.get0, Dt.get1, Dt.spl_all, Dt.zero_cells, Dt.bld, bldS, datas, appB, appX, List.all_cons, List.all_nil, SV.isOne, Int.cast_ofNat_Int, Int.reduceBNe, Int.reduceBEq, Int.reduceLT, Int.reduceLE, Int.reduceGT, Int.reduceGE, one_map, bq_ft, bq_tf, Bool.not_true, Bool.not_false, Bool.or_false, Bool.or_true, Bool.false_or, Bool.or_self, Vec.row0, Vec.row8, Vec.row16, Vec.row24, Vec.datas_app, Vec.datas_one, Dt.row0, Dt.row2, Dt.datas_app, Dt.datas_one, List.all_append, Vec.eqb8, Dt.eqb, Bool.cond_true, Bool.cond_false]; rfl) (by simp [-List.length_flatMap, -Int.natCast_add] <;> omega) (by rfl) ?_
  refine SW.seq ?_
  refine SW.cond rfl (fun h => SW.skip ?_) (fun h => SW.exit ?_)
  · have h : i < l.length := by simp at h; omega
    obtain ⟨x, hx⟩ := get_of_lt h
    refine SW.seq ?_
    refine SW.block ?_
    refine SW.seq ?_
    refine SW.reg [] mixed (by simp only [runs, runOp, goOp, sop, ev, evs, evp, upd, argE, List.lookup, Nat.reduceBEq, Nat.reduceAdd, Nat.reduceMul, Nat.zero_add, SV.cells, if_true, if_false, reduceIte, Bool.false_eq_true, roOf, hmrg, hsets, hdels, hset, hrep, hdel, touchL, lk, List.filter, Nat.reduceBNe, bne_self_eq_false, ldv, ldo, cellsAt, binV, binK, mvp, Vec.cells_one, BEq.rfl, beq_self_eq_true, Bool.true_or, Nat.reduceEqDiff, List.map_cons, List.map_nil, List.nil_append, List.cons_append, List.append_nil, Int.toNat_natCast, Nat.mul_one, Nat.add_zero, findS, keyOk, isAggS, msetS, mdelS, lookS, lookOk, Option.isSome_some, Option.isSome_none, Option.isNone_some, Option.isNone_none, Nat.zero_ne_one, Nat.one_ne_zero, Bool.and_false, Bool.and_true, List.drop_zero, Vec.zero_cells, Vec.take_all, Vec.spl_all, Dt.cells_one, Dt.take_all, Dt.get0, Dt.get1, Dt.spl_all, Dt.zero_cells, Dt.bld, bldS, datas, appB, appX, List.all_cons, List.all_nil, SV.isOne, Int.cast_ofNat_Int, Int.reduceBNe, Int.reduceBEq, Int.reduceLT, Int.reduceLE, Int.reduceGT, Int.reduceGE, one_map, bq_ft, bq_tf, Bool.not_true, Bool.not_false, Bool.or_false, Bool.or_true, Bool.false_or, Bool.or_self, Vec.row0, Vec.row8, Vec.row16, Vec.row24, Vec.datas_app, Vec.datas_one, Dt.row0, Dt.row2, Dt.datas_app, Dt.datas_one, List.all_append, Vec.eqb8, Dt.eqb, Bool.cond_true, Bool.cond_false, vec_at hx]; rfl) (by simp [-List.length_flatMap, -Int.natCast_add] <;> omega) (by rfl) ?_
    refine SW.seq ?_
    refine SW.reg [.call [(0, fnOb g)] (.agg (Vec.zip op (Vec.all op (l.take i)) x).cells) [(0, fnOb g)] 0] mixed (by simp only [runs, runOp, goOp, sop, ev, evs, evp, upd, argE, List.lookup, Nat.reduceBEq, Nat.reduceAdd, Nat.reduceMul, Nat.zero_add, SV.cells, if_true, if_false, reduceIte, Bool.false_eq_true, roOf, hmrg, hsets, hdels, hset, hrep, hdel, touchL, lk, List.filter, Nat.reduceBNe, bne_self_eq_false, ldv, ldo, cellsAt, binV, binK, mvp, Vec.cells_one, BEq.rfl, beq_self_eq_true, Bool.true_or, Nat.reduceEqDiff, List.map_cons, List.map_nil, List.nil_append, List.cons_append, List.append_nil, Int.toNat_natCast, Nat.mul_one, Nat.add_zero, findS, keyOk, isAggS, msetS, mdelS, lookS, lookOk, Option.isSome_some, Option.isSome_none, Option.isNone_some, Option.isNone_none, Nat.zero_ne_one, Nat.one_ne_zero, Bool.and_false, Bool.and_true, List.drop_zero, Vec.zero_cells, Vec.take_all, Vec.spl_all, Dt.cells_one, Dt.take_all, Dt.get0, Dt.get1, Dt.spl_all, Dt.zero_cells, Dt.bld, bldS, datas, appB, appX, List.all_cons, List.all_nil, SV.isOne, Int.cast_ofNat_Int, Int.reduceBNe, Int.reduceBEq, Int.reduceLT, Int.reduceLE, Int.reduceGT, Int.reduceGE, one_map, bq_ft, bq_tf, Bool.not_true, Bool.not_false, Bool.or_false, Bool.or_true, Bool.false_or, Bool.or_self, Vec.row0, Vec.row8, Vec.row16, Vec.row24, Vec.datas_app, Vec.datas_one, Dt.row0, Dt.row2, Dt.datas_app, Dt.datas_one, List.all_append, Vec.eqb8, Dt.eqb, Bool.cond_true, Bool.cond_false]; rfl) (by simp [-List.length_flatMap, -Int.natCast_add, lk, List.lookup, each1_at hg, lk] <;> omega) (by rfl) ?_
    refine SW.seq ?_
    refine SW.reg [] mixed (by simp only [runs, runOp, goOp, sop, ev, evs, evp, upd, argE, List.lookup, Nat.reduceBEq, Nat.reduceAdd, Nat.reduceMul, Nat.zero_add, SV.cells, if_true, if_false, reduceIte, Bool.false_eq_true, roOf, hmrg, hsets, hdels, hset, hrep, hdel, touchL, lk, List.filter, Nat.reduceBNe, bne_self_eq_false, ldv, ldo, cellsAt, binV, binK, mvp, Vec.cells_one, BEq.rfl, beq_self_eq_true, Bool.true_or, Nat.reduceEqDiff, List.map_cons, List.map_nil, List.nil_append, List.cons_append, List.append_nil, Int.toNat_natCast, Nat.mul_one, Nat.add_zero, findS, keyOk, isAggS, msetS, mdelS, lookS, lookOk, Option.isSome_some, Option.isSome_none, Option.isNone_some, Option.isNone_none, Nat.zero_ne_one, Nat.one_ne_zero, Bool.and_false, Bool.and_true, List.drop_zero, Vec.zero_cells, Vec.take_all, Vec.spl_all, Dt.cells_one, Dt.take_all, Dt.get0, Dt.get1, Dt.spl_all, Dt.zero_cells, Dt.bld, bldS, datas, appB, appX, List.all_cons, List.all_nil, SV.isOne, Int.cast_ofNat_Int, Int.reduceBNe, Int.reduceBEq, Int.reduceLT, Int.reduceLE, Int.reduceGT, Int.reduceGE, one_map, bq_ft, bq_tf, Bool.not_true, Bool.not_false, Bool.or_false, Bool.or_true, Bool.false_or, Bool.or_self, Vec.row0, Vec.row8, Vec.row16, Vec.row24, Vec.datas_app, Vec.datas_one, Dt.row0, Dt.row2, Dt.datas_app, Dt.datas_one, List.all_append, Vec.eqb8, Dt.eqb, Bool.cond_true, Bool.cond_false]; rfl) (by simp [-List.length_flatMap, -Int.natCast_add] <;> omega) (by rfl) ?_
    refine SW.cond rfl (fun hc => ?_) (fun hc => SW.skip ?_)
    · have hc : i = 0 := by simp at hc; omega
      subst hc
      refine SW.reg [] mixed (by simp only [runs, runOp, goOp, sop, ev, evs, evp, upd, argE, List.lookup, Nat.reduceBEq, Nat.reduceAdd, Nat.reduceMul, Nat.zero_add, SV.cells, if_true, if_false, reduceIte, Bool.false_eq_true, roOf, hmrg, hsets, hdels, hset, hrep, hdel, touchL, lk, List.filter, Nat.reduceBNe, bne_self_eq_false, ldv, ldo, cellsAt, binV, binK, mvp, Vec.cells_one, BEq.rfl, beq_self_eq_true, Bool.true_or, Nat.reduceEqDiff, List.map_cons, List.map_nil, List.nil_append, List.cons_append, List.append_nil, Int.toNat_natCast, Nat.mul_one, Nat.add_zero, findS, keyOk, isAggS, msetS, mdelS, lookS, lookOk, Option.isSome_some, Option.isSome_none, Option.isNone_some, Option.isNone_none, Nat.zero_ne_one, Nat.one_ne_zero, Bool.and_false, Bool.and_true, List.drop_zero, Vec.zero_cells, Vec.take_all, Vec.spl_all, Dt.cells_one, Dt.take_all, Dt.get0, Dt.get1, Dt.spl_all, Dt.zero_cells, Dt.bld, bldS, datas, appB, appX, List.all_cons, List.all_nil, SV.isOne, Int.cast_ofNat_Int, Int.reduceBNe, Int.reduceBEq, Int.reduceLT, Int.reduceLE, Int.reduceGT, Int.reduceGE, one_map, bq_ft, bq_tf, Bool.not_true, Bool.not_false, Bool.or_false, Bool.or_true, Bool.false_or, Bool.or_self, Vec.row0, Vec.row8, Vec.row16, Vec.row24, Vec.datas_app, Vec.datas_one, Dt.row0, Dt.row2, Dt.datas_app, Dt.datas_one, List.all_append, Vec.eqb8, Dt.eqb, Bool.cond_true, Bool.cond_false]; rfl) (by simp [-List.length_flatMap, -Int.natCast_add] <;> omega) (by rfl) ?_
      refine SW.reg [] mixed (by simp only [runs, runOp, goOp, sop, ev, evs, evp, upd, argE, List.lookup, Nat.reduceBEq, Nat.reduceAdd, Nat.reduceMul, Nat.zero_add, SV.cells, if_true, if_false, reduceIte, Bool.false_eq_true, roOf, hmrg, hsets, hdels, hset, hrep, hdel, touchL, lk, List.filter, Nat.reduceBNe, bne_self_eq_false, ldv, ldo, cellsAt, binV, binK, mvp, Vec.cells_one, BEq.rfl, beq_self_eq_true, Bool.true_or, Nat.reduceEqDiff, List.map_cons, List.map_nil, List.nil_append, List.cons_append, List.append_nil, Int.toNat_natCast, Nat.mul_one, Nat.add_zero, findS, keyOk, isAggS, msetS, mdelS, lookS, lookOk, Option.isSome_some, Option.isSome_none, Option.isNone_some, Option.isNone_none, Nat.zero_ne_one, Nat.one_ne_zero, Bool.and_false, Bool.and_true, List.drop_zero, Vec.zero_cells, Vec.take_all, Vec.spl_all, Dt.cells_one, Dt.take_all, Dt.get0, Dt.get1, Dt.spl_all, Dt.zero_cells, Dt.bld, bldS, datas, appB, appX, List.all_cons, List.all_nil, SV.isOne, Int.cast_ofNat_Int, Int.reduceBNe, Int.reduceBEq, Int.reduceLT, Int.reduceLE, Int.reduceGT, Int.reduceGE, one_map, bq_ft, bq_tf, Bool.not_true, Bool.not_false, Bool.or_false, Bool.or_true, Bool.false_or, Bool.or_self, Vec.row0, Vec.row8, Vec.row16, Vec.row24, Vec.datas_app, Vec.datas_one, Dt.row0, Dt.row2, Dt.datas_app, Dt.datas_one, List.all_append, Vec.eqb8, Dt.eqb, Bool.cond_true, Bool.cond_false, show IntKind.i64.wrap (0 + 1) = 1 from rfl]; rfl) (by simp [-List.length_flatMap, -Int.natCast_add] <;> omega) (by rfl) ?_
      refine ⟨⟨0 + 1, by omega⟩, by simp; omega, ?_⟩
      simp only [take_snoc hx, Vec.all_snoc]
      simp [Go.Sl.Sub, EnvS, HpS, SV.ok, Ob.ok, SV.oks, lk, List.lookup, Vec.cells_ok]
    · have hc : i ≠ 0 := by simp at hc; omega
      refine SW.reg [] mixed (by simp only [runs, runOp, goOp, sop, ev, evs, evp, upd, argE, List.lookup, Nat.reduceBEq, Nat.reduceAdd, Nat.reduceMul, Nat.zero_add, SV.cells, if_true, if_false, reduceIte, Bool.false_eq_true, roOf, hmrg, hsets, hdels, hset, hrep, hdel, touchL, lk, List.filter, Nat.reduceBNe, bne_self_eq_false, ldv, ldo, cellsAt, binV, binK, mvp, Vec.cells_one, BEq.rfl, beq_self_eq_true, Bool.true_or, Nat.reduceEqDiff, List.map_cons, List.map_nil, List.nil_append, List.cons_append, List.append_nil, Int.toNat_natCast, Nat.mul_one, Nat.add_zero, findS, keyOk, isAggS, msetS, mdelS, lookS, lookOk, Option.isSome_some, Option.isSome_none, Option.isNone_some, Option.isNone_none, Nat.zero_ne_one, Nat.one_ne_zero, Bool.and_false, Bool.and_true, List.drop_zero, Vec.zero_cells, Vec.take_all, Vec.spl_all, Dt.cells_one, Dt.take_all, Dt.get0, Dt.get1, Dt.spl_all, Dt.zero_cells, Dt.bld, bldS, datas, appB, appX, List.all_cons, List.all_nil, SV.isOne, Int.cast_ofNat_Int, Int.reduceBNe, Int.reduceBEq, Int.reduceLT, Int.reduceLE, Int.reduceGT, Int.reduceGE, one_map, bq_ft, bq_tf, Bool.not_true, Bool.not_false, Bool.or_false, Bool.or_true, Bool.false_or, Bool.or_self, Vec.row0, Vec.row8, Vec.row16, Vec.row24, Vec.datas_app, Vec.datas_one, Dt.row0, Dt.row2, Dt.datas_app, Dt.datas_one, List.all_append, Vec.eqb8, Dt.eqb, Bool.cond_true, Bool.cond_false, wrap_succ i (by omega)]; rfl) (by simp [-List.length_flatMap, -Int.natCast_add] <;> omega) (by rfl) ?_
      refine ⟨⟨i + 1, by omega⟩, by simp; omega, ?_⟩
      simp only [take_snoc hx, Vec.all_snoc, List.length_take, show ¬ (min i l.length = 0) by omega, if_false]
      simp [Go.Sl.Sub, EnvS, HpS, SV.ok, Ob.ok, SV.oks, lk, List.lookup, Vec.cells_ok]
  · have h : i = l.length := by simp at h; omega
    subst h
    refine SW.seq ?_
    simp only [List.take_length]
    refine SW.reg [] mixed (by simp only [runs, runOp, goOp, sop, ev, evs, evp, upd, argE, List.lookup, Nat.reduceBEq, Nat.reduceAdd, Nat.reduceMul, Nat.zero_add, SV.cells, if_true, if_false, reduceIte, Bool.false_eq_true, roOf, hmrg, hsets, hdels, hset, hrep, hdel, touchL, lk, List.filter, Nat.reduceBNe, bne_self_eq_false, ldv, ldo, cellsAt, binV, binK, mvp, Vec.cells_one, BEq.rfl, beq_self_eq_true, Bool.true_or, Nat.reduceEqDiff, List.map_cons, List.map_nil, List.nil_append, List.cons_append, List.append_nil, Int.toNat_natCast, Nat.mul_one, Nat.add_zero, findS, keyOk, isAggS, msetS, mdelS, lookS, lookOk, Option.isSome_some, Option.isSome_none, Option.isNone_some, Option.isNone_none, Nat.zero_ne_one, Nat.one_ne_zero, Bool.and_false, Bool.and_true, List.drop_zero, Vec.zero_cells, Vec.take_all, Vec.spl_all, Dt.cells_one, Dt.take_all, Dt.get0, Dt.get1, Dt.spl_all, Dt.zero_cells, Dt.bld, bldS, datas, appB, appX, List.all_cons, List.all_nil, SV.isOne, Int.cast_ofNat_Int, Int.reduceBNe, Int.reduceBEq, Int.reduceLT, Int.reduceLE, Int.reduceGT, Int.reduceGE, one_map, bq_ft, bq_tf, Bool.not_true, Bool.not_false, Bool.or_false, Bool.or_true, Bool.false_or, Bool.or_self, Vec.row0, Vec.row8, Vec.row16, Vec.row24, Vec.datas_app, Vec.datas_one, Dt.row0, Dt.row2, Dt.datas_app, Dt.datas_one, List.all_append, Vec.eqb8, Dt.eqb, Bool.cond_true, Bool.cond_false]; rfl) (by simp [-List.length_flatMap, -Int.natCast_add] <;> omega) (by rfl) ?_
    refine SW.ret ?_
    exact ⟨_, _, [(0, fnOb g)], by rfl, by simp [ldo], by simp [lk], ⟨rfl, rfl⟩, rfl, rfl, by simp⟩
theorem all_at {g : Nat} {op : Nat → Nat → Nat} (hg : Two g op) (l : List Vec) (hl : l.length < 1000000000) (n k : Nat) : SCd Tryd.prog vector_all_api_Vector.f [.fn (.func vector_each_1.f) [] [.ptr n 0], vecs l] [(n, fnOb g)] k 0 (.agg (Vec.all op l).cells) [(n, fnOb g)] :=
  SB.atL [n] (all_ok hg l hl) (by simp) (by simp [lk]) k
theorem merge_ok (l : List Vec) (hl : l.length < 1000000000) : Pure Tryd.prog vector_Merge.f [vecs l] (.agg (Vec.all max l).cells) := by
  refine vector_Merge.enter rfl rfl (by simp) ?_
  dsimp only [vector_Merge.s, Co.M, Co.G, Co.J, Co.H, Co.N, Co.F, Co.C, Co.Z, Co.B, Co.b8, Co.b32, Co.b64, Co.i6, Co.z8, Co.z29]
  refine SW.seq ?_
  refine SW.reg [] mixed (by simp only [runs, runOp, goOp, sop, ev, evs, evp, upd, argE, List.lookup, Nat.reduceBEq, Nat.reduceAdd, Nat.reduceMul, Nat.zero_add, SV.cells, if_true, if_false, reduceIte, Bool.false_eq_true, roOf, hmrg, hsets, hdels, hset, hrep, hdel, touchL, lk, List.filter, Nat.reduceBNe, bne_self_eq_false, ldv, ldo, cellsAt, binV, binK, mvp, Vec.cells_one, BEq.rfl, beq_self_eq_true, Bool.true_or, Nat.reduceEqDiff, List.map_cons, List.map_nil, List.nil_append, List.cons_append, List.append_nil, Int.toNat_natCast, Nat.mul_one, Nat.add_zero, findS, keyOk, isAggS, msetS, mdelS, lookS, lookOk, Option.isSome_some, Option.isSome_none, Option.isNone_some, Option.isNone_none, Nat.zero_ne_one, Nat.one_ne_zero, Bool.and_false, Bool.and_true, List.drop_zero, Vec.zero_cells, Vec.take_all, Vec.spl_all, Dt.cells_one, Dt.take_all, Dt.get0, Dt.get1, Dt.spl_all, Dt.zero_cells, Dt.bld, bldS, datas, appB, appX, List.all_cons, List.all_nil, SV.isOne, Int.cast_ofNat_Int, Int.reduceBNe, Int.reduceBEq, Int.reduceLT, Int.reduceLE, Int.reduceGT, Int.reduceGE, one_map, bq_ft, bq_tf, Bool.not_true, Bool.not_false, Bool.or_false, Bool.or_true, Bool.false_or, Bool.or_self, Vec.row0, Vec.row8, Vec.row16, Vec.row24, Vec.datas_app, Vec.datas_one, Dt.row0, Dt.row2, Dt.datas_app, Dt.datas_one, List.all_append, Vec.eqb8, Dt.eqb, Bool.cond_true, Bool.cond_false]; rfl) (by simp [-List.length_flatMap, -Int.natCast_add] <;> omega) (by rfl) ?_
  refine SW.seq ?_
  refine SW.reg [.call [] (.fn (.func vector_each_1.f) [] [.ptr 1 0]) [(1, fnOb vector_Merge_1.f)] 1, .call [(1, fnOb vector_Merge_1.f)] (.agg (Vec.all max l).cells) [(1, fnOb vector_Merge_1.f)] 0] mixed (by simp only [runs, runOp, goOp, sop, ev, evs, evp, upd, argE, List.lookup, Nat.reduceBEq, Nat.reduceAdd, Nat.reduceMul, Nat.zero_add, SV.cells, if_true, if_false, reduceIte, Bool.false_eq_true, roOf, hmrg, hsets, hdels, hset, hrep, hdel, touchL, lk, List.filter, Nat.reduceBNe, bne_self_eq_false, ldv, ldo, cellsAt, binV, binK, mvp, Vec.cells_one, BEq.rfl, beq_self_eq_true, Bool.true_or, Nat.reduceEqDiff, List.map_cons, List.map_nil, List.nil_append, List.cons_append, List.append_nil, Int.toNat_natCast, Nat.mul_one, Nat.add_zero, findS, keyOk, isAggS, msetS, mdelS, lookS, lookOk, Option.isSome_some, Option.isSome_none, Option.isNone_some, Option.isNone_none, Nat.zero_ne_one, Nat.one_ne_zero, Bool.and_false, Bool.and_true, List.drop_zero, Vec.zero_cells, Vec.take_all, Vec.spl_all, Dt.cells_one, Dt.take_all, Dt.get0, Dt.get1, Dt.spl_all, Dt.zero_cells, Dt.bld, bldS, datas, appB, appX, List.all_cons, List.all_nil, SV.isOne, Int.cast_ofNat_Int, Int.reduceBNe, Int.reduceBEq, Int.reduceLT, Int.reduceLE, Int.reduceGT, Int.reduceGE, one_map, bq_ft, bq_tf, Bool.not_true, Bool.not_false, Bool.or_false, Bool.or_true, Bool.false_or, Bool.or_self, Vec.row0, Vec.row8, Vec.row16, Vec.row24, Vec.datas_app, Vec.datas_one, Dt.row0, Dt.row2, Dt.datas_app, Dt.datas_one, List.all_append, Vec.eqb8, Dt.eqb, Bool.cond_true, Bool.cond_false]; rfl) (by simp [-List.length_flatMap, -Int.natCast_add, lk, List.lookup, each_at, all_at two_max l hl, lk] <;> omega) (by rfl) ?_
  refine SW.ret ?_
  exact ⟨_, _, [], by rfl, by simp [ldo], by simp, ⟨rfl, rfl⟩, rfl, rfl, by simp⟩
end Go.Proofs.YtnakpdoioammhaaDoor
namespace Go.Proofs.YtnakpdoioammhaaDoor
open Go.Sl Go.Proofs
theorem may_ok4 (d : Dt) : Go.Sl.Pure Tryd.prog dot_May.f [.agg d.cells] (bl d.may) := by
  obtain ⟨r, n⟩ := d
  refine dot_May.enter rfl rfl (by simp) ?_
  dsimp only [dot_May.s, Co.M, Co.G, Co.J, Co.H, Co.N, Co.F, Co.C, Co.Z, Co.B, Co.b8, Co.b32, Co.b64, Co.i6, Co.z8, Co.z29]
  refine SW.seq ?_
  refine SW.reg [] mixed (by simp only [runs, runOp, goOp, sop, ev, evs, evp, upd, argE, List.lookup, Nat.reduceBEq, Nat.reduceAdd, Nat.reduceMul, Nat.zero_add, SV.cells, if_true, if_false, reduceIte, Bool.false_eq_true, roOf, hmrg, hsets, hdels, hset, hrep, hdel, touchL, lk, List.filter, Nat.reduceBNe, bne_self_eq_false, ldv, ldo, cellsAt, binV, binK, mvp, Vec.cells_one, BEq.rfl, beq_self_eq_true, Bool.true_or, Nat.reduceEqDiff, List.map_cons, List.map_nil, List.nil_append, List.cons_append, List.append_nil, Int.toNat_natCast, Nat.mul_one, Nat.add_zero, findS, keyOk, isAggS, msetS, mdelS, lookS, lookOk, Option.isSome_some, Option.isSome_none, Option.isNone_some, Option.isNone_none, Nat.zero_ne_one, Nat.one_ne_zero, Bool.and_false, Bool.and_true, List.drop_zero, Vec.zero_cells, Vec.take_all, Vec.spl_all, Dt.cells_one, Dt.take_all, Dt.get0, Dt.get1, Dt.spl_all, Dt.zero_cells, Dt.bld, bldS, datas, appB, appX, List.all_cons, List.all_nil, SV.isOne, Int.cast_ofNat_Int, Int.reduceBNe, Int.reduceBEq, Int.reduceLT, Int.reduceLE, Int.reduceGT, Int.reduceGE, one_map, bq_ft, bq_tf, Bool.not_true, Bool.not_false, Bool.or_false, Bool.or_true, Bool.false_or, Bool.or_self, Vec.row0, Vec.row8, Vec.row16, Vec.row24, Vec.datas_app, Vec.datas_one, Dt.row0, Dt.row2, Dt.datas_app, Dt.datas_one, List.all_append, Vec.eqb8, Dt.eqb, Bool.cond_true, Bool.cond_false]; rfl) (by simp [-List.length_flatMap, -Int.natCast_add] <;> omega) (by rfl) ?_
  refine SW.seq ?_
  by_cases h : (r : Int) < 8
  · refine SW.reg [] mixed (by simp only [runs, runOp, goOp, sop, ev, evs, evp, upd, argE, List.lookup, Nat.reduceBEq, Nat.reduceAdd, Nat.reduceMul, Nat.zero_add, SV.cells, if_true, if_false, reduceIte, Bool.false_eq_true, roOf, hmrg, hsets, hdels, hset, hrep, hdel, touchL, lk, List.filter, Nat.reduceBNe, bne_self_eq_false, ldv, ldo, cellsAt, binV, binK, mvp, Vec.cells_one, BEq.rfl, beq_self_eq_true, Bool.true_or, Nat.reduceEqDiff, List.map_cons, List.map_nil, List.nil_append, List.cons_append, List.append_nil, Int.toNat_natCast, Nat.mul_one, Nat.add_zero, findS, keyOk, isAggS, msetS, mdelS, lookS, lookOk, Option.isSome_some, Option.isSome_none, Option.isNone_some, Option.isNone_none, Nat.zero_ne_one, Nat.one_ne_zero, Bool.and_false, Bool.and_true, List.drop_zero, Vec.zero_cells, Vec.take_all, Vec.spl_all, Dt.cells_one, Dt.take_all, Dt.get0, Dt.get1, Dt.spl_all, Dt.zero_cells, Dt.bld, bldS, datas, appB, appX, List.all_cons, List.all_nil, SV.isOne, Int.cast_ofNat_Int, Int.reduceBNe, Int.reduceBEq, Int.reduceLT, Int.reduceLE, Int.reduceGT, Int.reduceGE, one_map, bq_ft, bq_tf, Bool.not_true, Bool.not_false, Bool.or_false, Bool.or_true, Bool.false_or, Bool.or_self, Vec.row0, Vec.row8, Vec.row16, Vec.row24, Vec.datas_app, Vec.datas_one, Dt.row0, Dt.row2, Dt.datas_app, Dt.datas_one, List.all_append, Vec.eqb8, Dt.eqb, Bool.cond_true, Bool.cond_false, Dt.cells, h, decide_true, List.getElem?_cons_zero, List.getElem?_cons_succ]; rfl) (by simp [-List.length_flatMap, -Int.natCast_add] <;> omega) (by rfl) ?_
    refine SW.ret ?_
    refine fin_pure (by rfl) (by simp [ldo]) ?_ rfl
    have : r < 8 := by omega
    simp [retV, Dt.may, this]
  · refine SW.reg [] mixed (by simp only [runs, runOp, goOp, sop, ev, evs, evp, upd, argE, List.lookup, Nat.reduceBEq, Nat.reduceAdd, Nat.reduceMul, Nat.zero_add, SV.cells, if_true, if_false, reduceIte, Bool.false_eq_true, roOf, hmrg, hsets, hdels, hset, hrep, hdel, touchL, lk, List.filter, Nat.reduceBNe, bne_self_eq_false, ldv, ldo, cellsAt, binV, binK, mvp, Vec.cells_one, BEq.rfl, beq_self_eq_true, Bool.true_or, Nat.reduceEqDiff, List.map_cons, List.map_nil, List.nil_append, List.cons_append, List.append_nil, Int.toNat_natCast, Nat.mul_one, Nat.add_zero, findS, keyOk, isAggS, msetS, mdelS, lookS, lookOk, Option.isSome_some, Option.isSome_none, Option.isNone_some, Option.isNone_none, Nat.zero_ne_one, Nat.one_ne_zero, Bool.and_false, Bool.and_true, List.drop_zero, Vec.zero_cells, Vec.take_all, Vec.spl_all, Dt.cells_one, Dt.take_all, Dt.get0, Dt.get1, Dt.spl_all, Dt.zero_cells, Dt.bld, bldS, datas, appB, appX, List.all_cons, List.all_nil, SV.isOne, Int.cast_ofNat_Int, Int.reduceBNe, Int.reduceBEq, Int.reduceLT, Int.reduceLE, Int.reduceGT, Int.reduceGE, one_map, bq_ft, bq_tf, Bool.not_true, Bool.not_false, Bool.or_false, Bool.or_true, Bool.false_or, Bool.or_self, Vec.row0, Vec.row8, Vec.row16, Vec.row24, Vec.datas_app, Vec.datas_one, Dt.row0, Dt.row2, Dt.datas_app, Dt.datas_one, List.all_append, Vec.eqb8, Dt.eqb, Bool.cond_true, Bool.cond_false, Dt.cells, h, decide_false, List.getElem?_cons_zero, List.getElem?_cons_succ]; rfl) (by simp [-List.length_flatMap, -Int.natCast_add] <;> omega) (by rfl) ?_
    refine SW.ret ?_
    refine fin_pure (by rfl) (by simp [ldo]) ?_ rfl
    have : ¬ r < 8 := by omega
    simp [retV, Dt.may, this]
theorem merge2_at (a b : Vec) (k : Nat) : SCd Tryd.prog vector_Merge.f [.d (.sl 2 (a.ds ++ b.ds))] [] k 0 (.agg (Vec.zip max a b).cells) [] := (merge_ok [a, b] (by simp)).sc rfl k
theorem above_ok (a b : Vec) : Go.Sl.Pure Tryd.prog vector_Above.f [.agg a.cells, .agg b.cells] (bl (a.above b)) := by
  refine vector_Above.enter rfl rfl (by simp) ?_
  dsimp only [vector_Above.s, Co.M, Co.G, Co.J, Co.H, Co.N, Co.F, Co.C, Co.Z, Co.B, Co.b8, Co.b32, Co.b64, Co.i6, Co.z8, Co.z29]
  refine SW.seq ?_
  refine SW.reg [] mixed (by simp only [runs, runOp, goOp, sop, ev, evs, evp, upd, argE, List.lookup, Nat.reduceBEq, Nat.reduceAdd, Nat.reduceMul, Nat.zero_add, SV.cells, if_true, if_false, reduceIte, Bool.false_eq_true, roOf, hmrg, hsets, hdels, hset, hrep, hdel, touchL, lk, List.filter, Nat.reduceBNe, bne_self_eq_false, ldv, ldo, cellsAt, binV, binK, mvp, Vec.cells_one, BEq.rfl, beq_self_eq_true, Bool.true_or, Nat.reduceEqDiff, List.map_cons, List.map_nil, List.nil_append, List.cons_append, List.append_nil, Int.toNat_natCast, Nat.mul_one, Nat.add_zero, findS, keyOk, isAggS, msetS, mdelS, lookS, lookOk, Option.isSome_some, Option.isSome_none, Option.isNone_some, Option.isNone_none, Nat.zero_ne_one, Nat.one_ne_zero, Bool.and_false, Bool.and_true, List.drop_zero, Vec.zero_cells, Vec.take_all, Vec.spl_all, Dt.cells_one, Dt.take_all, Dt.get0, Dt.get1, Dt.spl_all, Dt.zero_cells, Dt.bld, bldS, datas, appB, appX, List.all_cons, List.all_nil, SV.isOne, Int.cast_ofNat_Int, Int.reduceBNe, Int.reduceBEq, Int.reduceLT, Int.reduceLE, Int.reduceGT, Int.reduceGE, one_map, bq_ft, bq_tf, Bool.not_true, Bool.not_false, Bool.or_false, Bool.or_true, Bool.false_or, Bool.or_self, Vec.row0, Vec.row8, Vec.row16, Vec.row24, Vec.datas_app, Vec.datas_one, Dt.row0, Dt.row2, Dt.datas_app, Dt.datas_one, List.all_append, Vec.eqb8, Dt.eqb, Bool.cond_true, Bool.cond_false]; rfl) (by simp [-List.length_flatMap, -Int.natCast_add] <;> omega) (by rfl) ?_
  refine SW.seq ?_
  refine SW.reg [.call [] (.agg (Vec.zip max a b).cells) [] 0] mixed (by simp only [runs, runOp, goOp, sop, ev, evs, evp, upd, argE, List.lookup, Nat.reduceBEq, Nat.reduceAdd, Nat.reduceMul, Nat.zero_add, SV.cells, if_true, if_false, reduceIte, Bool.false_eq_true, roOf, hmrg, hsets, hdels, hset, hrep, hdel, touchL, lk, List.filter, Nat.reduceBNe, bne_self_eq_false, ldv, ldo, cellsAt, binV, binK, mvp, Vec.cells_one, BEq.rfl, beq_self_eq_true, Bool.true_or, Nat.reduceEqDiff, List.map_cons, List.map_nil, List.nil_append, List.cons_append, List.append_nil, Int.toNat_natCast, Nat.mul_one, Nat.add_zero, findS, keyOk, isAggS, msetS, mdelS, lookS, lookOk, Option.isSome_some, Option.isSome_none, Option.isNone_some, Option.isNone_none, Nat.zero_ne_one, Nat.one_ne_zero, Bool.and_false, Bool.and_true, List.drop_zero, Vec.zero_cells, Vec.take_all, Vec.spl_all, Dt.cells_one, Dt.take_all, Dt.get0, Dt.get1, Dt.spl_all, Dt.zero_cells, Dt.bld, bldS, datas, appB, appX, List.all_cons, List.all_nil, SV.isOne, Int.cast_ofNat_Int, Int.reduceBNe, Int.reduceBEq, Int.reduceLT, Int.reduceLE, Int.reduceGT, Int.reduceGE, one_map, bq_ft, bq_tf, Bool.not_true, Bool.not_false, Bool.or_false, Bool.or_true, Bool.false_or, Bool.or_self, Vec.row0, Vec.row8, Vec.row16, Vec.row24, Vec.datas_app, Vec.datas_one, Dt.row0, Dt.row2, Dt.datas_app, Dt.datas_one, List.all_append, Vec.eqb8, Dt.eqb, Bool.cond_true, Bool.cond_false]; rfl) (by simp [-List.length_flatMap, -Int.natCast_add, lk, List.lookup, merge2_at] <;> omega) (by rfl) ?_
  refine SW.ret ?_
  refine fin_pure (by rfl) (by simp [ldo]) ?_ rfl
  simp [retV, Vec.above_merge]
theorem above_at4 (a b : Vec) (k : Nat) : SCd Tryd.prog vector_Above.f [.agg a.cells, .agg b.cells] [] k 0 (bl (a.above b)) [] := (above_ok a b).sc rfl k
end Go.Proofs.YtnakpdoioammhaaDoor
