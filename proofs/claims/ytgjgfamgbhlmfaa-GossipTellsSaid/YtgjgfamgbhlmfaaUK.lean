/-
  Ranging over a function: a round's contract from the loop's body.
-/
import Derived.Test.YtgjgfamgbhlmfaaU9
set_option linter.unusedVariables false
set_option linter.unusedSimpArgs false
set_option linter.unusedSectionVars false
namespace Go.Sl
open Go.RowKit
set_option maxHeartbeats 1000000
variable {P : Program}

theorem lk_cons_same {n : Nat} {ob : Ob} {h : Hp} : lk ((n, ob) :: h) n = some ob := by rw [lk_cons, if_pos rfl]
theorem lk_cons_other {n m : Nat} {ob : Ob} {h : Hp} (e : m ≠ n) : lk ((n, ob) :: h) m = lk h m := by rw [lk_cons, if_neg e]

mutual
theorem SV.ok_more {q q' : Nat → Bool} (h : ∀ n, q n = true → q' n = true) : ∀ s : SV, s.ok q = true → s.ok q' = true
  | .d _, _ => rfl
  | .ptr n _, hs => h n hs
  | .gs n _, hs => h n hs
  | .vp _ _, _ => rfl
  | .bs n _ _, hs => h n hs
  | .mp n, hs => h n hs
  | .it n, hs => h n hs
  | .yl n, hs => h n hs
  | .fn _ a c, hs => by
    simp only [SV.ok, Bool.and_eq_true] at hs ⊢
    exact ⟨SV.oks_more h a hs.1, SV.oks_more h c hs.2⟩
  | .agg cs, hs => SV.oks_more h cs hs
  | .tup cs, hs => SV.oks_more h cs hs
  | .any, _ => rfl
theorem SV.oks_more {q q' : Nat → Bool} (h : ∀ n, q n = true → q' n = true) : ∀ s : List SV, SV.oks q s = true → SV.oks q' s = true
  | [], _ => rfl
  | c :: cs, hs => by
    simp only [SV.oks, Bool.and_eq_true] at hs ⊢
    exact ⟨SV.ok_more h c hs.1, SV.oks_more h cs hs.2⟩
end

/-- Of what there is at the end, what the contract tells. -/
theorem fin_pack {k nk K : Nat} {F hp F' : Hp} {μ μ1 : Nat → Nm} {M M1 : Mem} {w w' : World} (hS1 : SatF (· < K) μ1 M1 (lk hp) w') (hE1 : Ev (lk F) (fun n => k ≤ n ∧ n < K) μ M w (lk hp) μ1 M1 w')
    (h3 : HSub F' hp) (h6 : F'.ok (fun n => decide (n < k + nk)) = true) :
    SatF (· < k + nk) (fun n => if n < k + nk then μ1 n else μ n) M1 (lk F') w' ∧ Ev (lk F) (fun n => k ≤ n ∧ n < k + nk) μ M w (lk F') (fun n => if n < k + nk then μ1 n else μ n) M1 w' := by
  refine ⟨⟨hS1.mem, fun n ob hn => ?_, fun n m hn hm ln lm e => ?_⟩, ⟨fun n hn => ?_, hE1.mem, hE1.frame, hE1.size, fun n hn => ?_, hE1.os, hE1.tape, hE1.output⟩⟩
  · obtain ⟨a1, a2⟩ := Hp.ok_lk h6 hn
    simp only [decide_eq_true_eq] at a1
    obtain ⟨_, b1, b2⟩ := hS1.obs n ob (h3 n ob hn)
    simp only [if_pos a1]
    refine ⟨a1, ?_, b2⟩
    have hb' : ObRep (· < K) (fun n => μ1 (id n)) M1 w' (μ1 n) (ob.ren id) := by rw [Ob.ren_id]; exact b1
    exact ObRep.to a2 (fun m hm => by simpa using hm) (fun m hm => by simp only [decide_eq_true_eq] at hm; simp [hm]) hb'
  · obtain ⟨o1, ho1⟩ := Option.ne_none_iff_exists'.1 hn
    obtain ⟨o2, ho2⟩ := Option.ne_none_iff_exists'.1 hm
    have a1 := (Hp.ok_lk h6 ho1).1
    have a2 := (Hp.ok_lk h6 ho2).1
    simp only [decide_eq_true_eq] at a1 a2
    rw [if_pos a1] at e ln
    rw [if_pos a2] at e lm
    exact hS1.inj n m (by rw [h3 n o1 ho1]; simp) (by rw [h3 m o2 ho2]; simp) ln lm e
  · by_cases hnk : n < k + nk
    · simp only [if_pos hnk]
      by_cases hK : k ≤ n
      · exact absurd ⟨hK, hnk⟩ hn
      · exact hE1.old n (fun hh => hK hh.1)
    · simp only [if_neg hnk]
  · obtain ⟨o1, ho1⟩ := Option.ne_none_iff_exists'.1 hn
    have a1 := (Hp.ok_lk h6 ho1).1
    simp only [decide_eq_true_eq] at a1
    simp only [if_pos a1]
    rcases hE1.names n (by rw [h3 n o1 ho1]; simp) with ⟨b1, b2⟩ | ⟨b1, b2⟩
    · exact .inl ⟨⟨b1.1, a1⟩, b2⟩
    · exact .inr ⟨fun hh => b1 ⟨hh.1, by
        by_cases hK : n < K
        · exact hK
        · exact absurd (hS1.obs n o1 (h3 n o1 ho1)).1 hK⟩, b2⟩

theorem env_fold {p : Nat → Prop} {μ : Nat → Nm} {M : Mem} : ∀ (ps : List Nat) (args : List SV) (vals : List Value) (tm : Array Value) (env : List (Nat × SV)), Rps p μ M args vals → ps.length = args.length →
    (∀ t s, env.lookup t = some s → Rp p μ M s (tm.getD t undef)) → (∀ q, q ∈ ps → q < tm.size) →
    ∀ t s, ((ps.zip args).reverse ++ env).lookup t = some s → Rp p μ M s (((ps.zip vals).foldl (fun tmps (x : Nat × Value) => tmps.setIfInBounds x.1 x.2) tm).getD t undef)
  | [], args, vals, tm, env, hr, hl, he, hq, t, s, h => by simpa using he t s (by simpa using h)
  | q :: ps, [], vals, tm, env, hr, hl, he, hq, t, s, h => by simp at hl
  | q :: ps, x :: args, vals, tm, env, hr, hl, he, hq, t, s, h => by
    obtain ⟨u, us, rfl, h1, h2⟩ := Rps.cons_iff.1 hr
    simp only [List.zip_cons_cons, List.reverse_cons, List.append_assoc, List.singleton_append] at h
    simp only [List.zip_cons_cons, List.foldl_cons]
    refine env_fold ps args us (tm.setIfInBounds q u) ((q, x) :: env) h2 (by simpa using hl) (fun t' s' h' => ?_) (fun q' hq' => by simpa using hq q' (by simp [hq'])) t s h
    have hqs := hq q (by simp)
    simp only [List.lookup] at h'
    split at h'
    · rename_i e
      have e : t' = q := by simpa using e
      subst e
      injection h' with h'
      subst h'
      have : (tm.setIfInBounds t' u).getD t' undef = u := by simp [Array.getD, hqs]
      rw [this]; exact h1
    · rename_i e
      have e : t' ≠ q := by simpa using e
      have : (tm.setIfInBounds q u).getD t' undef = tm.getD t' undef := by
        simp [Array.getD_eq_getD_getElem?, Array.getElem?_setIfInBounds_ne (Ne.symm e)]
      rw [this]; exact he t' s' h'
theorem fold_size : ∀ (xs : List (Nat × Value)) (tm : Array Value), (xs.foldl (fun tmps (x : Nat × Value) => tmps.setIfInBounds x.1 x.2) tm).size = tm.size
  | [], tm => rfl
  | x :: xs, tm => by simp [fold_size xs]

/-- How a round is left, and what it tells. -/
def Left : Exit → Option Code → Bool → Prop
  | .normal, pe, b => pe = none ∧ b = true
  | .ret, pe, b => pe = some .ret ∧ b = false
  | .exit id, pe, b => pe = some (.exit id) ∧ b = false
  | _, _, _ => False
def recSt (pe : Option Code) : LoopState := if pe.isNone then .ready else .done

def Rnd (nl N : Nat) (ts : List Nat) (cs : List SV) (ps : List Nat) (ca cb : Code) (k nk : Nat) (Q : SV → Hp → Prop) (e : Exit) (st2 : St) : Prop :=
  ∃ pe b F', Left e pe b ∧ HSub F' st2.hp ∧ F'.ok (fun n => decide (n < k + nk)) = true ∧ k + nk ≤ st2.k ∧ Q (.d (.bool b)) ((nl, .rcd N ts cs ps ca cb (recSt pe) pe) :: F')

theorem zip_lookup {p : Nat → Prop} {μ : Nat → Nm} {M : Mem} {f : Nat → Value} : ∀ {ts : List Nat} {cs : List SV}, Rps p μ M cs (ts.map f) → ∀ t s, (ts.zip cs).lookup t = some s → Rp p μ M s (f t)
  | [], _, _, t, s, h => by simp at h
  | t' :: ts, [], _, t, s, h => by simp at h
  | t' :: ts, c :: cs, hr, t, s, h => by
    obtain ⟨u, us, e, h1, h2⟩ := Rps.cons_iff.1 hr
    injection e with e1 e2
    subst e1; subst e2
    simp only [List.zip_cons_cons, List.lookup] at h
    split at h
    · rename_i e
      have e : t = t' := by simpa using e
      injection h with h
      subst h; subst e
      exact h1
    · exact zip_lookup h2 t s h

theorem SYB.of_code {nl N k nk : Nat} {ts : List Nat} {cs : List SV} {ps : List Nat} {ca cb : Code} {sa sb : SCo} {args : List SV} {H : Hp} {Q : SV → Hp → Prop}
    (hca : cK P N ca = some sa) (hcb : cK P N cb = some sb) (hra : sa.rf = false) (hrb : sb.rf = false) (hlen : ps.length = args.length) (hpN : ∀ q, q ∈ ps → q < N) (hnl : nl < k) (hH : lk H nl = none)
    (hargs : SV.oks (fun n => decide (n < k)) args = true) (hHo : H.ok (fun n => decide (n < k)) = true) (hcs : SV.oks (fun n => decide (n < k)) cs = true)
    (h : SW P N k sa ⟨(ps.zip args).reverse ++ ts.zip cs, H, k⟩ fun e st1 => e = .normal ∧ SW P N k sb st1 (Rnd nl N ts cs ps ca cb k nk Q)) :
    SYB P nl args ((nl, .rcd N ts cs ps ca cb .ready none) :: H) k nk Q := by
  refine ⟨hargs, by simp only [Hp.ok, List.all_cons, Ob.ok, hcs, Bool.and_eq_true]; exact ⟨by simpa using hnl, hHo⟩, fun μ M w vals hr hS => ?_⟩
  obtain ⟨_, ⟨hlive, r, hb, hcsr, hN, hps, has, hbd, hst, hpe⟩, hMn⟩ := hS.obs nl _ lk_cons_same
  generalize hl : (μ nl).blk = l at *
  have hMn := hMn hlive
  have hsub : ∀ n ob, lk H n = some ob → lk ((nl, .rcd N ts cs ps ca cb .ready none) :: H) n = some ob := fun n ob hn => by
    rw [lk_cons_other (fun e => by rw [e, hH] at hn; cases hn)]; exact hn
  have hSH : SatF (· < k) μ M (lk H) w := hS.sub hsub
  have hltl : l < w.heap.size := (Array.getElem?_eq_some_iff.1 hb).1
  have hnot : ∀ n, lk H n ≠ none → (μ n).live = true → (μ n).blk ≠ l := fun n hn ln e => by
    obtain ⟨ob, ho⟩ := Option.ne_none_iff_exists'.1 hn
    have := hS.inj n nl (by rw [hsub n ob ho]; simp) (by rw [lk_cons_same]; simp) ln hlive (by rw [hl]; exact e)
    subst this
    rw [hH] at hn; exact hn rfl
  have hvs : vals.size = r.params.size := by
    have h1 : vals.size = args.length := by simpa using hr.length
    have h2 : r.params.size = ps.length := by rw [← hps]; simp
    omega
  refine ⟨_, _, _, _, run_yield hb hvs, roundIn_of_wpIn trivial ?_⟩
  have hfold : (r.params.zip vals).foldl (fun tmps (x : Nat × Value) => tmps.setIfInBounds x.1 x.2) r.tmps = (ps.zip vals.toList).foldl (fun tmps (x : Nat × Value) => tmps.setIfInBounds x.1 x.2) r.tmps := by
    rw [← hps, ← Array.foldl_toList, Array.toList_zip]
  have hSt : StA N μ M w (lk H) k ⟨(ps.zip args).reverse ++ ts.zip cs, H, k⟩ { tmps := (ps.zip vals.toList).foldl (fun tmps (x : Nat × Value) => tmps.setIfInBounds x.1 x.2) r.tmps, defers := [] } w := by
    refine ⟨Nat.le_refl _, trivial, by rw [fold_size]; exact hN, μ, M, ?_, hSH, Ev.refl _ _ _ _ _ fun n hn hh => absurd hh.2 (Nat.not_lt.2 hh.1)⟩
    exact env_fold ps args vals.toList r.tmps (ts.zip cs) hr hlen (zip_lookup (f := fun t => r.tmps.getD t undef) hcsr) (fun q hq => by rw [hN]; exact hpN q hq)
  have hfold' : (r.params.zip vals).foldl (fun tmps (x : Tmp × Value) => match x with | (t, a) => tmps.setIfInBounds t a) r.tmps = (ps.zip vals.toList).foldl (fun tmps (x : Nat × Value) => tmps.setIfInBounds x.1 x.2) r.tmps := hfold
  rw [hfold', has, hbd]
  show ca.wpIn (Wide (some l)) 0 P _ _ w
  refine wpIn_mono (h ca hca (some l) (fun e => by rw [hra] at e; cases e) μ M w (lk H) _ w hSt) ?_
  rintro e a1 w1 ⟨st1, ⟨rfl, hbody⟩, hk1, hdf1, hsz1, μ1, M1, hsl1, hS1, hE1⟩
  have hw1 : w1.heap[l]? = some (.loop r) := by rw [(hE1.frame l hltl hnot).1]; exact hb
  refine ⟨_, run_beginRound hw1 hst, ?_⟩
  have hnot1 : ∀ n, lk st1.hp n ≠ none → (μ1 n).live = true → (μ1 n).blk ≠ l := fun n hn ln e => by
    rcases hE1.names n hn with ⟨_, hh⟩ | ⟨h1, h2⟩
    · rcases hh ln with h' | ⟨m, hm, lm, e'⟩
      · omega
      · exact hnot m hm lm (e'.trans e)
    · rw [hE1.old n h1] at e ln
      exact hnot n h2 ln e
  have hM1 : ∀ o, M1 l o = none := fun o => by rw [(hE1.frame l hltl hnot).2]; exact hMn o
  have hS2 : SatF (· < st1.k) μ1 M1 (lk st1.hp) (w1.putObj l (.loop { r with state := .busy })) := by
    refine ⟨⟨fun b o v hv => ?_, hS1.mem.glob⟩, fun n ob hn => ?_, hS1.inj⟩
    · have hbl : b ≠ l := fun e => by rw [e, hM1] at hv; cases hv
      have := hS1.mem b o v hv
      simp only [World.cell?, World.putObj_heap_other hbl] at this ⊢
      exact this
    · obtain ⟨q1, q2, q3⟩ := hS1.obs n ob hn
      exact ⟨q1, q2.more (fun _ h => h) (fun _ _ => rfl) (Mem.le_refl _) (fun ln => World.putObj_heap_other (hnot1 n (by rw [hn]; simp) ln)), q3⟩
  have hE2 : Ev (lk H) (fun n => k ≤ n ∧ n < st1.k) μ M (w.putObj l (.loop { r with state := .busy })) (lk st1.hp) μ1 M1 (w1.putObj l (.loop { r with state := .busy })) := by
    refine ⟨hE1.old, hE1.mem, fun b hb' hn => ?_, by simpa using hE1.size, by simpa using hE1.names, hE1.os, hE1.tape, hE1.output⟩
    rw [World.putObj_size] at hb'
    refine ⟨?_, (hE1.frame b hb' hn).2⟩
    by_cases e : b = l
    · subst e
      rw [World.putObj_heap_same hltl, World.putObj_heap_same (Array.getElem?_eq_some_iff.1 hw1).1]
    · rw [World.putObj_heap_other e, World.putObj_heap_other e]; exact (hE1.frame b hb' hn).1
  have hdf2 : Marks (w.putObj l (.loop { r with state := .busy })) (w1.putObj l (.loop { r with state := .busy })) a1.defers := by
    have key : ∀ df, Marks w w1 df → Marks (w.putObj l (.loop { r with state := .busy })) (w1.putObj l (.loop { r with state := .busy })) df := by
      intro df
      induction df with
      | nil => intro _; trivial
      | cons d ds ih =>
        rintro ⟨⟨q, g1, g2, g3, g4⟩, g5⟩
        refine ⟨⟨q, g1, by simpa using g2, ?_, g4⟩, ih g5⟩
        rw [World.putObj_heap_other (fun e => by rw [e, hw1] at g3; cases g3)]; exact g3
    exact key _ hdf1
  show cb.wpIn (Wide (some l)) 0 P _ _ _
  refine wpIn_mono (hbody cb hcb (some l) (fun e => by rw [hrb] at e; cases e) μ M _ (lk H) a1 _ ⟨hk1, hdf2, hsz1, μ1, M1, hsl1, hS2, hE2⟩) ?_
  rintro e a2 w3 ⟨st2, ⟨pe, b, F', hleft, hF', hFo, hkk, hQ⟩, hk2, _, _, μ2, M2, _, hS3, hE3⟩
  have hlt' : l < (w.putObj l (.loop { r with state := .busy })).heap.size := by simpa using hltl
  have hw3 : w3.heap[l]? = some (.loop { r with state := .busy }) := by rw [(hE3.frame l hlt' hnot).1]; exact World.putObj_heap_same hltl
  have hnot3 : ∀ n, lk st2.hp n ≠ none → (μ2 n).live = true → (μ2 n).blk ≠ l := fun n hn ln e => by
    rcases hE3.names n hn with ⟨_, hh⟩ | ⟨h1, h2⟩
    · rcases hh ln with h' | ⟨m, hm, lm, e'⟩
      · omega
      · exact hnot m hm lm (e'.trans e)
    · rw [hE3.old n h1] at e ln
      exact hnot n h2 ln e
  have hM3 : ∀ o, M2 l o = none := fun o => by rw [(hE3.frame l hlt' hnot).2]; exact hMn o
  have hnl2 : lk st2.hp nl = none := by
    cases hc : lk st2.hp nl with
    | none => rfl
    | some ob =>
      rcases hE3.names nl (by rw [hc]; simp) with ⟨h1, _⟩ | ⟨_, h2⟩
      · omega
      · exact absurd hH h2
  have hmu : μ2 nl = μ nl := hE3.old nl (by omega)
  have fin : ∃ w4, (Instr.endRound l pe).run P w3 = .ok (.bool pe.isNone) w4 ∧ ∃ r F' μ' M' u, Ending.returned (.bool pe.isNone) = .returned u ∧ Q r F' ∧ r.ok (fun n => decide (n < k + nk)) = true ∧ F'.ok (fun n => decide (n < k + nk)) = true ∧ Rep μ' M' r u ∧ SatF (· < k + nk) μ' M' (lk F') w4 ∧
      Ev (lk ((nl, .rcd N ts cs ps ca cb .ready none) :: H)) (fun n => k ≤ n ∧ n < k + nk) μ M w (lk F') μ' M' w4 := by
    refine ⟨_, run_endRound pe hw3, ?_⟩
    have hbp : b = pe.isNone := by cases e <;> simp only [Left] at hleft <;> first | (obtain ⟨rfl, rfl⟩ := hleft; rfl) | exact hleft.elim
    have hS4 : SatF (· < st2.k) μ2 M2 (lk ((nl, .rcd N ts cs ps ca cb (recSt pe) pe) :: st2.hp)) (w3.putObj l (.loop { r with state := if pe.isNone then .ready else .done, pending := pe })) := by
      refine ⟨⟨fun b o v hv => ?_, hS3.mem.glob⟩, fun n ob hn => ?_, fun n m hn hm ln lm e => ?_⟩
      · have hbl : b ≠ l := fun e => by rw [e, hM3] at hv; cases hv
        have := hS3.mem b o v hv
        simp only [World.cell?, World.putObj_heap_other hbl] at this ⊢
        exact this
      · by_cases en : n = nl
        · subst en
          rw [lk_cons_same] at hn
          injection hn with hn
          subst hn
          rw [hmu]
          refine ⟨by omega, ⟨hlive, { r with state := if pe.isNone then .ready else .done, pending := pe }, by rw [hl]; exact World.putObj_heap_same (Array.getElem?_eq_some_iff.1 hw3).1, ?_, hN, hps, has, hbd, rfl, rfl⟩, fun _ => by rw [hl]; exact hM3⟩
          exact hcsr.more (fun n hn => by show n < st2.k; have : n < k := hn; omega) (fun n hn => hE3.old n (by have : n < k := hn; omega)) hE3.mem
        · rw [lk_cons_other en] at hn
          obtain ⟨q1, q2, q3⟩ := hS3.obs n ob hn
          exact ⟨q1, q2.more (fun _ h => h) (fun _ _ => rfl) (Mem.le_refl _) (fun ln => World.putObj_heap_other (hnot3 n (by rw [hn]; simp) ln)), q3⟩
      · by_cases en : n = nl <;> by_cases em : m = nl
        · rw [en, em]
        · subst en
          rw [lk_cons_other em] at hm
          rw [hmu, hl] at e
          exact absurd e.symm (hnot3 m hm lm)
        · subst em
          rw [lk_cons_other en] at hn
          rw [hmu, hl] at e
          exact absurd e (hnot3 n hn ln)
        · rw [lk_cons_other en] at hn
          rw [lk_cons_other em] at hm
          exact hS3.inj n m hn hm ln lm e
    have hE4 : Ev (lk ((nl, .rcd N ts cs ps ca cb .ready none) :: H)) (fun n => k ≤ n ∧ n < st2.k) μ M w (lk ((nl, .rcd N ts cs ps ca cb (recSt pe) pe) :: st2.hp)) μ2 M2 (w3.putObj l (.loop { r with state := if pe.isNone then .ready else .done, pending := pe })) := by
      have hsz := hE3.size
      rw [World.putObj_size] at hsz
      refine ⟨hE3.old, hE3.mem, fun b hb' hn => ?_, by simpa using hsz, fun n hn => ?_, hE3.os, hE3.tape, hE3.output⟩
      · have hbl : b ≠ l := fun e => hn nl (by rw [lk_cons_same]; simp) hlive (by rw [hl]; exact e.symm)
        have hnH : ∀ n, lk H n ≠ none → (μ n).live = true → (μ n).blk ≠ b := fun n h1 h2 => by
          obtain ⟨ob, ho⟩ := Option.ne_none_iff_exists'.1 h1
          exact hn n (by rw [hsub n ob ho]; simp) h2
        have := hE3.frame b (by simpa using hb') hnH
        refine ⟨?_, this.2⟩
        rw [World.putObj_heap_other hbl, this.1, World.putObj_heap_other hbl]
      · by_cases en : n = nl
        · subst en
          exact .inr ⟨by omega, by rw [lk_cons_same]; simp⟩
        · rw [lk_cons_other en] at hn
          rw [lk_cons_other en]
          rcases hE3.names n hn with ⟨h1, h2⟩ | h1
          · refine .inl ⟨h1, fun ln => ?_⟩
            rcases h2 ln with h2 | ⟨m, hm, lm, e⟩
            · exact .inl (by simpa using h2)
            · obtain ⟨ob, ho⟩ := Option.ne_none_iff_exists'.1 hm
              exact .inr ⟨m, by rw [hsub m ob ho]; simp, lm, e⟩
          · exact .inr h1
    have hsub' : HSub ((nl, .rcd N ts cs ps ca cb (recSt pe) pe) :: F') ((nl, .rcd N ts cs ps ca cb (recSt pe) pe) :: st2.hp) := fun n ob hn => by
      by_cases en : n = nl
      · subst en; rw [lk_cons_same] at hn ⊢; exact hn
      · rw [lk_cons_other en] at hn ⊢; exact hF' n ob hn
    have hok' : Hp.ok (fun n => decide (n < k + nk)) ((nl, .rcd N ts cs ps ca cb (recSt pe) pe) :: F') = true := by
      have hcs' : SV.oks (fun n => decide (n < k + nk)) cs = true := by
        rw [SV.oks_iff] at hcs ⊢
        intro c hc
        exact SV.ok_more (fun n hn => by simp only [decide_eq_true_eq] at hn ⊢; omega) c (hcs c hc)
      simp only [Hp.ok, List.all_cons, Ob.ok, hcs', Bool.and_eq_true]
      exact ⟨⟨by simp; omega, trivial⟩, hFo⟩
    obtain ⟨z1, z2⟩ := fin_pack (nk := nk) hS4 hE4 hsub' hok'
    exact ⟨_, _, _, M2, _, rfl, hQ, rfl, hok', by rw [hbp]; simp [Rep, RepD], z1, z2⟩
  obtain ⟨w4, he, hfin⟩ := fin
  cases e <;> simp only [Left] at hleft <;> first
    | exact hleft.elim
    | (obtain ⟨rfl, rfl⟩ := hleft; exact ⟨_, w4, he, hfin⟩)

/-! ### the statement -/
def Envs (env : List (Nat × SV)) : List Nat → List SV → Prop
  | [], [] => True
  | t :: ts, c :: cs => env.lookup t = some c ∧ Envs env ts cs
  | _, _ => False
theorem Envs.rep {p : Nat → Prop} {μ : Nat → Nm} {M : Mem} {env : List (Nat × SV)} {f : Nat → Value} (h : ∀ t s, env.lookup t = some s → Rp p μ M s (f t)) : ∀ {ts : List Nat} {cs : List SV}, Envs env ts cs → Rps p μ M cs (ts.map f)
  | [], [], _ => Rps.nil_iff.2 rfl
  | t :: ts, c :: cs, ⟨h1, h2⟩ => Rps.cons_iff.2 ⟨_, _, rfl, h t c h1, Envs.rep h h2⟩
  | [], _ :: _, h => h.elim
  | _ :: _, [], h => h.elim
def RQ (Q : Exit → St → Prop) (pe : Option Code) (st : St) : Prop :=
  match pe with
  | none => Q .normal st
  | some .ret => Q .ret st
  | some (.exit id) => Q (.exit id) st
  | _ => False
theorem Marks.lt {w0 w : World} : ∀ {df : List Deferred}, Marks w0 w df → ∀ d, d ∈ df → ∃ r, d = ⟨.collected r, #[]⟩ ∧ r < w.heap.size
  | [], _, d, h => by simp at h
  | d :: ds, ⟨⟨r, h1, h2, h3, h4⟩, h5⟩, d', h => by
    rcases List.mem_cons.1 h with rfl | h
    · exact ⟨r, h1, (Array.getElem?_eq_some_iff.1 h3).1⟩
    · exact Marks.lt h5 d' h
theorem Marks.alloc {w0 w : World} (o : Obj) : ∀ {df : List Deferred}, Marks w0 w df → Marks w0 (w.alloc o) df
  | [], _ => trivial
  | d :: ds, ⟨⟨r, h1, h2, h3, h4⟩, h5⟩ => ⟨⟨r, h1, h2, (heap_old w o (Array.getElem?_eq_some_iff.1 h3).1).trans h3, h4⟩, Marks.alloc o h5⟩

theorem SW.rfun {N k0 nk : Nat} {st : St} {Q : Exit → St → Prop} {g : X} {ps : List Nat} {sa sb : SCo} {f : FuncId} {first cap : List SV} (ts : List Nat) (cs : List SV) (hg : ev (fun t => st.env.lookup t) g = some (.fn (.func f) first cap)) (hts : Envs st.env ts cs)
    (h : ∀ ca cb, cK P N ca = some sa → cK P N cb = some sb → SC P f (first ++ [.yl st.k] ++ cap) ((st.k, .rcd N ts cs ps ca cb .ready none) :: st.hp) (st.k + 1) nk fun _ F' =>
      ∃ pe, lk F' st.k = some (.rcd N ts cs ps ca cb (recSt pe) pe) ∧ RQ Q pe ⟨st.env, hdel F' st.k, st.k + 1 + nk⟩) : SW P N k0 (.rfun g ps sa sb) st Q := by
  intro c hc rd hrf μ0 M0 w0 c0 a w hSt
  obtain rfl := hrf rfl
  cases c <;> simp only [cK] at hc <;> first
    | (cases hc; done)
    | (exfalso; obtain ⟨_, _, hh⟩ := Option.map_eq_some_iff.1 hc; cases hh; done)
    | skip
  case rangeFunc g' ps' ca cb =>
    split at hc <;> first | (cases hc; done) | skip
    rename_i g'' sa' sb' hg' hca hcb
    injection hc with hc
    injection hc with e1 e2 e3 e4
    subst e1; subst e2; subst e3; subst e4
    obtain ⟨hk0, hdf, hsz, μ, M, hsl, hS, hE⟩ := hSt
    have hk : Known (fun t => st.env.lookup t) #[g'] (· < st.k) μ M a := ⟨fun t _ s hs => hsl t s hs, hS.mem.glob⟩
    obtain ⟨as, cs', ef, r1, r2⟩ := Rp.fn_iff.1 (hk.get (by simp) hg' hg)
    have hlt : ∀ n, lk st.hp n ≠ none → n < st.k := fun n hn => by
      obtain ⟨ob, ho⟩ := Option.ne_none_iff_exists'.1 hn
      exact (hS.obs n ob ho).1
    refine wpIn_rangeFunc fun fn _ => ?_
    let rr : Loop := { state := .ready, pending := none, fn := fn, tmps := a.tmps, params := ps', assign := ca, body := cb, defers := w.heap.size }
    let wA := w.alloc (.deferred (some []))
    let wB := wA.alloc (.loop rr)
    have hAs : wA.heap.size = w.heap.size + 1 := World.size_alloc _ _
    have hBs : wB.heap.size = w.heap.size + 2 := by show (wA.alloc _).heap.size = _; rw [World.size_alloc, hAs]
    have hB1 : wB.heap[w.heap.size + 1]? = some (.loop rr) := by rw [← hAs]; exact heap_new wA _
    have hB0 : wB.heap[w.heap.size]? = some (.deferred (some [])) := by rw [heap_old wA _ (by omega)]; exact heap_new w _
    have hBo : ∀ b, b < w.heap.size → wB.heap[b]? = w.heap[b]? := fun b hb => by rw [heap_old wA _ (by omega), heap_old w _ hb]
    let nm : Nm := ⟨w.heap.size + 1, 0, true⟩
    let μB := upN μ st.k nm
    have hold : ∀ n, n < st.k → μB n = μ n := fun n hn => upN_other _ _ _ (by omega)
    have hup : ∀ n, n < st.k → n < st.k + 1 := fun n hn => by omega
    have hMl : ∀ o, M (w.heap.size + 1) o = none := mem_lt hS.mem (by omega)
    have hSB : SatF (· < st.k + 1) μB M (lk ((st.k, .rcd N ts cs ps'.toList ca cb .ready none) :: st.hp)) wB := by
      refine ⟨mem_alloc _ (mem_alloc _ hS.mem), fun n ob hn => ?_, fun n m hn hm ln lm e => ?_⟩
      · by_cases en : n = st.k
        · subst en
          rw [lk_cons_same] at hn
          injection hn with hn
          subst hn
          have e : μB st.k = nm := upN_same _ _ _
          rw [e]
          refine ⟨Nat.lt_succ_self _, ⟨rfl, rr, hB1, ?_, hsz, rfl, rfl, rfl, rfl, rfl⟩, fun _ => hMl⟩
          exact (Envs.rep (f := fun t => a.tmps.getD t undef) hsl hts).more hup hold (Mem.le_refl _)
        · rw [lk_cons_other en] at hn
          obtain ⟨q1, q2, q3⟩ := hS.obs n ob hn
          rw [hold n q1]
          exact ⟨hup n q1, q2.more hup hold (Mem.le_refl _) (fun ln => hBo _ (q2.lt ln)), q3⟩
      · have far : ∀ n, lk st.hp n ≠ none → (μB n).live = true → (μB n).blk ≠ w.heap.size + 1 := fun n hn ln e => by
          rw [hold n (hlt n hn)] at ln e
          have := hS.lt hn ln
          omega
        have e0 : (μB st.k).blk = w.heap.size + 1 := by show (upN μ st.k nm st.k).blk = _; rw [upN_same]
        by_cases en : n = st.k <;> by_cases em : m = st.k
        · rw [en, em]
        · subst en
          rw [lk_cons_other em] at hm
          exact absurd (e.symm.trans e0) (far m hm lm)
        · subst em
          rw [lk_cons_other en] at hn
          exact absurd (e.trans e0) (far n hn ln)
        · rw [lk_cons_other en] at hn
          rw [lk_cons_other em] at hm
          rw [hold n (hlt n hn)] at ln e
          rw [hold m (hlt m hm)] at lm e
          exact hS.inj n m hn hm ln lm e
    have hEB : Ev (lk st.hp) (fun n => st.k ≤ n ∧ n < st.k + 1) μ M w (lk ((st.k, .rcd N ts cs ps'.toList ca cb .ready none) :: st.hp)) μB M wB := by
      refine ⟨fun n hn => upN_other _ _ _ (fun e => hn (by omega)), Mem.le_refl _, fun b hb _ => ⟨hBo b hb, fun _ => rfl⟩, by omega, fun n hn => ?_, rfl, ⟨rfl, Nat.le_refl _⟩, rfl⟩
      by_cases en : n = st.k
      · subst en
        exact .inl ⟨⟨Nat.le_refl _, Nat.lt_succ_self _⟩, fun _ => .inl (by show _ ≤ (upN μ st.k nm st.k).blk; rw [upN_same]; exact Nat.le_succ _)⟩
      · rw [lk_cons_other en] at hn
        have := hlt n hn
        exact .inr ⟨by omega, hn⟩
    have hargs : Rps (· < st.k + 1) μB M (first ++ [.yl st.k] ++ cap) (as ++ #[Value.func (.yield (w.heap.size + 1)) #[] #[]] ++ cs').toList := by
      have hy : Rps (· < st.k + 1) μB M [.yl st.k] [Value.func (.yield (w.heap.size + 1)) #[] #[]] := by
        refine Rps.cons_iff.2 ⟨_, _, rfl, fun μ' hμ => ?_, Rps.nil_iff.2 rfl⟩
        have : μ' st.k = nm := (hμ st.k (Nat.lt_succ_self _)).trans (upN_same _ _ _)
        simp [Rep, this, nm]
      simpa using ((r1.more hup hold (Mem.le_refl _)).append hy).append (r2.more hup hold (Mem.le_refl _))
    obtain ⟨hcal, hcalls⟩ := h ca cb hca hcb
    refine ⟨w.heap.size + 1, [{ target := .collected w.heap.size, args := #[] }], wB, { target := .fn (.func f) cs', args := as ++ #[Value.func (.yield (w.heap.size + 1)) #[] #[]] }, wB, f, as ++ #[Value.func (.yield (w.heap.size + 1)) #[] #[]] ++ cs', wB, ?_, ?_, fun _ _ => trivial, ?_, (fun e => by cases e), ?_⟩
    · exact run_enterLoop_outer fn a.tmps ps' ca cb
    · have e1 : (#[Operand.const (.func (.yield (w.heap.size + 1)) #[] #[])] : Array Operand).map a.eval = #[Value.func (.yield (w.heap.size + 1)) #[] #[]] := by simp [Act.eval]
      simp only [resolve, rangeCall, e1, ef, Deferred.ofValue, Sem.run_pure]
    · simp only [invoke, run_callFunc hcal]
    · refine callsIn_W.2 ((hcalls (· < st.k + 1) μB M wB _ (fun n hn => by omega) hargs hSB).mono ?_)
      rintro e w3 ⟨r, F', μ', M', u, rfl, ⟨pe, hrec, hRQ⟩, _, hS3, hE3⟩
      have hp : (fun n => n < st.k + 1 ∨ (st.k + 1 ≤ n ∧ n < st.k + 1 + nk)) = (· < st.k + 1 + nk) := funext fun n => propext ⟨fun h => by rcases h with h | h <;> omega, fun h => by show n < st.k + 1 ∨ _; omega⟩
      rw [hp] at hS3
      have hmk : μ' st.k = nm := (hE3.old st.k (by omega)).trans (upN_same _ _ _)
      obtain ⟨_, ⟨_, r3, hb3, _, _, _, _, _, hst3, hpe3⟩, hM3⟩ := hS3.obs st.k _ hrec
      rw [hmk] at hb3 hM3
      have hb3 : w3.heap[w.heap.size + 1]? = some (.loop r3) := hb3
      have hM3 : ∀ o, M' (w.heap.size + 1) o = none := hM3 rfl
      refine ⟨_, _, run_endLoop hb3 (by rw [hst3]; unfold recSt; split <;> simp), ?_⟩
      rw [hpe3]
      have hnot : ∀ n, lk (hdel F' st.k) n ≠ none → (μ' n).live = true → (μ' n).blk ≠ w.heap.size + 1 := fun n hn ln e => by
        rw [lk_hdel] at hn
        split at hn
        · exact hn rfl
        · rename_i en
          exact en (hS3.inj n st.k hn (by rw [hrec]; simp) ln (by rw [hmk]) (by rw [hmk]; exact e))
      have hSt' : StA N μ0 M0 w0 c0 k0 ⟨st.env, hdel F' st.k, st.k + 1 + nk⟩ { a with defers := { target := .collected w.heap.size, args := #[] } :: a.defers } (w3.putObj (w.heap.size + 1) (.loop { r3 with state := .exhausted, pending := pe })) := by
        refine ⟨by show k0 ≤ st.k + 1 + nk; omega, ⟨⟨w.heap.size, rfl, hE.size, ?_, fun d' hd e => ?_⟩, ?_⟩, hsz, μ', M', fun t s hs => ?_, ⟨⟨fun b o v hv => ?_, hS3.mem.glob⟩, fun n ob hn => ?_, fun n m hn hm => ?_⟩, ?_⟩
        · rw [World.putObj_heap_other (by omega)]
          exact hE3.keeps hSB hB0 rfl
        · obtain ⟨q, e', hq⟩ := hdf.lt d' hd
          rw [e'] at e
          injection e with e _
          injection e with e
          omega
        · refine Marks.put _ _ (fun d' hd e => ?_) ((hdf.alloc _).alloc _ |>.ev hSB hE3)
          obtain ⟨q, e', hq⟩ := hdf.lt d' hd
          rw [e'] at e
          injection e with e _
          injection e with e
          omega
        · exact (hsl t s hs).more (fun n hn => by show n < st.k + 1 + nk; have : n < st.k := hn; omega) (fun n hn => by have : n < st.k := hn; rw [hE3.old n (by omega), hold n hn]) hE3.mem
        · have hbl : b ≠ w.heap.size + 1 := fun e => by rw [e, hM3] at hv; cases hv
          have := hS3.mem b o v hv
          simp only [World.cell?, World.putObj_heap_other hbl] at this ⊢
          exact this
        · have hn' : lk F' n = some ob := by
            have := hn
            simp only [lk_hdel] at this
            split at this
            · cases this
            · exact this
          obtain ⟨q1, q2, q3⟩ := hS3.obs n ob hn'
          exact ⟨q1, q2.more (fun _ h => h) (fun _ _ => rfl) (Mem.le_refl _) (fun ln => World.putObj_heap_other (hnot n (by rw [hn]; simp) ln)), q3⟩
        · refine hS3.inj n m (fun e => hn ?_) (fun e => hm ?_)
          · show lk (hdel F' st.k) n = none; rw [lk_hdel, e]; split <;> rfl
          · show lk (hdel F' st.k) m = none; rw [lk_hdel, e]; split <;> rfl
        · refine Ev.put ?_ _ (by have := hE.size; omega)
          refine (((hE.trans hEB).trans hE3).new_iff fun n => ?_).fewer fun n hn e => hn ?_
          · show _ ↔ (k0 ≤ n ∧ n < st.k + 1 + nk); omega
          · show lk (hdel F' st.k) n = none; rw [lk_hdel, e]; split <;> rfl
      cases pe with
      | none => exact ⟨_, hRQ, hSt'⟩
      | some c =>
        cases c <;> simp only [RQ] at hRQ <;> first
          | exact hRQ.elim
          | exact wpIn_ret ⟨_, hRQ, hSt'⟩
          | exact wpIn_exit ⟨_, hRQ, hSt'⟩
  all_goals (exfalso; split at hc <;> cases hc)
end Go.Sl

/-
  Ranging over a map: the next entry, in whatever order.
-/
set_option linter.unusedVariables false
set_option linter.unusedSimpArgs false
set_option linter.unusedSectionVars false
namespace Go.Sl
open Go.RowKit
open Go.ChangeMaps (setBlock)
variable {P : Program}

theorem RpE.mem {p : Nat → Prop} {μ : Nat → Nm} {M : Mem} : ∀ {es : List (Nat × SV × SV)} {ens : List MapEntry}, RpE p μ M es ens → ∀ x, x ∈ ens → ∃ e, e ∈ es ∧ x.born = e.1 ∧ Rp p μ M e.2.1 x.key ∧ Rp p μ M e.2.2 x.val
  | [], ens, h, x, hx => by simp only [RpE] at h; subst h; simp at hx
  | (b, k, v) :: r, ens, h, x, hx => by
    obtain ⟨e, es', rfl, h1, h2, h3, h4⟩ := h
    rcases List.mem_cons.1 hx with rfl | hx
    · exact ⟨(b, k, v), by simp, h1, h2, h3⟩
    · obtain ⟨e, he, h⟩ := RpE.mem h4 x hx
      exact ⟨e, by simp [he], h⟩
theorem RpE.mem' {p : Nat → Prop} {μ : Nat → Nm} {M : Mem} : ∀ {es : List (Nat × SV × SV)} {ens : List MapEntry}, RpE p μ M es ens → ∀ e, e ∈ es → ∃ x, x ∈ ens ∧ x.born = e.1
  | [], ens, h, e, he => by simp at he
  | (b, k, v) :: r, ens, h, e, he => by
    obtain ⟨x, es', rfl, h1, h2, h3, h4⟩ := h
    rcases List.mem_cons.1 he with rfl | he
    · exact ⟨x, by simp, h1⟩
    · obtain ⟨x', hx, h⟩ := RpE.mem' h4 e he
      exact ⟨x', by simp [hx], h⟩

theorem cO_next {op : Op} {x' : X} (hc : cO P op = some (.mnext x')) : ∃ it, op = .next it false ∧ cX it = some x' := by
  cases op <;> simp only [cO] at hc <;> try (cases hc; done)
  case next it s =>
    cases s
    · simp only [Bool.false_eq_true, if_false] at hc
      obtain ⟨y, hy, e⟩ := Option.map_eq_some_iff.1 hc
      injection e with e; subst e
      exact ⟨it, rfl, hy⟩
    · simp at hc
  all_goals (repeat' (first | contradiction | (cases hc; done) | (obtain ⟨_, _, hh⟩ := Option.map_eq_some_iff.1 hc; cases hh; done) | split at hc))

/-- What 'next' may do: nothing is left; or one that is left. -/
def NextQ (n m since : Nat) (seen : List Nat) (st : Nat) (es : List (Nat × SV × SV)) (c : Nat) (r : SV) (F' : Hp) : Prop :=
  (r = .tup [.d (.bool false)] ∧ F' = [(n, .iter (some m) since seen st), (m, .map es c)] ∧ ∀ e, e ∈ es → seen.contains e.1 = true) ∨
  ∃ e, e ∈ es ∧ seen.contains e.1 = false ∧ r = .tup [.d (.bool true), e.2.1, e.2.2] ∧ F' = [(n, .iter (some m) since (seen ++ [e.1]) c), (m, .map es c)]

theorem sq_mnext {o : Oper} {E : Nat → Option SV} {H : Nat → Option Ob} {k : Nat} {x' : X} {n m since st c : Nat} {seen : List Nat} {es : List (Nat × SV × SV)} (hc : cO P o.op = some (.mnext x')) (h1 : ev E x' = some (.it n))
    (hH : H n = some (.iter (some m) since seen st)) (hM : H m = some (.map es c)) (hnm : n ≠ m) (hold : ∀ e, e ∈ es → e.1 < since) (hst : since ≤ st) :
    SoundQ P o E H k 0 [(n, .iter (some m) since seen st), (m, .map es c)] (NextQ n m since seen st es c) := by
  obtain ⟨it, ho, hx⟩ := cO_next hc
  refine ⟨?_, ?_⟩
  · intro q ob hq
    rw [lk_cons, lk_one] at hq
    split at hq
    · rename_i e; subst e; simp at hq; subst hq; exact hH
    · split at hq
      · rename_i e; subst e; simp at hq; subst hq; exact hM
      · cases hq
  intro rd p μ M a w K QQ hnew hk hS hK
  have ln : lk [(n, Ob.iter (some m) since seen st), (m, .map es c)] n = some (.iter (some m) since seen st) := by simp [lk_cons]
  have lm : lk [(n, Ob.iter (some m) since seen st), (m, .map es c)] m = some (.map es c) := by rw [lk_cons, if_neg (fun h => hnm h.symm), lk_one, if_pos rfl]
  obtain ⟨hpn, ⟨hlv, hpm, hb⟩, hMn⟩ := hS.obs n _ ln
  obtain ⟨hpm', ⟨hlv2, ens, hb2, hre⟩, hMm⟩ := hS.obs m _ lm
  simp only [Option.map_some] at hb
  have e1 := (hk.get (by simp [ho, Op.operands]) hx h1).it_of
  have hpk : ∀ q, p q → (fun q => p q ∨ (k ≤ q ∧ q < k + 0)) q := fun q hq => .inl hq
  have hold' : ∀ x ∈ ens.toList, x.born < since := fun x hx => by
    obtain ⟨e, he, h, _⟩ := hre.mem x hx
    rw [h]; exact hold e he
  rcases run_next_at (P := P) w o.type (μ n).blk (μ m).blk since st seen.toArray ens c hb hb2 hold' hst with ⟨h0, hrun⟩ | ⟨x, hx, w1, hw1, hrun⟩
  · have hrun' : (execOp a.eval o).run P w = .ok (.value (.tuple #[.bool false])) w := by simp [execOp, ho, e1, hrun]
    refine wp_value hrun' (hK _ _ _ μ M w (.inl ⟨rfl, rfl, fun e he => ?_⟩) ?_ (hS.more hpk) (Ev.refl _ _ _ _ _ fun q _ h => by omega))
    · obtain ⟨x, hx, hb'⟩ := hre.mem' e he
      have hnil : leftOf ens seen.toArray = #[] := Array.eq_empty_of_size_eq_zero h0
      unfold leftOf at hnil
      rw [Array.filter_eq_empty_iff] at hnil
      have := hnil x (by simpa using hx)
      simpa [hb'] using this
    · exact Rp.tup_iff.2 ⟨_, rfl, Rps.cons_iff.2 ⟨_, _, rfl, Rp.bool_iff.2 rfl, Rps.nil_iff.2 rfl⟩⟩
  · have hx' : x ∈ ens.toList ∧ seen.contains x.born = false := by
      unfold leftOf at hx
      simpa using hx
    obtain ⟨e, he, hb', hrk, hrv⟩ := hre.mem x hx'.1
    have hrun' : (execOp a.eval o).run P w = .ok (.value (.tuple #[.bool true, x.key, x.val])) (setBlock w1 (μ n).blk (.mapIter (some (μ m).blk) since (seen.toArray.push x.born) c)) := by simp [execOp, ho, e1, hrun]
    have hh : w1.heap = w.heap := by rcases hw1 with rfl | rfl <;> rfl
    have hsz : (setBlock w1 (μ n).blk (.mapIter (some (μ m).blk) since (seen.toArray.push x.born) c)).heap.size = w.heap.size := by simp [setBlock, hh]
    have hoth : ∀ b, b ≠ (μ n).blk → (setBlock w1 (μ n).blk (.mapIter (some (μ m).blk) since (seen.toArray.push x.born) c)).heap[b]? = w.heap[b]? := fun b hb => by
      simp [setBlock, hh, Array.getElem?_setIfInBounds_ne (Ne.symm hb)]
    have hsame : (setBlock w1 (μ n).blk (.mapIter (some (μ m).blk) since (seen.toArray.push x.born) c)).heap[(μ n).blk]? = some (.mapIter (some (μ m).blk) since (seen.toArray.push x.born) c) := by
      have : (μ n).blk < w.heap.size := (Array.getElem?_eq_some_iff.1 hb).1
      simp [setBlock, hh, this]
    have hne : (μ m).blk ≠ (μ n).blk := fun e => hnm (hS.inj n m (by rw [ln]; simp) (by rw [lm]; simp) hlv hlv2 e.symm)
    refine wp_value hrun' (hK _ _ _ μ M _ (.inr ⟨e, he, by rw [← hb']; exact hx'.2, rfl, rfl⟩) ?_ ⟨⟨fun b o v hv => ?_, hS.mem.glob⟩, fun q ob hq => ?_, fun q q' hq hq' lq lq' ee => ?_⟩ ⟨fun _ _ => rfl, Mem.le_refl _, fun b hb hf => ⟨hoth b fun ee => hf n (by rw [ln]; simp) hlv ee.symm, fun _ => rfl⟩, by rw [hsz]; exact Nat.le_refl _, fun q hq => ?_, ?_, ?_, ?_⟩)
    · exact (Rp.tup_iff.2 ⟨_, rfl, Rps.cons_iff.2 ⟨_, _, rfl, Rp.bool_iff.2 rfl, Rps.cons_iff.2 ⟨_, _, rfl, hrk, Rps.cons_iff.2 ⟨_, _, rfl, hrv, Rps.nil_iff.2 rfl⟩⟩⟩⟩ : Rp p μ M _ _).more hpk (fun _ _ => rfl) (Mem.le_refl _)
    · have hbl : b ≠ (μ n).blk := fun ee => by rw [ee, hMn hlv] at hv; cases hv
      rw [← hS.mem b o v hv]
      unfold World.cell?
      rw [hoth b hbl]
    · rw [lk_cons, lk_one] at hq
      split at hq
      · rename_i e'; subst e'; simp at hq; subst hq
        refine ⟨.inl hpn, ⟨hlv, fun q hq => .inl (hpm q hq), ?_⟩, hMn⟩
        simpa [hb'] using hsame
      · split at hq
        · rename_i e'; subst e'; simp at hq; subst hq
          refine ⟨.inl hpm', ⟨hlv2, ens, (hoth _ hne).trans hb2, hre.more hpk (fun _ _ => rfl) (Mem.le_refl _)⟩, hMm⟩
        · cases hq
    · have dom : ∀ q, lk [(n, Ob.iter (some m) since (seen ++ [e.1]) c), (m, .map es c)] q ≠ none → lk [(n, Ob.iter (some m) since seen st), (m, .map es c)] q ≠ none := fun q hq => by
        rw [lk_cons, lk_one] at hq ⊢
        split at hq
        · rename_i e'; rw [if_pos e']; simp
        · rename_i e'; rw [if_neg e']; split at hq <;> simp_all
      exact hS.inj q q' (dom q hq) (dom q' hq') lq lq' ee
    · refine .inr ⟨by omega, ?_⟩
      rw [lk_cons, lk_one] at hq ⊢
      split at hq
      · rename_i e'; rw [if_pos e']; simp
      · rename_i e'; rw [if_neg e']; split at hq <;> simp_all
    · rcases hw1 with rfl | rfl <;> rfl
    · rcases hw1 with rfl | rfl
      · exact ⟨rfl, Nat.le_refl _⟩
      · exact ⟨rfl, Nat.le_succ _⟩
    · rcases hw1 with rfl | rfl <;> rfl
/-- Over a map that is nil. -/
theorem sq_mnext0 {o : Oper} {E : Nat → Option SV} {H : Nat → Option Ob} {k : Nat} {x' : X} {n since st : Nat} {seen : List Nat} (hc : cO P o.op = some (.mnext x')) (h1 : ev E x' = some (.it n))
    (hH : H n = some (.iter none since seen st)) : SoundQ P o E H k 0 [(n, .iter none since seen st)] fun r F' => r = .tup [.d (.bool false)] ∧ F' = [(n, .iter none since seen st)] := by
  obtain ⟨it, ho, hx⟩ := cO_next hc
  refine ⟨?_, ?_⟩
  · intro q ob hq
    rw [lk_one] at hq
    split at hq
    · rename_i e; subst e; simp at hq; subst hq; exact hH
    · cases hq
  intro rd p μ M a w K QQ hnew hk hS hK
  obtain ⟨hpn, ⟨hlv, hpm, hb⟩, hMn⟩ := hS.obs n _ (by rw [lk_one, if_pos rfl])
  simp only [Option.map_none] at hb
  have e1 := (hk.get (by simp [ho, Op.operands]) hx h1).it_of
  have hg : (getObj (μ n).blk).run P w = .ok (.mapIter none since seen.toArray st) w := by simp [getObj, Sem.run, hb]
  have hrun' : (execOp a.eval o).run P w = .ok (.value (.tuple #[.bool false])) w := by simp [execOp, ho, e1, Instr.next, hg]
  exact wp_value hrun' (hK _ _ _ μ M w ⟨rfl, rfl⟩ (Rp.tup_iff.2 ⟨_, rfl, Rps.cons_iff.2 ⟨_, _, rfl, Rp.bool_iff.2 rfl, Rps.nil_iff.2 rfl⟩⟩) (hS.more fun q hq => .inl hq) (Ev.refl _ _ _ _ _ fun q _ h => by omega))
theorem sq_yield {o : Oper} {E : Nat → Option SV} {H : Nat → Option Ob} {k nk : Nat} {f : X} {args : List X} {nl : Nat} {as : List SV} {F : Hp} {Q : SV → Hp → Prop} (hc : cO P o.op = some (.call f args))
    (h1 : ev E f = some (.yl nl)) (h2 : evs E args = some as) (hF : lk F nl ≠ none) (hSY : SY P nl as F k nk Q) (hsub : ∀ n ob, lk F n = some ob → H n = some ob) : SoundQ P o E H k nk F Q := by
  obtain ⟨c, fo, hop, hcal, hf, ha⟩ := cO_call hc
  exact ⟨hsub, fun rd p μ M a w K QQ hnew hk hS hK => s_yieldQ hop hcal hf ha h1 h2 hF hSY hnew hk hS hK⟩
theorem SWn.callQ {N k0 : Nat} {st : St} {K : St → Prop} {d : Option Nat} {r : List SI} {f : X} {args : List X} {fid : FuncId} {first cap as : List SV} {F : Hp} {nk : Nat} {Q : SV → Hp → Prop}
    (h1 : ev (fun t => st.env.lookup t) f = some (.fn (.func fid) first cap)) (h2 : evs (fun t => st.env.lookup t) args = some as) (hSC : SC P fid (first ++ as ++ cap) F st.k nk Q) (hsub : HSub F st.hp)
    (h : ∀ v F', Q v F' → SWn P N k0 r (upd st ⟨d, .call f args, none⟩ ⟨v, F, F', nk, True⟩) K) : SWn P N k0 (⟨d, .call f args, none⟩ :: r) st K :=
  SWn.many rfl (fun o hc => sq_call hc h1 h2 hSC hsub) rfl h
theorem SWn.yield {N k0 : Nat} {st : St} {K : St → Prop} {d : Option Nat} {r : List SI} {f : X} {args : List X} {nl : Nat} {as : List SV} {F : Hp} {nk : Nat} {Q : SV → Hp → Prop}
    (h1 : ev (fun t => st.env.lookup t) f = some (.yl nl)) (h2 : evs (fun t => st.env.lookup t) args = some as) (hF : lk F nl ≠ none) (hSY : SY P nl as F st.k nk Q) (hsub : HSub F st.hp)
    (h : ∀ v F', Q v F' → SWn P N k0 r (upd st ⟨d, .call f args, none⟩ ⟨v, F, F', nk, True⟩) K) : SWn P N k0 (⟨d, .call f args, none⟩ :: r) st K :=
  SWn.many rfl (fun o hc => sq_yield hc h1 h2 hF hSY hsub) rfl h
theorem SWn.mnext {N k0 : Nat} {st : St} {K : St → Prop} {d : Option Nat} {r : List SI} {x : X} {n m since s c : Nat} {seen : List Nat} {es : List (Nat × SV × SV)}
    (h1 : ev (fun t => st.env.lookup t) x = some (.it n)) (hH : lk st.hp n = some (.iter (some m) since seen s)) (hM : lk st.hp m = some (.map es c)) (hnm : n ≠ m) (hold : ∀ e, e ∈ es → e.1 < since) (hs : since ≤ s)
    (h : ∀ v F', NextQ n m since seen s es c v F' → SWn P N k0 r (upd st ⟨d, .mnext x, none⟩ ⟨v, [(n, .iter (some m) since seen s), (m, .map es c)], F', 0, True⟩) K) : SWn P N k0 (⟨d, .mnext x, none⟩ :: r) st K :=
  SWn.many rfl (fun o hc => sq_mnext hc h1 hH hM hnm hold hs) rfl h
theorem SWn.mnext0 {N k0 : Nat} {st : St} {K : St → Prop} {d : Option Nat} {r : List SI} {x : X} {n since s : Nat} {seen : List Nat}
    (h1 : ev (fun t => st.env.lookup t) x = some (.it n)) (hH : lk st.hp n = some (.iter none since seen s))
    (h : SWn P N k0 r (upd st ⟨d, .mnext x, none⟩ ⟨.tup [.d (.bool false)], [(n, .iter none since seen s)], [(n, .iter none since seen s)], 0, True⟩) K) : SWn P N k0 (⟨d, .mnext x, none⟩ :: r) st K :=
  SWn.many rfl (fun o hc => sq_mnext0 hc h1 hH) rfl (fun v F' ⟨e1, e2⟩ => by subst e1; subst e2; exact h)
end Go.Sl

/-
  Contracts at names that stand; in greater heaps; loops over maps.
-/
set_option linter.unusedVariables false
set_option linter.unusedSimpArgs false
set_option linter.unusedSectionVars false
namespace Go.Sl
open Go.RowKit
variable {P : Program}

/-- To fewer names, and back. -/
theorem here_core {args : List SV} {F : Hp} {k nk : Nat} {Q : SV → Hp → Prop} (q : Nat → Bool) (hao : SV.oks q args = true) (hFo : F.ok q = true) (hk : F.ok (fun n => decide (n < k)) = true) (hqp : ∀ n, q n = true → lk F n ≠ none)
    (hQ : ∀ r F', Q r F' → r.ok (fun n => decide (n < k + nk)) = true → F'.ok (fun n => decide (n < k + nk)) = true → r.ok (fun n => q n || (decide (k ≤ n) && decide (n < k + nk))) = true ∧ F'.ok (fun n => q n || (decide (k ≤ n) && decide (n < k + nk))) = true)
    {p : Nat → Prop} {μ : Nat → Nm} {M : Mem} {w : World} {vals : Array Value} (hp : ∀ n, (k ≤ n ∧ n < k + nk) → ¬ p n) (hr : Rps p μ M args vals.toList) (hS : SatF p μ M (lk F) w) :
    Rps (· < k) μ M args vals.toList ∧ SatF (· < k) μ M (lk F) w ∧ ∀ e w',
      (∃ r F' μ' M' u, e = Ending.returned u ∧ Q r F' ∧ r.ok (fun n => decide (n < k + nk)) = true ∧ F'.ok (fun n => decide (n < k + nk)) = true ∧ Rep μ' M' r u ∧ SatF (· < k + nk) μ' M' (lk F') w' ∧
        Ev (lk F) (fun n => k ≤ n ∧ n < k + nk) μ M w (lk F') μ' M' w') →
      ∃ r F' μ' M' u, e = Ending.returned u ∧ Q r F' ∧ Rp (fun n => p n ∨ (k ≤ n ∧ n < k + nk)) μ' M' r u ∧ SatF (fun n => p n ∨ (k ≤ n ∧ n < k + nk)) μ' M' (lk F') w' ∧
        Ev (lk F) (fun n => k ≤ n ∧ n < k + nk) μ M w (lk F') μ' M' w' := by
  have hlt : ∀ n, q n = true → n < k := fun n h => by
    obtain ⟨ob, ho⟩ := Option.ne_none_iff_exists'.1 (hqp n h)
    simpa using (Hp.ok_lk hk ho).1
  have hqP : ∀ n, q n = true → p n := fun n h => by
    obtain ⟨ob, ho⟩ := Option.ne_none_iff_exists'.1 (hqp n h)
    exact (hS.obs n ob ho).1
  refine ⟨Rps.of_reps hao hlt hr.reps, ⟨hS.mem, fun n ob hn => ?_, hS.inj⟩, ?_⟩
  · obtain ⟨a1, a2⟩ := Hp.ok_lk hFo hn
    obtain ⟨_, b1, b2⟩ := hS.obs n ob hn
    have hb' : ObRep p (fun n => μ (id n)) M w (μ n) (ob.ren id) := by rw [Ob.ren_id]; exact b1
    exact ⟨hlt n a1, ObRep.to a2 hlt (fun _ _ => rfl) hb', b2⟩
  · rintro e w' ⟨r, F', μ', M', u, rfl, hq, hr1, hr2, hru, hS', hE⟩
    obtain ⟨h1, h2⟩ := hQ r F' hq hr1 hr2
    have hq2 : ∀ n, (q n || (decide (k ≤ n) && decide (n < k + nk))) = true → (p n ∨ (k ≤ n ∧ n < k + nk)) := fun n hn => by
      simp only [Bool.or_eq_true, Bool.and_eq_true, decide_eq_true_eq] at hn
      exact hn.imp (hqP n) id
    refine ⟨r, F', μ', M', u, rfl, hq, Rp.of_rep h1 hq2 hru, ⟨hS'.mem, fun n ob hn => ?_, hS'.inj⟩, hE⟩
    obtain ⟨a1, a2⟩ := Hp.ok_lk h2 hn
    obtain ⟨_, b1, b2⟩ := hS'.obs n ob hn
    have hb' : ObRep (· < k + nk) (fun n => μ' (id n)) M' w' (μ' n) (ob.ren id) := by rw [Ob.ren_id]; exact b1
    exact ⟨hq2 n a1, ObRep.to a2 hq2 (fun _ _ => rfl) hb', b2⟩

theorem SB.here {f : FuncId} {args : List SV} {F : Hp} {k nk : Nat} {Q : SV → Hp → Prop} (q : Nat → Bool) (h : SB P f args F k nk Q) (hqp : ∀ n, q n = true → lk F n ≠ none) (hao : SV.oks q args = true) (hFo : F.ok q = true)
    (hQ : ∀ r F', Q r F' → r.ok (fun n => decide (n < k + nk)) = true → F'.ok (fun n => decide (n < k + nk)) = true → r.ok (fun n => q n || (decide (k ≤ n) && decide (n < k + nk))) = true ∧ F'.ok (fun n => q n || (decide (k ≤ n) && decide (n < k + nk))) = true) : SC P f args F k nk Q := by
  refine ⟨h.1, fun p μ M w vals hp hr hS => ?_⟩
  obtain ⟨h1, h2, h3⟩ := here_core q hao hFo h.2.2.1 hqp hQ hp hr hS
  exact (h.2.2.2 μ M w vals h1 h2).mono h3
theorem SYB.here {nl : Nat} {args : List SV} {F : Hp} {k nk : Nat} {Q : SV → Hp → Prop} (q : Nat → Bool) (h : SYB P nl args F k nk Q) (hqp : ∀ n, q n = true → lk F n ≠ none) (hao : SV.oks q args = true) (hFo : F.ok q = true)
    (hQ : ∀ r F', Q r F' → r.ok (fun n => decide (n < k + nk)) = true → F'.ok (fun n => decide (n < k + nk)) = true → r.ok (fun n => q n || (decide (k ≤ n) && decide (n < k + nk))) = true ∧ F'.ok (fun n => q n || (decide (k ≤ n) && decide (n < k + nk))) = true) : SY P nl args F k nk Q := by
  intro p μ M w vals hp _ hr hS
  obtain ⟨h1, h2, h3⟩ := here_core q hao hFo h.2.1 hqp hQ hp hr hS
  obtain ⟨fn, tmps, assign, body, hy, hround⟩ := h.2.2 μ M w vals h1 h2
  exact ⟨fn, tmps, assign, body, hy, hround.mono h3⟩

/-- In a greater heap. -/
theorem SC.frame {f : FuncId} {args : List SV} {F H : Hp} {k nk : Nat} {Q : SV → Hp → Prop} (h : SC P f args F k nk Q) (hs : HSub F H) : SC P f args H k nk fun r F' => ∃ F1, Q r F1 ∧ F' = hmrg false H F F1 := by
  refine ⟨h.1, fun p μ M w vals hp hr hS => (h.2 p μ M w vals hp hr (hS.sub hs)).mono ?_⟩
  rintro e w' ⟨r, F1, μ', M', u, rfl, hq, hru, hS', hE⟩
  obtain ⟨z1, z2⟩ := hS.framed hs hp hE hS' fun n h => .inl h
  have hlk : lk (hmrg false H F F1) = mrg (lk H) (lk F) (lk F1) := lk_hmrg hs (fun h => by cases h)
  exact ⟨r, _, μ', M', u, rfl, ⟨F1, hq, rfl⟩, hru, by rw [hlk]; exact z1, by rw [hlk]; exact z2⟩

theorem hrep_same : ∀ {h : Hp} {n : Nat} {ob : Ob}, lk h n = some ob → hrep h n ob = h
  | [], n, ob, h => by simp [lk_nil] at h
  | (m, o) :: h, n, ob, hl => by
    rw [lk_cons] at hl
    simp only [hrep]
    by_cases e : m = n
    · subst e
      simp only [if_true] at hl ⊢
      injection hl with hl; rw [hl]
    · rw [if_neg (fun h => e h.symm)] at hl
      rw [if_neg e, hrep_same hl]

theorem hset_same {h : Hp} {n : Nat} {ob : Ob} (hl : lk h n = some ob) : hset h n ob = h := by
  unfold hset; rw [hl]; exact hrep_same hl
theorem hset_head {h : Hp} {n : Nat} {o o' : Ob} : hset ((n, o) :: h) n o' = (n, o') :: h := by
  have : lk ((n, o) :: h) n = some o := lk_cons_same
  unfold hset; rw [this]; simp [hrep]
theorem hmrg_ro {h F F' : Hp} : hmrg true h F F' = h := rfl

/-- How many entries are left. -/
def unseen (es : List (Nat × SV × SV)) (seen : List Nat) : Nat := (es.filter fun e => !seen.contains e.1).length
theorem unseen_lt {es : List (Nat × SV × SV)} {seen : List Nat} {e : Nat × SV × SV} (he : e ∈ es) (hs : seen.contains e.1 = false) : unseen es (seen ++ [e.1]) < unseen es seen := by
  induction es with
  | nil => cases he
  | cons x es ih =>
    have hle : ∀ l : List (Nat × SV × SV), unseen l (seen ++ [e.1]) ≤ unseen l seen := fun l => by
      induction l with
      | nil => exact Nat.le_refl _
      | cons y l ihl =>
        simp only [unseen, List.filter, List.contains_append] at ihl ⊢
        cases h1 : seen.contains y.1
        · cases h2 : [e.1].contains y.1
          · simp only [Bool.or_self, Bool.not_false, List.length_cons]; omega
          · simp only [Bool.false_or, Bool.not_true, Bool.not_false, List.length_cons]; omega
        · simp only [Bool.true_or, Bool.not_true]; omega
    rcases List.mem_cons.1 he with rfl | he
    · have := hle es
      simp only [unseen, List.filter, List.contains_append, hs, Bool.false_or, List.contains_cons, List.contains_nil, BEq.rfl, Bool.true_or, Bool.not_true, Bool.not_false, List.length_cons] at this ⊢
      omega
    · have := ih he
      simp only [unseen, List.filter, List.contains_append] at this ⊢
      cases h1 : seen.contains x.1
      · cases h2 : [e.1].contains x.1
        · simp only [Bool.or_self, Bool.not_false, List.length_cons]; omega
        · simp only [Bool.false_or, Bool.not_true, Bool.not_false, List.length_cons]; omega
      · simp only [Bool.true_or, Bool.not_true]; omega
theorem unseen_sub {es es' : List (Nat × SV × SV)} (h : es'.Sublist es) (seen : List Nat) : unseen es' seen ≤ unseen es seen := (h.filter _).length_le

theorem Hp.ok_mono {q q' : Nat → Bool} (h : ∀ n, q n = true → q' n = true) {F : Hp} (hF : F.ok q = true) : F.ok q' = true := by
  unfold Hp.ok at hF ⊢
  rw [List.all_eq_true] at hF ⊢
  intro x hx
  have := hF x hx
  simp only [Bool.and_eq_true] at this ⊢
  refine ⟨h _ this.1, ?_⟩
  have h2 := this.2
  generalize x.2 = ob at h2 ⊢
  cases ob <;> simp only [Ob.ok] at h2 ⊢
  · exact SV.oks_more h _ h2
  · exact SV.oks_more h _ h2
  · rw [List.all_eq_true] at h2 ⊢
    intro e he
    have := h2 e he
    simp only [Bool.and_eq_true] at this ⊢
    exact ⟨SV.ok_more h _ this.1, SV.ok_more h _ this.2⟩
  · rename_i mo _ _ _
    cases mo with
    | none => rfl
    | some n => exact h n h2
  · exact SV.oks_more h _ h2
theorem Hp.ok_less {k k' : Nat} (h : k ≤ k') {F : Hp} (hF : F.ok (fun n => decide (n < k)) = true) : F.ok (fun n => decide (n < k')) = true := Hp.ok_mono (fun n hn => by simp at hn ⊢; omega) hF
theorem Hp.out {k n : Nat} {F : Hp} (hF : F.ok (fun n => decide (n < k)) = true) (h : k ≤ n) : lk F n = none := by
  cases hh : lk F n with
  | none => rfl
  | some ob => have := (Hp.ok_lk hF hh).1; simp at this; omega
/-- Heaps that say less: what is the same by name. -/
theorem HpW.of_lk {k : Nat} {hp : Hp} : ∀ {h : Hp}, h.ok (fun n => decide (n < k)) = true → (∀ x, x ∈ h → lk hp x.1 = some x.2) → HpW id k hp h
  | [], _, _ => trivial
  | (n, ob) :: r, hq, hl => by
    unfold Hp.ok at hq
    simp only [List.all_cons, Bool.and_eq_true, decide_eq_true_eq] at hq
    refine ⟨?_, hq.1.1, hq.1.2, HpW.of_lk (by unfold Hp.ok; exact hq.2) fun x hx => hl x (by simp [hx])⟩
    rw [Ob.ren_id]; exact hl (n, ob) (by simp)

theorem Weak.same {k0 : Nat} {st st1 : St} (h1 : k0 ≤ st1.k) (h2 : EnvW id st1.k st.env st1.env) (h3 : st1.hp.ok (fun n => decide (n < st1.k)) = true) (h4 : ∀ x, x ∈ st1.hp → lk st.hp x.1 = some x.2) : Weak k0 st st1 id :=
  ⟨h1, fun _ _ => rfl, h2, HpW.of_lk h3 h4, fun _ _ _ _ e => e⟩

theorem ne4 {x y : Nat} (h : x ≠ y) : (x == y) = false ∧ (y == x) = false ∧ (x = y) = False ∧ (y = x) = False :=
  ⟨by simpa using h, by simpa using Ne.symm h, eq_false h, eq_false (Ne.symm h)⟩

/-! ### whoever is given what an iterator gives -/
inductive OnBy {α σ : Type} (Step : σ → α → σ → Prop) (s : σ) : List α → σ → Prop where
  | nil : OnBy Step s [] s
  | snoc {xs : List α} {s' s'' : σ} {x : α} : OnBy Step s xs s' → Step s' x s'' → OnBy Step s (xs ++ [x]) s''
/-- What a call of yield does: it takes the client on by one step; the client's objects are as Fh says; at most B steps. -/
structure YieldOk {α σ : Type} (P : Program) (y : Nat) (enc : α → SV) (nky : Nat) (Fh : σ → Hp) (Step : σ → α → σ → Prop) (go : σ → Bool) (s0 : σ) (B : Nat) : Prop where
  isin : ∀ s, lk (Fh s) y ≠ none
  nd : ∀ s x, x ∈ Fh s → lk (Fh s) x.1 = some x.2
  call : ∀ s xs x k, OnBy Step s0 xs s → xs.length < B → (Fh s).ok (fun n => decide (n < k)) = true → go s = true → SY P y [enc x] (Fh s) k nky fun r F' => ∃ s', Step s x s' ∧ r = .d (.bool (go s')) ∧ F' = Fh s' ∧
    (Fh s').ok (fun n => decide (n < k + nky)) = true ∧ ∀ n, lk (Fh s') n ≠ none → lk (Fh s) n ≠ none ∨ (k ≤ n ∧ n < k + nky)

section
variable {N k0 : Nat} {st : St} {Q : Exit → St → Prop}
theorem SW.mapLoop {it a b id : Nat} {bs : List Nat} {body : SCo} {α : Type} (I : α → St) (m : α → Nat) (i0 : α) (ρ0 : Nat → Nat) (nit nm since sst c : α → Nat) (seen : α → List Nat) (es : α → List (Nat × SV × SV))
    (h0 : Weak k0 st (I i0) ρ0) (hit : ∀ i, (I i).env.lookup it = some (.it (nit i))) (hI : ∀ i, lk (I i).hp (nit i) = some (.iter (some (nm i)) (since i) (seen i) (sst i))) (hM : ∀ i, lk (I i).hp (nm i) = some (.map (es i) (c i)))
    (hne : ∀ i, nit i ≠ nm i) (hold : ∀ i e, e ∈ es i → e.1 < since i) (hst : ∀ i, since i ≤ sst i)
    (fin : ∀ i, (∀ e, e ∈ es i → (seen i).contains e.1 = true) → ∃ st1 ρ, Weak k0 ⟨(b, .d (.bool false)) :: (a, .tup [.d (.bool false)]) :: (I i).env, (I i).hp, (I i).k⟩ st1 ρ ∧ Q (.exit id) st1)
    (step : ∀ i e, e ∈ es i → (seen i).contains e.1 = false → SW P N k0 body ⟨(b, .d (.bool true)) :: (a, .tup [.d (.bool true), e.2.1, e.2.2]) :: (I i).env, hset (I i).hp (nit i) (.iter (some (nm i)) (since i) (seen i ++ [e.1]) (c i)), (I i).k⟩
      fun ex st' => match ex with | .normal => ∃ j ρ, m j < m i ∧ Weak k0 st' (I j) ρ | e => Q e st') :
    SW P N k0 (.loop (.seq (.reg [⟨some a, .mnext (.t it), none⟩, ⟨some b, .ext 0 (.t a), none⟩] bs false) (.seq (.cond (.t b) .skip (.exit id)) body))) st Q := by
  refine SW.loop I m i0 ρ0 h0 fun i => SW.seq (SW.ofN (SWn.mnext (hit i) (hI i) (hM i) (hne i) (hold i) (hst i) fun v F' hv => ?_))
  have hmm : lk ([(nit i, .iter (some (nm i)) (since i) (seen i) (sst i)), (nm i, .map (es i) (c i))] : Hp) (nit i) = some (.iter (some (nm i)) (since i) (seen i) (sst i)) := by simp [lk_cons]
  rcases hv with ⟨rfl, rfl, hall⟩ | ⟨e, he, hs, rfl, rfl⟩
  · have hh : hmrg false (I i).hp [(nit i, .iter (some (nm i)) (since i) (seen i) (sst i)), (nm i, .map (es i) (c i))] [(nit i, .iter (some (nm i)) (since i) (seen i) (sst i)), (nm i, .map (es i) (c i))] = (I i).hp := by
      have h1 : (lk ([(nit i, .iter (some (nm i)) (since i) (seen i) (sst i)), (nm i, .map (es i) (c i))] : Hp) (nit i)).isSome = true := by simp [lk_cons]
      have h2 : (lk ([(nit i, .iter (some (nm i)) (since i) (seen i) (sst i)), (nm i, .map (es i) (c i))] : Hp) (nm i)).isSome = true := by rw [lk_cons]; split <;> simp [lk_cons]
      simp only [hmrg, hdels, h1, h2, if_true, hsets, Bool.false_eq_true, if_false]
      rw [hset_same (hM i), hset_same (hI i)]
    refine SWn.runs (crs := []) (st' := ⟨(b, .d (.bool false)) :: (a, .tup [.d (.bool false)]) :: (I i).env, (I i).hp, (I i).k⟩) (ob := True ∧ True) (ts := [(true, [])]) ?_ ⟨trivial, trivial⟩ ?_
    · simp only [Go.Sl.runs, runOp, goOp, sop, upd, ev, List.lookup, BEq.rfl, roOf, hh, Nat.add_zero, List.getElem?_cons_zero, hmrg_ro, touchL, List.map_nil, List.append_nil]
    · obtain ⟨st1, ρ, hw, hq⟩ := fin i hall
      refine SW.seq (SW.cond (b := false) ?_ (fun h => by cases h) (fun _ => SW.weak ρ hw (SW.exit hq)))
      simp only [ev, List.lookup, BEq.rfl]
  · have hh : hmrg false (I i).hp [(nit i, .iter (some (nm i)) (since i) (seen i) (sst i)), (nm i, .map (es i) (c i))] [(nit i, .iter (some (nm i)) (since i) (seen i ++ [e.1]) (c i)), (nm i, .map (es i) (c i))] = hset (I i).hp (nit i) (.iter (some (nm i)) (since i) (seen i ++ [e.1]) (c i)) := by
      have h1 : (lk ([(nit i, .iter (some (nm i)) (since i) (seen i ++ [e.1]) (c i)), (nm i, .map (es i) (c i))] : Hp) (nit i)).isSome = true := by simp [lk_cons]
      have h2 : (lk ([(nit i, .iter (some (nm i)) (since i) (seen i ++ [e.1]) (c i)), (nm i, .map (es i) (c i))] : Hp) (nm i)).isSome = true := by rw [lk_cons]; split <;> simp [lk_cons]
      simp only [hmrg, hdels, h1, h2, if_true, hsets, Bool.false_eq_true, if_false]
      rw [hset_same (hM i)]
    refine SWn.runs (crs := []) (st' := ⟨(b, .d (.bool true)) :: (a, .tup [.d (.bool true), e.2.1, e.2.2]) :: (I i).env, hset (I i).hp (nit i) (.iter (some (nm i)) (since i) (seen i ++ [e.1]) (c i)), (I i).k⟩) (ob := True ∧ True) (ts := [(true, [])]) ?_ ⟨trivial, trivial⟩ ?_
    · simp only [Go.Sl.runs, runOp, goOp, sop, upd, ev, List.lookup, BEq.rfl, roOf, hh, Nat.add_zero, List.getElem?_cons_zero, hmrg_ro, touchL, List.map_nil, List.append_nil]
    · refine SW.seq (SW.cond (b := true) ?_ (fun _ => SW.skip ?_) (fun h => by cases h))
      · simp only [ev, List.lookup, BEq.rfl]
      · exact step i e he hs
/-- Over a map that is nil. -/
theorem SW.mapLoop0 {it a b id n since s : Nat} {seen : List Nat} {bs : List Nat} {body : SCo} (ρ0 : Nat → Nat) (st1 : St) (h0 : Weak k0 st st1 ρ0) (hit : st1.env.lookup it = some (.it n)) (hI : lk st1.hp n = some (.iter none since seen s))
    (fin : ∃ st2 ρ, Weak k0 ⟨(b, .d (.bool false)) :: (a, .tup [.d (.bool false)]) :: st1.env, st1.hp, st1.k⟩ st2 ρ ∧ Q (.exit id) st2) :
    SW P N k0 (.loop (.seq (.reg [⟨some a, .mnext (.t it), none⟩, ⟨some b, .ext 0 (.t a), none⟩] bs false) (.seq (.cond (.t b) .skip (.exit id)) body))) st Q := by
  refine SW.loop (fun _ : Unit => st1) (fun _ => 0) () ρ0 h0 fun i => SW.seq (SW.ofN (SWn.mnext0 hit hI ?_))
  have hh : hmrg false st1.hp [(n, .iter none since seen s)] [(n, .iter none since seen s)] = st1.hp := by
    have h1 : (lk ([(n, .iter none since seen s)] : Hp) n).isSome = true := by simp [lk_cons]
    simp only [hmrg, hdels, h1, if_true, hsets, Bool.false_eq_true, if_false]
    rw [hset_same hI]
  refine SWn.runs (crs := []) (st' := ⟨(b, .d (.bool false)) :: (a, .tup [.d (.bool false)]) :: st1.env, st1.hp, st1.k⟩) (ob := True ∧ True) (ts := [(true, [])]) ?_ ⟨trivial, trivial⟩ ?_
  · simp only [Go.Sl.runs, runOp, goOp, sop, upd, ev, List.lookup, BEq.rfl, roOf, hh, Nat.add_zero, List.getElem?_cons_zero, hmrg_ro, touchL, List.map_nil, List.append_nil]
  · obtain ⟨st2, ρ, hw, hq⟩ := fin
    refine SW.seq (SW.cond (b := false) ?_ (fun h => by cases h) (fun _ => SW.weak ρ hw (SW.exit hq)))
    simp only [ev, List.lookup, BEq.rfl]
end
end Go.Sl

/-
  A box's cell that holds no map: a map of one's own that is nil.
-/
set_option linter.unusedVariables false
set_option linter.unusedSimpArgs false
set_option linter.unusedSectionVars false
namespace Go.Sl
open Go.RowKit
/-- Ties first, names last: for names that are not numerals. -/
def noConf2 (bs : List Nat) (ts : List (Bool × List Nat)) : Bool :=
  all2 ts.length fun i j => i == j || (ts.getD i (true, [])).1 || ordB bs i j || ordB bs j i || !((ts.getD i (true, [])).2.any fun n => (ts.getD j (true, [])).2.contains n)
theorem conf_of {f : Bool} {bs : List Nat} {ts : List (Bool × List Nat)} (h : (!f || noConf2 bs ts) = true) : (!f || noConf bs ts) = true := by
  rw [← h]
  congr 1
  unfold noConf noConf2
  congr 1
  funext i j
  generalize (i == j) = a
  generalize (ts.getD i (true, [])).1 = b
  generalize ordB bs i j = c
  generalize ordB bs j i = d
  generalize List.any _ _ = e
  cases a <;> cases b <;> cases c <;> cases d <;> cases e <;> rfl
section
variable {P : Program} {N k0 : Nat} {st : St} {Q : Exit → St → Prop}

theorem Rp.set_at {p : Nat → Prop} {μ : Nat → Nm} {M : Mem} {cs : List SV} {vs : List Value} {c : SV} (i : Nat) (h : Rps p μ M cs vs) (hc : ∀ u, vs[i]? = some u → Rp p μ M c u) (hi : i < cs.length) : Rps p μ M (cs.set i c) vs := by
  obtain ⟨c0, h0⟩ := get_of_lt hi
  obtain ⟨u, hu, _⟩ := h.get h0
  have := h.set i (hc u hu)
  rwa [show vs.set i u = vs by
    apply List.ext_getElem?
    intro j
    rw [List.getElem?_set]
    split
    · rename_i e; subst e
      rw [hu]; simp [(List.getElem?_eq_some_iff.1 hu).1]
    · rfl] at this

theorem StA.nilmap {μ0 : Nat → Nm} {M0 : Mem} {w0 : World} {c0 : Nat → Option Ob} {a : Act} {w : World} (b i : Nat) {t : TypeId} {cs : List SV} (hb : lk st.hp b = some (.box t cs)) (hi : cs[i]? = some (.d .nilm)) (h : StA N μ0 M0 w0 c0 k0 st a w) :
    StA N μ0 M0 w0 c0 k0 ⟨st.env, (st.k, .nomap) :: hset st.hp b (.box t (cs.set i (.mp st.k))), st.k + 1⟩ a w := by
  obtain ⟨hk0, hdf, hsz, μ, M, hsl, hS, hE⟩ := h
  have hmu := upN_p (μ := μ) (m := ⟨0, 0, false⟩) (p := (· < st.k)) (k := st.k) (Nat.lt_irrefl _)
  have hup : ∀ n, n < st.k → n < st.k + 1 := fun n h => by omega
  have hlt : ∀ n ob, lk st.hp n = some ob → n < st.k := fun n ob h => (hS.obs n ob h).1
  have hpres : ∀ n, n ≠ st.k → lk ((st.k, .nomap) :: hset st.hp b (.box t (cs.set i (.mp st.k)))) n ≠ none → lk st.hp n ≠ none := fun n e1 hn => by
    rw [lk_cons, if_neg e1, lk_hset] at hn
    split at hn
    · rename_i e; subst e; rw [hb]; simp
    · exact hn
  refine ⟨by show k0 ≤ st.k + 1; omega, hdf, hsz, upN μ st.k ⟨0, 0, false⟩, M, fun u s hs => (hsl u s hs).more hup hmu (Mem.le_refl M), ⟨hS.mem, fun n ob hn => ?_, fun n m hn hm ln lm e => ?_⟩, ⟨fun n hn => ?_, hE.mem, hE.frame, hE.size, fun n hn => ?_, hE.os, hE.tape, hE.output⟩⟩
  · replace hn : lk ((st.k, .nomap) :: hset st.hp b (.box t (cs.set i (.mp st.k)))) n = some ob := hn
    rw [lk_cons] at hn
    split at hn
    · rename_i e1
      subst e1
      injection hn with hn
      subst hn
      rw [upN_same]
      exact ⟨Nat.lt_succ_self _, rfl, fun h => by cases h⟩
    · rw [lk_hset] at hn
      split at hn
      · rename_i e1 e2
        subst e2
        injection hn with hn
        subst hn
        obtain ⟨a1, a2, a3⟩ := hS.obs n _ hb
        rw [hmu n a1]
        refine ⟨hup n a1, ?_, a3⟩
        obtain ⟨l1, vs, v1, v2⟩ := a2
        refine ⟨l1, vs, v1, ?_⟩
        refine Rp.set_at i (v2.more hup hmu (Mem.le_refl M)) (fun u hu => ?_) (List.getElem?_eq_some_iff.1 hi).1
        obtain ⟨u', hu', hr⟩ := v2.get hi
        have : u = u' := by rw [hu'] at hu; exact (Option.some.inj hu).symm
        subst this
        have h1 := Rp.nilm_of hr
        intro ν hν
        simp only [Rep]
        rw [hν st.k (Nat.lt_succ_self _), upN_same]
        exact .inr ⟨rfl, h1⟩
      · obtain ⟨a1, a2, a3⟩ := hS.obs n ob hn
        rw [hmu n a1]
        exact ⟨hup n a1, a2.more hup hmu (Mem.le_refl M) fun _ => rfl, a3⟩
  · by_cases e1 : n = st.k
    · subst e1; rw [upN_same] at ln; cases ln
    · by_cases e2 : m = st.k
      · subst e2; rw [upN_same] at lm; cases lm
      · have hn := hpres n e1 hn
        have hm := hpres m e2 hm
        obtain ⟨o1, ho1⟩ := Option.ne_none_iff_exists'.1 hn
        obtain ⟨o2, ho2⟩ := Option.ne_none_iff_exists'.1 hm
        rw [hmu n (hlt n o1 ho1)] at e ln
        rw [hmu m (hlt m o2 ho2)] at e lm
        exact hS.inj n m hn hm ln lm e
  · simp only at hn
    by_cases e1 : n = st.k
    · subst e1; omega
    · rw [upN_other _ _ _ e1]; exact hE.old n (by omega)
  · by_cases e1 : n = st.k
    · subst e1
      rw [upN_same]
      exact .inl ⟨⟨by omega, Nat.lt_succ_self _⟩, fun h => by cases h⟩
    · have hn := hpres n e1 hn
      obtain ⟨o1, ho1⟩ := Option.ne_none_iff_exists'.1 hn
      rw [hmu n (hlt n o1 ho1)]
      rcases hE.names n hn with ⟨b1, b2⟩ | ⟨b1, b2⟩
      · exact .inl ⟨⟨b1.1, by have := b1.2; show n < st.k + 1; omega⟩, b2⟩
      · refine .inr ⟨fun h => ?_, b2⟩
        have : n < st.k := hlt n o1 ho1
        exact b1 ⟨h.1, this⟩
/-- A box's cell that holds no map is a map of one's own that is nil. -/
theorem SW.nilmap {s : SCo} (b i : Nat) {t : TypeId} {cs : List SV} (hb : lk st.hp b = some (.box t cs)) (hi : cs[i]? = some (.d .nilm)) (h : SW P N k0 s ⟨st.env, (st.k, .nomap) :: hset st.hp b (.box t (cs.set i (.mp st.k))), st.k + 1⟩ Q) : SW P N k0 s st Q :=
  fun c hc rd hrf μ0 M0 w0 c0 a w hSt => h c hc rd hrf μ0 M0 w0 c0 a w (hSt.nilmap b i hb hi)
end
end Go.Sl
