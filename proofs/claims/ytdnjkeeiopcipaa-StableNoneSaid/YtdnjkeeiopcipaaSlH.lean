/-
  Contracts at names that stand; in greater heaps; loops over maps.
-/
import Derived.Test.YtdnjkeeiopcipaaSlG
set_option linter.unusedVariables false
set_option linter.unusedSimpArgs false
set_option linter.unusedSectionVars false
namespace Go.Sl
open Go.RowKit
variable {P : Program}

/-- To fewer names, and back. -/
theorem here_core {args : List SV} {F : Hp} {k nk : Nat} {Q : SV → Hp → Prop} (q : Nat → Bool) (hao : SV.oks q args = true) (hFo : F.ok q = true) (hk : F.ok (fun n => decide (n < k)) = true) (hqp : ∀ n, q n = true → lk F n ≠ none)
    (hQ : ∀ r F', Q r F' → r.ok (fun n => decide (n < k + nk)) = true → F'.ok (fun n => decide (n < k + nk)) = true → r.ok (fun n => q n || (decide (k ≤ n) && decide (n < k + nk))) = true ∧ F'.ok (fun n => q n || (decide (k ≤ n) && decide (n < k + nk))) = true)
    {p : Nat → Prop} {μ : Nat → Nm} {M : Mem} {w : World} {vals : Array Value} (hp : ∀ n, (k ≤ n ∧ n < k + nk) → ¬ p n) (hr : Rps p μ M args vals.toList) (hS : SatF p μ M (lk F) w) :
    Rps (· < k) μ M args vals.toList ∧ SatF (· < k) μ M (lk F) w ∧ ∀ e w',
      (∃ r F' μ' M' u, e = Ending.returned u ∧ Q r F' ∧ r.ok (fun n => decide (n < k + nk)) = true ∧ F'.ok (fun n => decide (n < k + nk)) = true ∧ Rep μ' M' r u ∧ SatF (· < k + nk) μ' M' (lk F') w' ∧
        Ev (lk F) (fun n => k ≤ n ∧ n < k + nk) μ M w (lk F') μ' M' w') →
      ∃ r F' μ' M' u, e = Ending.returned u ∧ Q r F' ∧ Rp (fun n => p n ∨ (k ≤ n ∧ n < k + nk)) μ' M' r u ∧ SatF (fun n => p n ∨ (k ≤ n ∧ n < k + nk)) μ' M' (lk F') w' ∧
        Ev (lk F) (fun n => k ≤ n ∧ n < k + nk) μ M w (lk F') μ' M' w' := by
  have hlt : ∀ n, q n = true → n < k := fun n h => by
    obtain ⟨ob, ho⟩ := Option.ne_none_iff_exists'.1 (hqp n h)
    simpa using (Hp.ok_lk hk ho).1
  have hqP : ∀ n, q n = true → p n := fun n h => by
    obtain ⟨ob, ho⟩ := Option.ne_none_iff_exists'.1 (hqp n h)
    exact (hS.obs n ob ho).1
  refine ⟨Rps.of_reps hao hlt hr.reps, ⟨hS.mem, fun n ob hn => ?_, hS.inj⟩, ?_⟩
  · obtain ⟨a1, a2⟩ := Hp.ok_lk hFo hn
    obtain ⟨_, b1, b2⟩ := hS.obs n ob hn
    have hb' : ObRep p (fun n => μ (id n)) M w (μ n) (ob.ren id) := by rw [Ob.ren_id]; exact b1
    exact ⟨hlt n a1, ObRep.to a2 hlt (fun _ _ => rfl) hb', b2⟩
  · rintro e w' ⟨r, F', μ', M', u, rfl, hq, hr1, hr2, hru, hS', hE⟩
    obtain ⟨h1, h2⟩ := hQ r F' hq hr1 hr2
    have hq2 : ∀ n, (q n || (decide (k ≤ n) && decide (n < k + nk))) = true → (p n ∨ (k ≤ n ∧ n < k + nk)) := fun n hn => by
      simp only [Bool.or_eq_true, Bool.and_eq_true, decide_eq_true_eq] at hn
      exact hn.imp (hqP n) id
    refine ⟨r, F', μ', M', u, rfl, hq, Rp.of_rep h1 hq2 hru, ⟨hS'.mem, fun n ob hn => ?_, hS'.inj⟩, hE⟩
    obtain ⟨a1, a2⟩ := Hp.ok_lk h2 hn
    obtain ⟨_, b1, b2⟩ := hS'.obs n ob hn
    have hb' : ObRep (· < k + nk) (fun n => μ' (id n)) M' w' (μ' n) (ob.ren id) := by rw [Ob.ren_id]; exact b1
    exact ⟨hq2 n a1, ObRep.to a2 hq2 (fun _ _ => rfl) hb', b2⟩

theorem SB.here {f : FuncId} {args : List SV} {F : Hp} {k nk : Nat} {Q : SV → Hp → Prop} (q : Nat → Bool) (h : SB P f args F k nk Q) (hqp : ∀ n, q n = true → lk F n ≠ none) (hao : SV.oks q args = true) (hFo : F.ok q = true)
    (hQ : ∀ r F', Q r F' → r.ok (fun n => decide (n < k + nk)) = true → F'.ok (fun n => decide (n < k + nk)) = true → r.ok (fun n => q n || (decide (k ≤ n) && decide (n < k + nk))) = true ∧ F'.ok (fun n => q n || (decide (k ≤ n) && decide (n < k + nk))) = true) : SC P f args F k nk Q := by
  refine ⟨h.1, fun p μ M w vals hp hr hS => ?_⟩
  obtain ⟨h1, h2, h3⟩ := here_core q hao hFo h.2.2.1 hqp hQ hp hr hS
  exact (h.2.2.2 μ M w vals h1 h2).mono h3
theorem SYB.here {nl : Nat} {args : List SV} {F : Hp} {k nk : Nat} {Q : SV → Hp → Prop} (q : Nat → Bool) (h : SYB P nl args F k nk Q) (hqp : ∀ n, q n = true → lk F n ≠ none) (hao : SV.oks q args = true) (hFo : F.ok q = true)
    (hQ : ∀ r F', Q r F' → r.ok (fun n => decide (n < k + nk)) = true → F'.ok (fun n => decide (n < k + nk)) = true → r.ok (fun n => q n || (decide (k ≤ n) && decide (n < k + nk))) = true ∧ F'.ok (fun n => q n || (decide (k ≤ n) && decide (n < k + nk))) = true) : SY P nl args F k nk Q := by
  intro p μ M w vals hp _ hr hS
  obtain ⟨h1, h2, h3⟩ := here_core q hao hFo h.2.1 hqp hQ hp hr hS
  obtain ⟨fn, tmps, assign, body, hy, hround⟩ := h.2.2 μ M w vals h1 h2
  exact ⟨fn, tmps, assign, body, hy, hround.mono h3⟩

/-- In a greater heap. -/
theorem SC.frame {f : FuncId} {args : List SV} {F H : Hp} {k nk : Nat} {Q : SV → Hp → Prop} (h : SC P f args F k nk Q) (hs : HSub F H) : SC P f args H k nk fun r F' => ∃ F1, Q r F1 ∧ F' = hmrg false H F F1 := by
  refine ⟨h.1, fun p μ M w vals hp hr hS => (h.2 p μ M w vals hp hr (hS.sub hs)).mono ?_⟩
  rintro e w' ⟨r, F1, μ', M', u, rfl, hq, hru, hS', hE⟩
  obtain ⟨z1, z2⟩ := hS.framed hs hp hE hS' fun n h => .inl h
  have hlk : lk (hmrg false H F F1) = mrg (lk H) (lk F) (lk F1) := lk_hmrg hs (fun h => by cases h)
  exact ⟨r, _, μ', M', u, rfl, ⟨F1, hq, rfl⟩, hru, by rw [hlk]; exact z1, by rw [hlk]; exact z2⟩

theorem hrep_same : ∀ {h : Hp} {n : Nat} {ob : Ob}, lk h n = some ob → hrep h n ob = h
  | [], n, ob, h => by simp [lk_nil] at h
  | (m, o) :: h, n, ob, hl => by
    rw [lk_cons] at hl
    simp only [hrep]
    by_cases e : m = n
    · subst e
      simp only [if_true] at hl ⊢
      injection hl with hl; rw [hl]
    · rw [if_neg (fun h => e h.symm)] at hl
      rw [if_neg e, hrep_same hl]

theorem hset_same {h : Hp} {n : Nat} {ob : Ob} (hl : lk h n = some ob) : hset h n ob = h := by
  unfold hset; rw [hl]; exact hrep_same hl
theorem hset_head {h : Hp} {n : Nat} {o o' : Ob} : hset ((n, o) :: h) n o' = (n, o') :: h := by
  have : lk ((n, o) :: h) n = some o := lk_cons_same
  unfold hset; rw [this]; simp [hrep]
theorem hmrg_ro {h F F' : Hp} : hmrg true h F F' = h := rfl

/-- How many entries are left. -/
def unseen (es : List (Nat × SV × SV)) (seen : List Nat) : Nat := (es.filter fun e => !seen.contains e.1).length
theorem unseen_lt {es : List (Nat × SV × SV)} {seen : List Nat} {e : Nat × SV × SV} (he : e ∈ es) (hs : seen.contains e.1 = false) : unseen es (seen ++ [e.1]) < unseen es seen := by
  induction es with
  | nil => cases he
  | cons x es ih =>
    have hle : ∀ l : List (Nat × SV × SV), unseen l (seen ++ [e.1]) ≤ unseen l seen := fun l => by
      induction l with
      | nil => exact Nat.le_refl _
      | cons y l ihl =>
        simp only [unseen, List.filter, List.contains_append] at ihl ⊢
        cases h1 : seen.contains y.1
        · cases h2 : [e.1].contains y.1
          · simp only [Bool.or_self, Bool.not_false, List.length_cons]; omega
          · simp only [Bool.false_or, Bool.not_true, Bool.not_false, List.length_cons]; omega
        · simp only [Bool.true_or, Bool.not_true]; omega
    rcases List.mem_cons.1 he with rfl | he
    · have := hle es
      simp only [unseen, List.filter, List.contains_append, hs, Bool.false_or, List.contains_cons, List.contains_nil, BEq.rfl, Bool.true_or, Bool.not_true, Bool.not_false, List.length_cons] at this ⊢
      omega
    · have := ih he
      simp only [unseen, List.filter, List.contains_append] at this ⊢
      cases h1 : seen.contains x.1
      · cases h2 : [e.1].contains x.1
        · simp only [Bool.or_self, Bool.not_false, List.length_cons]; omega
        · simp only [Bool.false_or, Bool.not_true, Bool.not_false, List.length_cons]; omega
      · simp only [Bool.true_or, Bool.not_true]; omega
theorem unseen_sub {es es' : List (Nat × SV × SV)} (h : es'.Sublist es) (seen : List Nat) : unseen es' seen ≤ unseen es seen := (h.filter _).length_le

theorem Hp.ok_mono {q q' : Nat → Bool} (h : ∀ n, q n = true → q' n = true) {F : Hp} (hF : F.ok q = true) : F.ok q' = true := by
  unfold Hp.ok at hF ⊢
  rw [List.all_eq_true] at hF ⊢
  intro x hx
  have := hF x hx
  simp only [Bool.and_eq_true] at this ⊢
  refine ⟨h _ this.1, ?_⟩
  have h2 := this.2
  generalize x.2 = ob at h2 ⊢
  cases ob <;> simp only [Ob.ok] at h2 ⊢
  · exact SV.oks_more h _ h2
  · exact SV.oks_more h _ h2
  · rw [List.all_eq_true] at h2 ⊢
    intro e he
    have := h2 e he
    simp only [Bool.and_eq_true] at this ⊢
    exact ⟨SV.ok_more h _ this.1, SV.ok_more h _ this.2⟩
  · rename_i mo _ _ _
    cases mo with
    | none => rfl
    | some n => exact h n h2
  · exact SV.oks_more h _ h2
theorem Hp.ok_less {k k' : Nat} (h : k ≤ k') {F : Hp} (hF : F.ok (fun n => decide (n < k)) = true) : F.ok (fun n => decide (n < k')) = true := Hp.ok_mono (fun n hn => by simp at hn ⊢; omega) hF
theorem Hp.out {k n : Nat} {F : Hp} (hF : F.ok (fun n => decide (n < k)) = true) (h : k ≤ n) : lk F n = none := by
  cases hh : lk F n with
  | none => rfl
  | some ob => have := (Hp.ok_lk hF hh).1; simp at this; omega
/-- Heaps that say less: what is the same by name. -/
theorem HpW.of_lk {k : Nat} {hp : Hp} : ∀ {h : Hp}, h.ok (fun n => decide (n < k)) = true → (∀ x, x ∈ h → lk hp x.1 = some x.2) → HpW id k hp h
  | [], _, _ => trivial
  | (n, ob) :: r, hq, hl => by
    unfold Hp.ok at hq
    simp only [List.all_cons, Bool.and_eq_true, decide_eq_true_eq] at hq
    refine ⟨?_, hq.1.1, hq.1.2, HpW.of_lk (by unfold Hp.ok; exact hq.2) fun x hx => hl x (by simp [hx])⟩
    rw [Ob.ren_id]; exact hl (n, ob) (by simp)

theorem Weak.same {k0 : Nat} {st st1 : St} (h1 : k0 ≤ st1.k) (h2 : EnvW id st1.k st.env st1.env) (h3 : st1.hp.ok (fun n => decide (n < st1.k)) = true) (h4 : ∀ x, x ∈ st1.hp → lk st.hp x.1 = some x.2) : Weak k0 st st1 id :=
  ⟨h1, fun _ _ => rfl, h2, HpW.of_lk h3 h4, fun _ _ _ _ e => e⟩

theorem ne4 {x y : Nat} (h : x ≠ y) : (x == y) = false ∧ (y == x) = false ∧ (x = y) = False ∧ (y = x) = False :=
  ⟨by simpa using h, by simpa using Ne.symm h, eq_false h, eq_false (Ne.symm h)⟩

/-! ### whoever is given what an iterator gives -/
inductive OnBy {α σ : Type} (Step : σ → α → σ → Prop) (s : σ) : List α → σ → Prop where
  | nil : OnBy Step s [] s
  | snoc {xs : List α} {s' s'' : σ} {x : α} : OnBy Step s xs s' → Step s' x s'' → OnBy Step s (xs ++ [x]) s''
/-- What a call of yield does: it takes the client on by one step; the client's objects are as Fh says; at most B steps. -/
structure YieldOk {α σ : Type} (P : Program) (y : Nat) (enc : α → SV) (nky : Nat) (Fh : σ → Hp) (Step : σ → α → σ → Prop) (go : σ → Bool) (s0 : σ) (B : Nat) : Prop where
  isin : ∀ s, lk (Fh s) y ≠ none
  nd : ∀ s x, x ∈ Fh s → lk (Fh s) x.1 = some x.2
  call : ∀ s xs x k, OnBy Step s0 xs s → xs.length < B → (Fh s).ok (fun n => decide (n < k)) = true → go s = true → SY P y [enc x] (Fh s) k nky fun r F' => ∃ s', Step s x s' ∧ r = .d (.bool (go s')) ∧ F' = Fh s' ∧
    (Fh s').ok (fun n => decide (n < k + nky)) = true ∧ ∀ n, lk (Fh s') n ≠ none → lk (Fh s) n ≠ none ∨ (k ≤ n ∧ n < k + nky)

section
variable {N k0 : Nat} {st : St} {Q : Exit → St → Prop}
theorem SW.mapLoop {it a b id : Nat} {bs : List Nat} {body : SCo} {α : Type} (I : α → St) (m : α → Nat) (i0 : α) (ρ0 : Nat → Nat) (nit nm since sst c : α → Nat) (seen : α → List Nat) (es : α → List (Nat × SV × SV))
    (h0 : Weak k0 st (I i0) ρ0) (hit : ∀ i, (I i).env.lookup it = some (.it (nit i))) (hI : ∀ i, lk (I i).hp (nit i) = some (.iter (some (nm i)) (since i) (seen i) (sst i))) (hM : ∀ i, lk (I i).hp (nm i) = some (.map (es i) (c i)))
    (hne : ∀ i, nit i ≠ nm i) (hold : ∀ i e, e ∈ es i → e.1 < since i) (hst : ∀ i, since i ≤ sst i)
    (fin : ∀ i, (∀ e, e ∈ es i → (seen i).contains e.1 = true) → ∃ st1 ρ, Weak k0 ⟨(b, .d (.bool false)) :: (a, .tup [.d (.bool false)]) :: (I i).env, (I i).hp, (I i).k⟩ st1 ρ ∧ Q (.exit id) st1)
    (step : ∀ i e, e ∈ es i → (seen i).contains e.1 = false → SW P N k0 body ⟨(b, .d (.bool true)) :: (a, .tup [.d (.bool true), e.2.1, e.2.2]) :: (I i).env, hset (I i).hp (nit i) (.iter (some (nm i)) (since i) (seen i ++ [e.1]) (c i)), (I i).k⟩
      fun ex st' => match ex with | .normal => ∃ j ρ, m j < m i ∧ Weak k0 st' (I j) ρ | e => Q e st') :
    SW P N k0 (.loop (.seq (.reg [⟨some a, .mnext (.t it), none⟩, ⟨some b, .ext 0 (.t a), none⟩] bs false) (.seq (.cond (.t b) .skip (.exit id)) body))) st Q := by
  refine SW.loop I m i0 ρ0 h0 fun i => SW.seq (SW.ofN (SWn.mnext (hit i) (hI i) (hM i) (hne i) (hold i) (hst i) fun v F' hv => ?_))
  have hmm : lk ([(nit i, .iter (some (nm i)) (since i) (seen i) (sst i)), (nm i, .map (es i) (c i))] : Hp) (nit i) = some (.iter (some (nm i)) (since i) (seen i) (sst i)) := by simp [lk_cons]
  rcases hv with ⟨rfl, rfl, hall⟩ | ⟨e, he, hs, rfl, rfl⟩
  · have hh : hmrg false (I i).hp [(nit i, .iter (some (nm i)) (since i) (seen i) (sst i)), (nm i, .map (es i) (c i))] [(nit i, .iter (some (nm i)) (since i) (seen i) (sst i)), (nm i, .map (es i) (c i))] = (I i).hp := by
      have h1 : (lk ([(nit i, .iter (some (nm i)) (since i) (seen i) (sst i)), (nm i, .map (es i) (c i))] : Hp) (nit i)).isSome = true := by simp [lk_cons]
      have h2 : (lk ([(nit i, .iter (some (nm i)) (since i) (seen i) (sst i)), (nm i, .map (es i) (c i))] : Hp) (nm i)).isSome = true := by rw [lk_cons]; split <;> simp [lk_cons]
      simp only [hmrg, hdels, h1, h2, if_true, hsets, Bool.false_eq_true, if_false]
      rw [hset_same (hM i), hset_same (hI i)]
    refine SWn.runs (crs := []) (st' := ⟨(b, .d (.bool false)) :: (a, .tup [.d (.bool false)]) :: (I i).env, (I i).hp, (I i).k⟩) (ob := True ∧ True) (ts := [(true, [])]) ?_ ⟨trivial, trivial⟩ ?_
    · simp only [Go.Sl.runs, runOp, goOp, sop, upd, ev, List.lookup, BEq.rfl, roOf, hh, Nat.add_zero, List.getElem?_cons_zero, hmrg_ro, touchL, List.map_nil, List.append_nil]
    · obtain ⟨st1, ρ, hw, hq⟩ := fin i hall
      refine SW.seq (SW.cond (b := false) ?_ (fun h => by cases h) (fun _ => SW.weak ρ hw (SW.exit hq)))
      simp only [ev, List.lookup, BEq.rfl]
  · have hh : hmrg false (I i).hp [(nit i, .iter (some (nm i)) (since i) (seen i) (sst i)), (nm i, .map (es i) (c i))] [(nit i, .iter (some (nm i)) (since i) (seen i ++ [e.1]) (c i)), (nm i, .map (es i) (c i))] = hset (I i).hp (nit i) (.iter (some (nm i)) (since i) (seen i ++ [e.1]) (c i)) := by
      have h1 : (lk ([(nit i, .iter (some (nm i)) (since i) (seen i ++ [e.1]) (c i)), (nm i, .map (es i) (c i))] : Hp) (nit i)).isSome = true := by simp [lk_cons]
      have h2 : (lk ([(nit i, .iter (some (nm i)) (since i) (seen i ++ [e.1]) (c i)), (nm i, .map (es i) (c i))] : Hp) (nm i)).isSome = true := by rw [lk_cons]; split <;> simp [lk_cons]
      simp only [hmrg, hdels, h1, h2, if_true, hsets, Bool.false_eq_true, if_false]
      rw [hset_same (hM i)]
    refine SWn.runs (crs := []) (st' := ⟨(b, .d (.bool true)) :: (a, .tup [.d (.bool true), e.2.1, e.2.2]) :: (I i).env, hset (I i).hp (nit i) (.iter (some (nm i)) (since i) (seen i ++ [e.1]) (c i)), (I i).k⟩) (ob := True ∧ True) (ts := [(true, [])]) ?_ ⟨trivial, trivial⟩ ?_
    · simp only [Go.Sl.runs, runOp, goOp, sop, upd, ev, List.lookup, BEq.rfl, roOf, hh, Nat.add_zero, List.getElem?_cons_zero, hmrg_ro, touchL, List.map_nil, List.append_nil]
    · refine SW.seq (SW.cond (b := true) ?_ (fun _ => SW.skip ?_) (fun h => by cases h))
      · simp only [ev, List.lookup, BEq.rfl]
      · exact step i e he hs
/-- Over a map that is nil. -/
theorem SW.mapLoop0 {it a b id n since s : Nat} {seen : List Nat} {bs : List Nat} {body : SCo} (ρ0 : Nat → Nat) (st1 : St) (h0 : Weak k0 st st1 ρ0) (hit : st1.env.lookup it = some (.it n)) (hI : lk st1.hp n = some (.iter none since seen s))
    (fin : ∃ st2 ρ, Weak k0 ⟨(b, .d (.bool false)) :: (a, .tup [.d (.bool false)]) :: st1.env, st1.hp, st1.k⟩ st2 ρ ∧ Q (.exit id) st2) :
    SW P N k0 (.loop (.seq (.reg [⟨some a, .mnext (.t it), none⟩, ⟨some b, .ext 0 (.t a), none⟩] bs false) (.seq (.cond (.t b) .skip (.exit id)) body))) st Q := by
  refine SW.loop (fun _ : Unit => st1) (fun _ => 0) () ρ0 h0 fun i => SW.seq (SW.ofN (SWn.mnext0 hit hI ?_))
  have hh : hmrg false st1.hp [(n, .iter none since seen s)] [(n, .iter none since seen s)] = st1.hp := by
    have h1 : (lk ([(n, .iter none since seen s)] : Hp) n).isSome = true := by simp [lk_cons]
    simp only [hmrg, hdels, h1, if_true, hsets, Bool.false_eq_true, if_false]
    rw [hset_same hI]
  refine SWn.runs (crs := []) (st' := ⟨(b, .d (.bool false)) :: (a, .tup [.d (.bool false)]) :: st1.env, st1.hp, st1.k⟩) (ob := True ∧ True) (ts := [(true, [])]) ?_ ⟨trivial, trivial⟩ ?_
  · simp only [Go.Sl.runs, runOp, goOp, sop, upd, ev, List.lookup, BEq.rfl, roOf, hh, Nat.add_zero, List.getElem?_cons_zero, hmrg_ro, touchL, List.map_nil, List.append_nil]
  · obtain ⟨st2, ρ, hw, hq⟩ := fin
    refine SW.seq (SW.cond (b := false) ?_ (fun h => by cases h) (fun _ => SW.weak ρ hw (SW.exit hq)))
    simp only [ev, List.lookup, BEq.rfl]
end
end Go.Sl
