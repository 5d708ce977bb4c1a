/-
  The state of a function's body; the rule for a region.
-/
import Derived.Test.YtdnjkeeiopcipaaSl15
set_option linter.unusedSimpArgs false
set_option linter.unusedSectionVars false
set_option linter.unusedVariables false
namespace Go.Sl
open Go.RowKit

/-- Objects that no name stands for: the block of a loop's deferred calls. -/
def foreign : Obj → Bool
  | .deferred _ => true
  | _ => false
/-- The marks of loops over functions: nothing was deferred in their rounds. -/
def Marks (w0 w : World) : List Deferred → Prop
  | [] => True
  | d :: ds => (∃ r, d = ⟨.collected r, #[]⟩ ∧ w0.heap.size ≤ r ∧ w.heap[r]? = some (.deferred (some [])) ∧ ∀ d', d' ∈ ds → d' ≠ ⟨.collected r, #[]⟩) ∧ Marks w0 w ds

theorem SatF.not {p : Nat → Prop} {μ : Nat → Nm} {M : Mem} {c : Nat → Option Ob} {w : World} (hS : SatF p μ M c w) {b : Nat} {x : Obj} (hx : w.heap[b]? = some x) (hf : foreign x = true) : ∀ n, c n ≠ none → (μ n).live = true → (μ n).blk ≠ b := by
  intro n hn hl e
  obtain ⟨ob, ho⟩ := Option.ne_none_iff_exists'.1 hn
  have h := (hS.obs n ob ho).2.1
  subst e
  cases ob <;> simp only [ObRep] at h
  · obtain ⟨_, _, h, _⟩ := h; rw [hx] at h; injection h with h; subst h; simp [foreign] at hf
  · rcases h with ⟨h, _⟩ | ⟨_, _, h, _⟩
    · rw [hl] at h; cases h
    · rw [hx] at h; injection h with h; subst h; simp [foreign] at hf
  · obtain ⟨_, _, h, _⟩ := h; rw [hx] at h; injection h with h; subst h; simp [foreign] at hf
  · rw [hl] at h; cases h
  · obtain ⟨_, _, h⟩ := h; rw [hx] at h; injection h with h; subst h; simp [foreign] at hf
  · obtain ⟨_, _, h, _⟩ := h; rw [hx] at h; injection h with h; subst h; simp [foreign] at hf
theorem Ev.keeps {c c' : Nat → Option Ob} {new p : Nat → Prop} {μ μ' : Nat → Nm} {M M' : Mem} {w w' : World} (hE : Ev c new μ M w c' μ' M' w') (hS : SatF p μ M c w) {b : Nat} {x : Obj} (hx : w.heap[b]? = some x) (hf : foreign x = true) : w'.heap[b]? = some x := by
  rw [(hE.frame b (Array.getElem?_eq_some_iff.1 hx).1 (hS.not hx hf)).1]; exact hx
theorem Marks.ev {c c' : Nat → Option Ob} {new p : Nat → Prop} {μ μ' : Nat → Nm} {M M' : Mem} {w0 w w' : World} : ∀ {df : List Deferred}, Marks w0 w df → SatF p μ M c w → Ev c new μ M w c' μ' M' w' → Marks w0 w' df
  | [], _, _, _ => trivial
  | d :: ds, ⟨⟨r, h1, h2, h3, h4⟩, h5⟩, hS, hE => ⟨⟨r, h1, h2, hE.keeps hS h3 rfl, h4⟩, Marks.ev h5 hS hE⟩
/-- THE STATE: the slots, the objects; the rest of the world is as it was when the call began. -/
def StA (N : Nat) (μ0 : Nat → Nm) (M0 : Mem) (w0 : World) (c0 : Nat → Option Ob) (k0 : Nat) (st : St) (a : Act) (w : World) : Prop :=
  k0 ≤ st.k ∧ Marks w0 w a.defers ∧ a.tmps.size = N ∧
  ∃ μ M, (∀ t s, st.env.lookup t = some s → Rp (· < st.k) μ M s (a.tmps.getD t undef)) ∧ SatF (· < st.k) μ M (lk st.hp) w ∧
    Ev c0 (fun n => k0 ≤ n ∧ n < st.k) μ0 M0 w0 (lk st.hp) μ M w

def dEff : Eff := ⟨.any, [], [], 0, True⟩

section
variable {P : Program}

theorem cOper_spec {ops : Array Oper} {o : Oper} {si : SI} (h : cOper P ops o = some si) : cO P o.op = some si.op ∧ si.dst = o.dst ∧ ((o.guard = none ∧ si.g = none) ∨ ∃ j w t, o.guard = some (j, w) ∧ dstOf ops j = some t ∧ si.g = some (t, w)) := by
  unfold cOper at h
  split at h <;> first | (cases h; done) | skip
  rename_i so hso
  split at h
  · rename_i hg
    injection h with h
    subst h
    exact ⟨hso, rfl, .inl ⟨hg, rfl⟩⟩
  · rename_i j w hg
    split at h <;> first | (cases h; done) | skip
    rename_i t ht
    injection h with h
    subst h
    exact ⟨hso, rfl, .inr ⟨j, w, t, hg, ht, rfl⟩⟩

theorem runOp_step {ops : Array Oper} {o : Oper} {st : St} {si : SI} {c1 c2 : List CR} {e : Eff} (hc : cOper P ops o = some si) (h : runOp P st si c1 = some (e, c2)) (hob : e.ob) :
    StepOk P ops (fun t => st.env.lookup t) (lk st.hp) st.k o e ∧ (roOf si.op = true → e.F' = e.F) ∧ HSub e.F st.hp := by
  obtain ⟨h1, h2, h3⟩ := cOper_spec hc
  unfold runOp at h
  rcases h3 with ⟨hg, hs⟩ | ⟨j, w, t, hg, ht, hs⟩
  · simp only [hs] at h
    obtain ⟨a1, a2⟩ := goOp_sound (ops := ops) h1 h hob
    exact ⟨.inr ⟨.inl hg, a1⟩, a2, a1.2⟩
  · simp only [hs] at h
    split at h <;> first | (cases h; done) | skip
    · rename_i b hb
      split at h
      · rename_i hbw
        have hbw : b = w := by simpa using hbw
        subst hbw
        obtain ⟨a1, a2⟩ := goOp_sound (ops := ops) h1 h hob
        exact ⟨.inr ⟨.inr ⟨j, b, t, hg, ht, hb⟩, a1⟩, a2, a1.2⟩
      · rename_i hbw
        injection h with h
        injection h with h h'
        subst h
        exact ⟨.inl ⟨j, w, t, _, hg, ht, hb, by simpa [skips] using hbw, rfl, rfl, rfl, rfl⟩, fun _ => rfl, fun n ob hn => by simp [lk_nil] at hn⟩
    · rename_i hb
      injection h with h
      injection h with h h'
      subst h
      exact ⟨.inl ⟨j, w, t, _, hg, ht, hb, rfl, rfl, rfl, rfl, rfl⟩, fun _ => rfl, fun n ob hn => by simp [lk_nil] at hn⟩

theorem stAt_end : ∀ (sis : List SI) (st : St) (es : List Eff) (i : Nat), es.length ≤ i → stAt sis st es (i + 1) = stAt sis st es i
  | [], st, es, i, _ => by simp [stAt]
  | si :: r, st, [], i, _ => by simp [stAt]
  | si :: r, st, e :: es, 0, h => by simp at h
  | si :: r, st, e :: es, i + 1, h => by
    simp only [stAt]
    exact stAt_end r _ es i (by simpa using h)

theorem region_rule {id : Nat} {ops : Array Oper} {draw : Bool} {N : Nat} {sis : List SI} {bs : List Nat} {st st' : St} {crs : List CR} {ob : Prop} {ts : List (Bool × List Nat)}
    (hc : cReg P N ops draw = some (sis, bs)) (hrun : runs P sis st crs = some (st', ob, ts)) (hob : ob) (hconf : draw = true → noConf bs ts = true) (hm : P.follows .mixedOrders = true)
    {μ0 : Nat → Nm} {M0 : Mem} {w0 : World} {c0 : Nat → Option Ob} {k0 : Nat} {rd : Option Nat} {a : Act} {w : World} (hSt : StA N μ0 M0 w0 c0 k0 st a w) {Q : Exit → Act → World → Prop}
    (hQ : ∀ a' w', StA N μ0 M0 w0 c0 k0 st' a' w' → Q .normal a' w') : (Code.region id ops draw).wpIn (Wide rd) 0 P Q a w := by
  obtain ⟨hk0, hdf, hsz, μ, M, hsl, hS, hE⟩ := hSt
  unfold cReg at hc
  split at hc <;> first | (cases hc; done) | skip
  rename_i sis' hsis
  split at hc <;> first | (cases hc; done) | skip
  rename_i hchk
  injection hc with hc
  injection hc with hc1 hc2
  subst hc1
  rw [hc2] at hchk
  simp only [Bool.and_eq_true] at hchk
  obtain ⟨⟨hok, hslots⟩, hin⟩ := hchk
  obtain ⟨hlen, hget⟩ := cOpers_get hsis
  obtain ⟨tl, tts, tob, tst⟩ := trace_length hrun
  have hes := tob hob
  generalize hesd : trace P sis' st crs = es at *
  have hn : ops.size = sis'.length := by simpa using hlen
  have facts : ∀ i, i < ops.size → ∃ o si e, ops[i]? = some o ∧ sis'[i]? = some si ∧ es[i]? = some e ∧ cOper P ops o = some si ∧ StepOk P ops (fun t => (stAt sis' st es i).env.lookup t) (lk (stAt sis' st es i).hp) (stAt sis' st es i).k o e ∧
      (roOf si.op = true → e.F' = e.F) ∧ HSub e.F (stAt sis' st es i).hp := by
    intro i hi
    obtain ⟨si, h1, h2⟩ := hget i ops[i] (by simp [hi])
    have h3 : es[i]? = some (es[i]'(by omega)) := List.getElem?_eq_getElem (by omega)
    obtain ⟨c1, c2, h4⟩ := trace_step (P := P) (st := st) (crs := crs) h1 (by rw [hesd]; exact h3)
    rw [hesd] at h4
    obtain ⟨b1, b2, b3⟩ := runOp_step h2 h4 (hes _ (List.getElem_mem _))
    exact ⟨ops[i], si, _, Array.getElem?_eq_getElem hi, h1, h3, h2, b1, b2, b3⟩
  let eff : Nat → Eff := fun i => es.getD i dEff
  let ro : Nat → Bool := fun i => ((sis'[i]?).map fun s => roOf s.op).getD true
  let kk : Nat → Nat := fun i => (stAt sis' st es i).k
  have heff : ∀ {i e}, es[i]? = some e → eff i = e := fun h => by simp [eff, List.getD_eq_getElem?_getD, h]
  have hro : ∀ {i si}, sis'[i]? = some si → ro i = roOf si.op := fun h => by simp [ro, h]
  have hdst : ∀ {i o}, ops[i]? = some o → dstOf ops i = o.dst := fun h => by simp [dstOf, h]
  have hst0 : stAt sis' st es 0 = st := by cases sis' <;> cases es <;> rfl
  have hslotS : ∀ i, i ≤ ops.size → ∀ t, slotP ops (fun t => st.env.lookup t) eff (fun _ => true) i t = (stAt sis' st es i).env.lookup t := by
    intro i
    induction i with
    | zero => intro _ t; rw [hst0]; rfl
    | succ i ih =>
      intro hi t
      obtain ⟨o, si, e, f1, f2, f3, f4, _⟩ := facts i (by omega)
      obtain ⟨_, g2, _⟩ := cOper_spec f4
      rw [stAt_succ sis' st es i si e f2 f3]
      simp only [slotP, pick, Bool.true_and, hdst f1, heff f3]
      have ih' := ih (by omega) t
      simp only [slotP] at ih'
      simp only [Bool.true_and] at ih'
      simp only [upd, g2]
      cases hod : o.dst with
      | none => simpa using ih'
      | some d =>
        simp only
        rw [lookup_upd]
        by_cases hd : d = t
        · subst hd; simp
        · simp [hd, ih']
  have hcontS : ∀ i, i ≤ ops.size → contP (lk st.hp) eff ro (fun _ => true) i = lk (stAt sis' st es i).hp := by
    intro i
    induction i with
    | zero => intro _; rw [hst0]; rfl
    | succ i ih =>
      intro hi
      obtain ⟨o, si, e, f1, f2, f3, f4, _, f6, f7⟩ := facts i (by omega)
      rw [stAt_succ sis' st es i si e f2 f3]
      simp only [upd]
      rw [lk_hmrg f7 f6]
      funext nme
      have ih' := congrFun (ih (by omega)) nme
      simp only [contP, Bool.true_and] at ih'
      simp only [contP, pick, Bool.true_and, hro f2, heff f3]
      cases hr : roOf si.op with
      | true =>
        rw [f6 hr]
        simp only [Bool.not_true, Bool.false_and, Bool.false_eq_true, if_false]
        rw [ih']
        by_cases h1 : lk e.F nme = none
        · rw [mrg_out h1 h1]
        · rw [mrg_in (.inl h1)]
          obtain ⟨ob, hob⟩ := Option.ne_none_iff_exists'.1 h1
          rw [hob]; exact f7 nme ob hob
      | false =>
        have htc : touch eff i nme = ((lk e.F nme).isSome || (lk e.F' nme).isSome) := by simp only [touch, heff f3]
        simp only [Bool.not_false, Bool.true_and, htc]
        unfold mrg
        split
        · rfl
        · exact ih'
  have hkS : ∀ i, kk (i + 1) = kk i + (eff i).nk := by
    intro i
    by_cases hi : i < ops.size
    · obtain ⟨o, si, e, f1, f2, f3, _⟩ := facts i hi
      simp only [kk]
      rw [stAt_succ sis' st es i si e f2 f3, heff f3]
      rfl
    · simp only [kk]
      rw [stAt_end sis' st es i (by omega)]
      have : eff i = dEff := by simp [eff, List.getD_eq_getElem?_getD, List.getElem?_eq_none (show es.length ≤ i by omega)]
      rw [this]; rfl
  have htouch : ∀ i nme, i < ops.size → ro i = false ∨ True → touch eff i nme = true → nme ∈ (ts.getD i (true, [])).2 := by
    intro i nme hi _ ht
    obtain ⟨o, si, e, f1, f2, f3, _⟩ := facts i hi
    have : ts[i]? = some (touchL si e) := by rw [tts]; simp [List.getElem?_zipWith, f2, f3]
    rw [List.getD_eq_getElem?_getD, this]
    simp only [Option.getD_some, touchL, List.mem_append, List.mem_map]
    simp only [touch, heff f3, Bool.or_eq_true, Option.isSome_iff_exists] at ht
    rcases ht with ⟨ob, h⟩ | ⟨ob, h⟩
    · exact .inl ⟨(nme, ob), lk_mem h, rfl⟩
    · exact .inr ⟨(nme, ob), lk_mem h, rfl⟩
  have htro : ∀ i, i < ops.size → (ts.getD i (true, [])).1 = ro i := by
    intro i hi
    obtain ⟨o, si, e, f1, f2, f3, _⟩ := facts i hi
    have : ts[i]? = some (touchL si e) := by rw [tts]; simp [List.getElem?_zipWith, f2, f3]
    rw [List.getD_eq_getElem?_getD, this, hro f2]
    rfl
  have hR : RG P ops bs N (fun t => st.env.lookup t) (lk st.hp) st.k eff ro kk := by
    refine ⟨hslots, fun i d hd => ?_, by simp only [kk]; rw [hst0], hkS, fun i j nme hi hj hij hri hti htj => ?_, fun i hi => ?_⟩
    · have hi : i < ops.size := by
        unfold dstOf at hd
        rcases Nat.lt_or_ge i ops.size with h | h
        · exact h
        · rw [Array.getElem?_eq_none h] at hd; cases hd
      obtain ⟨o, si, e, f1, f2, f3, f4, _⟩ := facts i hi
      obtain ⟨_, g2, _⟩ := cOper_spec f4
      rw [hdst f1] at hd
      have := List.all_eq_true.1 hin si (List.mem_of_getElem? f2)
      rw [g2, hd] at this
      simpa using this
    · cases hd : draw with
      | false =>
        rw [hd] at hc2
        simp only [bsOf, Bool.false_eq_true, if_false] at hc2
        rw [← hc2]
        rcases Nat.lt_or_ge i j with h | h
        · exact .inl (ordB_full hj h)
        · exact .inr (ordB_full hi (by omega))
      | true =>
        have hnc := hconf hd
        unfold noConf at hnc
        have hl : ts.length = ops.size := by rw [tts]; simp; omega
        have := all2_spec hnc (i := i) (j := j) (by omega) (by omega)
        simp only [Bool.or_eq_true, beq_iff_eq, hij, false_or, htro i hi, hri, Bool.not_eq_true', Bool.false_eq_true] at this
        have hany : ((ts.getD i (true, [])).2.any fun n => (ts.getD j (true, [])).2.contains n) = true := by
          refine List.any_eq_true.2 ⟨nme, htouch i nme hi (.inr trivial) hti, ?_⟩
          simpa using htouch j nme hj (.inr trivial) htj
        rw [hany] at this
        simpa using this
    · by_cases hii : i < ops.size
      · obtain ⟨o, si, e, f1, f2, f3, f4, _, f6, _⟩ := facts i hii
        rw [hro f2] at hi
        rw [heff f3]
        exact f6 hi
      · have : eff i = dEff := by simp [eff, List.getD_eq_getElem?_getD, List.getElem?_eq_none (show es.length ≤ i by omega)]
        rw [this]; rfl
  have hsteps : ∀ (i : Nat) (o : Oper), ops[i]? = some o → StepOk P ops (slotP ops (fun t => st.env.lookup t) eff (fun _ => true) i) (contP (lk st.hp) eff ro (fun _ => true) i) (kk i) o (eff i) := by
    intro i o ho
    have hi : i < ops.size := (Array.getElem?_eq_some_iff.1 ho).1
    obtain ⟨o', si, e, f1, f2, f3, f4, f5, _⟩ := facts i hi
    rw [f1] at ho; injection ho with ho; subst ho
    rw [heff f3, hcontS i (by omega), show slotP ops (fun t => st.env.lookup t) eff (fun _ => true) i = fun t => (stAt sis' st es i).env.lookup t from funext fun t => hslotS i (by omega) t]
    exact f5
  have hend : st' = stAt sis' st es ops.size := by rw [tst, hn]
  have hmono : ∀ i, st.k ≤ kk i := fun i => by
    have := hR.mono (Nat.zero_le i)
    rw [hR.kk0] at this; exact this
  have hfinal : ∀ a' w', Inv ops N (fun t => st.env.lookup t) (lk st.hp) st.k eff ro kk μ M w a.defers (fun _ => true) a' w' → Q .normal a' w' := by
    intro a' w' hI
    obtain ⟨⟨μ', M', h1, h2, h3⟩, h4, h5⟩ := hI
    have hp : pD ops st.k eff kk (fun _ => true) = (· < st'.k) := by
      funext n
      apply propext
      rw [hend]
      have key : ∀ i, i ≤ ops.size → ∀ n, (n < st.k ∨ ∃ j, j < i ∧ kk j ≤ n ∧ n < kk j + (eff j).nk) ↔ n < kk i := by
        intro i
        induction i with
        | zero => intro _ n; rw [hR.kk0]; exact ⟨fun h => h.elim (fun h => h) fun ⟨j, hj, _⟩ => by omega, .inl⟩
        | succ i ih =>
          intro hi n
          have := ih (by omega) n
          rw [hkS]
          constructor
          · rintro (h | ⟨j, hj, h1, h2⟩)
            · have := this.1 (.inl h); omega
            · by_cases hji : j = i
              · subst hji; exact h2
              · have := this.1 (.inr ⟨j, by omega, h1, h2⟩); omega
          · intro h
            by_cases hlt : n < kk i
            · rcases this.2 hlt with h | ⟨j, hj, h1, h2⟩
              · exact .inl h
              · exact .inr ⟨j, by omega, h1, h2⟩
            · exact .inr ⟨i, by omega, by omega, h⟩
      have := key ops.size (Nat.le_refl _) n
      unfold pD newD
      simpa using this
    have hnw : ∀ n, newD ops eff kk (fun _ => true) n ↔ st.k ≤ n ∧ n < st'.k := by
      intro n
      have := congrFun hp n
      constructor
      · rintro ⟨j, hj, h1, h2, h3⟩
        refine ⟨Nat.le_trans (hmono j) h2, ?_⟩
        have h' : pD ops st.k eff kk (fun _ => true) n := .inr ⟨j, hj, h1, h2, h3⟩
        rw [hp] at h'; exact h'
      · rintro ⟨h1, h2⟩
        have h' : pD ops st.k eff kk (fun _ => true) n := by rw [hp]; exact h2
        rcases h' with h' | h'
        · omega
        · exact h'
    rw [hp] at h1 h2
    rw [hcontS ops.size (Nat.le_refl _), ← hend] at h2 h3
    have hk' : st.k ≤ st'.k := by rw [hend]; exact hmono _
    refine hQ a' w' ⟨by omega, by rw [h4]; exact hdf.ev hS h3, h5, μ', M', fun t s h => h1 t s ?_, h2, (hE.trans h3).new_iff fun n => ?_⟩
    · rw [hslotS ops.size (Nat.le_refl _), ← hend]; exact h
    · rw [hnw]; omega
  have hinit : ∀ w1 : World, SatF (· < st.k) μ M (lk st.hp) w1 → Ev (lk st.hp) (fun _ => False) μ M w (lk st.hp) μ M w1 → Inv ops N (fun t => st.env.lookup t) (lk st.hp) st.k eff ro kk μ M w a.defers (fun _ => false) a w1 := by
    intro w1 hS1 hE1
    have hp : pD ops st.k eff kk (fun _ => false) = (· < st.k) := by
      funext n; apply propext
      unfold pD newD
      simp
    have hc0 : contP (lk st.hp) eff ro (fun _ => false) ops.size = lk st.hp := funext fun nme => pick_none fun i _ => by simp
    refine ⟨⟨μ, M, fun t s h => ?_, by rw [hp, hc0]; exact hS1, by rw [hc0]; exact hE1.new_iff fun n => by unfold newD; simp⟩, rfl, hsz⟩
    rw [hp]
    refine hsl t s ?_
    rw [← h]
    exact (pick_none fun i _ => by simp).symm
  cases hd : draw with
  | false =>
    refine wpIn_region ?_
    rw [List.range_eq_range']
    exact hR.inOrder hsteps hfinal ops.size 0 a w (by omega) ((hinit w hS (Ev.refl _ _ _ _ _ fun _ _ h => h)).congr fun j _ => by simp)
  | true =>
    rw [hd] at hok
    simp only [Bool.not_true, Bool.false_or] at hok
    refine wpIn_region_any hm ?_
    refine hR.drawn hok hsteps hfinal ops.size _ a _ (by simp) ?_ (fun j o h => ?_) ((hinit w.drew hS.drew (Ev.refl _ _ _ _ _ fun _ _ h => h).drew).congr fun j hj => by simp [hj])
    · have : ∀ n, n ≤ ops.size → countU (Array.replicate ops.size false) n = n := by
        intro n
        induction n with
        | zero => intro _; rfl
        | succ n ih => intro hn'; simp only [countU, ih (by omega)]; simp [show n < ops.size by omega]
      exact this _ (Nat.le_refl _)
    · exfalso
      by_cases hj : j < ops.size
      · simp [hj] at h
      · simp [hj] at h
end
end Go.Sl
