/-
  The state of a function's body; the rule for a region.
-/
import Derived.Test.YtgjgfamgbhlmfaaU5
import Derived.RangeFuncRecord
set_option linter.unusedSimpArgs false
set_option linter.unusedSectionVars false
set_option linter.unusedVariables false
namespace Go.Sl
open Go.RowKit

/-- Objects that no name stands for: the block of a loop's deferred calls. -/
def foreign : Obj → Bool
  | .deferred _ => true
  | _ => false
/-- The marks of loops over functions: nothing was deferred in their rounds. -/
def Marks (w0 w : World) : List Deferred → Prop
  | [] => True
  | d :: ds => (∃ r, d = ⟨.collected r, #[]⟩ ∧ w0.heap.size ≤ r ∧ w.heap[r]? = some (.deferred (some [])) ∧ ∀ d', d' ∈ ds → d' ≠ ⟨.collected r, #[]⟩) ∧ Marks w0 w ds

theorem SatF.not {p : Nat → Prop} {μ : Nat → Nm} {M : Mem} {c : Nat → Option Ob} {w : World} (hS : SatF p μ M c w) {b : Nat} {x : Obj} (hx : w.heap[b]? = some x) (hf : foreign x = true) : ∀ n, c n ≠ none → (μ n).live = true → (μ n).blk ≠ b := by
  intro n hn hl e
  obtain ⟨ob, ho⟩ := Option.ne_none_iff_exists'.1 hn
  have h := (hS.obs n ob ho).2.1
  subst e
  cases ob <;> simp only [ObRep] at h
  · obtain ⟨_, _, h, _⟩ := h; rw [hx] at h; injection h with h; subst h; simp [foreign] at hf
  · rcases h with ⟨h, _⟩ | ⟨_, _, h, _⟩
    · rw [hl] at h; cases h
    · rw [hx] at h; injection h with h; subst h; simp [foreign] at hf
  · obtain ⟨_, _, h, _⟩ := h; rw [hx] at h; injection h with h; subst h; simp [foreign] at hf
  · rw [hl] at h; cases h
  · obtain ⟨_, _, h⟩ := h; rw [hx] at h; injection h with h; subst h; simp [foreign] at hf
  · obtain ⟨_, _, h, _⟩ := h; rw [hx] at h; injection h with h; subst h; simp [foreign] at hf
theorem Ev.keeps {c c' : Nat → Option Ob} {new p : Nat → Prop} {μ μ' : Nat → Nm} {M M' : Mem} {w w' : World} (hE : Ev c new μ M w c' μ' M' w') (hS : SatF p μ M c w) {b : Nat} {x : Obj} (hx : w.heap[b]? = some x) (hf : foreign x = true) : w'.heap[b]? = some x := by
  rw [(hE.frame b (Array.getElem?_eq_some_iff.1 hx).1 (hS.not hx hf)).1]; exact hx
theorem Marks.ev {c c' : Nat → Option Ob} {new p : Nat → Prop} {μ μ' : Nat → Nm} {M M' : Mem} {w0 w w' : World} : ∀ {df : List Deferred}, Marks w0 w df → SatF p μ M c w → Ev c new μ M w c' μ' M' w' → Marks w0 w' df
  | [], _, _, _ => trivial
  | d :: ds, ⟨⟨r, h1, h2, h3, h4⟩, h5⟩, hS, hE => ⟨⟨r, h1, h2, hE.keeps hS h3 rfl, h4⟩, Marks.ev h5 hS hE⟩
/-- THE STATE: the slots, the objects; the rest of the world is as it was when the call began. -/
def StA (N : Nat) (μ0 : Nat → Nm) (M0 : Mem) (w0 : World) (c0 : Nat → Option Ob) (k0 : Nat) (st : St) (a : Act) (w : World) : Prop :=
  k0 ≤ st.k ∧ Marks w0 w a.defers ∧ a.tmps.size = N ∧
  ∃ μ M, (∀ t s, st.env.lookup t = some s → Rp (· < st.k) μ M s (a.tmps.getD t undef)) ∧ SatF (· < st.k) μ M (lk st.hp) w ∧
    Ev c0 (fun n => k0 ≤ n ∧ n < st.k) μ0 M0 w0 (lk st.hp) μ M w

def dEff : Eff := ⟨.any, [], [], 0, True⟩

section
variable {P : Program}

theorem cOper_spec {ops : Array Oper} {o : Oper} {si : SI} (h : cOper P ops o = some si) : cO P o.op = some si.op ∧ si.dst = o.dst ∧ ((o.guard = none ∧ si.g = none) ∨ ∃ j w t, o.guard = some (j, w) ∧ dstOf ops j = some t ∧ si.g = some (t, w)) := by
  unfold cOper at h
  split at h <;> first | (cases h; done) | skip
  rename_i so hso
  split at h
  · rename_i hg
    injection h with h
    subst h
    exact ⟨hso, rfl, .inl ⟨hg, rfl⟩⟩
  · rename_i j w hg
    split at h <;> first | (cases h; done) | skip
    rename_i t ht
    injection h with h
    subst h
    exact ⟨hso, rfl, .inr ⟨j, w, t, hg, ht, rfl⟩⟩

theorem runOp_step {ops : Array Oper} {o : Oper} {st : St} {si : SI} {c1 c2 : List CR} {e : Eff} (hc : cOper P ops o = some si) (h : runOp P st si c1 = some (e, c2)) (hob : e.ob) :
    StepOk P ops (fun t => st.env.lookup t) (lk st.hp) st.k o e ∧ (roOf si.op = true → e.F' = e.F) ∧ HSub e.F st.hp := by
  obtain ⟨h1, h2, h3⟩ := cOper_spec hc
  unfold runOp at h
  rcases h3 with ⟨hg, hs⟩ | ⟨j, w, t, hg, ht, hs⟩
  · simp only [hs] at h
    obtain ⟨a1, a2⟩ := goOp_sound (ops := ops) h1 h hob
    exact ⟨.inr ⟨.inl hg, a1⟩, a2, a1.2⟩
  · simp only [hs] at h
    split at h <;> first | (cases h; done) | skip
    · rename_i b hb
      split at h
      · rename_i hbw
        have hbw : b = w := by simpa using hbw
        subst hbw
        obtain ⟨a1, a2⟩ := goOp_sound (ops := ops) h1 h hob
        exact ⟨.inr ⟨.inr ⟨j, b, t, hg, ht, hb⟩, a1⟩, a2, a1.2⟩
      · rename_i hbw
        injection h with h
        injection h with h h'
        subst h
        exact ⟨.inl ⟨j, w, t, _, hg, ht, hb, by simpa [skips] using hbw, rfl, rfl, rfl, rfl⟩, fun _ => rfl, fun n ob hn => by simp [lk_nil] at hn⟩
    · rename_i hb
      injection h with h
      injection h with h h'
      subst h
      exact ⟨.inl ⟨j, w, t, _, hg, ht, hb, rfl, rfl, rfl, rfl, rfl⟩, fun _ => rfl, fun n ob hn => by simp [lk_nil] at hn⟩

theorem stAt_end : ∀ (sis : List SI) (st : St) (es : List Eff) (i : Nat), es.length ≤ i → stAt sis st es (i + 1) = stAt sis st es i
  | [], st, es, i, _ => by simp [stAt]
  | si :: r, st, [], i, _ => by simp [stAt]
  | si :: r, st, e :: es, 0, h => by simp at h
  | si :: r, st, e :: es, i + 1, h => by
    simp only [stAt]
    exact stAt_end r _ es i (by simpa using h)

theorem region_rule {id : Nat} {ops : Array Oper} {draw : Bool} {N : Nat} {sis : List SI} {bs : List Nat} {st st' : St} {crs : List CR} {ob : Prop} {ts : List (Bool × List Nat)}
    (hc : cReg P N ops draw = some (sis, bs)) (hrun : runs P sis st crs = some (st', ob, ts)) (hob : ob) (hconf : draw = true → noConf bs ts = true) (hm : P.follows .mixedOrders = true)
    {μ0 : Nat → Nm} {M0 : Mem} {w0 : World} {c0 : Nat → Option Ob} {k0 : Nat} {rd : Option Nat} {a : Act} {w : World} (hSt : StA N μ0 M0 w0 c0 k0 st a w) {Q : Exit → Act → World → Prop}
    (hQ : ∀ a' w', StA N μ0 M0 w0 c0 k0 st' a' w' → Q .normal a' w') : (Code.region id ops draw).wpIn (Wide rd) 0 P Q a w := by
  obtain ⟨hk0, hdf, hsz, μ, M, hsl, hS, hE⟩ := hSt
  unfold cReg at hc
  split at hc <;> first | (cases hc; done) | skip
  rename_i sis' hsis
  split at hc <;> first | (cases hc; done) | skip
  rename_i hchk
  injection hc with hc
  injection hc with hc1 hc2
  subst hc1
  rw [hc2] at hchk
  simp only [Bool.and_eq_true] at hchk
  obtain ⟨⟨hok, hslots⟩, hin⟩ := hchk
  obtain ⟨hlen, hget⟩ := cOpers_get hsis
  obtain ⟨tl, tts, tob, tst⟩ := trace_length hrun
  have hes := tob hob
  generalize hesd : trace P sis' st crs = es at *
  have hn : ops.size = sis'.length := by simpa using hlen
  have facts : ∀ i, i < ops.size → ∃ o si e, ops[i]? = some o ∧ sis'[i]? = some si ∧ es[i]? = some e ∧ cOper P ops o = some si ∧ StepOk P ops (fun t => (stAt sis' st es i).env.lookup t) (lk (stAt sis' st es i).hp) (stAt sis' st es i).k o e ∧
      (roOf si.op = true → e.F' = e.F) ∧ HSub e.F (stAt sis' st es i).hp := by
    intro i hi
    obtain ⟨si, h1, h2⟩ := hget i ops[i] (by simp [hi])
    have h3 : es[i]? = some (es[i]'(by omega)) := List.getElem?_eq_getElem (by omega)
    obtain ⟨c1, c2, h4⟩ := trace_step (P := P) (st := st) (crs := crs) h1 (by rw [hesd]; exact h3)
    rw [hesd] at h4
    obtain ⟨b1, b2, b3⟩ := runOp_step h2 h4 (hes _ (List.getElem_mem _))
    exact ⟨ops[i], si, _, Array.getElem?_eq_getElem hi, h1, h3, h2, b1, b2, b3⟩
  let eff : Nat → Eff := fun i => es.getD i dEff
  let ro : Nat → Bool := fun i => ((sis'[i]?).map fun s => roOf s.op).getD true
  let kk : Nat → Nat := fun i => (stAt sis' st es i).k
  have heff : ∀ {i e}, es[i]? = some e → eff i = e := fun h => by simp [eff, List.getD_eq_getElem?_getD, h]
  have hro : ∀ {i si}, sis'[i]? = some si → ro i = roOf si.op := fun h => by simp [ro, h]
  have hdst : ∀ {i o}, ops[i]? = some o → dstOf ops i = o.dst := fun h => by simp [dstOf, h]
  have hst0 : stAt sis' st es 0 = st := by cases sis' <;> cases es <;> rfl
  have hslotS : ∀ i, i ≤ ops.size → ∀ t, slotP ops (fun t => st.env.lookup t) eff (fun _ => true) i t = (stAt sis' st es i).env.lookup t := by
    intro i
    induction i with
    | zero => intro _ t; rw [hst0]; rfl
    | succ i ih =>
      intro hi t
      obtain ⟨o, si, e, f1, f2, f3, f4, _⟩ := facts i (by omega)
      obtain ⟨_, g2, _⟩ := cOper_spec f4
      rw [stAt_succ sis' st es i si e f2 f3]
      simp only [slotP, pick, Bool.true_and, hdst f1, heff f3]
      have ih' := ih (by omega) t
      simp only [slotP] at ih'
      simp only [Bool.true_and] at ih'
      simp only [upd, g2]
      cases hod : o.dst with
      | none => simpa using ih'
      | some d =>
        simp only
        rw [lookup_upd]
        by_cases hd : d = t
        · subst hd; simp
        · simp [hd, ih']
  have hcontS : ∀ i, i ≤ ops.size → contP (lk st.hp) eff ro (fun _ => true) i = lk (stAt sis' st es i).hp := by
    intro i
    induction i with
    | zero => intro _; rw [hst0]; rfl
    | succ i ih =>
      intro hi
      obtain ⟨o, si, e, f1, f2, f3, f4, _, f6, f7⟩ := facts i (by omega)
      rw [stAt_succ sis' st es i si e f2 f3]
      simp only [upd]
      rw [lk_hmrg f7 f6]
      funext nme
      have ih' := congrFun (ih (by omega)) nme
      simp only [contP, Bool.true_and] at ih'
      simp only [contP, pick, Bool.true_and, hro f2, heff f3]
      cases hr : roOf si.op with
      | true =>
        rw [f6 hr]
        simp only [Bool.not_true, Bool.false_and, Bool.false_eq_true, if_false]
        rw [ih']
        by_cases h1 : lk e.F nme = none
        · rw [mrg_out h1 h1]
        · rw [mrg_in (.inl h1)]
          obtain ⟨ob, hob⟩ := Option.ne_none_iff_exists'.1 h1
          rw [hob]; exact f7 nme ob hob
      | false =>
        have htc : touch eff i nme = ((lk e.F nme).isSome || (lk e.F' nme).isSome) := by simp only [touch, heff f3]
        simp only [Bool.not_false, Bool.true_and, htc]
        unfold mrg
        split
        · rfl
        · exact ih'
  have hkS : ∀ i, kk (i + 1) = kk i + (eff i).nk := by
    intro i
    by_cases hi : i < ops.size
    · obtain ⟨o, si, e, f1, f2, f3, _⟩ := facts i hi
      simp only [kk]
      rw [stAt_succ sis' st es i si e f2 f3, heff f3]
      rfl
    · simp only [kk]
      rw [stAt_end sis' st es i (by omega)]
      have : eff i = dEff := by simp [eff, List.getD_eq_getElem?_getD, List.getElem?_eq_none (show es.length ≤ i by omega)]
      rw [this]; rfl
  have htouch : ∀ i nme, i < ops.size → ro i = false ∨ True → touch eff i nme = true → nme ∈ (ts.getD i (true, [])).2 := by
    intro i nme hi _ ht
    obtain ⟨o, si, e, f1, f2, f3, _⟩ := facts i hi
    have : ts[i]? = some (touchL si e) := by rw [tts]; simp [List.getElem?_zipWith, f2, f3]
    rw [List.getD_eq_getElem?_getD, this]
    simp only [Option.getD_some, touchL, List.mem_append, List.mem_map]
    simp only [touch, heff f3, Bool.or_eq_true, Option.isSome_iff_exists] at ht
    rcases ht with ⟨ob, h⟩ | ⟨ob, h⟩
    · exact .inl ⟨(nme, ob), lk_mem h, rfl⟩
    · exact .inr ⟨(nme, ob), lk_mem h, rfl⟩
  have htro : ∀ i, i < ops.size → (ts.getD i (true, [])).1 = ro i := by
    intro i hi
    obtain ⟨o, si, e, f1, f2, f3, _⟩ := facts i hi
    have : ts[i]? = some (touchL si e) := by rw [tts]; simp [List.getElem?_zipWith, f2, f3]
    rw [List.getD_eq_getElem?_getD, this, hro f2]
    rfl
  have hR : RG P ops bs N (fun t => st.env.lookup t) (lk st.hp) st.k eff ro kk := by
    refine ⟨hslots, fun i d hd => ?_, by simp only [kk]; rw [hst0], hkS, fun i j nme hi hj hij hri hti htj => ?_, fun i hi => ?_⟩
    · have hi : i < ops.size := by
        unfold dstOf at hd
        rcases Nat.lt_or_ge i ops.size with h | h
        · exact h
        · rw [Array.getElem?_eq_none h] at hd; cases hd
      obtain ⟨o, si, e, f1, f2, f3, f4, _⟩ := facts i hi
      obtain ⟨_, g2, _⟩ := cOper_spec f4
      rw [hdst f1] at hd
      have := List.all_eq_true.1 hin si (List.mem_of_getElem? f2)
      rw [g2, hd] at this
      simpa using this
    · cases hd : draw with
      | false =>
        rw [hd] at hc2
        simp only [bsOf, Bool.false_eq_true, if_false] at hc2
        rw [← hc2]
        rcases Nat.lt_or_ge i j with h | h
        · exact .inl (ordB_full hj h)
        · exact .inr (ordB_full hi (by omega))
      | true =>
        have hnc := hconf hd
        unfold noConf at hnc
        have hl : ts.length = ops.size := by rw [tts]; simp; omega
        have := all2_spec hnc (i := i) (j := j) (by omega) (by omega)
        simp only [Bool.or_eq_true, beq_iff_eq, hij, false_or, htro i hi, hri, Bool.not_eq_true', Bool.false_eq_true] at this
        have hany : ((ts.getD i (true, [])).2.any fun n => (ts.getD j (true, [])).2.contains n) = true := by
          refine List.any_eq_true.2 ⟨nme, htouch i nme hi (.inr trivial) hti, ?_⟩
          simpa using htouch j nme hj (.inr trivial) htj
        rw [hany] at this
        simpa using this
    · by_cases hii : i < ops.size
      · obtain ⟨o, si, e, f1, f2, f3, f4, _, f6, _⟩ := facts i hii
        rw [hro f2] at hi
        rw [heff f3]
        exact f6 hi
      · have : eff i = dEff := by simp [eff, List.getD_eq_getElem?_getD, List.getElem?_eq_none (show es.length ≤ i by omega)]
        rw [this]; rfl
  have hsteps : ∀ (i : Nat) (o : Oper), ops[i]? = some o → StepOk P ops (slotP ops (fun t => st.env.lookup t) eff (fun _ => true) i) (contP (lk st.hp) eff ro (fun _ => true) i) (kk i) o (eff i) := by
    intro i o ho
    have hi : i < ops.size := (Array.getElem?_eq_some_iff.1 ho).1
    obtain ⟨o', si, e, f1, f2, f3, f4, f5, _⟩ := facts i hi
    rw [f1] at ho; injection ho with ho; subst ho
    rw [heff f3, hcontS i (by omega), show slotP ops (fun t => st.env.lookup t) eff (fun _ => true) i = fun t => (stAt sis' st es i).env.lookup t from funext fun t => hslotS i (by omega) t]
    exact f5
  have hend : st' = stAt sis' st es ops.size := by rw [tst, hn]
  have hmono : ∀ i, st.k ≤ kk i := fun i => by
    have := hR.mono (Nat.zero_le i)
    rw [hR.kk0] at this; exact this
  have hfinal : ∀ a' w', Inv ops N (fun t => st.env.lookup t) (lk st.hp) st.k eff ro kk μ M w a.defers (fun _ => true) a' w' → Q .normal a' w' := by
    intro a' w' hI
    obtain ⟨⟨μ', M', h1, h2, h3⟩, h4, h5⟩ := hI
    have hp : pD ops st.k eff kk (fun _ => true) = (· < st'.k) := by
      funext n
      apply propext
      rw [hend]
      have key : ∀ i, i ≤ ops.size → ∀ n, (n < st.k ∨ ∃ j, j < i ∧ kk j ≤ n ∧ n < kk j + (eff j).nk) ↔ n < kk i := by
        intro i
        induction i with
        | zero => intro _ n; rw [hR.kk0]; exact ⟨fun h => h.elim (fun h => h) fun ⟨j, hj, _⟩ => by omega, .inl⟩
        | succ i ih =>
          intro hi n
          have := ih (by omega) n
          rw [hkS]
          constructor
          · rintro (h | ⟨j, hj, h1, h2⟩)
            · have := this.1 (.inl h); omega
            · by_cases hji : j = i
              · subst hji; exact h2
              · have := this.1 (.inr ⟨j, by omega, h1, h2⟩); omega
          · intro h
            by_cases hlt : n < kk i
            · rcases this.2 hlt with h | ⟨j, hj, h1, h2⟩
              · exact .inl h
              · exact .inr ⟨j, by omega, h1, h2⟩
            · exact .inr ⟨i, by omega, by omega, h⟩
      have := key ops.size (Nat.le_refl _) n
      unfold pD newD
      simpa using this
    have hnw : ∀ n, newD ops eff kk (fun _ => true) n ↔ st.k ≤ n ∧ n < st'.k := by
      intro n
      have := congrFun hp n
      constructor
      · rintro ⟨j, hj, h1, h2, h3⟩
        refine ⟨Nat.le_trans (hmono j) h2, ?_⟩
        have h' : pD ops st.k eff kk (fun _ => true) n := .inr ⟨j, hj, h1, h2, h3⟩
        rw [hp] at h'; exact h'
      · rintro ⟨h1, h2⟩
        have h' : pD ops st.k eff kk (fun _ => true) n := by rw [hp]; exact h2
        rcases h' with h' | h'
        · omega
        · exact h'
    rw [hp] at h1 h2
    rw [hcontS ops.size (Nat.le_refl _), ← hend] at h2 h3
    have hk' : st.k ≤ st'.k := by rw [hend]; exact hmono _
    refine hQ a' w' ⟨by omega, by rw [h4]; exact hdf.ev hS h3, h5, μ', M', fun t s h => h1 t s ?_, h2, (hE.trans h3).new_iff fun n => ?_⟩
    · rw [hslotS ops.size (Nat.le_refl _), ← hend]; exact h
    · rw [hnw]; omega
  have hinit : ∀ w1 : World, SatF (· < st.k) μ M (lk st.hp) w1 → Ev (lk st.hp) (fun _ => False) μ M w (lk st.hp) μ M w1 → Inv ops N (fun t => st.env.lookup t) (lk st.hp) st.k eff ro kk μ M w a.defers (fun _ => false) a w1 := by
    intro w1 hS1 hE1
    have hp : pD ops st.k eff kk (fun _ => false) = (· < st.k) := by
      funext n; apply propext
      unfold pD newD
      simp
    have hc0 : contP (lk st.hp) eff ro (fun _ => false) ops.size = lk st.hp := funext fun nme => pick_none fun i _ => by simp
    refine ⟨⟨μ, M, fun t s h => ?_, by rw [hp, hc0]; exact hS1, by rw [hc0]; exact hE1.new_iff fun n => by unfold newD; simp⟩, rfl, hsz⟩
    rw [hp]
    refine hsl t s ?_
    rw [← h]
    exact (pick_none fun i _ => by simp).symm
  cases hd : draw with
  | false =>
    refine wpIn_region ?_
    rw [List.range_eq_range']
    exact hR.inOrder hsteps hfinal ops.size 0 a w (by omega) ((hinit w hS (Ev.refl _ _ _ _ _ fun _ _ h => h)).congr fun j _ => by simp)
  | true =>
    rw [hd] at hok
    simp only [Bool.not_true, Bool.false_or] at hok
    refine wpIn_region_any hm ?_
    refine hR.drawn hok hsteps hfinal ops.size _ a _ (by simp) ?_ (fun j o h => ?_) ((hinit w.drew hS.drew (Ev.refl _ _ _ _ _ fun _ _ h => h).drew).congr fun j hj => by simp [hj])
    · have : ∀ n, n ≤ ops.size → countU (Array.replicate ops.size false) n = n := by
        intro n
        induction n with
        | zero => intro _; rfl
        | succ n ih => intro hn'; simp only [countU, ih (by omega)]; simp [show n < ops.size by omega]
      exact this _ (Nat.le_refl _)
    · exfalso
      by_cases hj : j < ops.size
      · simp [hj] at h
      · simp [hj] at h
end
end Go.Sl

/-
  Code: the small form, its rules; from a body to a contract.
-/
set_option linter.unusedSimpArgs false
set_option linter.unusedSectionVars false
set_option linter.unusedVariables false
namespace Go.Sl
open Go.RowKit

inductive SCo where
  | skip
  | reg (sis : List SI) (bs : List Nat) (draw : Bool)
  | seq (a b : SCo)
  | cond (x : X) (a b : SCo)
  | block (id : Nat) (c : SCo)
  | loop (c : SCo)
  | exit (id : Nat)
  | ret
  | rfun (g : X) (ps : List Nat) (assign body : SCo)

/-- Is there a range over a function in it? -/
def SCo.rf : SCo → Bool
  | .rfun .. => true
  | .seq a b | .cond _ a b => a.rf || b.rf
  | .block _ a | .loop a => a.rf
  | _ => false

def cK (P : Program) (N : Nat) : Code → Option SCo
  | .skip => some .skip
  | .region _ ops draw => match cReg P N ops draw with
    | some (sis, bs) => some (.reg sis bs draw)
    | none => none
  | .seq a b => match cK P N a, cK P N b with
    | some a, some b => some (.seq a b)
    | _, _ => none
  | .cond x a b => match cX x, cK P N a, cK P N b with
    | some x, some a, some b => some (.cond x a b)
    | _, _, _ => none
  | .block id c => (cK P N c).map (.block id)
  | .loop c => (cK P N c).map .loop
  | .exit id => some (.exit id)
  | .ret => some .ret
  | .rangeFunc g ps a b => match cX g, cK P N a, cK P N b with
    | some g, some a, some b => some (.rfun g ps.toList a b)
    | _, _, _ => none
  | _ => none

/-- From the state st on the code s ends as Q says. -/
def SW (P : Program) (N k0 : Nat) (s : SCo) (st : St) (Q : Exit → St → Prop) : Prop :=
  ∀ c, cK P N c = some s → ∀ rd, (s.rf = true → rd = none) → ∀ μ0 M0 w0 c0 a w, StA N μ0 M0 w0 c0 k0 st a w → c.wpIn (Wide rd) 0 P (fun e a' w' => ∃ st', Q e st' ∧ StA N μ0 M0 w0 c0 k0 st' a' w') a w

section
variable {P : Program} {N k0 : Nat} {st : St} {Q : Exit → St → Prop}

theorem SW.mono {s : SCo} {Q' : Exit → St → Prop} (h : SW P N k0 s st Q) (hq : ∀ e st', Q e st' → Q' e st') : SW P N k0 s st Q' :=
  fun c hc rd hrf μ0 M0 w0 c0 a w hSt => wpIn_mono (h c hc rd hrf μ0 M0 w0 c0 a w hSt) fun e a' w' ⟨st', h1, h2⟩ => ⟨st', hq e st' h1, h2⟩
theorem SW.skip (h : Q .normal st) : SW P N k0 .skip st Q := by
  intro c hc rd hrf μ0 M0 w0 c0 a w hSt
  cases c <;> simp only [cK] at hc <;> first
    | (cases hc; done)
    | exact wpIn_skip ⟨st, h, hSt⟩
    | (exfalso; split at hc <;> cases hc; done)
    | (exfalso; obtain ⟨_, _, hh⟩ := Option.map_eq_some_iff.1 hc; cases hh; done)
theorem SW.exit {id : Nat} (h : Q (.exit id) st) : SW P N k0 (.exit id) st Q := by
  intro c hc rd hrf μ0 M0 w0 c0 a w hSt
  cases c <;> simp only [cK] at hc <;> first
    | (cases hc; done)
    | (injection hc with hc; injection hc with hc; subst hc; exact wpIn_exit ⟨st, h, hSt⟩)
    | (exfalso; split at hc <;> cases hc; done)
    | (exfalso; obtain ⟨_, _, hh⟩ := Option.map_eq_some_iff.1 hc; cases hh; done)
theorem SW.ret (h : Q .ret st) : SW P N k0 .ret st Q := by
  intro c hc rd hrf μ0 M0 w0 c0 a w hSt
  cases c <;> simp only [cK] at hc <;> first
    | (cases hc; done)
    | exact wpIn_ret ⟨st, h, hSt⟩
    | (exfalso; split at hc <;> cases hc; done)
    | (exfalso; obtain ⟨_, _, hh⟩ := Option.map_eq_some_iff.1 hc; cases hh; done)

theorem SW.reg {sis : List SI} {bs : List Nat} {draw : Bool} (crs : List CR) {st' : St} {ob : Prop} {ts : List (Bool × List Nat)} (hm : P.follows .mixedOrders = true) (hrun : runs P sis st crs = some (st', ob, ts)) (hob : ob)
    (hconf : (!draw || noConf bs ts) = true) (h : Q .normal st') : SW P N k0 (.reg sis bs draw) st Q := by
  intro c hc rd hrf μ0 M0 w0 c0 a w hSt
  cases c <;> simp only [cK] at hc <;> first
    | (cases hc; done)
    | (exfalso; obtain ⟨_, _, hh⟩ := Option.map_eq_some_iff.1 hc; cases hh; done)
    | skip
  case region id ops dr =>
    split at hc <;> first | (cases hc; done) | skip
    rename_i sis' bs' hR
    injection hc with hc
    injection hc with e1 e2 e3
    subst e1; subst e2; subst e3
    exact region_rule hR hrun hob (fun hd => by simpa [hd] using hconf) hm hSt fun a' w' hSt' => ⟨st', h, hSt'⟩
  all_goals (exfalso; split at hc <;> cases hc)

theorem SW.seq {x y : SCo} (h : SW P N k0 x st fun e st' => match e with | .normal => SW P N k0 y st' Q | e => Q e st') : SW P N k0 (.seq x y) st Q := by
  intro c hc rd hrf μ0 M0 w0 c0 a w hSt
  cases c <;> simp only [cK] at hc <;> first
    | (cases hc; done)
    | (exfalso; obtain ⟨_, _, hh⟩ := Option.map_eq_some_iff.1 hc; cases hh; done)
    | skip
  case seq cx cy =>
    split at hc <;> first | (cases hc; done) | skip
    rename_i x' y' hx hy
    injection hc with hc
    injection hc with e1 e2
    subst e1; subst e2
    refine wpIn_seq (wpIn_mono (h cx hx rd (fun e => hrf (by simp [SCo.rf, e])) μ0 M0 w0 c0 a w hSt) fun e a' w' ⟨st', h1, h2⟩ => ?_)
    cases e <;> first
      | exact h1 cy hy rd (fun e => hrf (by simp [SCo.rf, e])) μ0 M0 w0 c0 a' w' h2
      | exact ⟨st', h1, h2⟩
  all_goals (exfalso; split at hc <;> cases hc)

theorem SW.block {id : Nat} {x : SCo} (h : SW P N k0 x st fun e st' => match e with | .exit id' => if id' = id then Q .normal st' else Q (.exit id') st' | e => Q e st') : SW P N k0 (.block id x) st Q := by
  intro c hc rd hrf μ0 M0 w0 c0 a w hSt
  cases c <;> simp only [cK] at hc <;> first
    | (cases hc; done)
    | (exfalso; split at hc <;> cases hc; done)
    | skip
  case block id' cx =>
    obtain ⟨x', hx, e1⟩ := Option.map_eq_some_iff.1 hc
    injection e1 with e1 e2
    subst e1; subst e2
    refine wpIn_block (wpIn_mono (h cx hx rd (fun e => hrf (by simp [SCo.rf, e])) μ0 M0 w0 c0 a w hSt) fun e a' w' ⟨st', h1, h2⟩ => ?_)
    cases e <;> try exact ⟨st', h1, h2⟩
    rename_i i
    simp only [Exit.inBlock] at h1 ⊢
    split
    · rename_i e1; rw [if_pos e1] at h1; exact ⟨st', h1, h2⟩
    · rename_i e1; rw [if_neg e1] at h1; exact ⟨st', h1, h2⟩
  all_goals (exfalso; obtain ⟨_, _, hh⟩ := Option.map_eq_some_iff.1 hc; cases hh)

theorem SW.cond {x : X} {y z : SCo} {b : Bool} (hx : ev (fun t => st.env.lookup t) x = some (.d (.bool b))) (h1 : b = true → SW P N k0 y st Q) (h2 : b = false → SW P N k0 z st Q) : SW P N k0 (.cond x y z) st Q := by
  intro c hc rd hrf μ0 M0 w0 c0 a w hSt
  cases c <;> simp only [cK] at hc <;> first
    | (cases hc; done)
    | (exfalso; obtain ⟨_, _, hh⟩ := Option.map_eq_some_iff.1 hc; cases hh; done)
    | skip
  case cond o cy cz =>
    split at hc <;> first | (cases hc; done) | skip
    rename_i x' y' z' hx' hy hz
    injection hc with hc
    injection hc with e1 e2 e3
    subst e1; subst e2; subst e3
    obtain ⟨hk0, hdf, hsz, μ, M, hsl, hS, hE⟩ := hSt
    have hk : Known (fun t => st.env.lookup t) #[o] (· < st.k) μ M a := ⟨fun t _ s hs => hsl t s hs, hS.mem.glob⟩
    have hb := Rp.bool_iff.1 (hk.get (by simp) hx' hx)
    exact wpIn_cond_split hb (fun e => h1 e cy hy rd (fun e => hrf (by simp [SCo.rf, e])) μ0 M0 w0 c0 a w ⟨hk0, hdf, hsz, μ, M, hsl, hS, hE⟩) (fun e => h2 e cz hz rd (fun e => hrf (by simp [SCo.rf, e])) μ0 M0 w0 c0 a w ⟨hk0, hdf, hsz, μ, M, hsl, hS, hE⟩)
  all_goals (exfalso; split at hc <;> cases hc)

/-! ### weaker states -/
def EnvW (ρ : Nat → Nat) (k : Nat) (env : List (Nat × SV)) : List (Nat × SV) → Prop
  | [] => True
  | (t, s) :: r => env.lookup t = some (s.ren ρ) ∧ s.ok (fun n => decide (n < k)) = true ∧ EnvW ρ k env r
def HpW (ρ : Nat → Nat) (k : Nat) (hp : Hp) : Hp → Prop
  | [] => True
  | (n, ob) :: r => lk hp (ρ n) = some (ob.ren ρ) ∧ n < k ∧ ob.ok (fun n => decide (n < k)) = true ∧ HpW ρ k hp r
def InjW (ρ : Nat → Nat) (h : Hp) : Prop := ∀ n, n ∈ h.map (·.1) → ∀ m, m ∈ h.map (·.1) → ρ n = ρ m → n = m
/-- st1 says less than st, or calls things otherwise. -/
def Weak (k0 : Nat) (st st1 : St) (ρ : Nat → Nat) : Prop :=
  k0 ≤ st1.k ∧ (∀ n, n < k0 → ρ n = n) ∧ EnvW ρ st1.k st.env st1.env ∧ HpW ρ st1.k st.hp st1.hp ∧ InjW ρ st1.hp

theorem EnvW.get {ρ : Nat → Nat} {k : Nat} {env : List (Nat × SV)} : ∀ {env1 : List (Nat × SV)}, EnvW ρ k env env1 → ∀ t s, env1.lookup t = some s → env.lookup t = some (s.ren ρ) ∧ s.ok (fun n => decide (n < k)) = true
  | [], _, t, s, h => by simp at h
  | (t', s') :: r, hw, t, s, h => by
    simp only [EnvW] at hw
    simp only [List.lookup] at h
    split at h
    · rename_i e
      have e : t = t' := by simpa using e
      injection h with h
      subst h; subst e
      exact ⟨hw.1, hw.2.1⟩
    · exact EnvW.get hw.2.2 t s h
theorem HpW.get {ρ : Nat → Nat} {k : Nat} {hp : Hp} : ∀ {hp1 : Hp}, HpW ρ k hp hp1 → ∀ n ob, lk hp1 n = some ob → lk hp (ρ n) = some (ob.ren ρ) ∧ n < k ∧ ob.ok (fun n => decide (n < k)) = true
  | [], _, n, ob, h => by simp [lk_nil] at h
  | (n', ob') :: r, hw, n, ob, h => by
    simp only [HpW] at hw
    rw [lk_cons] at h
    split at h
    · rename_i e
      injection h with h
      subst h; subst e
      exact ⟨hw.1, hw.2.1, hw.2.2.1⟩
    · exact HpW.get hw.2.2.2 n ob h
theorem lk_name {h : Hp} {n : Nat} (hn : lk h n ≠ none) : n ∈ h.map (·.1) := by
  obtain ⟨ob, ho⟩ := Option.ne_none_iff_exists'.1 hn
  exact List.mem_map.2 ⟨(n, ob), lk_mem ho, rfl⟩

theorem StA.weak {μ0 : Nat → Nm} {M0 : Mem} {w0 : World} {c0 : Nat → Option Ob} {st1 : St} {ρ : Nat → Nat} {a : Act} {w : World} (h : StA N μ0 M0 w0 c0 k0 st a w) (hw : Weak k0 st st1 ρ) : StA N μ0 M0 w0 c0 k0 st1 a w := by
  obtain ⟨hk0, hdf, hsz, μ, M, hsl, hS, hE⟩ := h
  obtain ⟨h1, h2, h3, h4, h5⟩ := hw
  let ν : Nat → Nm := fun n => if n < st1.k then μ (ρ n) else μ0 n
  have hν : ∀ n, n < st1.k → ν n = μ (ρ n) := fun n hn => by simp [ν, hn]
  have hν' : ∀ n, decide (n < st1.k) = true → ν n = μ (ρ n) := fun n hn => hν n (by simpa using hn)
  have hq : ∀ n, decide (n < st1.k) = true → n < st1.k := fun n hn => by simpa using hn
  refine ⟨h1, hdf, hsz, ν, M, fun t s hs => ?_, ⟨hS.mem, fun n ob hn => ?_, fun n m hn hm ln lm e => ?_⟩, ⟨fun n hn => ?_, hE.mem, hE.frame, hE.size, fun n hn => ?_, hE.os, hE.tape, hE.output⟩⟩
  · obtain ⟨a1, a2⟩ := h3.get t s hs
    exact Rp.to a2 hq hν' (hsl t _ a1).rep
  · obtain ⟨a1, a2, a3⟩ := h4.get n ob hn
    obtain ⟨_, b1, b2⟩ := hS.obs _ _ a1
    rw [hν n a2]
    exact ⟨a2, b1.to a3 hq hν', b2⟩
  · obtain ⟨o1, ho1⟩ := Option.ne_none_iff_exists'.1 hn
    obtain ⟨o2, ho2⟩ := Option.ne_none_iff_exists'.1 hm
    obtain ⟨a1, a2, _⟩ := h4.get n o1 ho1
    obtain ⟨b1, b2, _⟩ := h4.get m o2 ho2
    rw [hν n a2] at e ln
    rw [hν m b2] at e lm
    exact h5 n (lk_name hn) m (lk_name hm) (hS.inj _ _ (by rw [a1]; simp) (by rw [b1]; simp) ln lm e)
  · by_cases hk : n < k0
    · rw [hν n (by omega), h2 n hk]
      exact hE.old n (by omega)
    · simp only [ν]
      rw [if_neg (by omega)]
  · obtain ⟨o1, ho1⟩ := Option.ne_none_iff_exists'.1 hn
    obtain ⟨a1, a2, _⟩ := h4.get n o1 ho1
    rw [hν n a2]
    have hnm := hE.names (ρ n) (by rw [a1]; simp)
    by_cases hk : n < k0
    · rw [h2 n hk] at hnm ⊢
      rcases hnm with ⟨⟨b1, _⟩, _⟩ | ⟨b1, b2⟩
      · omega
      · exact .inr ⟨by omega, b2⟩
    · refine .inl ⟨⟨by omega, a2⟩, ?_⟩
      rcases hnm with ⟨_, b⟩ | ⟨b1, b2⟩
      · exact b
      · exact fun l => .inr ⟨ρ n, b2, by rw [hE.old _ b1] at l; exact l, by rw [hE.old _ b1]⟩

theorem SW.weak {s : SCo} {st1 : St} (ρ : Nat → Nat) (hw : Weak k0 st st1 ρ) (h : SW P N k0 s st1 Q) : SW P N k0 s st Q :=
  fun c hc rd hrf μ0 M0 w0 c0 a w hSt => h c hc rd hrf μ0 M0 w0 c0 a w (hSt.weak hw)

/-- A loop, by a family of states at its head. -/
theorem SW.loop {α : Type} {x : SCo} (I : α → St) (m : α → Nat) (i0 : α) (ρ0 : Nat → Nat) (h0 : Weak k0 st (I i0) ρ0)
    (round : ∀ i, SW P N k0 x (I i) fun e st' => match e with | .normal => ∃ j ρ, m j < m i ∧ Weak k0 st' (I j) ρ | e => Q e st') : SW P N k0 (.loop x) st Q := by
  intro c hc rd hrf μ0 M0 w0 c0 a w hSt
  cases c <;> simp only [cK] at hc <;> first
    | (cases hc; done)
    | (exfalso; split at hc <;> cases hc; done)
    | skip
  case loop cx =>
    obtain ⟨x', hx, e1⟩ := Option.map_eq_some_iff.1 hc
    injection e1 with e1
    subst e1
    have key : ∀ n i a w, m i = n → StA N μ0 M0 w0 c0 k0 (I i) a w → (Code.loop cx).wpIn (Wide rd) 0 P (fun e a' w' => ∃ st', Q e st' ∧ StA N μ0 M0 w0 c0 k0 st' a' w') a w := by
      intro n i a w hn hI
      refine wpIn_loop (fun a w => ∃ i, StA N μ0 M0 w0 c0 k0 (I i) a w) (fun a w => Classical.epsilon fun n => ∃ i, m i = n ∧ StA N μ0 M0 w0 c0 k0 (I i) a w ∧ ∀ j, StA N μ0 M0 w0 c0 k0 (I j) a w → m i ≤ m j) ⟨i, hI⟩ fun a w ⟨i, hI⟩ => ?_
      have least : ∀ a w, (∃ i, StA N μ0 M0 w0 c0 k0 (I i) a w) → ∃ n, ∃ i, m i = n ∧ StA N μ0 M0 w0 c0 k0 (I i) a w ∧ ∀ j, StA N μ0 M0 w0 c0 k0 (I j) a w → m i ≤ m j := by
        intro a w ⟨i, hI⟩
        have : ∀ n i, m i = n → StA N μ0 M0 w0 c0 k0 (I i) a w → ∃ n, ∃ i, m i = n ∧ StA N μ0 M0 w0 c0 k0 (I i) a w ∧ ∀ j, StA N μ0 M0 w0 c0 k0 (I j) a w → m i ≤ m j := by
          intro n
          induction n using Nat.strongRecOn with
          | _ n ih =>
            intro i hi hI
            by_cases hh : ∃ j, StA N μ0 M0 w0 c0 k0 (I j) a w ∧ m j < m i
            · obtain ⟨j, hj, hlt⟩ := hh
              exact ih (m j) (by omega) j rfl hj
            · exact ⟨m i, i, rfl, hI, fun j hj => Nat.le_of_not_lt fun h => hh ⟨j, hj, h⟩⟩
        exact this (m i) i rfl hI
      obtain ⟨i', e1, hI', hmin⟩ := Classical.epsilon_spec (least a w ⟨i, hI⟩)
      refine wpIn_mono (round i' cx hx rd (fun e => hrf (by simp [SCo.rf, e])) μ0 M0 w0 c0 a w hI') fun e a' w' ⟨st', h1, h2⟩ => ?_
      cases e <;> try exact ⟨st', h1, h2⟩
      obtain ⟨j, ρ, hlt, hw⟩ := h1
      have hJ := h2.weak hw
      refine ⟨⟨j, hJ⟩, ?_⟩
      obtain ⟨j', e2, hJ', hmin'⟩ := Classical.epsilon_spec (least a' w' ⟨j, hJ⟩)
      rw [← e1, ← e2]
      exact Nat.lt_of_le_of_lt (hmin' j hJ) hlt
    exact key (m i0) i0 a w rfl (hSt.weak h0)
  all_goals (exfalso; obtain ⟨_, _, hh⟩ := Option.map_eq_some_iff.1 hc; cases hh)

/-! ### from a body to a contract -/
inductive RV where
  | tmp (t : Nat)
  | cell (t : Nat) (sz : Option Nat)
def cRV (P : Program) : List ResultVar → Option (List RV)
  | [] => some []
  | .tmp t :: r => match cRV P r with
    | some r => some (.tmp t :: r)
    | none => none
  | .cell t ty :: r => match tySz P ty, cRV P r with
    | some sz, some r => some (.cell t sz :: r)
    | _, _ => none
def rvV (st : St) : List RV → Option (List SV × Prop)
  | [] => some ([], True)
  | .tmp t :: r => match st.env.lookup t, rvV st r with
    | some s, some (ss, ob) => some (s :: ss, ob)
    | _, _ => none
  | .cell t sz :: r => match st.env.lookup t, rvV st r with
    | some s, some (ss, ob) => match cellsAt (lk st.hp) s with
      | some (cs, off, _) => match ldv cs off sz with
        | some v => some (v :: ss, ldo cs off sz ∧ ob)
        | none => none
      | none => none
    | _, _ => none
def retV : List SV → SV
  | [s] => s
  | ss => .tup ss

def rvRun (tmps : Array Value) : ResultVar → Sem Value
  | .tmp t => pure (tmps.getD t undef)
  | .cell t ty => do loadVar ty (← asAddr (tmps.getD t undef))
theorem results_eq (fn : Func) (tmps : Array Value) : results fn tmps = (do let vs ← fn.results.mapM (rvRun tmps); pure (if h : vs.size = 1 then vs[0] else .tuple vs) : Sem Value) := by
  unfold results
  congr 1
theorem rv_run {w : World} {a : Act} {p : Nat → Prop} {μ : Nat → Nm} {M : Mem} (hsl : ∀ t s, st.env.lookup t = some s → Rp p μ M s (a.tmps.getD t undef)) (hS : SatF p μ M (lk st.hp) w) :
    ∀ (rs : List ResultVar) (rvs : List RV) (ss : List SV) (ob : Prop), cRV P rs = some rvs → rvV st rvs = some (ss, ob) → ob →
      ∃ vs : List Value, (rs.mapM (rvRun a.tmps)).run P w = .ok vs w ∧ Rps p μ M ss vs
  | [], rvs, ss, ob, h1, h2, h3 => by
    simp [cRV] at h1; subst h1
    simp [rvV] at h2; obtain ⟨rfl, _⟩ := h2
    exact ⟨[], by simp, Rps.nil_iff.2 rfl⟩
  | .tmp t :: rs, rvs, ss, ob, h1, h2, h3 => by
    simp only [cRV] at h1
    split at h1 <;> first | (cases h1; done) | skip
    rename_i r hr
    injection h1 with h1; subst h1
    simp only [rvV] at h2
    split at h2 <;> first | (cases h2; done) | skip
    rename_i s ss' ob' hs hss
    injection h2 with h2
    injection h2 with h2 h2'
    subst h2; subst h2'
    obtain ⟨vs, h4, h5⟩ := rv_run hsl hS rs r ss' _ hr hss h3
    refine ⟨_ :: vs, ?_, Rps.cons_iff.2 ⟨_, vs, rfl, hsl t s hs, h5⟩⟩
    simp only [List.mapM_cons, rvRun, Sem.run_bind, Sem.run_pure, Result.andThen_ok, h4]
  | .cell t ty :: rs, rvs, ss, ob, h1, h2, h3 => by
    simp only [cRV] at h1
    split at h1 <;> first | (cases h1; done) | skip
    rename_i sz r hsz hr
    injection h1 with h1; subst h1
    simp only [rvV] at h2
    split at h2 <;> first | (cases h2; done) | skip
    rename_i s ss' ob' hs hss
    split at h2 <;> first | (cases h2; done) | skip
    rename_i cs off F hc
    split at h2 <;> first | (cases h2; done) | skip
    rename_i v hv
    injection h2 with h2
    injection h2 with h2 h2'
    subst h2; subst h2'
    obtain ⟨vs, h4, h5⟩ := rv_run hsl hS rs r ss' _ hr hss h3.2
    obtain ⟨b, q, e1, hrd⟩ := cellsAt_reads hc (hsl t s hs) (hS.sub (cellsAt_sub hc))
    obtain ⟨u, hu, hu'⟩ := ldv_run hsz hv h3.1 hrd
    refine ⟨u :: vs, ?_, Rps.cons_iff.2 ⟨u, vs, rfl, hu', h5⟩⟩
    have hA : (asAddr (a.tmps.getD t undef)).run P w = .ok ⟨b, q + off, none⟩ w := by rw [e1]; rfl
    simp only [List.mapM_cons, rvRun, hA, Sem.run_bind, Sem.run_pure, Result.andThen_ok, hu, h4]

theorem results_run {w : World} {a : Act} {fn : Func} {rvs : List RV} {ss : List SV} {ob : Prop} {p : Nat → Prop} {μ : Nat → Nm} {M : Mem} (hsl : ∀ t s, st.env.lookup t = some s → Rp p μ M s (a.tmps.getD t undef)) (hS : SatF p μ M (lk st.hp) w)
    (h1 : cRV P fn.results.toList = some rvs) (h2 : rvV st rvs = some (ss, ob)) (h3 : ob) : ∃ v, (results fn a.tmps).run P w = .ok v w ∧ Rp p μ M (retV ss) v := by
  obtain ⟨vs, h4, h5⟩ := rv_run hsl hS fn.results.toList rvs ss ob h1 h2 h3
  have h6 : (fn.results.mapM (rvRun a.tmps)).run P w = .ok vs.toArray w := by
    rw [← Array.toArray_toList (xs := fn.results), List.mapM_toArray, Sem.run_map, h4]
    rfl
  have hl := h5.length
  rw [results_eq]
  simp only [Sem.run_bind, h6, Result.andThen_ok, Sem.run_pure]
  match ss, vs, hl, h5 with
  | [s], [v], _, h5 =>
    obtain ⟨u, us, e, hu, _⟩ := Rps.cons_iff.1 h5
    injection e with e1 e2
    subst e1
    exact ⟨v, by rw [dif_pos (by rfl)]; rfl, hu⟩
  | [], [], _, h5 => exact ⟨_, rfl, Rp.tup_iff.2 ⟨#[], by simp, h5⟩⟩
  | s :: s' :: ss, [], h, _ => simp at h
  | s :: s' :: ss, [v], h, _ => simp at h
  | s :: s' :: ss, v :: v' :: vs, _, h5 => exact ⟨_, rfl, Rp.tup_iff.2 ⟨(v :: v' :: vs).toArray, by simp, by simpa using h5⟩⟩

theorem SatF.put {p : Nat → Prop} {μ : Nat → Nm} {M : Mem} {c : Nat → Option Ob} {w : World} (hS : SatF p μ M c w) {r : Nat} {y : Obj} (x : Obj) (hr : w.heap[r]? = some y) (hf : foreign y = true) : SatF p μ M c (w.putObj r x) := by
  refine ⟨⟨fun b o v h => ?_, hS.mem.glob⟩, fun n ob hn => ?_, hS.inj⟩
  · have h1 := hS.mem b o v h
    have hb : b ≠ r := by
      rintro rfl
      simp only [World.cell?, hr] at h1
      cases y <;> simp [foreign] at hf h1
    simp only [World.cell?, World.putObj_heap_other hb] at h1 ⊢
    exact h1
  · obtain ⟨a1, a2, a3⟩ := hS.obs n ob hn
    exact ⟨a1, a2.more (fun _ h => h) (fun _ _ => rfl) (Mem.le_refl _) (fun hl => World.putObj_heap_other (hS.not hr hf n (by rw [hn]; simp) hl)), a3⟩
theorem Ev.put {c c' : Nat → Option Ob} {new : Nat → Prop} {μ μ' : Nat → Nm} {M M' : Mem} {w0 w : World} (hE : Ev c new μ M w0 c' μ' M' w) {r : Nat} (x : Obj) (hr : w0.heap.size ≤ r) : Ev c new μ M w0 c' μ' M' (w.putObj r x) :=
  ⟨hE.old, hE.mem, fun b hb hn => ⟨(World.putObj_heap_other (by omega)).trans (hE.frame b hb hn).1, (hE.frame b hb hn).2⟩, by rw [World.putObj_size]; exact hE.size, hE.names, hE.os, hE.tape, hE.output⟩
theorem Marks.put {w0 w : World} {r : Nat} (x : Obj) : ∀ df, (∀ d', d' ∈ df → d' ≠ ⟨.collected r, #[]⟩) → Marks w0 w df → Marks w0 (w.putObj r x) df
  | [], _, _ => trivial
  | d :: ds, hne, ⟨⟨r', h1, h2, h3, h4⟩, h5⟩ =>
    ⟨⟨r', h1, h2, (World.putObj_heap_other (fun e => hne d (by simp) (by rw [h1, e]))).trans h3, h4⟩, Marks.put x ds (fun d' hd => hne d' (by simp [hd])) h5⟩
/-- A frame goes out over its marks. -/
theorem leaves_marks {fn : Func} {tmps : Array Value} {R : Ending → World → Prop} {p : Nat → Prop} {μ : Nat → Nm} {M : Mem} {c : Nat → Option Ob} {c0 : Nat → Option Ob} {new : Nat → Prop} {μ0 : Nat → Nm} {M0 : Mem} {w0 : World} :
    ∀ (df : List Deferred) (w : World), Marks w0 w df → SatF p μ M c w → Ev c0 new μ0 M0 w0 c μ M w → (∀ w', SatF p μ M c w' → Ev c0 new μ0 M0 w0 c μ M w' → LeavesIn (Wide none) 0 P fn tmps R [] .returning w') → LeavesInM (Wide none) 0 P fn tmps R df .returning w
  | [], w, _, hS, hE, h => h w hS hE
  | d :: ds, w, ⟨⟨r, h1, h2, h3, h4⟩, h5⟩, hS, hE, h => by
    refine ⟨by simp, .inl ⟨r, _, by rw [h1], run_takeDeferred h3, ?_⟩⟩
    exact leaves_marks ds _ (Marks.put _ ds h4 h5) (hS.put _ h3 rfl) (hE.put _ h2) h

/-- What holds where the body ends. -/
def Fin (k nk : Nat) (rvs : List RV) (Q : SV → Hp → Prop) (st : St) : Prop :=
  ∃ ss ob F', rvV st rvs = some (ss, ob) ∧ ob ∧ HSub F' st.hp ∧ Q (retV ss) F' ∧ (retV ss).ok (fun n => decide (n < k + nk)) = true ∧ F'.ok (fun n => decide (n < k + nk)) = true ∧ k + nk ≤ st.k

def argE : Nat → List SV → List (Nat × SV)
  | _, [] => []
  | i, s :: ss => (i, s) :: argE (i + 1) ss

theorem argE_get : ∀ (i : Nat) (ss : List SV) (t : Nat) (s : SV), (argE i ss).lookup t = some s → i ≤ t ∧ ss[t - i]? = some s
  | i, [], t, s, h => by simp [argE] at h
  | i, x :: ss, t, s, h => by
    simp only [argE, List.lookup] at h
    split at h
    · rename_i e
      have e : t = i := by simpa using e
      injection h with h
      subst h; subst e
      simp
    · obtain ⟨h1, h2⟩ := argE_get (i + 1) ss t s h
      refine ⟨by omega, ?_⟩
      rw [show t - i = (t - (i + 1)) + 1 by omega]
      simpa using h2

theorem SB.of_body {f : FuncId} {fn : Func} {c : Code} {s : SCo} {rvs : List RV} {args : List SV} {F : Hp} {k nk : Nat} {Q : SV → Hp → Prop} (hf : P.funcs[f]? = some fn) (hb : fn.body = some c) (hc : cK P fn.ntmps c = some s)
    (hrv : cRV P fn.results.toList = some rvs) (hcall : Callable P f = true) (hargs : SV.oks (fun n => decide (n < k)) args = true) (hF : F.ok (fun n => decide (n < k)) = true) (hN : args.length ≤ fn.ntmps)
    (h : SW P fn.ntmps k s ⟨argE 0 args, F, k⟩ fun e st' => match e with | .normal => Fin k nk rvs Q st' | .ret => Fin k nk rvs Q st' | _ => False) : SB P f args F k nk Q := by
  refine ⟨hcall, hargs, hF, fun μ M w vals hr hS => callsIn_W (r := none) (n := 0) |>.1 (callsIn_of_wp_marks hf hb trivial ?_)⟩
  have hlen : vals.size = args.length := by simpa using hr.length
  have hSt : StA fn.ntmps μ M w (lk F) k ⟨argE 0 args, F, k⟩ { tmps := vals ++ Array.replicate (fn.ntmps - vals.size) undef, defers := [] } w := by
    refine ⟨Nat.le_refl _, trivial, by simp; omega, μ, M, fun t s hs => ?_, hS, Ev.refl _ _ _ _ _ fun n hn hh => absurd hh.2 (Nat.not_lt.2 hh.1)⟩
    obtain ⟨_, h2⟩ := argE_get 0 args t s hs
    obtain ⟨u, hu, hr'⟩ := hr.get h2
    have hu' : vals[t]? = some u := by simpa using hu
    have hlt : t < vals.size := (Array.getElem?_eq_some_iff.1 hu').1
    have : (vals ++ Array.replicate (fn.ntmps - vals.size) undef).getD t undef = u := by
      rw [Array.getD_eq_getD_getElem?, Array.getElem?_append_left hlt, hu']
      rfl
    rw [this]
    exact hr'
  refine wpIn_mono (h c hc none (fun _ => rfl) μ M w (lk F) _ w hSt) ?_
  rintro e a' w' ⟨st', hQ, hSt'⟩
  obtain ⟨_, hdf, _, μ1, M1, hsl, hS0, hE0⟩ := hSt'
  have fin : Fin k nk rvs Q st' → LeavesInM (Wide none) 0 P fn a'.tmps (fun e w' => ∃ r F' μ' M' u, e = Ending.returned u ∧ Q r F' ∧ r.ok (fun n => decide (n < k + nk)) = true ∧ F'.ok (fun n => decide (n < k + nk)) = true ∧ Rep μ' M' r u ∧ SatF (· < k + nk) μ' M' (lk F') w' ∧
      Ev (lk F) (fun n => k ≤ n ∧ n < k + nk) μ M w (lk F') μ' M' w') a'.defers .returning w' := by
    rintro ⟨ss, ob, F', h1, h2, h3, h4, h5, h6, h7⟩
    refine leaves_marks a'.defers w' hdf hS0 hE0 fun w' hS1 hE1 => ?_
    obtain ⟨v, hv, hr'⟩ := results_run hsl hS1 hrv h1 h2
    refine ⟨v, hv, retV ss, F', fun n => if n < k + nk then μ1 n else μ n, M1, v, rfl, h4, h5, h6, ?_, ?_, ?_⟩
    · exact Rep.congr (fun n hn => by simp only [decide_eq_true_eq] at hn; rw [if_pos hn]) _ v h5 hr'.rep
    · refine ⟨hS1.mem, fun n ob hn => ?_, fun n m hn hm ln lm e => ?_⟩
      · obtain ⟨a1, a2⟩ := Hp.ok_lk h6 hn
        simp only [decide_eq_true_eq] at a1
        obtain ⟨_, b1, b2⟩ := hS1.obs n ob (h3 n ob hn)
        simp only [if_pos a1]
        refine ⟨a1, ?_, b2⟩
        have hb' : ObRep (· < st'.k) (fun n => μ1 (id n)) M1 w' (μ1 n) (ob.ren id) := by
          have hid : ∀ s : SV, s.ren id = s := fun s => by
            have key : ∀ s : SV, s.ren id = s := by
              intro s
              exact SV.rec (motive_1 := fun s => s.ren id = s) (motive_2 := fun l => SV.rens id l = l) (fun _ => rfl) (fun _ _ => rfl) (fun _ _ => rfl) (fun _ _ _ => rfl) (fun _ _ => rfl) (fun _ => rfl) (fun _ => rfl) (fun _ => rfl) (fun f a c h1 h2 => by simp only [SV.ren, h1, h2]) (fun cs h => by simp only [SV.ren, h]) (fun cs h => by simp only [SV.ren, h]) rfl rfl (fun c cs h1 h2 => by simp only [SV.rens, h1, h2]) s
            exact key s
          have hids : ∀ l : List SV, SV.rens id l = l := fun l => by induction l <;> simp_all [SV.rens]
          have : ob.ren id = ob := by
            cases ob <;> simp [Ob.ren, hids, hid]
          rw [this]; exact b1
        exact ObRep.to a2 (fun m hm => by simpa using hm) (fun m hm => by simp only [decide_eq_true_eq] at hm; simp [hm]) hb'
      · obtain ⟨o1, ho1⟩ := Option.ne_none_iff_exists'.1 hn
        obtain ⟨o2, ho2⟩ := Option.ne_none_iff_exists'.1 hm
        have a1 := (Hp.ok_lk h6 ho1).1
        have a2 := (Hp.ok_lk h6 ho2).1
        simp only [decide_eq_true_eq] at a1 a2
        rw [if_pos a1] at e ln
        rw [if_pos a2] at e lm
        exact hS1.inj n m (by rw [h3 n o1 ho1]; simp) (by rw [h3 m o2 ho2]; simp) ln lm e
    · refine ⟨fun n hn => ?_, hE1.mem, hE1.frame, hE1.size, fun n hn => ?_, hE1.os, hE1.tape, hE1.output⟩
      · by_cases hnk : n < k + nk
        · rw [if_pos hnk]; exact hE1.old n (by omega)
        · rw [if_neg hnk]
      · obtain ⟨o1, ho1⟩ := Option.ne_none_iff_exists'.1 hn
        have a1 := (Hp.ok_lk h6 ho1).1
        simp only [decide_eq_true_eq] at a1
        rw [if_pos a1]
        rcases hE1.names n (by rw [h3 n o1 ho1]; simp) with ⟨b1, b2⟩ | ⟨b1, b2⟩
        · exact .inl ⟨⟨b1.1, a1⟩, b2⟩
        · exact .inr ⟨by omega, b2⟩
  cases e <;> first
    | exact fin hQ
    | exact hQ.elim
end
end Go.Sl

/-
  Small lemmas for walks.
-/
set_option linter.unusedSimpArgs false
set_option linter.unusedSectionVars false
set_option linter.unusedVariables false
namespace Go.Sl
open Go.RowKit

abbrev u32 (n : Nat) : SV := .d (.int .u32 (n : Int))
abbrev u64 (n : Nat) : SV := .d (.int .u64 (n : Int))
abbrev u8 (n : Nat) : SV := .d (.int .u8 (n : Int))
abbrev i64 (n : Int) : SV := .d (.int .i64 n)
abbrev bl (b : Bool) : SV := .d (.bool b)

mutual
theorem SV.ren_id : ∀ s : SV, s.ren id = s
  | .d _ | .ptr _ _ | .gs _ _ | .bs _ _ _ | .vp _ _ | .mp _ | .it _ | .yl _ | .any => rfl
  | .fn f a c => by simp only [SV.ren, SV.rens_id a, SV.rens_id c]
  | .agg cs => by simp only [SV.ren, SV.rens_id cs]
  | .tup cs => by simp only [SV.ren, SV.rens_id cs]
theorem SV.rens_id : ∀ s : List SV, SV.rens id s = s
  | [] => rfl
  | c :: cs => by simp only [SV.rens, SV.ren_id c, SV.rens_id cs]
end
theorem Ob.ren_id (o : Ob) : o.ren id = o := by
  cases o <;> simp [Ob.ren, SV.rens_id, SV.ren_id]

/-- Fewer facts, no other names. -/
def EnvS (k : Nat) (env : List (Nat × SV)) : List (Nat × SV) → Prop
  | [] => True
  | (t, s) :: r => env.lookup t = some s ∧ s.ok (fun n => decide (n < k)) = true ∧ EnvS k env r
def HpS (k : Nat) (hp : Hp) : Hp → Prop
  | [] => True
  | (n, ob) :: r => lk hp n = some ob ∧ n < k ∧ ob.ok (fun n => decide (n < k)) = true ∧ HpS k hp r
def Sub (k0 : Nat) (st st1 : St) : Prop := k0 ≤ st1.k ∧ EnvS st1.k st.env st1.env ∧ HpS st1.k st.hp st1.hp
theorem Sub.weak {k0 : Nat} {st st1 : St} (h : Sub k0 st st1) : Weak k0 st st1 id := by
  obtain ⟨h1, h2, h3⟩ := h
  refine ⟨h1, fun _ _ => rfl, ?_, ?_, fun n _ m _ e => e⟩
  · generalize st1.env = e at h2
    induction e with
    | nil => trivial
    | cons x e ih => exact ⟨by rw [SV.ren_id]; exact h2.1, h2.2.1, ih h2.2.2⟩
  · generalize st1.hp = e at h3
    induction e with
    | nil => trivial
    | cons x e ih => exact ⟨by rw [Ob.ren_id]; exact h3.1, h3.2.1, h3.2.2.1, ih h3.2.2.2⟩

section
variable {P : Program} {N k0 : Nat} {st : St} {Q : Exit → St → Prop}
/-- A loop, by a family of states at its head, no other names. -/
theorem SW.loopS {α : Type} {x : SCo} (I : α → St) (m : α → Nat) (i0 : α) (h0 : Sub k0 st (I i0))
    (round : ∀ i, SW P N k0 x (I i) fun e st' => match e with | .normal => ∃ j, m j < m i ∧ Sub k0 st' (I j) | e => Q e st') : SW P N k0 (.loop x) st Q :=
  SW.loop I m i0 id h0.weak fun i => (round i).mono fun e st' h => by
    cases e <;> first
      | (obtain ⟨j, h1, h2⟩ := h; exact ⟨j, id, h1, h2.weak⟩)
      | exact h
theorem SW.sub {s : SCo} {st1 : St} (hw : Sub k0 st st1) (h : SW P N k0 s st1 Q) : SW P N k0 s st Q := SW.weak id hw.weak h
end

/-! ### flat cells of slices of structs -/
theorem flat_get {α β : Type} (f : α → List β) (sz : Nat) (hf : ∀ x, (f x).length = sz) : ∀ (l : List α) (i j : Nat) (x : α), l[i]? = some x → j < sz → (l.flatMap f)[i * sz + j]? = (f x)[j]?
  | [], i, j, x, h, _ => by simp at h
  | y :: l, 0, j, x, h, hj => by
    simp at h; subst h
    rw [List.flatMap_cons, List.getElem?_append_left (by rw [hf]; omega)]
    simp
  | y :: l, i + 1, j, x, h, hj => by
    simp at h
    rw [List.flatMap_cons, List.getElem?_append_right (by rw [hf, Nat.add_mul]; omega), hf]
    rw [show (i + 1) * sz + j - sz = i * sz + j by rw [Nat.add_mul]; omega]
    exact flat_get f sz hf l i j x h hj
theorem flat_take {α β : Type} (f : α → List β) (sz : Nat) (hf : ∀ x, (f x).length = sz) : ∀ (l : List α) (i : Nat) (x : α), l[i]? = some x → ((l.flatMap f).drop (i * sz)).take sz = f x
  | [], i, x, h => by simp at h
  | y :: l, 0, x, h => by
    simp at h; subst h
    simp [List.flatMap_cons, List.take_left' (hf y)]
  | y :: l, i + 1, x, h => by
    simp at h
    rw [List.flatMap_cons, Nat.add_mul, Nat.one_mul, Nat.add_comm, ← List.drop_drop, List.drop_left' (hf y)]
    exact flat_take f sz hf l i x h
theorem flat_length {α β : Type} (f : α → List β) (sz : Nat) (hf : ∀ x, (f x).length = sz) (l : List α) : (l.flatMap f).length = l.length * sz := by
  induction l with
  | nil => simp
  | cons x l ih => simp [List.flatMap_cons, hf, ih, Nat.add_mul, Nat.add_comm]

/-- i64 numbers that fit. -/
theorem wrap_nat (n : Nat) (h : n < 9223372036854775808) : IntKind.i64.wrap (n : Int) = n := by
  simp [IntKind.wrap, IntKind.bits, IntKind.signed]; omega
theorem wrap_i (n : Int) (h : -9223372036854775808 ≤ n) (h' : n < 9223372036854775808) : IntKind.i64.wrap n = n := by
  simp [IntKind.wrap, IntKind.bits, IntKind.signed]; omega
theorem wrap_succ (n : Nat) (h : n < 9223372036854775807) : IntKind.i64.wrap ((n : Int) + 1) = ((n + 1 : Nat) : Int) := by
  rw [wrap_i _ (by omega) (by omega)]; rfl

theorem HSub.nil (h : Hp) : HSub [] h := fun n ob hn => by simp [lk_nil] at hn

/-- A function that makes nothing that stays: its answer, by its arguments. -/
def Pure (P : Program) (f : FuncId) (args : List SV) (v : SV) : Prop := SB P f args [] 0 0 fun r F => r = v ∧ F = []

theorem SV.none_both {ρ : Nat → Nat} (s : SV) : s.ok (fun n => decide (n < 0)) = true → s.ren ρ = s :=
  SV.rec (motive_1 := fun s => s.ok (fun n => decide (n < 0)) = true → s.ren ρ = s) (motive_2 := fun l => SV.oks (fun n => decide (n < 0)) l = true → SV.rens ρ l = l)
    (fun _ _ => rfl) (fun _ _ h => by simp [SV.ok] at h) (fun _ _ h => by simp [SV.ok] at h) (fun _ _ _ h => by simp [SV.ok] at h) (fun _ _ _ => rfl) (fun _ h => by simp [SV.ok] at h) (fun _ h => by simp [SV.ok] at h) (fun _ h => by simp [SV.ok] at h)
    (fun f a c h1 h2 h => by simp only [SV.ok, Bool.and_eq_true] at h; simp only [SV.ren, h1 h.1, h2 h.2])
    (fun cs h1 h => by simp only [SV.ok] at h; simp only [SV.ren, h1 h]) (fun cs h1 h => by simp only [SV.ok] at h; simp only [SV.ren, h1 h]) (fun _ => rfl)
    (fun _ => rfl) (fun c cs h1 h2 h => by simp only [SV.oks, Bool.and_eq_true] at h; simp only [SV.rens, h1 h.1, h2 h.2]) s
theorem Pure.sc {P : Program} {f : FuncId} {args : List SV} {v : SV} (h : Pure P f args v) (hv : v.ok (fun n => decide (n < 0)) = true) (k : Nat) : SCd P f args [] k 0 v [] := by
  have := SB.at h id k (fun n m hn => absurd hn (Nat.not_lt_zero n)) (fun n hn => absurd hn (Nat.not_lt_zero n)) (fun i hi => absurd hi (Nat.not_lt_zero i))
  rw [SV.rens_id] at this
  refine this.mono ?_
  rintro r F' ⟨r0, F0, ⟨rfl, rfl⟩, rfl, rfl⟩
  exact ⟨SV.none_both _ hv, rfl⟩
theorem fin_pure {rvs : List RV} {st : St} {ss : List SV} {ob : Prop} {v : SV} (h : rvV st rvs = some (ss, ob)) (hob : ob) (hv : retV ss = v) (hok : v.ok (fun n => decide (n < 0)) = true) : Fin 0 0 rvs (fun r F => r = v ∧ F = []) st :=
  ⟨ss, ob, [], h, hob, HSub.nil _, ⟨hv, rfl⟩, by rw [hv]; exact hok, rfl, by omega⟩

structure Vec where
  (a0 a1 a2 a3 a4 a5 a6 a7 : Nat)
  deriving DecidableEq
def Vec.get (v : Vec) : Nat → Nat
  | 0 => v.a0 | 1 => v.a1 | 2 => v.a2 | 3 => v.a3 | 4 => v.a4 | 5 => v.a5 | 6 => v.a6 | 7 => v.a7 | _ => 0
def Vec.of (f : Nat → Nat) : Vec := ⟨f 0, f 1, f 2, f 3, f 4, f 5, f 6, f 7⟩
theorem Vec.get_of (f : Nat → Nat) {r : Nat} (h : r < 8) : (Vec.of f).get r = f r := by
  match r, h with
  | 0, _ | 1, _ | 2, _ | 3, _ | 4, _ | 5, _ | 6, _ | 7, _ => rfl
theorem Vec.ext' {a b : Vec} (h : ∀ r, r < 8 → a.get r = b.get r) : a = b := by
  obtain ⟨a0, a1, a2, a3, a4, a5, a6, a7⟩ := a
  obtain ⟨b0, b1, b2, b3, b4, b5, b6, b7⟩ := b
  have h0 : a0 = b0 := h 0 (by omega)
  have h1 : a1 = b1 := h 1 (by omega)
  have h2 : a2 = b2 := h 2 (by omega)
  have h3 : a3 = b3 := h 3 (by omega)
  have h4 : a4 = b4 := h 4 (by omega)
  have h5 : a5 = b5 := h 5 (by omega)
  have h6 : a6 = b6 := h 6 (by omega)
  have h7 : a7 = b7 := h 7 (by omega)
  subst h0 h1 h2 h3 h4 h5 h6 h7
  rfl
def Vec.ds (v : Vec) : List DV := [.int .u32 v.a0, .int .u32 v.a1, .int .u32 v.a2, .int .u32 v.a3, .int .u32 v.a4, .int .u32 v.a5, .int .u32 v.a6, .int .u32 v.a7]
def Vec.cells (v : Vec) : List SV := [u32 v.a0, u32 v.a1, u32 v.a2, u32 v.a3, u32 v.a4, u32 v.a5, u32 v.a6, u32 v.a7]
theorem Vec.map_ds (v : Vec) : v.ds.map .d = v.cells := rfl
theorem Vec.ds_len (v : Vec) : v.ds.length = 8 := rfl
theorem Vec.cells_get (v : Vec) {r : Nat} (h : r < 8) : v.cells[r]? = some (u32 (v.get r)) := by
  match r, h with
  | 0, _ | 1, _ | 2, _ | 3, _ | 4, _ | 5, _ | 6, _ | 7, _ => rfl
theorem Vec.ds_get (v : Vec) {r : Nat} (h : r < 8) : v.ds[r]? = some (.int .u32 (v.get r)) := by
  match r, h with
  | 0, _ | 1, _ | 2, _ | 3, _ | 4, _ | 5, _ | 6, _ | 7, _ => rfl
theorem Vec.cells_one (v : Vec) : v.cells.all SV.isOne = true := rfl
theorem Vec.cells_len (v : Vec) : v.cells.length = 8 := rfl
theorem Vec.cells_ok (v : Vec) (q : Nat → Bool) : SV.oks q v.cells = true := rfl
def Vec.set (v : Vec) (i x : Nat) : Vec := Vec.of fun r => if r = i then x else v.get r
theorem Vec.cells_set (v : Vec) {i : Nat} (h : i < 8) (x : Nat) : v.cells.set i (u32 x) = (v.set i x).cells := by
  match i, h with
  | 0, _ | 1, _ | 2, _ | 3, _ | 4, _ | 5, _ | 6, _ | 7, _ => rfl
def Vec.wf (v : Vec) : Prop := ∀ r, r < 8 → v.get r < 4294967296
/-- '==' of two vectors, cell by cell. -/
theorem Vec.eqb (a b : Vec) : csqS (rep 8 [true]) a.cells b.cells = some (decide (a = b)) := by
  have h : csqS (rep 8 [true]) a.cells b.cells = some (((a.a0 : Int) == b.a0) && (((a.a1 : Int) == b.a1) && (((a.a2 : Int) == b.a2) && (((a.a3 : Int) == b.a3) && (((a.a4 : Int) == b.a4) && (((a.a5 : Int) == b.a5) && (((a.a6 : Int) == b.a6) && (((a.a7 : Int) == b.a7) && true)))))))) := by
    simp [csqS, cqS, rep, Vec.cells]
  rw [h]
  congr 1
  obtain ⟨a0, a1, a2, a3, a4, a5, a6, a7⟩ := a
  obtain ⟨b0, b1, b2, b3, b4, b5, b6, b7⟩ := b
  rw [Bool.eq_iff_iff]
  simp
  omega
end Go.Sl
