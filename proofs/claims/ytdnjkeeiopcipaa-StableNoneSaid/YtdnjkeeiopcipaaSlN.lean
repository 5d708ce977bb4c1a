/-
  Operations that may go several ways, in a region whose order is fixed; ranging over a map.
-/
import Derived.Test.YtdnjkeeiopcipaaSlR
import Derived.Maps.RangeRun
set_option linter.unusedVariables false
set_option linter.unusedSimpArgs false
set_option linter.unusedSectionVars false
namespace Go.Sl
variable {P : Program}

/-- What an operation does, whichever way it goes. -/
def SoundQ (P : Program) (o : Oper) (E : Nat → Option SV) (H : Nat → Option Ob) (k nk : Nat) (F : Hp) (Q : SV → Hp → Prop) : Prop :=
  (∀ n ob, lk F n = some ob → H n = some ob) ∧
  ∀ (rd : Option Nat) (p : Nat → Prop) (μ : Nat → Nm) (M : Mem) (a : Act) (w : World) (K : Act → World → Prop) (QQ : Exit → Act → World → Prop), (∀ n, (k ≤ n ∧ n < k + nk) → ¬ p n) → Known E o.op.operands p μ M a → SatF p μ M (lk F) w →
    (∀ r F' u μ' M' w', Q r F' → Rp (fun n => p n ∨ (k ≤ n ∧ n < k + nk)) μ' M' r u → SatF (fun n => p n ∨ (k ≤ n ∧ n < k + nk)) μ' M' (lk F') w' → Ev (lk F) (fun n => k ≤ n ∧ n < k + nk) μ M w (lk F') μ' M' w' → K (a.put o.dst u) w') →
    o.wpIn (Wide rd) 0 P a w K QQ
theorem Sound.q {o : Oper} {E : Nat → Option SV} {H : Nat → Option Ob} {k : Nat} {e : Eff} (h : Sound P o E H k e) : SoundQ P o E H k e.nk e.F (fun r F' => r = e.v ∧ F' = e.F') :=
  ⟨h.2, fun rd p μ M a w K QQ h1 h2 h3 h4 => h.1 rd p μ M a w K QQ h1 h2 h3 fun u μ' M' w' a1 a2 a3 => h4 _ _ u μ' M' w' ⟨rfl, rfl⟩ a1 a2 a3⟩

theorem StA.step {N : Nat} {rd : Option Nat} {μ0 : Nat → Nm} {M0 : Mem} {w0 : World} {c0 : Nat → Option Ob} {k0 : Nat} {st : St} {a : Act} {w : World} {o : Oper} {si : SI} {F : Hp} {nk : Nat} {Q : SV → Hp → Prop} (hd : si.dst = o.dst) (hN : ∀ d, o.dst = some d → d < N)
    (h : SoundQ P o (fun t => st.env.lookup t) (lk st.hp) st.k nk F Q) (hro : ∀ r F', Q r F' → roOf si.op = true → F' = F) (hSt : StA N μ0 M0 w0 c0 k0 st a w) {K : Act → World → Prop} {QQ : Exit → Act → World → Prop}
    (hK : ∀ r F', Q r F' → ∀ a' w', StA N μ0 M0 w0 c0 k0 (upd st si ⟨r, F, F', nk, True⟩) a' w' → K a' w') : o.wpIn (Wide rd) 0 P a w K QQ := by
  obtain ⟨hk0, hdf, hsz, μ, M, hsl, hS, hE⟩ := hSt
  have hsub : ∀ n ob, lk F n = some ob → lk st.hp n = some ob := h.1
  refine h.2 rd (· < st.k) μ M a w K QQ (fun n hn => by omega) (fun t _ s hs => hsl t s hs) (hS.sub hsub) fun r F' u μ' M' w' hQ hu hS' hE' => hK r F' hQ _ _ ?_
  have hp : (fun n => n < st.k ∨ (st.k ≤ n ∧ n < st.k + nk)) = (· < st.k + nk) := funext fun n => propext ⟨fun h => by rcases h with h | h <;> omega, fun h => by show n < st.k ∨ _; omega⟩
  have hfr := hS.framed hsub (fun n hn => by omega) hE' hS' fun n h => .inl h
  rw [hp] at hu hfr
  have hnew : ∀ n, (k0 ≤ n ∧ n < st.k) ∨ (st.k ≤ n ∧ n < st.k + nk) ↔ k0 ≤ n ∧ n < st.k + nk := fun n => by omega
  have hlk : lk (hmrg (roOf si.op) st.hp F F') = mrg (lk st.hp) (lk F) (lk F') := lk_hmrg hsub (hro r F' hQ)
  refine ⟨by show k0 ≤ st.k + nk; omega, by rw [put_defers']; exact hdf.ev hS hfr.2, by rw [put_size]; exact hsz, μ', M', fun t s hs => ?_, ?_, ?_⟩
  · have hold : ∀ s, st.env.lookup t = some s → Rp (· < st.k + nk) μ' M' s (a.tmps.getD t undef) := fun s h' =>
      (hsl t s h').more (fun n h => by omega) (fun n h => hE'.old n fun h' => by omega) hE'.mem
    simp only [upd, hd] at hs
    cases hod : o.dst with
    | none => rw [hod] at hs; exact hold s hs
    | some d =>
      rw [hod] at hs
      simp only at hs
      rw [lookup_upd] at hs
      by_cases hdt : d = t
      · subst hdt
        simp at hs
        subst hs
        rw [put_same (by rw [hsz]; exact hN d hod)]
        exact hu
      · rw [if_neg hdt] at hs
        rw [put_other (fun e => hdt e.symm)]
        exact hold s hs
  · show SatF _ _ _ (lk (hmrg (roOf si.op) st.hp F F')) _
    rw [hlk]; exact hfr.1
  · show Ev _ _ _ _ _ (lk (hmrg (roOf si.op) st.hp F F')) _ _ _
    rw [hlk]
    exact (hE.trans hfr.2).new_iff fun n => hnew n
theorem StA.skip {N : Nat} {μ0 : Nat → Nm} {M0 : Mem} {w0 : World} {c0 : Nat → Option Ob} {k0 : Nat} {st : St} {a : Act} {w : World} {si : SI} {d : Option Nat} (hd : si.dst = d) (hN : ∀ x, d = some x → x < N)
    (hSt : StA N μ0 M0 w0 c0 k0 st a w) : StA N μ0 M0 w0 c0 k0 (upd st si ⟨.tup [], [], [], 0, True⟩) (a.put d undef) w := by
  obtain ⟨hk0, hdf, hsz, μ, M, hsl, hS, hE⟩ := hSt
  have hh : hmrg (roOf si.op) st.hp [] [] = st.hp := by unfold hmrg; split <;> rfl
  refine ⟨hk0, by rw [put_defers']; exact hdf, by rw [put_size]; exact hsz, μ, M, fun t s hs => ?_, by simp only [upd, hh]; exact hS, by simp only [upd, hh]; exact hE⟩
  simp only [upd, hd] at hs
  cases d with
  | none => exact hsl t s hs
  | some d =>
    simp only at hs
    rw [lookup_upd] at hs
    by_cases hdt : d = t
    · subst hdt
      simp at hs
      subst hs
      rw [put_undef]
      exact Rp.tup_iff.2 ⟨#[], rfl, Rps.nil_iff.2 rfl⟩
    · rw [if_neg hdt] at hs
      rw [put_other (fun e => hdt e.symm)]
      exact hsl t s hs

/-- One operation behind the other, from the i-th on. -/
def SWn (P : Program) (N k0 : Nat) (sis : List SI) (st : St) (K : St → Prop) : Prop :=
  ∀ (ops : Array Oper) (i : Nat), i + sis.length = ops.size → (∀ j si, sis[j]? = some si → ∃ o, ops[i + j]? = some o ∧ cOper P ops o = some si) → (∀ si ∈ sis, ∀ d, si.dst = some d → d < N) →
    ∀ (rd : Option Nat) (μ0 : Nat → Nm) (M0 : Mem) (w0 : World) (c0 : Nat → Option Ob) (a : Act) (w : World), StA N μ0 M0 w0 c0 k0 st a w → ∀ Q' : Exit → Act → World → Prop, (∀ st' a' w', K st' → StA N μ0 M0 w0 c0 k0 st' a' w' → Q' .normal a' w') →
      wpOpsIn (Wide rd) 0 P ops Q' (List.range' i sis.length) a w
theorem SWn.nil {N k0 : Nat} {st : St} {K : St → Prop} (h : K st) : SWn P N k0 [] st K := fun ops i _ _ _ rd μ0 M0 w0 c0 a w hSt Q' hQ => hQ st a w h hSt

theorem SWn.cons {N k0 : Nat} {st : St} {K : St → Prop} {si : SI} {r : List SI}
    (h : ∀ (ops : Array Oper) (o : Oper), cOper P ops o = some si → (∀ d, si.dst = some d → d < N) → ∀ (rd : Option Nat) (μ0 : Nat → Nm) (M0 : Mem) (w0 : World) (c0 : Nat → Option Ob) (a : Act) (w : World), StA N μ0 M0 w0 c0 k0 st a w →
      ∀ (i : Nat), ops[i]? = some o → ∀ (Q' : Exit → Act → World → Prop) (KK : Act → World → Prop), (∀ st' a' w', SWn P N k0 r st' K → StA N μ0 M0 w0 c0 k0 st' a' w' → KK a' w') → wpOpIn (Wide rd) 0 P ops Q' i KK a w) : SWn P N k0 (si :: r) st K := by
  intro ops i hl hget hN rd μ0 M0 w0 c0 a w hSt Q' hQ
  obtain ⟨o, ho, hc⟩ := hget 0 si rfl
  simp only [Nat.add_zero] at ho
  rw [List.length_cons, List.range'_succ, wpOpsIn_cons]
  refine h ops o hc (fun d hd => hN si (by simp) d hd) rd μ0 M0 w0 c0 a w hSt i ho Q' _ fun st' a' w' hn hSt' => ?_
  exact hn ops (i + 1) (by simp at hl; omega) (fun j sj hj => by
    obtain ⟨o', ho', hc'⟩ := hget (j + 1) sj (by simpa using hj)
    exact ⟨o', by rw [show i + 1 + j = i + (j + 1) by omega]; exact ho', hc'⟩) (fun s hs d hd => hN s (by simp [hs]) d hd) rd μ0 M0 w0 c0 a' w' hSt' Q' hQ

/-- An operation that may go several ways. -/
theorem SWn.many {N k0 : Nat} {st : St} {K : St → Prop} {si : SI} {r : List SI} {F : Hp} {nk : Nat} {Q : SV → Hp → Prop} (hg : si.g = none) (hq : ∀ o : Oper, cO P o.op = some si.op → SoundQ P o (fun t => st.env.lookup t) (lk st.hp) st.k nk F Q)
    (hro : roOf si.op = false) (h : ∀ v F', Q v F' → SWn P N k0 r (upd st si ⟨v, F, F', nk, True⟩) K) : SWn P N k0 (si :: r) st K := by
  refine SWn.cons fun ops o hc hN rd μ0 M0 w0 c0 a w hSt i ho Q' KK hKK => ?_
  obtain ⟨g1, g2, g3⟩ := cOper_spec hc
  have hgn : o.guard = none := by
    rcases g3 with ⟨h, _⟩ | ⟨j, w, t, h, _, h'⟩
    · exact h
    · rw [hg] at h'; cases h'
  unfold wpOpIn
  simp only [ho, Region.wanted, hgn, if_true]
  exact (StA.step g2 (fun d hd => hN d (by rw [g2]; exact hd)) (hq o g1) (fun v F' _ hr => by rw [hro] at hr; cases hr) hSt fun v F' hQ a' w' hSt' => hKK _ a' w' (h v F' hQ) hSt')

/-- Operations that go one way. -/
theorem SWn.runsA {N k0 : Nat} {K : St → Prop} {rest : List SI} : ∀ {sis : List SI} {st st' : St} {crs : List CR} {ob : Prop} {ts : List (Bool × List Nat)}, Go.Sl.runs P sis st crs = some (st', ob, ts) → ob → SWn P N k0 rest st' K → SWn P N k0 (sis ++ rest) st K := by
  intro sis
  induction sis with
  | nil =>
    intro st st' crs ob ts h _ hk
    simp only [Go.Sl.runs] at h
    injection h with h
    injection h with h1 _
    subst h1
    exact hk
  | cons si r ih =>
    intro st st' crs ob ts h hob hk
    simp only [Go.Sl.runs] at h
    split at h <;> first | (cases h; done) | skip
    rename_i e crs' hop
    split at h <;> first | (cases h; done) | skip
    rename_i st2 ob2 ts2 hr
    injection h with h
    injection h with h1 h
    injection h with h2 h3
    subst h1; subst h2
    refine SWn.cons fun ops o hc hN rd μ0 M0 w0 c0 a w hSt i ho Q' KK hKK => ?_
    obtain ⟨b1, b2, b3⟩ := runOp_step hc hop hob.1
    obtain ⟨g1, g2, g3⟩ := cOper_spec hc
    have hnext := ih hr hob.2 hk
    have hu : upd st si e = upd st si ⟨e.v, e.F, e.F', e.nk, True⟩ := rfl
    unfold wpOpIn
    simp only [ho]
    obtain ⟨hk0, hdf, hsz, μ, M, hsl, hS, hE⟩ := hSt
    have hSt : StA N μ0 M0 w0 c0 k0 st a w := ⟨hk0, hdf, hsz, μ, M, hsl, hS, hE⟩
    rcases b1 with ⟨j, want, t, sv, hg, hd, hE', hb, e1, e2, e3, e4⟩ | ⟨hg, hs⟩
    · have hv := hsl t _ hE'
      have hw : Region.wanted o (yielded ops a.tmps) = false := by
        simp only [Region.wanted, hg]
        unfold skips at hb
        split at hb
        · rw [yielded_of hd (Rp.bool_iff.1 hv)]
          simpa using hb
        · obtain ⟨vs, e, hvs⟩ := Rp.tup_iff.1 hv
          have hvs0 : vs = #[] := by have := Rps.nil_iff.1 hvs; simpa using this
          rw [yielded_un hd (by rw [e, hvs0]; rfl)]
          rfl
        · cases hb
      simp only [hw, Bool.false_eq_true, if_false]
      obtain ⟨v, F, F', nk, eo⟩ := e
      simp only at e1 e2 e3 e4
      subst e1; subst e2; subst e3; subst e4
      exact ⟨fun _ _ => trivial, hKK _ _ _ hnext (StA.skip g2 (fun d hd => hN d (by rw [g2]; exact hd)) hSt)⟩
    · have hw : Region.wanted o (yielded ops a.tmps) = true := by
        rcases hg with hg | ⟨j, want, t, hg, hd, hE'⟩
        · simp [Region.wanted, hg]
        · have hv := Rp.bool_iff.1 (hsl t _ hE')
          simp only [Region.wanted, hg, yielded_of hd hv]
          simp
      simp only [hw, if_true]
      exact (StA.step g2 (fun d hd => hN d (by rw [g2]; exact hd)) hs.q (fun v F' hQ hr => by rw [hQ.2]; exact b2 hr) hSt fun v F' hQ a' w' hSt' => hKK _ a' w' (by rw [hQ.1, hQ.2]; exact hnext) hSt')

theorem SWn.runs {N k0 : Nat} {K : St → Prop} {sis : List SI} {st st' : St} {crs : List CR} {ob : Prop} {ts : List (Bool × List Nat)} (h : Go.Sl.runs P sis st crs = some (st', ob, ts)) (ho : ob) (hk : K st') : SWn P N k0 sis st K := by
  have := SWn.runsA (N := N) (k0 := k0) (rest := []) h ho (SWn.nil hk)
  rwa [List.append_nil] at this
theorem SWn.one {N k0 : Nat} {K : St → Prop} {si : SI} {r : List SI} {st : St} {e : Eff} {c2 crs : List CR} (h1 : runOp P st si crs = some (e, c2)) (hob : e.ob) (h : SWn P N k0 r (upd st si e) K) : SWn P N k0 (si :: r) st K :=
  SWn.runsA (sis := [si]) (crs := crs) (st' := upd st si e) (ob := e.ob ∧ True) (ts := [touchL si e]) (by simp only [Go.Sl.runs, h1]) ⟨hob, trivial⟩ h

/-- A call whose function may answer in several ways. -/
theorem sq_call {o : Oper} {E : Nat → Option SV} {H : Nat → Option Ob} {k nk : Nat} {f : X} {args : List X} {fid : FuncId} {first cap as : List SV} {F : Hp} {Q : SV → Hp → Prop} (hc : cO P o.op = some (.call f args))
    (h1 : ev E f = some (.fn (.func fid) first cap)) (h2 : evs E args = some as) (hSC : SC P fid (first ++ as ++ cap) F k nk Q) (hsub : ∀ n ob, lk F n = some ob → H n = some ob) : SoundQ P o E H k nk F Q := by
  obtain ⟨c, fo, hop, hcal, hf, ha⟩ := cO_call hc
  exact ⟨hsub, fun rd p μ M a w K QQ hnew hk hS hK => s_callQ hop hcal hf ha h1 h2 hSC hnew hk hS hK⟩
/-- Less is known. -/
theorem SW.toN {N k0 : Nat} {st : St} {sis : List SI} {K : St → Prop} {st1 : St} {ρ : Nat → Nat} (hw : Weak k0 st st1 ρ) (h : SWn P N k0 sis st1 K) : SWn P N k0 sis st K :=
  fun ops i h1 h2 h3 rd μ0 M0 w0 c0 a w hSt => h ops i h1 h2 h3 rd μ0 M0 w0 c0 a w (hSt.weak hw)
theorem SW.ofN {N k0 : Nat} {st : St} {Q : Exit → St → Prop} {sis : List SI} {bs : List Nat} (h : SWn P N k0 sis st (Q .normal)) : SW P N k0 (.reg sis bs false) st Q := by
  intro c hc rd hrf μ0 M0 w0 c0 a w hSt
  cases c <;> simp only [cK] at hc <;> first
    | (cases hc; done)
    | (exfalso; split at hc <;> cases hc; done)
    | (exfalso; obtain ⟨_, _, h'⟩ := Option.map_eq_some_iff.1 hc; cases h'; done)
    | skip
  rename_i id ops draw
  split at hc <;> first | (cases hc; done) | skip
  rename_i sis' bs' hreg
  injection hc with hc
  injection hc with h1 h2 h3
  subst h1; subst h3
  unfold cReg at hreg
  split at hreg <;> first | (cases hreg; done) | skip
  rename_i sis2 hsis
  split at hreg <;> first | (cases hreg; done) | skip
  rename_i hchk
  injection hreg with hreg
  injection hreg with hr1 hr2
  subst hr1
  simp only [Bool.and_eq_true] at hchk
  obtain ⟨_, hin⟩ := hchk
  obtain ⟨hlen, hget⟩ := cOpers_get hsis
  refine wpIn_region ?_
  rw [List.range_eq_range']
  have hn : ops.size = sis2.length := by simpa using hlen
  rw [hn]
  refine h ops 0 (by omega) (fun j si hj => ?_) (fun si hs d hd => ?_) rd μ0 M0 w0 c0 a w hSt _ fun st' a' w' hk hSt' => ⟨st', hk, hSt'⟩
  · have hj' : j < ops.size := by rw [hn]; exact (List.getElem?_eq_some_iff.1 hj).1
    obtain ⟨si', h1, h2⟩ := hget j ops[j] (by simp [hj'])
    rw [hj] at h1; injection h1 with h1; subst h1
    exact ⟨ops[j], by rw [Nat.zero_add]; exact Array.getElem?_eq_getElem hj', h2⟩
  · have := List.all_eq_true.1 hin si hs
    rw [hd] at this
    simpa using this
end Go.Sl
