/-
  A region, piece by piece: plain operations at once, up to the next call; a call by its contract.
-/
import Derived.Test.YtgjgfamgbhlmfaaU7
import Derived.Maps.RangeRun
import Derived.Test.YtgjgfamgbhlmfaaU8
set_option linter.unusedSectionVars false
set_option linter.unusedVariables false
set_option linter.unusedSimpArgs false
namespace Go.Sl
variable {P : Program}

/-- From the state st on, the operations 'sis' end as K says. -/
def RW (P : Program) (sis : List SI) (st : St) (K : St → List (Bool × List Nat) → Prop) : Prop :=
  ∃ crs st' ob ts, runs P sis st crs = some (st', ob, ts) ∧ ob ∧ K st' ts

def isCall : SO → Bool
  | .call .. => true
  | _ => false
def isBsl : SO → Bool
  | .bsl .. => true
  | _ => false
/-- The plain operations up to the next call that comes up. -/
def seg (P : Program) : List SI → St → Option (List SI × St × Prop × List (Bool × List Nat))
  | [], st => some ([], st, True, [])
  | si :: r, st => match si.g with
    | none => match isCall si.op with
      | true => some (si :: r, st, True, [])
      | false => match goOp P st si.op [] with
        | some (e, _) => match seg P r (upd st si e) with
          | some (rest, st', ob, ts) => some (rest, st', e.ob ∧ ob, touchL si e :: ts)
          | none => none
        | none => none
    | some (t, w) => match st.env.lookup t with
      | some (.d (.bool b)) => match b == w with
        | true => match isCall si.op with
          | true => some (si :: r, st, True, [])
          | false => match goOp P st si.op [] with
            | some (e, _) => match seg P r (upd st si e) with
              | some (rest, st', ob, ts) => some (rest, st', e.ob ∧ ob, touchL si e :: ts)
              | none => none
            | none => none
        | false => match seg P r (upd st si ⟨.tup [], [], [], 0, True⟩) with
          | some (rest, st', ob, ts) => some (rest, st', ob, touchL si ⟨.tup [], [], [], 0, True⟩ :: ts)
          | none => none
      | some (.tup []) => match seg P r (upd st si ⟨.tup [], [], [], 0, True⟩) with
          | some (rest, st', ob, ts) => some (rest, st', ob, touchL si ⟨.tup [], [], [], 0, True⟩ :: ts)
          | none => none
      | _ => none

/-- What is given to one operation is not looked at by another one. -/
theorem goOp_pass {st : St} {so : SO} {e : Eff} {c2 : List CR} (hc : isCall so = false) (h : goOp P st so [] = some (e, c2)) : c2 = [] ∧ (isBsl so = false → ∀ crs, goOp P st so crs = some (e, crs)) ∧ (isBsl so = true → ∀ crs, goOp P st so (.frz :: crs) = some (e, crs)) := by
  cases so <;> simp only [isCall, Bool.true_eq_false] at hc <;> simp only [goOp] at h <;> split at h <;> first | (cases h; done) | skip
  all_goals
    rename_i hs
    injection h with h
    injection h with h h'
    subst h; subst h'
    refine ⟨rfl, fun hb crs => ?_, fun hb crs => ?_⟩
    all_goals first
      | (simp [isBsl] at hb; done)
      | simp only [goOp, hs]

theorem RW.nil {st : St} {K : St → List (Bool × List Nat) → Prop} (h : K st []) : RW P [] st K := ⟨[], st, True, [], rfl, trivial, h⟩

theorem RW.cons {si : SI} {r : List SI} {st : St} {K : St → List (Bool × List Nat) → Prop} {e : Eff} (h1 : ∀ crs, ∃ c0, runOp P st si c0 = some (e, crs)) (hob : e.ob) (h : RW P r (upd st si e) fun st' ts => K st' (touchL si e :: ts)) : RW P (si :: r) st K := by
  obtain ⟨crs, st', ob, ts, hr, ho, hk⟩ := h
  obtain ⟨c0, hc0⟩ := h1 crs
  refine ⟨c0, st', e.ob ∧ ob, touchL si e :: ts, ?_, ⟨hob, ho⟩, hk⟩
  simp only [runs, hc0, hr]

theorem goOp_crs {st : St} {so : SO} {e : Eff} {c2 : List CR} (hc : isCall so = false) (h : goOp P st so [] = some (e, c2)) (crs : List CR) : ∃ c0, goOp P st so c0 = some (e, crs) := by
  obtain ⟨_, h1, h2⟩ := goOp_pass hc h
  cases hb : isBsl so with
  | false => exact ⟨crs, h1 hb crs⟩
  | true => exact ⟨.frz :: crs, h2 hb crs⟩

theorem RW.seg_aux : ∀ {sis rest : List SI} {st st' : St} {ob : Prop} {ts : List (Bool × List Nat)} {K : St → List (Bool × List Nat) → Prop}, seg P sis st = some (rest, st', ob, ts) → ob → RW P rest st' (fun st'' ts' => K st'' (ts ++ ts')) → RW P sis st K := by
  intro sis
  induction sis with
  | nil =>
    intro rest st st' ob ts K hs hob h
    simp only [seg] at hs
    injection hs with hs
    injection hs with h1 hs
    injection hs with h2 hs
    injection hs with h3 h4
    subst h1; subst h2; subst h4
    exact h
  | cons si r ih =>
    intro rest st st' ob ts K hs hob h
    have step : ∀ {e : Eff} {x : List SI × St × Prop × List (Bool × List Nat)}, (∀ crs, ∃ c0, runOp P st si c0 = some (e, crs)) → (match seg P r (upd st si e) with
        | some (rest, st', ob, ts) => some (rest, st', e.ob ∧ ob, touchL si e :: ts)
        | none => none) = some (rest, st', ob, ts) → RW P (si :: r) st K := by
      intro e x h1 h2
      split at h2 <;> first | (cases h2; done) | skip
      rename_i rest' st2 ob2 ts2 hseg
      injection h2 with h2
      injection h2 with e1 h2
      injection h2 with e2 h2
      injection h2 with e3 e4
      subst e1; subst e2; subst e3; subst e4
      exact RW.cons h1 hob.1 (ih hseg hob.2 (by simpa using h))
    have skip : ∀ (hsk : ∀ crs, runOp P st si crs = some (⟨.tup [], [], [], 0, True⟩, crs)), (match seg P r (upd st si ⟨.tup [], [], [], 0, True⟩) with
        | some (rest, st', ob, ts) => some (rest, st', ob, touchL si ⟨.tup [], [], [], 0, True⟩ :: ts)
        | none => none) = some (rest, st', ob, ts) → RW P (si :: r) st K := by
      intro hsk h2
      split at h2 <;> first | (cases h2; done) | skip
      rename_i rest' st2 ob2 ts2 hseg
      injection h2 with h2
      injection h2 with e1 h2
      injection h2 with e2 h2
      injection h2 with e3 e4
      subst e1; subst e2; subst e3; subst e4
      exact RW.cons (fun crs => ⟨crs, hsk crs⟩) trivial (ih hseg hob (by simpa using h))
    simp only [seg] at hs
    split at hs
    · rename_i hg
      split at hs
      · injection hs with hs
        injection hs with h1 hs
        injection hs with h2 hs
        injection hs with h3 h4
        subst h1; subst h2; subst h4
        simpa using h
      · rename_i hc
        split at hs <;> first | (cases hs; done) | skip
        rename_i e c2 hgo
        refine step (x := ([], st, True, [])) (fun crs => ?_) hs
        obtain ⟨c0, h0⟩ := goOp_crs hc hgo crs
        exact ⟨c0, by simp only [runOp, hg, h0]⟩
    · rename_i t w hg
      split at hs <;> first | (cases hs; done) | skip
      · rename_i b hl
        split at hs
        · rename_i hbw
          split at hs
          · injection hs with hs
            injection hs with h1 hs
            injection hs with h2 hs
            injection hs with h3 h4
            subst h1; subst h2; subst h4
            simpa using h
          · rename_i hc
            split at hs <;> first | (cases hs; done) | skip
            rename_i e c2 hgo
            refine step (x := ([], st, True, [])) (fun crs => ?_) hs
            obtain ⟨c0, h0⟩ := goOp_crs hc hgo crs
            exact ⟨c0, by simp only [runOp, hg, hl, hbw, if_true, h0]⟩
        · rename_i hbw
          exact skip (fun crs => by simp [runOp, hg, hl, hbw]) hs
      · rename_i hl
        exact skip (fun crs => by simp [runOp, hg, hl]) hs

/-- A literal of a slice that is one's own. -/
theorem RW.own {si : SI} {r : List SI} {st : St} {K : St → List (Bool × List Nat) → Prop} {e : Eff} {c2 : List CR} (h1 : runOp P st si [.own] = some (e, c2)) (hb : isBsl si.op = true) (hg : si.g = none) (hob : e.ob) (h : RW P r (upd st si e) fun st' ts => K st' (touchL si e :: ts)) : RW P (si :: r) st K := by
  refine RW.cons (fun crs => ⟨.own :: crs, ?_⟩) hob h
  obtain ⟨d, op, g⟩ := si
  simp only at hg; subst hg
  cases op <;> simp only [isBsl, Bool.false_eq_true] at hb
  simp only [runOp, goOp] at h1 ⊢
  split at h1 <;> first | (cases h1; done) | skip
  rename_i hs
  injection h1 with h1
  injection h1 with h1 h2
  subst h1
  simp only [hs]

/-- A call by its contract. -/
theorem RW.call {d : Option Nat} {f : X} {args : List X} {g : Option (Nat × Bool)} {r : List SI} {st : St} {K : St → List (Bool × List Nat) → Prop} {fid : FuncId} {as first cap as' : List SV} {F F' : Hp} {v : SV} {nk : Nat}
    (hf : ev (fun t => st.env.lookup t) f = some (.fn (.func fid) first cap)) (ha : evs (fun t => st.env.lookup t) args = some as) (has : first ++ as ++ cap = as') (hc : SCd P fid as' F st.k nk v F') (hs : HSub F st.hp)
    (hg : g = none ∨ ∃ t w, g = some (t, w) ∧ st.env.lookup t = some (.d (.bool w)))
    (h : RW P r (upd st ⟨d, .call f args, g⟩ ⟨v, F, F', nk, True⟩) fun st' ts => K st' (touchL ⟨d, .call f args, g⟩ ⟨v, F, F', nk, True⟩ :: ts)) : RW P (⟨d, .call f args, g⟩ :: r) st K := by
  refine RW.cons (e := ⟨v, F, F', nk, SCd P fid (first ++ as ++ cap) F st.k nk v F' ∧ HSub F st.hp⟩) (fun crs => ⟨.call F v F' nk :: crs, ?_⟩) ⟨by rw [has]; exact hc, hs⟩ h
  rcases hg with rfl | ⟨t, w, rfl, hl⟩
  · simp only [runOp, goOp, hf, ha]
  · simp [runOp, hl, goOp, hf, ha]

theorem SW.regR {N k0 : Nat} {st : St} {Q : Exit → St → Prop} {sis : List SI} {bs : List Nat} {draw : Bool} (hm : P.follows .mixedOrders = true) (h : RW P sis st fun st' ts => (!draw || noConf bs ts) = true ∧ Q .normal st') : SW P N k0 (.reg sis bs draw) st Q := by
  obtain ⟨crs, st', ob, ts, hr, ho, hn, hk⟩ := h
  exact SW.reg crs hm hr ho hn hk

theorem runOp_some {st : St} {d : Option Nat} {op : SO} {g : Option (Nat × Bool)} {crs : List CR} {e : Eff} {c2 : List CR} (hg : g = none ∨ ∃ t w, g = some (t, w) ∧ st.env.lookup t = some (.d (.bool w))) (h : goOp P st op crs = some (e, c2)) : runOp P st ⟨d, op, g⟩ crs = some (e, c2) := by
  rcases hg with rfl | ⟨t, w, rfl, hl⟩
  · simp only [runOp, h]
  · simp [runOp, hl, h]
theorem RW.ro_aux {d : Nat} {op : SO} {g : Option (Nat × Bool)} {r : List SI} {K : St → List (Bool × List Nat) → Prop} {env : List (Nat × SV)} {hp F F' : Hp} {k : Nat} {v : SV} {nk : Nat} {ob : Prop}
    (hr : roOf op = true) (hc : isCall op = false) (hb : isBsl op = false) (hg : g = none ∨ ∃ t w, g = some (t, w) ∧ env.lookup t = some (.d (.bool w))) (he : goOp P ⟨env, hp, k⟩ op [] = some (⟨v, F, F', nk, ob⟩, [])) (hob : ob) (hk : nk = 0)
    (h : RW P r ⟨(d, v) :: env, hp, k⟩ fun st' ts => K st' ((true, F.map (·.1) ++ F'.map (·.1)) :: ts)) : RW P (⟨some d, op, g⟩ :: r) ⟨env, hp, k⟩ K := by
  subst hk
  refine RW.cons (e := ⟨v, F, F', 0, ob⟩) (fun crs => ?_) hob ?_
  · obtain ⟨c0, h0⟩ := goOp_crs hc he crs
    exact ⟨c0, runOp_some hg h0⟩
  · simpa only [upd, touchL, hr, hmrg, if_true, Nat.add_zero] using h
def consO : Option Nat → SV → List (Nat × SV) → List (Nat × SV)
  | some d, v, env => (d, v) :: env
  | none, _, env => env
theorem upd_eq {d : Option Nat} {op : SO} {g : Option (Nat × Bool)} {env : List (Nat × SV)} {hp : Hp} {k : Nat} {e : Eff} : upd ⟨env, hp, k⟩ ⟨d, op, g⟩ e = ⟨consO d e.v env, hmrg (roOf op) hp e.F e.F', k + e.nk⟩ := by
  cases d <;> rfl
theorem RW.op_aux {d : Option Nat} {op : SO} {g : Option (Nat × Bool)} {r : List SI} {K : St → List (Bool × List Nat) → Prop} {env : List (Nat × SV)} {hp hp' F F' : Hp} {k k' : Nat} {v : SV} {nk : Nat} {ob : Prop}
    (hc : isCall op = false) (hg : g = none ∨ ∃ t w, g = some (t, w) ∧ env.lookup t = some (.d (.bool w))) (he : goOp P ⟨env, hp, k⟩ op [] = some (⟨v, F, F', nk, ob⟩, [])) (hob : ob) (hh : hmrg (roOf op) hp F F' = hp') (hk : k + nk = k')
    (h : RW P r ⟨consO d v env, hp', k'⟩ fun st' ts => K st' ((roOf op, F.map (·.1) ++ F'.map (·.1)) :: ts)) : RW P (⟨d, op, g⟩ :: r) ⟨env, hp, k⟩ K := by
  refine RW.cons (e := ⟨v, F, F', nk, ob⟩) (fun crs => ?_) hob ?_
  · obtain ⟨c0, h0⟩ := goOp_crs hc he crs
    exact ⟨c0, runOp_some hg h0⟩
  · rw [upd_eq, hh, hk]; exact h
/-- A literal of a slice, one's own. -/
theorem RW.own_aux {d : Option Nat} {e sz len : Nat} {z : List SV} {parts : List (Nat × Nat × X)} {g : Option (Nat × Bool)} {r : List SI} {K : St → List (Bool × List Nat) → Prop} {env : List (Nat × SV)} {hp hp' F F' : Hp} {k k' : Nat} {v : SV} {nk : Nat} {ob : Prop}
    (hg : g = none ∨ ∃ t w, g = some (t, w) ∧ env.lookup t = some (.d (.bool w))) (he : goOp P ⟨env, hp, k⟩ (.bsl e sz len z parts) [.own] = some (⟨v, F, F', nk, ob⟩, [])) (hob : ob) (hh : hmrg false hp F F' = hp') (hk : k + nk = k')
    (h : RW P r ⟨consO d v env, hp', k'⟩ fun st' ts => K st' ((false, F.map (·.1) ++ F'.map (·.1)) :: ts)) : RW P (⟨d, .bsl e sz len z parts, g⟩ :: r) ⟨env, hp, k⟩ K := by
  refine RW.cons (e := ⟨v, F, F', nk, ob⟩) (fun crs => ⟨.own :: crs, runOp_some hg ?_⟩) hob ?_
  · simp only [goOp] at he ⊢
    split at he <;> first | (cases he; done) | skip
    rename_i hs
    injection he with he
    injection he with he _
    subst he
    rfl
  · rw [upd_eq]
    show RW P r ⟨consO d v env, hmrg false hp F F', k + nk⟩ _
    rw [hh, hk]; exact h
theorem RW.skip_aux {d : Nat} {op : SO} {t : Nat} {w : Bool} {r : List SI} {K : St → List (Bool × List Nat) → Prop} {env : List (Nat × SV)} {hp : Hp} {k : Nat} {s : SV} (hg : env.lookup t = some s) (hs : skips w s = true)
    (h : RW P r ⟨(d, .tup []) :: env, hp, k⟩ fun st' ts => K st' ((roOf op, []) :: ts)) : RW P (⟨some d, op, some (t, w)⟩ :: r) ⟨env, hp, k⟩ K := by
  have hh : hmrg (roOf op) hp [] [] = hp := by unfold hmrg; split <;> rfl
  refine RW.cons (e := ⟨.tup [], [], [], 0, True⟩) (fun crs => ⟨crs, ?_⟩) trivial ?_
  · unfold skips at hs
    split at hs
    · simp only [runOp, hg]; rw [if_neg (by simpa using hs)]
    · simp only [runOp, hg]
    · cases hs
  · rw [upd_eq]
    show RW P r ⟨(d, .tup []) :: env, hmrg (roOf op) hp [] [], k + 0⟩ _
    rw [hh]; exact h
theorem RW.skip0_aux {op : SO} {t : Nat} {w : Bool} {r : List SI} {K : St → List (Bool × List Nat) → Prop} {env : List (Nat × SV)} {hp : Hp} {k : Nat} {s : SV} (hg : env.lookup t = some s) (hs : skips w s = true)
    (h : RW P r ⟨env, hp, k⟩ fun st' ts => K st' ((roOf op, []) :: ts)) : RW P (⟨none, op, some (t, w)⟩ :: r) ⟨env, hp, k⟩ K := by
  have hh : hmrg (roOf op) hp [] [] = hp := by unfold hmrg; split <;> rfl
  refine RW.cons (e := ⟨.tup [], [], [], 0, True⟩) (fun crs => ⟨crs, ?_⟩) trivial ?_
  · unfold skips at hs
    split at hs
    · simp only [runOp, hg]; rw [if_neg (by simpa using hs)]
    · simp only [runOp, hg]
    · cases hs
  · rw [upd_eq]
    show RW P r ⟨env, hmrg (roOf op) hp [] [], k + 0⟩ _
    rw [hh]; exact h
theorem RW.call_aux {d : Option Nat} {f : X} {args : List X} {g : Option (Nat × Bool)} {r : List SI} {K : St → List (Bool × List Nat) → Prop} {fid : FuncId} {as first cap as' : List SV} {env : List (Nat × SV)} {hp F F' : Hp} {k : Nat} {v : SV} {nk : Nat}
    (hf : ev (fun t => env.lookup t) f = some (.fn (.func fid) first cap)) (ha : evs (fun t => env.lookup t) args = some as) (has : first ++ as ++ cap = as') (hc : SCd P fid as' F k nk v F') (hs : HSub F hp)
    (hg : g = none ∨ ∃ t w, g = some (t, w) ∧ env.lookup t = some (.d (.bool w)))
    (h : RW P r ⟨consO d v env, hmrg false hp F F', k + nk⟩ fun st' ts => K st' ((false, F.map (·.1) ++ F'.map (·.1)) :: ts)) : RW P (⟨d, .call f args, g⟩ :: r) ⟨env, hp, k⟩ K := by
  refine RW.call (st := ⟨env, hp, k⟩) hf ha has hc hs hg ?_
  rw [upd_eq]; exact h
end Go.Sl

/-
  Operations that may go several ways, in a region whose order is fixed; ranging over a map.
-/
set_option linter.unusedVariables false
set_option linter.unusedSimpArgs false
set_option linter.unusedSectionVars false
namespace Go.Sl
variable {P : Program}

/-- What an operation does, whichever way it goes. -/
def SoundQ (P : Program) (o : Oper) (E : Nat → Option SV) (H : Nat → Option Ob) (k nk : Nat) (F : Hp) (Q : SV → Hp → Prop) : Prop :=
  (∀ n ob, lk F n = some ob → H n = some ob) ∧
  ∀ (rd : Option Nat) (p : Nat → Prop) (μ : Nat → Nm) (M : Mem) (a : Act) (w : World) (K : Act → World → Prop) (QQ : Exit → Act → World → Prop), (∀ n, (k ≤ n ∧ n < k + nk) → ¬ p n) → Known E o.op.operands p μ M a → SatF p μ M (lk F) w →
    (∀ r F' u μ' M' w', Q r F' → Rp (fun n => p n ∨ (k ≤ n ∧ n < k + nk)) μ' M' r u → SatF (fun n => p n ∨ (k ≤ n ∧ n < k + nk)) μ' M' (lk F') w' → Ev (lk F) (fun n => k ≤ n ∧ n < k + nk) μ M w (lk F') μ' M' w' → K (a.put o.dst u) w') →
    o.wpIn (Wide rd) 0 P a w K QQ
theorem Sound.q {o : Oper} {E : Nat → Option SV} {H : Nat → Option Ob} {k : Nat} {e : Eff} (h : Sound P o E H k e) : SoundQ P o E H k e.nk e.F (fun r F' => r = e.v ∧ F' = e.F') :=
  ⟨h.2, fun rd p μ M a w K QQ h1 h2 h3 h4 => h.1 rd p μ M a w K QQ h1 h2 h3 fun u μ' M' w' a1 a2 a3 => h4 _ _ u μ' M' w' ⟨rfl, rfl⟩ a1 a2 a3⟩

theorem StA.step {N : Nat} {rd : Option Nat} {μ0 : Nat → Nm} {M0 : Mem} {w0 : World} {c0 : Nat → Option Ob} {k0 : Nat} {st : St} {a : Act} {w : World} {o : Oper} {si : SI} {F : Hp} {nk : Nat} {Q : SV → Hp → Prop} (hd : si.dst = o.dst) (hN : ∀ d, o.dst = some d → d < N)
    (h : SoundQ P o (fun t => st.env.lookup t) (lk st.hp) st.k nk F Q) (hro : ∀ r F', Q r F' → roOf si.op = true → F' = F) (hSt : StA N μ0 M0 w0 c0 k0 st a w) {K : Act → World → Prop} {QQ : Exit → Act → World → Prop}
    (hK : ∀ r F', Q r F' → ∀ a' w', StA N μ0 M0 w0 c0 k0 (upd st si ⟨r, F, F', nk, True⟩) a' w' → K a' w') : o.wpIn (Wide rd) 0 P a w K QQ := by
  obtain ⟨hk0, hdf, hsz, μ, M, hsl, hS, hE⟩ := hSt
  have hsub : ∀ n ob, lk F n = some ob → lk st.hp n = some ob := h.1
  refine h.2 rd (· < st.k) μ M a w K QQ (fun n hn => by omega) ⟨fun t _ s hs => hsl t s hs, hS.mem.glob⟩ (hS.sub hsub) fun r F' u μ' M' w' hQ hu hS' hE' => hK r F' hQ _ _ ?_
  have hp : (fun n => n < st.k ∨ (st.k ≤ n ∧ n < st.k + nk)) = (· < st.k + nk) := funext fun n => propext ⟨fun h => by rcases h with h | h <;> omega, fun h => by show n < st.k ∨ _; omega⟩
  have hfr := hS.framed hsub (fun n hn => by omega) hE' hS' fun n h => .inl h
  rw [hp] at hu hfr
  have hnew : ∀ n, (k0 ≤ n ∧ n < st.k) ∨ (st.k ≤ n ∧ n < st.k + nk) ↔ k0 ≤ n ∧ n < st.k + nk := fun n => by omega
  have hlk : lk (hmrg (roOf si.op) st.hp F F') = mrg (lk st.hp) (lk F) (lk F') := lk_hmrg hsub (hro r F' hQ)
  refine ⟨by show k0 ≤ st.k + nk; omega, by rw [put_defers']; exact hdf.ev hS hfr.2, by rw [put_size]; exact hsz, μ', M', fun t s hs => ?_, ?_, ?_⟩
  · have hold : ∀ s, st.env.lookup t = some s → Rp (· < st.k + nk) μ' M' s (a.tmps.getD t undef) := fun s h' =>
      (hsl t s h').more (fun n h => by omega) (fun n h => hE'.old n fun h' => by omega) hE'.mem
    simp only [upd, hd] at hs
    cases hod : o.dst with
    | none => rw [hod] at hs; exact hold s hs
    | some d =>
      rw [hod] at hs
      simp only at hs
      rw [lookup_upd] at hs
      by_cases hdt : d = t
      · subst hdt
        simp at hs
        subst hs
        rw [put_same (by rw [hsz]; exact hN d hod)]
        exact hu
      · rw [if_neg hdt] at hs
        rw [put_other (fun e => hdt e.symm)]
        exact hold s hs
  · show SatF _ _ _ (lk (hmrg (roOf si.op) st.hp F F')) _
    rw [hlk]; exact hfr.1
  · show Ev _ _ _ _ _ (lk (hmrg (roOf si.op) st.hp F F')) _ _ _
    rw [hlk]
    exact (hE.trans hfr.2).new_iff fun n => hnew n
theorem StA.skip {N : Nat} {μ0 : Nat → Nm} {M0 : Mem} {w0 : World} {c0 : Nat → Option Ob} {k0 : Nat} {st : St} {a : Act} {w : World} {si : SI} {d : Option Nat} (hd : si.dst = d) (hN : ∀ x, d = some x → x < N)
    (hSt : StA N μ0 M0 w0 c0 k0 st a w) : StA N μ0 M0 w0 c0 k0 (upd st si ⟨.tup [], [], [], 0, True⟩) (a.put d undef) w := by
  obtain ⟨hk0, hdf, hsz, μ, M, hsl, hS, hE⟩ := hSt
  have hh : hmrg (roOf si.op) st.hp [] [] = st.hp := by unfold hmrg; split <;> rfl
  refine ⟨hk0, by rw [put_defers']; exact hdf, by rw [put_size]; exact hsz, μ, M, fun t s hs => ?_, by simp only [upd, hh]; exact hS, by simp only [upd, hh]; exact hE⟩
  simp only [upd, hd] at hs
  cases d with
  | none => exact hsl t s hs
  | some d =>
    simp only at hs
    rw [lookup_upd] at hs
    by_cases hdt : d = t
    · subst hdt
      simp at hs
      subst hs
      rw [put_undef]
      exact Rp.tup_iff.2 ⟨#[], rfl, Rps.nil_iff.2 rfl⟩
    · rw [if_neg hdt] at hs
      rw [put_other (fun e => hdt e.symm)]
      exact hsl t s hs

/-- One operation behind the other, from the i-th on. -/
def SWn (P : Program) (N k0 : Nat) (sis : List SI) (st : St) (K : St → Prop) : Prop :=
  ∀ (ops : Array Oper) (i : Nat), i + sis.length = ops.size → (∀ j si, sis[j]? = some si → ∃ o, ops[i + j]? = some o ∧ cOper P ops o = some si) → (∀ si ∈ sis, ∀ d, si.dst = some d → d < N) →
    ∀ (rd : Option Nat) (μ0 : Nat → Nm) (M0 : Mem) (w0 : World) (c0 : Nat → Option Ob) (a : Act) (w : World), StA N μ0 M0 w0 c0 k0 st a w → ∀ Q' : Exit → Act → World → Prop, (∀ st' a' w', K st' → StA N μ0 M0 w0 c0 k0 st' a' w' → Q' .normal a' w') →
      wpOpsIn (Wide rd) 0 P ops Q' (List.range' i sis.length) a w
theorem SWn.nil {N k0 : Nat} {st : St} {K : St → Prop} (h : K st) : SWn P N k0 [] st K := fun ops i _ _ _ rd μ0 M0 w0 c0 a w hSt Q' hQ => hQ st a w h hSt

theorem SWn.cons {N k0 : Nat} {st : St} {K : St → Prop} {si : SI} {r : List SI}
    (h : ∀ (ops : Array Oper) (o : Oper), cOper P ops o = some si → (∀ d, si.dst = some d → d < N) → ∀ (rd : Option Nat) (μ0 : Nat → Nm) (M0 : Mem) (w0 : World) (c0 : Nat → Option Ob) (a : Act) (w : World), StA N μ0 M0 w0 c0 k0 st a w →
      ∀ (i : Nat), ops[i]? = some o → ∀ (Q' : Exit → Act → World → Prop) (KK : Act → World → Prop), (∀ st' a' w', SWn P N k0 r st' K → StA N μ0 M0 w0 c0 k0 st' a' w' → KK a' w') → wpOpIn (Wide rd) 0 P ops Q' i KK a w) : SWn P N k0 (si :: r) st K := by
  intro ops i hl hget hN rd μ0 M0 w0 c0 a w hSt Q' hQ
  obtain ⟨o, ho, hc⟩ := hget 0 si rfl
  simp only [Nat.add_zero] at ho
  rw [List.length_cons, List.range'_succ, wpOpsIn_cons]
  refine h ops o hc (fun d hd => hN si (by simp) d hd) rd μ0 M0 w0 c0 a w hSt i ho Q' _ fun st' a' w' hn hSt' => ?_
  exact hn ops (i + 1) (by simp at hl; omega) (fun j sj hj => by
    obtain ⟨o', ho', hc'⟩ := hget (j + 1) sj (by simpa using hj)
    exact ⟨o', by rw [show i + 1 + j = i + (j + 1) by omega]; exact ho', hc'⟩) (fun s hs d hd => hN s (by simp [hs]) d hd) rd μ0 M0 w0 c0 a' w' hSt' Q' hQ

/-- An operation that may go several ways. -/
theorem SWn.many {N k0 : Nat} {st : St} {K : St → Prop} {si : SI} {r : List SI} {F : Hp} {nk : Nat} {Q : SV → Hp → Prop} (hg : si.g = none) (hq : ∀ o : Oper, cO P o.op = some si.op → SoundQ P o (fun t => st.env.lookup t) (lk st.hp) st.k nk F Q)
    (hro : roOf si.op = false) (h : ∀ v F', Q v F' → SWn P N k0 r (upd st si ⟨v, F, F', nk, True⟩) K) : SWn P N k0 (si :: r) st K := by
  refine SWn.cons fun ops o hc hN rd μ0 M0 w0 c0 a w hSt i ho Q' KK hKK => ?_
  obtain ⟨g1, g2, g3⟩ := cOper_spec hc
  have hgn : o.guard = none := by
    rcases g3 with ⟨h, _⟩ | ⟨j, w, t, h, _, h'⟩
    · exact h
    · rw [hg] at h'; cases h'
  unfold wpOpIn
  simp only [ho, Region.wanted, hgn, if_true]
  exact (StA.step g2 (fun d hd => hN d (by rw [g2]; exact hd)) (hq o g1) (fun v F' _ hr => by rw [hro] at hr; cases hr) hSt fun v F' hQ a' w' hSt' => hKK _ a' w' (h v F' hQ) hSt')

/-- Operations that go one way. -/
theorem SWn.runsA {N k0 : Nat} {K : St → Prop} {rest : List SI} : ∀ {sis : List SI} {st st' : St} {crs : List CR} {ob : Prop} {ts : List (Bool × List Nat)}, Go.Sl.runs P sis st crs = some (st', ob, ts) → ob → SWn P N k0 rest st' K → SWn P N k0 (sis ++ rest) st K := by
  intro sis
  induction sis with
  | nil =>
    intro st st' crs ob ts h _ hk
    simp only [Go.Sl.runs] at h
    injection h with h
    injection h with h1 _
    subst h1
    exact hk
  | cons si r ih =>
    intro st st' crs ob ts h hob hk
    simp only [Go.Sl.runs] at h
    split at h <;> first | (cases h; done) | skip
    rename_i e crs' hop
    split at h <;> first | (cases h; done) | skip
    rename_i st2 ob2 ts2 hr
    injection h with h
    injection h with h1 h
    injection h with h2 h3
    subst h1; subst h2
    refine SWn.cons fun ops o hc hN rd μ0 M0 w0 c0 a w hSt i ho Q' KK hKK => ?_
    obtain ⟨b1, b2, b3⟩ := runOp_step hc hop hob.1
    obtain ⟨g1, g2, g3⟩ := cOper_spec hc
    have hnext := ih hr hob.2 hk
    have hu : upd st si e = upd st si ⟨e.v, e.F, e.F', e.nk, True⟩ := rfl
    unfold wpOpIn
    simp only [ho]
    obtain ⟨hk0, hdf, hsz, μ, M, hsl, hS, hE⟩ := hSt
    have hSt : StA N μ0 M0 w0 c0 k0 st a w := ⟨hk0, hdf, hsz, μ, M, hsl, hS, hE⟩
    rcases b1 with ⟨j, want, t, sv, hg, hd, hE', hb, e1, e2, e3, e4⟩ | ⟨hg, hs⟩
    · have hv := hsl t _ hE'
      have hw : Region.wanted o (yielded ops a.tmps) = false := by
        simp only [Region.wanted, hg]
        unfold skips at hb
        split at hb
        · rw [yielded_of hd (Rp.bool_iff.1 hv)]
          simpa using hb
        · obtain ⟨vs, e, hvs⟩ := Rp.tup_iff.1 hv
          have hvs0 : vs = #[] := by have := Rps.nil_iff.1 hvs; simpa using this
          rw [yielded_un hd (by rw [e, hvs0]; rfl)]
          rfl
        · cases hb
      simp only [hw, Bool.false_eq_true, if_false]
      obtain ⟨v, F, F', nk, eo⟩ := e
      simp only at e1 e2 e3 e4
      subst e1; subst e2; subst e3; subst e4
      exact ⟨fun _ _ => trivial, hKK _ _ _ hnext (StA.skip g2 (fun d hd => hN d (by rw [g2]; exact hd)) hSt)⟩
    · have hw : Region.wanted o (yielded ops a.tmps) = true := by
        rcases hg with hg | ⟨j, want, t, hg, hd, hE'⟩
        · simp [Region.wanted, hg]
        · have hv := Rp.bool_iff.1 (hsl t _ hE')
          simp only [Region.wanted, hg, yielded_of hd hv]
          simp
      simp only [hw, if_true]
      exact (StA.step g2 (fun d hd => hN d (by rw [g2]; exact hd)) hs.q (fun v F' hQ hr => by rw [hQ.2]; exact b2 hr) hSt fun v F' hQ a' w' hSt' => hKK _ a' w' (by rw [hQ.1, hQ.2]; exact hnext) hSt')

theorem SWn.runs {N k0 : Nat} {K : St → Prop} {sis : List SI} {st st' : St} {crs : List CR} {ob : Prop} {ts : List (Bool × List Nat)} (h : Go.Sl.runs P sis st crs = some (st', ob, ts)) (ho : ob) (hk : K st') : SWn P N k0 sis st K := by
  have := SWn.runsA (N := N) (k0 := k0) (rest := []) h ho (SWn.nil hk)
  rwa [List.append_nil] at this
theorem SWn.one {N k0 : Nat} {K : St → Prop} {si : SI} {r : List SI} {st : St} {e : Eff} {c2 crs : List CR} (h1 : runOp P st si crs = some (e, c2)) (hob : e.ob) (h : SWn P N k0 r (upd st si e) K) : SWn P N k0 (si :: r) st K :=
  SWn.runsA (sis := [si]) (crs := crs) (st' := upd st si e) (ob := e.ob ∧ True) (ts := [touchL si e]) (by simp only [Go.Sl.runs, h1]) ⟨hob, trivial⟩ h

/-- A call whose function may answer in several ways. -/
theorem sq_call {o : Oper} {E : Nat → Option SV} {H : Nat → Option Ob} {k nk : Nat} {f : X} {args : List X} {fid : FuncId} {first cap as : List SV} {F : Hp} {Q : SV → Hp → Prop} (hc : cO P o.op = some (.call f args))
    (h1 : ev E f = some (.fn (.func fid) first cap)) (h2 : evs E args = some as) (hSC : SC P fid (first ++ as ++ cap) F k nk Q) (hsub : ∀ n ob, lk F n = some ob → H n = some ob) : SoundQ P o E H k nk F Q := by
  obtain ⟨c, fo, hop, hcal, hf, ha⟩ := cO_call hc
  exact ⟨hsub, fun rd p μ M a w K QQ hnew hk hS hK => s_callQ hop hcal hf ha h1 h2 hSC hnew hk hS hK⟩
/-- Less is known. -/
theorem SW.toN {N k0 : Nat} {st : St} {sis : List SI} {K : St → Prop} {st1 : St} {ρ : Nat → Nat} (hw : Weak k0 st st1 ρ) (h : SWn P N k0 sis st1 K) : SWn P N k0 sis st K :=
  fun ops i h1 h2 h3 rd μ0 M0 w0 c0 a w hSt => h ops i h1 h2 h3 rd μ0 M0 w0 c0 a w (hSt.weak hw)
theorem SW.ofN {N k0 : Nat} {st : St} {Q : Exit → St → Prop} {sis : List SI} {bs : List Nat} (h : SWn P N k0 sis st (Q .normal)) : SW P N k0 (.reg sis bs false) st Q := by
  intro c hc rd hrf μ0 M0 w0 c0 a w hSt
  cases c <;> simp only [cK] at hc <;> first
    | (cases hc; done)
    | (exfalso; split at hc <;> cases hc; done)
    | (exfalso; obtain ⟨_, _, h'⟩ := Option.map_eq_some_iff.1 hc; cases h'; done)
    | skip
  rename_i id ops draw
  split at hc <;> first | (cases hc; done) | skip
  rename_i sis' bs' hreg
  injection hc with hc
  injection hc with h1 h2 h3
  subst h1; subst h3
  unfold cReg at hreg
  split at hreg <;> first | (cases hreg; done) | skip
  rename_i sis2 hsis
  split at hreg <;> first | (cases hreg; done) | skip
  rename_i hchk
  injection hreg with hreg
  injection hreg with hr1 hr2
  subst hr1
  simp only [Bool.and_eq_true] at hchk
  obtain ⟨_, hin⟩ := hchk
  obtain ⟨hlen, hget⟩ := cOpers_get hsis
  refine wpIn_region ?_
  rw [List.range_eq_range']
  have hn : ops.size = sis2.length := by simpa using hlen
  rw [hn]
  refine h ops 0 (by omega) (fun j si hj => ?_) (fun si hs d hd => ?_) rd μ0 M0 w0 c0 a w hSt _ fun st' a' w' hk hSt' => ⟨st', hk, hSt'⟩
  · have hj' : j < ops.size := by rw [hn]; exact (List.getElem?_eq_some_iff.1 hj).1
    obtain ⟨si', h1, h2⟩ := hget j ops[j] (by simp [hj'])
    rw [hj] at h1; injection h1 with h1; subst h1
    exact ⟨ops[j], by rw [Nat.zero_add]; exact Array.getElem?_eq_getElem hj', h2⟩
  · have := List.all_eq_true.1 hin si hs
    rw [hd] at this
    simpa using this
end Go.Sl

/-
  Spends as data; maps whose values are amounts; clients that are given several values at once.
-/
set_option linter.unusedVariables false
set_option linter.unusedSimpArgs false
set_option linter.unusedSectionVars false
namespace Go.Sl
open Go.RowKit

/-! ### amounts as a map's values -/
def uv (n : Nat) : SV := .d (.int .u64 (n : Int))
section
variable {K : Type} [DecidableEq K] {kc : K → List SV}
theorem look_uv (L : MM K Nat) (a : K) : lookS (mapE kc uv L) (.d (.int .u64 0)) (MM.idx L a) = .d (.int .u64 (((MM.get L a).getD 0 : Nat) : Int)) := look_mapE (vs := uv) 0 L a
theorem mset_uv (L : MM K Nat) (c : Nat) (a : K) (n : Nat) : msetS (mapE kc uv L) c (.agg (kc a)) (.d (.int .u64 (n : Int))) (MM.idx L a) = .map (mapE kc uv (MM.put L c a n)) (MM.clk L c a) := mset_mapE (vs := uv) L c a n
theorem ment_uv (L : MM K Nat) (c : Nat) (a : K) : mentO (mapE kc uv L) c (.agg (kc a)) (.d (.int .u64 0)) (MM.idx L a) = .map (mapE kc uv (MM.ent L c a 0)) (MM.clk L c a) := ment_O (vs := uv) L c a 0
theorem mput_uv (L : MM K Nat) (c : Nat) (a : K) (z v : Nat) : (mapE kc uv (MM.ent L c a z)).modify (MM.pos L a) (fun e => (e.1, e.2.1, .d (.int .u64 (v : Int)))) = mapE kc uv (MM.put L c a v) := mstor_put (vs := uv) L c a z v
theorem umap_ren (ρ : Nat → Nat) (L : MM Dt Nat) : (mapE Dt.cells uv L).map (fun e => (e.1, e.2.1.ren ρ, e.2.2.ren ρ)) = mapE Dt.cells uv L := mapE_ren ρ L (fun a => Dt.cells_ren a ρ) (fun v => rfl)
theorem umap_ok (q : Nat → Bool) (L : MM Dt Nat) : ((mapE Dt.cells uv L).all fun e => e.2.1.ok q && e.2.2.ok q) = true := mapE_ok q L (fun a => Dt.cells_ok a q) (fun v => rfl)
end

/-! ### spends -/
structure Sp where
  d : Dt
  n : Nat
  deriving DecidableEq
def Sp.ds (x : Sp) : List DV := [.int .u8 x.d.r, .int .u32 x.d.n, .int .u64 x.n]
def Sp.cells (x : Sp) : List SV := x.ds.map .d
theorem Sp.map_ds (x : Sp) : x.ds.map .d = x.cells := rfl
@[simp] theorem Sp.ds_len (x : Sp) : x.ds.length = 3 := rfl
@[simp] theorem Sp.cells_len (x : Sp) : x.cells.length = 3 := rfl
@[simp] theorem Sp.cells_ok (x : Sp) (q : Nat → Bool) : SV.oks q x.cells = true := SV.oks_d _
@[simp] theorem Sp.cells_ren (x : Sp) (ρ : Nat → Nat) : SV.rens ρ x.cells = x.cells := SV.rens_d _
theorem Sp.cells_one (x : Sp) : x.cells.all SV.isOne = true := rfl
@[simp] theorem Sp.take_all (x : Sp) : x.cells.take 3 = x.cells := rfl
theorem Sp.gDot (x : Sp) : x.cells.take 2 = x.d.cells := rfl
theorem Sp.gN (x : Sp) : x.cells[2]? = some (u64 x.n) := rfl
theorem Sp.gR (x : Sp) : x.cells[0]? = some (u8 x.d.r) := rfl
theorem Sp.spl_all (c x : Sp) : spl c.cells 0 x.cells = x.cells := rfl
def Sp.zero : Sp := ⟨⟨0, 0⟩, 0⟩
theorem Sp.zero_cells : ([.d (.int .u8 0), .d (.int .u32 0), .d (.int .u64 0)] : List SV) = Sp.zero.cells := rfl
theorem Sp.bld (d : Dt) (n : Nat) : spl (spl Sp.zero.cells 0 d.cells) 2 [.d (.int .u64 (n : Int))] = (Sp.mk d n).cells := rfl
theorem Sp.eqb (a b : Sp) : csqS [true, true, true] a.cells b.cells = some (decide (a = b)) := by
  have h : csqS [true, true, true] a.cells b.cells = some (((a.d.r : Int) == b.d.r) && (((a.d.n : Int) == b.d.n) && (((a.n : Int) == b.n) && true))) := by simp [csqS, cqS, Sp.cells, Sp.ds]
  rw [h]
  congr 1
  obtain ⟨⟨a0, a1⟩, a2⟩ := a
  obtain ⟨⟨b0, b1⟩, b2⟩ := b
  rw [Bool.eq_iff_iff]
  simp
  omega
abbrev spc (l : List Sp) : List SV := List.map SV.d (l.flatMap Sp.ds)
abbrev sps (l : List Sp) : SV := .d (.sl l.length (l.flatMap Sp.ds))
@[simp] theorem sps_len (l : List Sp) : (l.flatMap Sp.ds).length = l.length * 3 := flat_length Sp.ds 3 (fun _ => rfl) l
theorem sp_at {l : List Sp} {i : Nat} {x : Sp} (h : l[i]? = some x) : List.take 3 (List.drop (i * 3) (List.map SV.d (l.flatMap Sp.ds))) = x.cells := by
  rw [← List.map_drop, ← List.map_take, flat_take Sp.ds 3 (fun _ => rfl) l i x h]
  rfl
theorem sp_get {l : List Sp} {i : Nat} {x : Sp} (h : l[i]? = some x) {j : Nat} (hj : j < 3) : (List.map SV.d (l.flatMap Sp.ds))[i * 3 + j]? = x.cells[j]? := by
  rw [List.getElem?_map, flat_get Sp.ds 3 (fun _ => rfl) l i j x h hj, Sp.cells, List.getElem?_map]
theorem sp_amount {l : List Sp} {i : Nat} {x : Sp} (h : l[i]? = some x) : (List.map SV.d (l.flatMap Sp.ds))[i * 3 + 2]? = some (u64 x.n) := by rw [sp_get h (by omega)]; rfl
theorem sp_dot {l : List Sp} {i : Nat} {x : Sp} (h : l[i]? = some x) : List.take 2 (List.drop (i * 3) (List.map SV.d (l.flatMap Sp.ds))) = x.d.cells := by
  have h1 : List.take 2 (List.drop (i * 3) (List.map SV.d (l.flatMap Sp.ds))) = (List.take 3 (List.drop (i * 3) (List.map SV.d (l.flatMap Sp.ds)))).take 2 := by rw [List.take_take]; rfl
  rw [h1, sp_at h, Sp.gDot]
theorem sp_room {l : List Sp} {i j n : Nat} {x : Sp} (h : l[i]? = some x) (hj : j + n ≤ 3) : (i * 3 + j + n ≤ (List.map SV.d (l.flatMap Sp.ds)).length) = True := eq_true (by
  have := lt_of_get h
  rw [List.length_map, sps_len]
  omega)
theorem sp_room2 {l : List Sp} {i : Nat} {x : Sp} (h : l[i]? = some x) : (i * 3 + 2 ≤ (List.map SV.d (l.flatMap Sp.ds)).length) = True := eq_true (by
  have := lt_of_get h
  rw [List.length_map, sps_len]
  omega)
theorem sp_room3 {l : List Sp} {i : Nat} {x : Sp} (h : l[i]? = some x) : (i * 3 + 3 ≤ (List.map SV.d (l.flatMap Sp.ds)).length) = True := eq_true (by
  have := lt_of_get h
  rw [List.length_map, sps_len]
  omega)
theorem cr_data (x : Cr) : datas x.cells = some x.ds := rfl
theorem sp_data (x : Sp) : datas x.cells = some x.ds := rfl
end Go.Sl

/-
  Walks: the pieces that a program prints; the simplifier's rules stand in the default proofs.
-/
set_option linter.unusedVariables false
set_option linter.unusedSimpArgs false
set_option linter.unusedSectionVars false
namespace Go.Sl
variable {P : Program}

theorem HSub.cons {F h : Hp} {n : Nat} {ob : Ob} (h1 : lk h n = some ob) (h2 : HSub F h) : HSub ((n, ob) :: F) h := fun m ob' hm => by
  rw [lk_cons] at hm
  split at hm
  · rename_i e; subst e; injection hm with hm; subst hm; exact h1
  · exact h2 m ob' hm
theorem wrap_i64 (n : Int) (h : -9223372036854775808 ≤ n ∧ n < 9223372036854775808) : IntKind.i64.wrap n = n := wrap_i n h.1 h.2
theorem wrap_u64' (n : Int) (h : 0 ≤ n ∧ n < 18446744073709551616) : IntKind.u64.wrap n = n := by
  have := wrap_u64 n.toNat (by omega)
  rwa [show ((n.toNat : Nat) : Int) = n by omega] at this
theorem wrap_u32' (n : Int) (h : 0 ≤ n ∧ n < 4294967296) : IntKind.u32.wrap n = n := by
  have := wrap_u32 n.toNat (by omega)
  rwa [show ((n.toNat : Nat) : Int) = n by omega] at this
theorem wrap_u8' (n : Int) (h : 0 ≤ n ∧ n < 256) : IntKind.u8.wrap n = n := by
  have := wrap_u8 n.toNat (by omega)
  rwa [show ((n.toNat : Nat) : Int) = n by omega] at this
theorem bq_tt : (true == true) = true := rfl
theorem bq_ff : (false == false) = true := rfl
theorem Dt.bldI (c : Dt) (a b : Int) (h : 0 ≤ a ∧ 0 ≤ b) : spl (spl c.cells 0 [.d (.int .u8 a)]) 1 [.d (.int .u32 b)] = (Dt.mk a.toNat b.toNat).cells := by
  have := Dt.bld c a.toNat b.toNat
  rwa [show ((a.toNat : Nat) : Int) = a by omega, show ((b.toNat : Nat) : Int) = b by omega] at this
theorem Dt.bldN (c : Dt) (b : Int) (h : 0 ≤ b) : spl c.cells 1 [.d (.int .u32 b)] = (Dt.mk c.r b.toNat).cells := by
  rw [show b = ((b.toNat : Nat) : Int) by omega]; rfl
theorem cast_lit (n k : Nat) : (n : Int) + (no_index (OfNat.ofNat k) : Int) = ((n + OfNat.ofNat k : Nat) : Int) := rfl
theorem cast_add (n k : Nat) : (n : Int) + (k : Int) = ((n + k : Nat) : Int) := rfl

/-- Fewer slots. -/
def Pruned (L : List Nat) (st : St) (R : St → Prop) : Prop := R ⟨st.env.filter (fun x => L.contains x.1), st.hp, st.k⟩
theorem Pruned.mk {L : List Nat} {env : List (Nat × SV)} {hp : Hp} {k : Nat} {R : St → Prop} {env' : List (Nat × SV)}
    (he : env.filter (fun x => L.contains x.1) = env' := by (simp only [argE, Nat.zero_add, Nat.reduceAdd, List.filter, List.contains_cons, List.contains_nil, Nat.reduceBEq, Bool.or_false, Bool.or_true, Bool.true_or, Bool.false_or, BEq.rfl, beq_self_eq_true] <;> with_reducible rfl)) (h : R ⟨env', hp, k⟩) : Pruned L ⟨env, hp, k⟩ R := by
  show R ⟨env.filter _, hp, k⟩; rw [he]; exact h
theorem lookup_keep (L : List Nat) : ∀ (env : List (Nat × SV)) (t : Nat) (s : SV), (env.filter (fun x => L.contains x.1)).lookup t = some s → env.lookup t = some s
  | [], t, s, h => by simp at h
  | (u, x) :: env, t, s, h => by
    simp only [List.filter] at h
    by_cases hu : L.contains u = true
    · rw [hu] at h
      simp only [List.lookup] at h ⊢
      split at h
      · exact h
      · exact lookup_keep L env t s h
    · rw [show L.contains u = false by simpa using hu] at h
      have h2 := lookup_keep L env t s h
      simp only [List.lookup]
      by_cases e : t = u
      · subst e
        exfalso
        have : ∀ (env : List (Nat × SV)), (env.filter (fun x => L.contains x.1)).lookup t = none := by
          intro env
          induction env with
          | nil => rfl
          | cons y env ih =>
            simp only [List.filter]
            by_cases hy : L.contains y.1 = true
            · rw [hy]
              simp only [List.lookup]
              have : (t == y.1) = false := by
                simp only [beq_eq_false_iff_ne]; intro e; rw [← e] at hy; exact hu hy
              rw [this]; exact ih
            · rw [show L.contains y.1 = false by simpa using hy]; exact ih
        rw [this] at h; cases h
      · rw [show (t == u) = false by simpa using e]; exact h2
theorem SW.regL {N k0 : Nat} {st : St} {Q : Exit → St → Prop} {sis : List SI} {bs : List Nat} {draw : Bool} (L : List Nat) (hm : P.follows .mixedOrders = true) (h : RW P sis st fun st' ts => (!draw || noConf bs ts) = true ∧ Pruned L st' (Q .normal)) : SW P N k0 (.reg sis bs draw) st Q := by
  have h' : RW P sis st fun st' ts => (!draw || noConf bs ts) = true ∧ (fun e st' => ∃ st2, Q e st2 ∧ st2 = ⟨st'.env.filter (fun x => L.contains x.1), st'.hp, st'.k⟩) Exit.normal st' := by
    obtain ⟨crs, st', ob, ts, hr, ho, hn, hk⟩ := h
    exact ⟨crs, st', ob, ts, hr, ho, hn, _, hk, rfl⟩
  have := SW.regR (N := N) (k0 := k0) (bs := bs) (draw := draw) (Q := fun e st' => ∃ st2, Q e st2 ∧ st2 = ⟨st'.env.filter (fun x => L.contains x.1), st'.hp, st'.k⟩) hm h'
  intro c hc rd hrf μ0 M0 w0 c0 a w hSt
  refine wpIn_mono (this c hc rd hrf μ0 M0 w0 c0 a w hSt) ?_
  rintro e a' w' ⟨st', ⟨st2, hq, rfl⟩, hst'⟩
  obtain ⟨h1, h2, h3, μ, M, h4, h5, h6⟩ := hst'
  exact ⟨_, hq, h1, h2, h3, μ, M, fun t s hl => h4 t s (lookup_keep L _ t s hl), h5, h6⟩
/-- Code that ends at one place, whatever way it goes. -/
theorem SW.cut {N k0 : Nat} {st : St} {Q : Exit → St → Prop} {x y : SCo} (stM : St) (ρ : Nat → Nat) (h1 : SW P N k0 x st fun e st' => match e with | .normal => Weak k0 st' stM ρ | _ => False) (h2 : SW P N k0 y stM Q) : SW P N k0 (.seq x y) st Q := by
  refine SW.seq (h1.mono fun e st' h => ?_)
  cases e <;> first | exact h.elim | exact SW.weak ρ h h2

section
variable {sis rest r : List SI} {st st' : St} {ob : Prop} {ts : List (Bool × List Nat)} {K : St → List (Bool × List Nat) → Prop}
/-- A plain operation that changes no object. -/
theorem RW.ro {d : Nat} {op : SO} {g : Option (Nat × Bool)} {env : List (Nat × SV)} {hp F F' : Hp} {k : Nat} {v : SV} {nk : Nat} {ob : Prop} {Φ : Prop} (φ : Φ)
    (hr : roOf op = true := by rfl) (hc : isCall op = false := by rfl) (hb : isBsl op = false := by rfl)
    (hg : g = none ∨ ∃ t w, g = some (t, w) ∧ env.lookup t = some (.d (.bool w)) := by first | exact .inl rfl | exact .inr ⟨_, _, rfl, rfl⟩)
    (he : Φ → goOp P ⟨env, hp, k⟩ op [] = some (⟨v, F, F', nk, ob⟩, []) := by
      intro φ
      simp (disch := omega) only [Go.Sl.seg, argE, isCall, goOp, sop, ev, evs, evp, upd, List.lookup, Nat.reduceBEq, Nat.reduceAdd, Nat.reduceMul, Nat.zero_add, SV.cells, if_true, if_false, reduceIte, Bool.false_eq_true, roOf, hmrg, hsets, hdels, hset, hrep, hdel, lk, List.filter, Nat.reduceBNe, bne_self_eq_false, eq_self, ldv, ldo, cellsAt, binV, binK, mvp, Vec.cells_one, BEq.rfl, beq_self_eq_true, Bool.true_or, Nat.reduceEqDiff, List.map_cons, List.map_nil, List.nil_append, List.cons_append, List.append_nil, Int.toNat_natCast, Nat.mul_one, Nat.add_zero, findS, keyOk, isAggS, msetS_none, msetS_some, mdelS_none, mdelS_some, lookS_none, lookS_some, lookOk, Option.isSome_some, Option.isSome_none, Option.isNone_some, Option.isNone_none, Nat.zero_ne_one, Nat.one_ne_zero, Bool.and_false, Bool.and_true, List.drop_zero, Vec.zero_cells, Vec.take_all, Vec.spl_all, Dt.cells_one, Dt.take_all, Dt.get0, Dt.get1, Dt.spl_all, Dt.zero_cells, Dt.bldI, Dt.bldN, bldS, datas, appB, appX, List.all_cons, List.all_nil, SV.isOne, Int.cast_ofNat_Int, Int.reduceBNe, Int.reduceBEq, Int.reduceLT, Int.reduceLE, Int.reduceGT, Int.reduceGE, one_map, bq_ft, bq_tf, Bool.not_true, Bool.not_false, Bool.or_false, Bool.or_true, Bool.false_or, Bool.or_self, Vec.row0, Vec.row8, Vec.row16, Vec.row24, Vec.datas_app, Vec.datas_one, Dt.row0, Dt.row2, Dt.datas_app, Dt.datas_one, List.all_append, Vec.eqb8, Dt.eqb, Bool.cond_true, Bool.cond_false, wrap_i64, wrap_u64', wrap_u32', wrap_u8', bq_tt, bq_ff, cast_lit, cast_add, Int.reduceToNat, List.length_nil, List.getElem?_cons_zero, List.getElem?_cons_succ, List.take_succ_cons, List.take_zero, List.drop_succ_cons, decide_true, decide_false, Bool.true_and, Bool.and_self, Bool.false_and, find_dt, find_vc, look_int, mset_int, mdel_mapE, MM.idx_isSome, mapE_len, ment_T, ment_iv, mput_iv, ment_ov, mput_ov, ment_cv, mput_cv, look_ov, look_cv, OpD.cells_one, OpD.take_all, OpD.gDot, OpD.gDep, OpD.gTime, OpD.gWho, OpD.gCart, OpD.gKind, OpD.gCred, OpD.gTo, OpD.gRoles, OpD.gDepth, OpD.gCap, OpD.gAt, OpD.gVer, OpD.gItem, OpD.gQty, OpD.gPrice, OpD.gLines, OpD.gDotR, OpD.gDotN, OpD.spl_all, OpD.zero_cells, Cr.cells_one, Cr.take_all, Cr.gDot, Cr.gCart, Cr.gPar, Cr.gHold, Cr.gRoles, Cr.gDepth, Cr.gCap, Cr.gLevel, Cr.spl_all, Cr.zero_cells, Cr.eqb, look_uv, mset_uv, ment_uv, mput_uv, Sp.cells_one, Sp.take_all, Sp.gDot, Sp.gN, Sp.spl_all, Sp.zero_cells, Sp.bld, Sp.eqb, sp_data, cr_data, φ]
      with_reducible rfl)
    (hob : ob := by first | trivial | (repeat' (first | exact trivial | omega | apply And.intro | (simp [-List.length_flatMap, -Int.natCast_add]; done) | (simp [-List.length_flatMap, -Int.natCast_add] <;> omega))))
    (hk : nk = 0 := by rfl)
    (h : RW P r ⟨(d, v) :: env, hp, k⟩ fun st' ts => K st' ((true, F.map (·.1) ++ F'.map (·.1)) :: ts)) : RW P (⟨some d, op, g⟩ :: r) ⟨env, hp, k⟩ K := RW.ro_aux hr hc hb hg (he φ) hob hk h
/-- A plain operation. -/
theorem RW.op {d : Nat} {op : SO} {g : Option (Nat × Bool)} {env : List (Nat × SV)} {hp hp' F F' : Hp} {k k' : Nat} {v : SV} {nk : Nat} {ob : Prop} {Φ : Prop} (φ : Φ)
    (hc : isCall op = false := by rfl)
    (hg : g = none ∨ ∃ t w, g = some (t, w) ∧ env.lookup t = some (.d (.bool w)) := by first | exact .inl rfl | exact .inr ⟨_, _, rfl, rfl⟩)
    (he : Φ → goOp P ⟨env, hp, k⟩ op [] = some (⟨v, F, F', nk, ob⟩, []) := by
      intro φ
      simp (disch := omega) only [Go.Sl.seg, argE, isCall, goOp, sop, ev, evs, evp, upd, List.lookup, Nat.reduceBEq, Nat.reduceAdd, Nat.reduceMul, Nat.zero_add, SV.cells, if_true, if_false, reduceIte, Bool.false_eq_true, roOf, hmrg, hsets, hdels, hset, hrep, hdel, lk, List.filter, Nat.reduceBNe, bne_self_eq_false, eq_self, ldv, ldo, cellsAt, binV, binK, mvp, Vec.cells_one, BEq.rfl, beq_self_eq_true, Bool.true_or, Nat.reduceEqDiff, List.map_cons, List.map_nil, List.nil_append, List.cons_append, List.append_nil, Int.toNat_natCast, Nat.mul_one, Nat.add_zero, findS, keyOk, isAggS, msetS_none, msetS_some, mdelS_none, mdelS_some, lookS_none, lookS_some, lookOk, Option.isSome_some, Option.isSome_none, Option.isNone_some, Option.isNone_none, Nat.zero_ne_one, Nat.one_ne_zero, Bool.and_false, Bool.and_true, List.drop_zero, Vec.zero_cells, Vec.take_all, Vec.spl_all, Dt.cells_one, Dt.take_all, Dt.get0, Dt.get1, Dt.spl_all, Dt.zero_cells, Dt.bldI, Dt.bldN, bldS, datas, appB, appX, List.all_cons, List.all_nil, SV.isOne, Int.cast_ofNat_Int, Int.reduceBNe, Int.reduceBEq, Int.reduceLT, Int.reduceLE, Int.reduceGT, Int.reduceGE, one_map, bq_ft, bq_tf, Bool.not_true, Bool.not_false, Bool.or_false, Bool.or_true, Bool.false_or, Bool.or_self, Vec.row0, Vec.row8, Vec.row16, Vec.row24, Vec.datas_app, Vec.datas_one, Dt.row0, Dt.row2, Dt.datas_app, Dt.datas_one, List.all_append, Vec.eqb8, Dt.eqb, Bool.cond_true, Bool.cond_false, wrap_i64, wrap_u64', wrap_u32', wrap_u8', bq_tt, bq_ff, cast_lit, cast_add, Int.reduceToNat, List.length_nil, List.getElem?_cons_zero, List.getElem?_cons_succ, List.take_succ_cons, List.take_zero, List.drop_succ_cons, decide_true, decide_false, Bool.true_and, Bool.and_self, Bool.false_and, find_dt, find_vc, look_int, mset_int, mdel_mapE, MM.idx_isSome, mapE_len, ment_T, ment_iv, mput_iv, ment_ov, mput_ov, ment_cv, mput_cv, look_ov, look_cv, OpD.cells_one, OpD.take_all, OpD.gDot, OpD.gDep, OpD.gTime, OpD.gWho, OpD.gCart, OpD.gKind, OpD.gCred, OpD.gTo, OpD.gRoles, OpD.gDepth, OpD.gCap, OpD.gAt, OpD.gVer, OpD.gItem, OpD.gQty, OpD.gPrice, OpD.gLines, OpD.gDotR, OpD.gDotN, OpD.spl_all, OpD.zero_cells, Cr.cells_one, Cr.take_all, Cr.gDot, Cr.gCart, Cr.gPar, Cr.gHold, Cr.gRoles, Cr.gDepth, Cr.gCap, Cr.gLevel, Cr.spl_all, Cr.zero_cells, Cr.eqb, look_uv, mset_uv, ment_uv, mput_uv, Sp.cells_one, Sp.take_all, Sp.gDot, Sp.gN, Sp.spl_all, Sp.zero_cells, Sp.bld, Sp.eqb, sp_data, cr_data, φ]
      with_reducible rfl)
    (hob : ob := by first | trivial | (repeat' (first | exact trivial | omega | apply And.intro | (simp [-List.length_flatMap, -Int.natCast_add]; done) | (simp [-List.length_flatMap, -Int.natCast_add] <;> omega))))
    (hh : Φ → hmrg (roOf op) hp F F' = hp' := by (intro φ; simp only [φ, roOf, hmrg, hsets, hdels, hset, hrep, hdel, lk, List.lookup, Nat.reduceBEq, BEq.rfl, beq_self_eq_true, if_true, if_false, reduceIte, Nat.reduceEqDiff, Bool.false_eq_true, Option.isSome_some, Option.isSome_none] <;> with_reducible rfl))
    (hk : k + nk = k' := by first | (simp only [Nat.add_zero, Nat.reduceAdd] <;> rfl) | rfl)
    (h : RW P r ⟨(d, v) :: env, hp', k'⟩ fun st' ts => K st' ((roOf op, F.map (·.1) ++ F'.map (·.1)) :: ts)) : RW P (⟨some d, op, g⟩ :: r) ⟨env, hp, k⟩ K := RW.op_aux hc hg (he φ) hob (hh φ) hk h
theorem RW.opN {op : SO} {g : Option (Nat × Bool)} {env : List (Nat × SV)} {hp hp' F F' : Hp} {k k' : Nat} {v : SV} {nk : Nat} {ob : Prop} {Φ : Prop} (φ : Φ)
    (hc : isCall op = false := by rfl)
    (hg : g = none ∨ ∃ t w, g = some (t, w) ∧ env.lookup t = some (.d (.bool w)) := by first | exact .inl rfl | exact .inr ⟨_, _, rfl, rfl⟩)
    (he : Φ → goOp P ⟨env, hp, k⟩ op [] = some (⟨v, F, F', nk, ob⟩, []) := by
      intro φ
      simp (disch := omega) only [Go.Sl.seg, argE, isCall, goOp, sop, ev, evs, evp, upd, List.lookup, Nat.reduceBEq, Nat.reduceAdd, Nat.reduceMul, Nat.zero_add, SV.cells, if_true, if_false, reduceIte, Bool.false_eq_true, roOf, hmrg, hsets, hdels, hset, hrep, hdel, lk, List.filter, Nat.reduceBNe, bne_self_eq_false, eq_self, ldv, ldo, cellsAt, binV, binK, mvp, Vec.cells_one, BEq.rfl, beq_self_eq_true, Bool.true_or, Nat.reduceEqDiff, List.map_cons, List.map_nil, List.nil_append, List.cons_append, List.append_nil, Int.toNat_natCast, Nat.mul_one, Nat.add_zero, findS, keyOk, isAggS, msetS_none, msetS_some, mdelS_none, mdelS_some, lookS_none, lookS_some, lookOk, Option.isSome_some, Option.isSome_none, Option.isNone_some, Option.isNone_none, Nat.zero_ne_one, Nat.one_ne_zero, Bool.and_false, Bool.and_true, List.drop_zero, Vec.zero_cells, Vec.take_all, Vec.spl_all, Dt.cells_one, Dt.take_all, Dt.get0, Dt.get1, Dt.spl_all, Dt.zero_cells, Dt.bldI, Dt.bldN, bldS, datas, appB, appX, List.all_cons, List.all_nil, SV.isOne, Int.cast_ofNat_Int, Int.reduceBNe, Int.reduceBEq, Int.reduceLT, Int.reduceLE, Int.reduceGT, Int.reduceGE, one_map, bq_ft, bq_tf, Bool.not_true, Bool.not_false, Bool.or_false, Bool.or_true, Bool.false_or, Bool.or_self, Vec.row0, Vec.row8, Vec.row16, Vec.row24, Vec.datas_app, Vec.datas_one, Dt.row0, Dt.row2, Dt.datas_app, Dt.datas_one, List.all_append, Vec.eqb8, Dt.eqb, Bool.cond_true, Bool.cond_false, wrap_i64, wrap_u64', wrap_u32', wrap_u8', bq_tt, bq_ff, cast_lit, cast_add, Int.reduceToNat, List.length_nil, List.getElem?_cons_zero, List.getElem?_cons_succ, List.take_succ_cons, List.take_zero, List.drop_succ_cons, decide_true, decide_false, Bool.true_and, Bool.and_self, Bool.false_and, find_dt, find_vc, look_int, mset_int, mdel_mapE, MM.idx_isSome, mapE_len, ment_T, ment_iv, mput_iv, ment_ov, mput_ov, ment_cv, mput_cv, look_ov, look_cv, OpD.cells_one, OpD.take_all, OpD.gDot, OpD.gDep, OpD.gTime, OpD.gWho, OpD.gCart, OpD.gKind, OpD.gCred, OpD.gTo, OpD.gRoles, OpD.gDepth, OpD.gCap, OpD.gAt, OpD.gVer, OpD.gItem, OpD.gQty, OpD.gPrice, OpD.gLines, OpD.gDotR, OpD.gDotN, OpD.spl_all, OpD.zero_cells, Cr.cells_one, Cr.take_all, Cr.gDot, Cr.gCart, Cr.gPar, Cr.gHold, Cr.gRoles, Cr.gDepth, Cr.gCap, Cr.gLevel, Cr.spl_all, Cr.zero_cells, Cr.eqb, look_uv, mset_uv, ment_uv, mput_uv, Sp.cells_one, Sp.take_all, Sp.gDot, Sp.gN, Sp.spl_all, Sp.zero_cells, Sp.bld, Sp.eqb, sp_data, cr_data, φ]
      with_reducible rfl)
    (hob : ob := by first | trivial | (repeat' (first | exact trivial | omega | apply And.intro | (simp [-List.length_flatMap, -Int.natCast_add]; done) | (simp [-List.length_flatMap, -Int.natCast_add] <;> omega))))
    (hh : Φ → hmrg (roOf op) hp F F' = hp' := by (intro φ; simp only [φ, roOf, hmrg, hsets, hdels, hset, hrep, hdel, lk, List.lookup, Nat.reduceBEq, BEq.rfl, beq_self_eq_true, if_true, if_false, reduceIte, Nat.reduceEqDiff, Bool.false_eq_true, Option.isSome_some, Option.isSome_none] <;> with_reducible rfl))
    (hk : k + nk = k' := by first | (simp only [Nat.add_zero, Nat.reduceAdd] <;> rfl) | rfl)
    (h : RW P r ⟨env, hp', k'⟩ fun st' ts => K st' ((roOf op, F.map (·.1) ++ F'.map (·.1)) :: ts)) : RW P (⟨none, op, g⟩ :: r) ⟨env, hp, k⟩ K := RW.op_aux hc hg (he φ) hob (hh φ) hk h
theorem RW.lit {d : Nat} {e sz len : Nat} {z : List SV} {parts : List (Nat × Nat × X)} {g : Option (Nat × Bool)} {env : List (Nat × SV)} {hp hp' F F' : Hp} {k k' : Nat} {v : SV} {nk : Nat} {ob : Prop} {Φ : Prop} (φ : Φ)
    (hg : g = none ∨ ∃ t w, g = some (t, w) ∧ env.lookup t = some (.d (.bool w)) := by first | exact .inl rfl | exact .inr ⟨_, _, rfl, rfl⟩)
    (he : Φ → goOp P ⟨env, hp, k⟩ (.bsl e sz len z parts) [.own] = some (⟨v, F, F', nk, ob⟩, []) := by
      intro φ
      simp (disch := omega) only [Go.Sl.seg, argE, isCall, goOp, sop, ev, evs, evp, upd, List.lookup, Nat.reduceBEq, Nat.reduceAdd, Nat.reduceMul, Nat.zero_add, SV.cells, if_true, if_false, reduceIte, Bool.false_eq_true, roOf, hmrg, hsets, hdels, hset, hrep, hdel, lk, List.filter, Nat.reduceBNe, bne_self_eq_false, eq_self, ldv, ldo, cellsAt, binV, binK, mvp, Vec.cells_one, BEq.rfl, beq_self_eq_true, Bool.true_or, Nat.reduceEqDiff, List.map_cons, List.map_nil, List.nil_append, List.cons_append, List.append_nil, Int.toNat_natCast, Nat.mul_one, Nat.add_zero, findS, keyOk, isAggS, msetS_none, msetS_some, mdelS_none, mdelS_some, lookS_none, lookS_some, lookOk, Option.isSome_some, Option.isSome_none, Option.isNone_some, Option.isNone_none, Nat.zero_ne_one, Nat.one_ne_zero, Bool.and_false, Bool.and_true, List.drop_zero, Vec.zero_cells, Vec.take_all, Vec.spl_all, Dt.cells_one, Dt.take_all, Dt.get0, Dt.get1, Dt.spl_all, Dt.zero_cells, Dt.bldI, Dt.bldN, bldS, datas, appB, appX, List.all_cons, List.all_nil, SV.isOne, Int.cast_ofNat_Int, Int.reduceBNe, Int.reduceBEq, Int.reduceLT, Int.reduceLE, Int.reduceGT, Int.reduceGE, one_map, bq_ft, bq_tf, Bool.not_true, Bool.not_false, Bool.or_false, Bool.or_true, Bool.false_or, Bool.or_self, Vec.row0, Vec.row8, Vec.row16, Vec.row24, Vec.datas_app, Vec.datas_one, Dt.row0, Dt.row2, Dt.datas_app, Dt.datas_one, List.all_append, Vec.eqb8, Dt.eqb, Bool.cond_true, Bool.cond_false, wrap_i64, wrap_u64', wrap_u32', wrap_u8', bq_tt, bq_ff, cast_lit, cast_add, Int.reduceToNat, List.length_nil, List.getElem?_cons_zero, List.getElem?_cons_succ, List.take_succ_cons, List.take_zero, List.drop_succ_cons, decide_true, decide_false, Bool.true_and, Bool.and_self, Bool.false_and, find_dt, find_vc, look_int, mset_int, mdel_mapE, MM.idx_isSome, mapE_len, ment_T, ment_iv, mput_iv, ment_ov, mput_ov, ment_cv, mput_cv, look_ov, look_cv, OpD.cells_one, OpD.take_all, OpD.gDot, OpD.gDep, OpD.gTime, OpD.gWho, OpD.gCart, OpD.gKind, OpD.gCred, OpD.gTo, OpD.gRoles, OpD.gDepth, OpD.gCap, OpD.gAt, OpD.gVer, OpD.gItem, OpD.gQty, OpD.gPrice, OpD.gLines, OpD.gDotR, OpD.gDotN, OpD.spl_all, OpD.zero_cells, Cr.cells_one, Cr.take_all, Cr.gDot, Cr.gCart, Cr.gPar, Cr.gHold, Cr.gRoles, Cr.gDepth, Cr.gCap, Cr.gLevel, Cr.spl_all, Cr.zero_cells, Cr.eqb, look_uv, mset_uv, ment_uv, mput_uv, Sp.cells_one, Sp.take_all, Sp.gDot, Sp.gN, Sp.spl_all, Sp.zero_cells, Sp.bld, Sp.eqb, sp_data, cr_data, φ]
      with_reducible rfl)
    (hob : ob := by first | trivial | (repeat' (first | exact trivial | omega | apply And.intro | (simp [-List.length_flatMap, -Int.natCast_add]; done) | (simp [-List.length_flatMap, -Int.natCast_add] <;> omega))))
    (hh : Φ → hmrg false hp F F' = hp' := by (intro φ; simp only [φ, roOf, hmrg, hsets, hdels, hset, hrep, hdel, lk, List.lookup, Nat.reduceBEq, BEq.rfl, beq_self_eq_true, if_true, if_false, reduceIte, Nat.reduceEqDiff, Bool.false_eq_true, Option.isSome_some, Option.isSome_none] <;> with_reducible rfl))
    (hk : k + nk = k' := by first | (simp only [Nat.add_zero, Nat.reduceAdd] <;> rfl) | rfl)
    (h : RW P r ⟨(d, v) :: env, hp', k'⟩ fun st' ts => K st' ((false, F.map (·.1) ++ F'.map (·.1)) :: ts)) : RW P (⟨some d, .bsl e sz len z parts, g⟩ :: r) ⟨env, hp, k⟩ K := RW.own_aux hg (he φ) hob (hh φ) hk h
theorem RW.skip {d : Nat} {op : SO} {t : Nat} {w : Bool} {env : List (Nat × SV)} {hp : Hp} {k : Nat} {s : SV}
    (hg : env.lookup t = some s := by rfl) (hs : skips w s = true := by rfl)
    (h : RW P r ⟨(d, .tup []) :: env, hp, k⟩ fun st' ts => K st' ((roOf op, []) :: ts)) : RW P (⟨some d, op, some (t, w)⟩ :: r) ⟨env, hp, k⟩ K := RW.skip_aux hg hs h
theorem RW.skip0 {op : SO} {t : Nat} {w : Bool} {env : List (Nat × SV)} {hp : Hp} {k : Nat} {s : SV}
    (hg : env.lookup t = some s := by rfl) (hs : skips w s = true := by rfl)
    (h : RW P r ⟨env, hp, k⟩ fun st' ts => K st' ((roOf op, []) :: ts)) : RW P (⟨none, op, some (t, w)⟩ :: r) ⟨env, hp, k⟩ K := RW.skip0_aux hg hs h
/-- A call that comes up: there is a contract of it. -/
def CallP (P : Program) (fid : FuncId) (as' : List SV) (d : Option Nat) (r : List SI) (env : List (Nat × SV)) (hp : Hp) (k : Nat) (K : St → List (Bool × List Nat) → Prop) : Prop :=
  ∃ F F' v nk, SCd P fid as' F k nk v F' ∧ HSub F hp ∧ RW P r ⟨consO d v env, hmrg false hp F F', k + nk⟩ fun st' ts => K st' ((false, F.map (·.1) ++ F'.map (·.1)) :: ts)
theorem RW.callC {d : Option Nat} {f : X} {args : List X} {g : Option (Nat × Bool)} {fid : FuncId} {as first cap as' : List SV} {env : List (Nat × SV)} {hp : Hp} {k : Nat}
    (hf : ev (fun t => env.lookup t) f = some (.fn (.func fid) first cap) := by (simp only [ev, List.lookup, Nat.reduceBEq] <;> rfl))
    (ha : evs (fun t => env.lookup t) args = some as := by (simp only [ev, evs, List.lookup, Nat.reduceBEq] <;> rfl))
    (has : first ++ as ++ cap = as' := by first | (simp only [List.nil_append, List.cons_append, List.append_nil] <;> rfl) | rfl)
    (hg : g = none ∨ ∃ t w, g = some (t, w) ∧ env.lookup t = some (.d (.bool w)) := by first | exact .inl rfl | exact .inr ⟨_, _, rfl, rfl⟩)
    (h : CallP P fid as' d r env hp k K) : RW P (⟨d, .call f args, g⟩ :: r) ⟨env, hp, k⟩ K := by
  obtain ⟨F, F', v, nk, hc, hs, h⟩ := h
  exact RW.call_aux hf ha has hc hs hg h
theorem CallP.mk {fid : FuncId} {as' : List SV} {F F' hp' : Hp} {v v' : SV} {nk k' : Nat} {d : Nat} {env : List (Nat × SV)} {hp : Hp} {k : Nat} {Φ : Prop} (φ : Φ)
    (hs : HSub F hp := by first | exact HSub.nil _ | (repeat (first | exact HSub.nil _ | refine HSub.cons (by rfl) ?_)))
    (hc : SCd P fid as' F k nk v F')
    (hv : Φ → v = v' := by intro φ; first | ((simp only [φ]) <;> with_reducible rfl) | with_reducible rfl)
    (hh : Φ → hmrg false hp F F' = hp' := by (intro φ; simp only [φ, roOf, hmrg, hsets, hdels, hset, hrep, hdel, lk, List.lookup, Nat.reduceBEq, BEq.rfl, beq_self_eq_true, if_true, if_false, reduceIte, Nat.reduceEqDiff, Bool.false_eq_true, Option.isSome_some, Option.isSome_none] <;> with_reducible rfl))
    (hk : k + nk = k' := by first | (simp only [Nat.add_zero, Nat.reduceAdd] <;> rfl) | rfl)
    (h : RW P r ⟨(d, v') :: env, hp', k'⟩ fun st' ts => K st' ((false, F.map (·.1) ++ F'.map (·.1)) :: ts)) : CallP P fid as' (some d) r env hp k K := ⟨F, F', v, nk, hc, hs, by rw [hv φ, hh φ, hk]; exact h⟩
theorem CallP.mkN {fid : FuncId} {as' : List SV} {F F' hp' : Hp} {v : SV} {nk k' : Nat} {env : List (Nat × SV)} {hp : Hp} {k : Nat} {Φ : Prop} (φ : Φ)
    (hs : HSub F hp := by first | exact HSub.nil _ | (repeat (first | exact HSub.nil _ | refine HSub.cons (by rfl) ?_)))
    (hc : SCd P fid as' F k nk v F')
    (hh : Φ → hmrg false hp F F' = hp' := by (intro φ; simp only [φ, roOf, hmrg, hsets, hdels, hset, hrep, hdel, lk, List.lookup, Nat.reduceBEq, BEq.rfl, beq_self_eq_true, if_true, if_false, reduceIte, Nat.reduceEqDiff, Bool.false_eq_true, Option.isSome_some, Option.isSome_none] <;> with_reducible rfl))
    (hk : k + nk = k' := by first | (simp only [Nat.add_zero, Nat.reduceAdd] <;> rfl) | rfl)
    (h : RW P r ⟨env, hp', k'⟩ fun st' ts => K st' ((false, F.map (·.1) ++ F'.map (·.1)) :: ts)) : CallP P fid as' none r env hp k K := ⟨F, F', v, nk, hc, hs, by rw [hh φ, hk]; exact h⟩
end

section
variable {N k0 : Nat} {r : List SI} {K : St → Prop}
/-- One operation, in a region whose order is fixed. -/
theorem SWn.op {d : Nat} {op : SO} {g : Option (Nat × Bool)} {env : List (Nat × SV)} {hp hp' F F' : Hp} {k k' : Nat} {v : SV} {nk : Nat} {ob : Prop} {Φ : Prop} (φ : Φ)
    (hg : g = none ∨ ∃ t w, g = some (t, w) ∧ env.lookup t = some (.d (.bool w)) := by first | exact .inl rfl | exact .inr ⟨_, _, rfl, rfl⟩)
    (he : Φ → goOp P ⟨env, hp, k⟩ op [] = some (⟨v, F, F', nk, ob⟩, []) := by
      intro φ
      simp (disch := omega) only [Go.Sl.seg, argE, isCall, goOp, sop, ev, evs, evp, upd, List.lookup, Nat.reduceBEq, Nat.reduceAdd, Nat.reduceMul, Nat.zero_add, SV.cells, if_true, if_false, reduceIte, Bool.false_eq_true, roOf, hmrg, hsets, hdels, hset, hrep, hdel, lk, List.filter, Nat.reduceBNe, bne_self_eq_false, eq_self, ldv, ldo, cellsAt, binV, binK, mvp, Vec.cells_one, BEq.rfl, beq_self_eq_true, Bool.true_or, Nat.reduceEqDiff, List.map_cons, List.map_nil, List.nil_append, List.cons_append, List.append_nil, Int.toNat_natCast, Nat.mul_one, Nat.add_zero, findS, keyOk, isAggS, msetS_none, msetS_some, mdelS_none, mdelS_some, lookS_none, lookS_some, lookOk, Option.isSome_some, Option.isSome_none, Option.isNone_some, Option.isNone_none, Nat.zero_ne_one, Nat.one_ne_zero, Bool.and_false, Bool.and_true, List.drop_zero, Vec.zero_cells, Vec.take_all, Vec.spl_all, Dt.cells_one, Dt.take_all, Dt.get0, Dt.get1, Dt.spl_all, Dt.zero_cells, Dt.bldI, Dt.bldN, bldS, datas, appB, appX, List.all_cons, List.all_nil, SV.isOne, Int.cast_ofNat_Int, Int.reduceBNe, Int.reduceBEq, Int.reduceLT, Int.reduceLE, Int.reduceGT, Int.reduceGE, one_map, bq_ft, bq_tf, Bool.not_true, Bool.not_false, Bool.or_false, Bool.or_true, Bool.false_or, Bool.or_self, Vec.row0, Vec.row8, Vec.row16, Vec.row24, Vec.datas_app, Vec.datas_one, Dt.row0, Dt.row2, Dt.datas_app, Dt.datas_one, List.all_append, Vec.eqb8, Dt.eqb, Bool.cond_true, Bool.cond_false, wrap_i64, wrap_u64', wrap_u32', wrap_u8', bq_tt, bq_ff, cast_lit, cast_add, Int.reduceToNat, List.length_nil, List.getElem?_cons_zero, List.getElem?_cons_succ, List.take_succ_cons, List.take_zero, List.drop_succ_cons, decide_true, decide_false, Bool.true_and, Bool.and_self, Bool.false_and, find_dt, find_vc, look_int, mset_int, mdel_mapE, MM.idx_isSome, mapE_len, ment_T, ment_iv, mput_iv, ment_ov, mput_ov, ment_cv, mput_cv, look_ov, look_cv, OpD.cells_one, OpD.take_all, OpD.gDot, OpD.gDep, OpD.gTime, OpD.gWho, OpD.gCart, OpD.gKind, OpD.gCred, OpD.gTo, OpD.gRoles, OpD.gDepth, OpD.gCap, OpD.gAt, OpD.gVer, OpD.gItem, OpD.gQty, OpD.gPrice, OpD.gLines, OpD.gDotR, OpD.gDotN, OpD.spl_all, OpD.zero_cells, Cr.cells_one, Cr.take_all, Cr.gDot, Cr.gCart, Cr.gPar, Cr.gHold, Cr.gRoles, Cr.gDepth, Cr.gCap, Cr.gLevel, Cr.spl_all, Cr.zero_cells, Cr.eqb, look_uv, mset_uv, ment_uv, mput_uv, Sp.cells_one, Sp.take_all, Sp.gDot, Sp.gN, Sp.spl_all, Sp.zero_cells, Sp.bld, Sp.eqb, sp_data, cr_data, φ]
      with_reducible rfl)
    (hob : ob := by first | trivial | (repeat' (first | exact trivial | omega | apply And.intro | (simp [-List.length_flatMap, -Int.natCast_add]; done) | (simp [-List.length_flatMap, -Int.natCast_add] <;> omega))))
    (hh : Φ → hmrg (roOf op) hp F F' = hp' := by (intro φ; simp only [φ, roOf, hmrg, hsets, hdels, hset, hrep, hdel, lk, List.lookup, Nat.reduceBEq, BEq.rfl, beq_self_eq_true, if_true, if_false, reduceIte, Nat.reduceEqDiff, Bool.false_eq_true, Option.isSome_some, Option.isSome_none] <;> with_reducible rfl))
    (hk : k + nk = k' := by first | (simp only [Nat.add_zero, Nat.reduceAdd] <;> rfl) | rfl)
    (h : SWn P N k0 r ⟨(d, v) :: env, hp', k'⟩ K) : SWn P N k0 (⟨some d, op, g⟩ :: r) ⟨env, hp, k⟩ K := by
  refine SWn.one (runOp_some hg (he φ)) hob ?_
  rw [upd_eq, hh φ, hk]; exact h
theorem SWn.opN {op : SO} {g : Option (Nat × Bool)} {env : List (Nat × SV)} {hp hp' F F' : Hp} {k k' : Nat} {v : SV} {nk : Nat} {ob : Prop} {Φ : Prop} (φ : Φ)
    (hg : g = none ∨ ∃ t w, g = some (t, w) ∧ env.lookup t = some (.d (.bool w)) := by first | exact .inl rfl | exact .inr ⟨_, _, rfl, rfl⟩)
    (he : Φ → goOp P ⟨env, hp, k⟩ op [] = some (⟨v, F, F', nk, ob⟩, []) := by
      intro φ
      simp (disch := omega) only [Go.Sl.seg, argE, isCall, goOp, sop, ev, evs, evp, upd, List.lookup, Nat.reduceBEq, Nat.reduceAdd, Nat.reduceMul, Nat.zero_add, SV.cells, if_true, if_false, reduceIte, Bool.false_eq_true, roOf, hmrg, hsets, hdels, hset, hrep, hdel, lk, List.filter, Nat.reduceBNe, bne_self_eq_false, eq_self, ldv, ldo, cellsAt, binV, binK, mvp, Vec.cells_one, BEq.rfl, beq_self_eq_true, Bool.true_or, Nat.reduceEqDiff, List.map_cons, List.map_nil, List.nil_append, List.cons_append, List.append_nil, Int.toNat_natCast, Nat.mul_one, Nat.add_zero, findS, keyOk, isAggS, msetS_none, msetS_some, mdelS_none, mdelS_some, lookS_none, lookS_some, lookOk, Option.isSome_some, Option.isSome_none, Option.isNone_some, Option.isNone_none, Nat.zero_ne_one, Nat.one_ne_zero, Bool.and_false, Bool.and_true, List.drop_zero, Vec.zero_cells, Vec.take_all, Vec.spl_all, Dt.cells_one, Dt.take_all, Dt.get0, Dt.get1, Dt.spl_all, Dt.zero_cells, Dt.bldI, Dt.bldN, bldS, datas, appB, appX, List.all_cons, List.all_nil, SV.isOne, Int.cast_ofNat_Int, Int.reduceBNe, Int.reduceBEq, Int.reduceLT, Int.reduceLE, Int.reduceGT, Int.reduceGE, one_map, bq_ft, bq_tf, Bool.not_true, Bool.not_false, Bool.or_false, Bool.or_true, Bool.false_or, Bool.or_self, Vec.row0, Vec.row8, Vec.row16, Vec.row24, Vec.datas_app, Vec.datas_one, Dt.row0, Dt.row2, Dt.datas_app, Dt.datas_one, List.all_append, Vec.eqb8, Dt.eqb, Bool.cond_true, Bool.cond_false, wrap_i64, wrap_u64', wrap_u32', wrap_u8', bq_tt, bq_ff, cast_lit, cast_add, Int.reduceToNat, List.length_nil, List.getElem?_cons_zero, List.getElem?_cons_succ, List.take_succ_cons, List.take_zero, List.drop_succ_cons, decide_true, decide_false, Bool.true_and, Bool.and_self, Bool.false_and, find_dt, find_vc, look_int, mset_int, mdel_mapE, MM.idx_isSome, mapE_len, ment_T, ment_iv, mput_iv, ment_ov, mput_ov, ment_cv, mput_cv, look_ov, look_cv, OpD.cells_one, OpD.take_all, OpD.gDot, OpD.gDep, OpD.gTime, OpD.gWho, OpD.gCart, OpD.gKind, OpD.gCred, OpD.gTo, OpD.gRoles, OpD.gDepth, OpD.gCap, OpD.gAt, OpD.gVer, OpD.gItem, OpD.gQty, OpD.gPrice, OpD.gLines, OpD.gDotR, OpD.gDotN, OpD.spl_all, OpD.zero_cells, Cr.cells_one, Cr.take_all, Cr.gDot, Cr.gCart, Cr.gPar, Cr.gHold, Cr.gRoles, Cr.gDepth, Cr.gCap, Cr.gLevel, Cr.spl_all, Cr.zero_cells, Cr.eqb, look_uv, mset_uv, ment_uv, mput_uv, Sp.cells_one, Sp.take_all, Sp.gDot, Sp.gN, Sp.spl_all, Sp.zero_cells, Sp.bld, Sp.eqb, sp_data, cr_data, φ]
      with_reducible rfl)
    (hob : ob := by first | trivial | (repeat' (first | exact trivial | omega | apply And.intro | (simp [-List.length_flatMap, -Int.natCast_add]; done) | (simp [-List.length_flatMap, -Int.natCast_add] <;> omega))))
    (hh : Φ → hmrg (roOf op) hp F F' = hp' := by (intro φ; simp only [φ, roOf, hmrg, hsets, hdels, hset, hrep, hdel, lk, List.lookup, Nat.reduceBEq, BEq.rfl, beq_self_eq_true, if_true, if_false, reduceIte, Nat.reduceEqDiff, Bool.false_eq_true, Option.isSome_some, Option.isSome_none] <;> with_reducible rfl))
    (hk : k + nk = k' := by first | (simp only [Nat.add_zero, Nat.reduceAdd] <;> rfl) | rfl)
    (h : SWn P N k0 r ⟨env, hp', k'⟩ K) : SWn P N k0 (⟨none, op, g⟩ :: r) ⟨env, hp, k⟩ K := by
  refine SWn.one (runOp_some hg (he φ)) hob ?_
  rw [upd_eq, hh φ, hk]; exact h
theorem SWn.skip {d : Nat} {op : SO} {t : Nat} {w : Bool} {env : List (Nat × SV)} {hp : Hp} {k : Nat} {s : SV}
    (hg : env.lookup t = some s := by rfl) (hs : skips w s = true := by rfl)
    (h : SWn P N k0 r ⟨(d, .tup []) :: env, hp, k⟩ K) : SWn P N k0 (⟨some d, op, some (t, w)⟩ :: r) ⟨env, hp, k⟩ K := by
  have hh : hmrg (roOf op) hp [] [] = hp := by unfold hmrg; split <;> rfl
  refine SWn.one (e := ⟨.tup [], [], [], 0, True⟩) (crs := []) (c2 := []) ?_ trivial ?_
  · unfold skips at hs
    split at hs
    · simp only [runOp, hg]; rw [if_neg (by simpa using hs)]
    · simp only [runOp, hg]
    · cases hs
  · rw [upd_eq]
    show SWn P N k0 r ⟨(d, .tup []) :: env, hmrg (roOf op) hp [] [], k + 0⟩ _
    rw [hh]; exact h
/-- A call, in a region whose order is fixed. -/
theorem SWn.callC {d : Nat} {f : X} {args : List X} {fid : FuncId} {as first cap as' : List SV} {env : List (Nat × SV)} {hp F : Hp} {k nk : Nat} {Q : SV → Hp → Prop}
    (hsc : SC P fid as' F k nk Q) (hs : HSub F hp)
    (hf : ev (fun t => env.lookup t) f = some (.fn (.func fid) first cap) := by (simp only [ev, List.lookup, Nat.reduceBEq] <;> rfl))
    (ha : evs (fun t => env.lookup t) args = some as := by (simp only [ev, evs, List.lookup, Nat.reduceBEq] <;> rfl))
    (has : first ++ as ++ cap = as' := by first | (simp only [List.nil_append, List.cons_append, List.append_nil] <;> rfl) | rfl)
    (h : ∀ v F', Q v F' → SWn P N k0 r ⟨(d, v) :: env, hmrg false hp F F', k + nk⟩ K) : SWn P N k0 (⟨some d, .call f args, none⟩ :: r) ⟨env, hp, k⟩ K := by
  refine SWn.many (st := ⟨env, hp, k⟩) rfl (fun o hc => sq_call hc hf ha (by rw [has]; exact hsc) hs) rfl fun v F' hq => ?_
  rw [upd_eq]; exact h v F' hq
theorem SWn.callN {f : X} {args : List X} {fid : FuncId} {as first cap as' : List SV} {env : List (Nat × SV)} {hp F : Hp} {k nk : Nat} {Q : SV → Hp → Prop}
    (hsc : SC P fid as' F k nk Q) (hs : HSub F hp)
    (hf : ev (fun t => env.lookup t) f = some (.fn (.func fid) first cap) := by (simp only [ev, List.lookup, Nat.reduceBEq] <;> rfl))
    (ha : evs (fun t => env.lookup t) args = some as := by (simp only [ev, evs, List.lookup, Nat.reduceBEq] <;> rfl))
    (has : first ++ as ++ cap = as' := by first | (simp only [List.nil_append, List.cons_append, List.append_nil] <;> rfl) | rfl)
    (h : ∀ v F', Q v F' → SWn P N k0 r ⟨env, hmrg false hp F F', k + nk⟩ K) : SWn P N k0 (⟨none, .call f args, none⟩ :: r) ⟨env, hp, k⟩ K := by
  refine SWn.many (st := ⟨env, hp, k⟩) rfl (fun o hc => sq_call hc hf ha (by rw [has]; exact hsc) hs) rfl fun v F' hq => ?_
  rw [upd_eq]; exact h v F' hq
theorem SWn.callD {d : Nat} {f : X} {args : List X} {fid : FuncId} {as first cap as' : List SV} {env : List (Nat × SV)} {hp hp' F F' : Hp} {k k' nk : Nat} {v v' : SV} {Φ : Prop} (φ : Φ)
    (hsc : SCd P fid as' F k nk v F')
    (hs : HSub F hp := by first | exact HSub.nil _ | (repeat (first | exact HSub.nil _ | refine HSub.cons (by rfl) ?_)))
    (hf : ev (fun t => env.lookup t) f = some (.fn (.func fid) first cap) := by (simp only [ev, List.lookup, Nat.reduceBEq] <;> rfl))
    (ha : evs (fun t => env.lookup t) args = some as := by (simp only [ev, evs, List.lookup, Nat.reduceBEq] <;> rfl))
    (has : first ++ as ++ cap = as' := by first | (simp only [List.nil_append, List.cons_append, List.append_nil] <;> rfl) | rfl)
    (hv : Φ → v = v' := by intro φ; first | ((simp only [φ]) <;> with_reducible rfl) | with_reducible rfl)
    (hh : Φ → hmrg false hp F F' = hp' := by (intro φ; simp only [φ, roOf, hmrg, hsets, hdels, hset, hrep, hdel, lk, List.lookup, Nat.reduceBEq, BEq.rfl, beq_self_eq_true, if_true, if_false, reduceIte, Nat.reduceEqDiff, Bool.false_eq_true, Option.isSome_some, Option.isSome_none] <;> with_reducible rfl))
    (hk : k + nk = k' := by first | (simp only [Nat.add_zero, Nat.reduceAdd] <;> rfl) | rfl)
    (h : SWn P N k0 r ⟨(d, v') :: env, hp', k'⟩ K) : SWn P N k0 (⟨some d, .call f args, none⟩ :: r) ⟨env, hp, k⟩ K := by
  refine SWn.many (st := ⟨env, hp, k⟩) rfl (fun o hc => sq_call hc hf ha (by rw [has]; exact hsc) hs) rfl fun w G hq => ?_
  obtain ⟨rfl, rfl⟩ := hq
  rw [upd_eq]
  obtain rfl := hv φ
  obtain rfl := hh φ
  obtain rfl := hk
  exact h
theorem SWn.callDN {f : X} {args : List X} {fid : FuncId} {as first cap as' : List SV} {env : List (Nat × SV)} {hp hp' F F' : Hp} {k k' nk : Nat} {v v' : SV} {Φ : Prop} (φ : Φ)
    (hsc : SCd P fid as' F k nk v F')
    (hs : HSub F hp := by first | exact HSub.nil _ | (repeat (first | exact HSub.nil _ | refine HSub.cons (by rfl) ?_)))
    (hf : ev (fun t => env.lookup t) f = some (.fn (.func fid) first cap) := by (simp only [ev, List.lookup, Nat.reduceBEq] <;> rfl))
    (ha : evs (fun t => env.lookup t) args = some as := by (simp only [ev, evs, List.lookup, Nat.reduceBEq] <;> rfl))
    (has : first ++ as ++ cap = as' := by first | (simp only [List.nil_append, List.cons_append, List.append_nil] <;> rfl) | rfl)
    (hv : Φ → v = v' := by intro φ; first | ((simp only [φ]) <;> with_reducible rfl) | with_reducible rfl)
    (hh : Φ → hmrg false hp F F' = hp' := by (intro φ; simp only [φ, roOf, hmrg, hsets, hdels, hset, hrep, hdel, lk, List.lookup, Nat.reduceBEq, BEq.rfl, beq_self_eq_true, if_true, if_false, reduceIte, Nat.reduceEqDiff, Bool.false_eq_true, Option.isSome_some, Option.isSome_none] <;> with_reducible rfl))
    (hk : k + nk = k' := by first | (simp only [Nat.add_zero, Nat.reduceAdd] <;> rfl) | rfl)
    (h : SWn P N k0 r ⟨env, hp', k'⟩ K) : SWn P N k0 (⟨none, .call f args, none⟩ :: r) ⟨env, hp, k⟩ K := by
  refine SWn.many (st := ⟨env, hp, k⟩) rfl (fun o hc => sq_call hc hf ha (by rw [has]; exact hsc) hs) rfl fun w G hq => ?_
  obtain ⟨rfl, rfl⟩ := hq
  rw [upd_eq]
  obtain rfl := hv φ
  obtain rfl := hh φ
  obtain rfl := hk
  exact h
end

theorem SB.mono {f : FuncId} {args : List SV} {F : Hp} {k nk : Nat} {Q Q' : SV → Hp → Prop} (h : SB P f args F k nk Q) (hq : ∀ r F, Q r F → Q' r F) : SB P f args F k nk Q' :=
  ⟨h.1, h.2.1, h.2.2.1, fun μ M w vals h1 h2 => (h.2.2.2 μ M w vals h1 h2).mono fun _ _ ⟨r, F', μ', M', u, e, hQ, x⟩ => ⟨r, F', μ', M', u, e, hq r F' hQ, x⟩⟩
/-- Arguments that say more. -/
theorem SB.args {f : FuncId} {args args' : List SV} {F : Hp} {k nk : Nat} {Q : SV → Hp → Prop} (h : SB P f args F k nk Q) (hok : SV.oks (fun n => decide (n < k)) args' = true)
    (ha : ∀ (p : Nat → Prop) (μ : Nat → Nm) (M : Mem) (vs : List Value), Rps p μ M args' vs → Rps p μ M args vs) : SB P f args' F k nk Q :=
  ⟨h.1, hok, h.2.2.1, fun μ M w vals h1 h2 => h.2.2.2 μ M w vals (ha _ μ M _ h1) h2⟩
/-- Where a body ends. -/
theorem End.mk {k nk : Nat} {rvs : List RV} {Q : SV → Hp → Prop} {st : St} {ss : List SV} {ob : Prop} (F' : Hp)
    (h1 : rvV st rvs = some (ss, ob) := by rfl)
    (h2 : ob := by simp [ldo])
    (h3 : HSub F' st.hp := by first | exact HSub.nil _ | (repeat (first | exact HSub.nil _ | refine HSub.cons (by rfl) ?_)))
    (h4 : Q (retV ss) F')
    (h5 : (retV ss).ok (fun n => decide (n < k + nk)) = true := by first | rfl | simp [retV, SV.ok, SV.oks, Vec.cells_ok, SV.oks_d])
    (h6 : F'.ok (fun n => decide (n < k + nk)) = true := by first | rfl | simp [Hp.ok, Ob.ok, SV.ok, SV.oks, Vec.cells_ok, SV.oks_d])
    (h7 : k + nk ≤ st.k := by simp) : Go.Sl.Fin k nk rvs Q st := ⟨ss, ob, F', h1, h2, h3, h4, h5, h6, h7⟩

theorem SW.condD {N k0 : Nat} {st : St} {Q : Exit → St → Prop} {x : X} {y z : SCo} {p : Prop} [Decidable p] (hx : ev (fun t => st.env.lookup t) x = some (.d (.bool (decide p)))) (h1 : p → SW P N k0 y st Q) (h2 : ¬ p → SW P N k0 z st Q) : SW P N k0 (.cond x y z) st Q :=
  SW.cond hx (fun h => h1 (by simpa using h)) (fun h => h2 (by simpa using h))
theorem SW.condT {N k0 : Nat} {st : St} {Q : Exit → St → Prop} {x : X} {y z : SCo} (hx : ev (fun t => st.env.lookup t) x = some (.d (.bool true))) (h1 : SW P N k0 y st Q) : SW P N k0 (.cond x y z) st Q :=
  SW.cond hx (fun _ => h1) (fun h => by cases h)
theorem SW.condF {N k0 : Nat} {st : St} {Q : Exit → St → Prop} {x : X} {y z : SCo} (hx : ev (fun t => st.env.lookup t) x = some (.d (.bool false))) (h1 : SW P N k0 z st Q) : SW P N k0 (.cond x y z) st Q :=
  SW.cond hx (fun h => by cases h) (fun _ => h1)
/-- At a loop's head. -/
theorem SW.loopA {N k0 : Nat} {st : St} {Q : Exit → St → Prop} {α : Type} {x : SCo} (I : α → St) (m : α → Nat) (i0 : α) (ρ0 : Nat → Nat) {Φ : Prop} (φ : Φ)
    (h0 : Φ → Weak k0 st (I i0) ρ0 := by intro φ; simp [Go.Sl.Weak, EnvW, HpW, InjW, SV.ren, SV.rens, SV.ok, SV.oks, Ob.ren, Ob.ok, lk, List.lookup, Vec.cells_ren, Dt.cells_ren, SV.rens_d, SV.oks_d, SV.rens_append, SV.oks_append, Vec.cells_ok, dmap_ren, dmap_ok, vmap_ren, vmap_ok, argE, φ])
    (round : ∀ i, SW P N k0 x (I i) fun e st' => match e with | .normal => ∃ j ρ, m j < m i ∧ Weak k0 st' (I j) ρ | e => Q e st') : SW P N k0 (.loop x) st Q := SW.loop I m i0 ρ0 (h0 φ) round
theorem Weak.mk {k0 : Nat} {st st1 : St} {ρ : Nat → Nat} {Φ : Prop} (φ : Φ) (h0 : Φ → Weak k0 st st1 ρ := by intro φ; simp [Go.Sl.Weak, EnvW, HpW, InjW, SV.ren, SV.rens, SV.ok, SV.oks, Ob.ren, Ob.ok, lk, List.lookup, Vec.cells_ren, Dt.cells_ren, SV.rens_d, SV.oks_d, SV.rens_append, SV.oks_append, Vec.cells_ok, dmap_ren, dmap_ok, vmap_ren, vmap_ok, argE, φ]) : Weak k0 st st1 ρ := h0 φ
theorem Next.mk {k0 : Nat} {st' : St} {α : Type} {I : α → St} {m : α → Nat} {i : α} (j : α) (ρ : Nat → Nat) {Φ : Prop} (φ : Φ)
    (hm : m j < m i := by first | omega | (simp; done) | (simp; omega))
    (h0 : Φ → Weak k0 st' (I j) ρ := by intro φ; simp [Go.Sl.Weak, EnvW, HpW, InjW, SV.ren, SV.rens, SV.ok, SV.oks, Ob.ren, Ob.ok, lk, List.lookup, Vec.cells_ren, Dt.cells_ren, SV.rens_d, SV.oks_d, SV.rens_append, SV.oks_append, Vec.cells_ok, dmap_ren, dmap_ok, vmap_ren, vmap_ok, argE, φ]) : ∃ j ρ, m j < m i ∧ Weak k0 st' (I j) ρ := ⟨j, ρ, hm, h0 φ⟩

end Go.Sl
