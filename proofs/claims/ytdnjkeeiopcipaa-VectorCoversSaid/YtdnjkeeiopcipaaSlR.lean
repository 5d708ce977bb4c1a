/-
  A region, piece by piece: plain operations at once, up to the next call; a call by its contract.
-/
import Derived.Test.YtdnjkeeiopcipaaSl21
set_option linter.unusedSectionVars false
set_option linter.unusedVariables false
set_option linter.unusedSimpArgs false
namespace Go.Sl
variable {P : Program}

/-- From the state st on, the operations 'sis' end as K says. -/
def RW (P : Program) (sis : List SI) (st : St) (K : St → List (Bool × List Nat) → Prop) : Prop :=
  ∃ crs st' ob ts, runs P sis st crs = some (st', ob, ts) ∧ ob ∧ K st' ts

def isCall : SO → Bool
  | .call .. => true
  | _ => false
def isBsl : SO → Bool
  | .bsl .. => true
  | _ => false
/-- The plain operations up to the next call that comes up. -/
def seg (P : Program) : List SI → St → Option (List SI × St × Prop × List (Bool × List Nat))
  | [], st => some ([], st, True, [])
  | si :: r, st => match si.g with
    | none => match isCall si.op with
      | true => some (si :: r, st, True, [])
      | false => match goOp P st si.op [] with
        | some (e, _) => match seg P r (upd st si e) with
          | some (rest, st', ob, ts) => some (rest, st', e.ob ∧ ob, touchL si e :: ts)
          | none => none
        | none => none
    | some (t, w) => match st.env.lookup t with
      | some (.d (.bool b)) => match b == w with
        | true => match isCall si.op with
          | true => some (si :: r, st, True, [])
          | false => match goOp P st si.op [] with
            | some (e, _) => match seg P r (upd st si e) with
              | some (rest, st', ob, ts) => some (rest, st', e.ob ∧ ob, touchL si e :: ts)
              | none => none
            | none => none
        | false => match seg P r (upd st si ⟨.tup [], [], [], 0, True⟩) with
          | some (rest, st', ob, ts) => some (rest, st', ob, touchL si ⟨.tup [], [], [], 0, True⟩ :: ts)
          | none => none
      | some (.tup []) => match seg P r (upd st si ⟨.tup [], [], [], 0, True⟩) with
          | some (rest, st', ob, ts) => some (rest, st', ob, touchL si ⟨.tup [], [], [], 0, True⟩ :: ts)
          | none => none
      | _ => none

/-- What is given to one operation is not looked at by another one. -/
theorem goOp_pass {st : St} {so : SO} {e : Eff} {c2 : List CR} (hc : isCall so = false) (h : goOp P st so [] = some (e, c2)) : c2 = [] ∧ (isBsl so = false → ∀ crs, goOp P st so crs = some (e, crs)) ∧ (isBsl so = true → ∀ crs, goOp P st so (.frz :: crs) = some (e, crs)) := by
  cases so <;> simp only [isCall, Bool.true_eq_false] at hc <;> simp only [goOp] at h <;> split at h <;> first | (cases h; done) | skip
  all_goals
    rename_i hs
    injection h with h
    injection h with h h'
    subst h; subst h'
    refine ⟨rfl, fun hb crs => ?_, fun hb crs => ?_⟩
    all_goals first
      | (simp [isBsl] at hb; done)
      | simp only [goOp, hs]

theorem RW.nil {st : St} {K : St → List (Bool × List Nat) → Prop} (h : K st []) : RW P [] st K := ⟨[], st, True, [], rfl, trivial, h⟩

theorem RW.cons {si : SI} {r : List SI} {st : St} {K : St → List (Bool × List Nat) → Prop} {e : Eff} (h1 : ∀ crs, ∃ c0, runOp P st si c0 = some (e, crs)) (hob : e.ob) (h : RW P r (upd st si e) fun st' ts => K st' (touchL si e :: ts)) : RW P (si :: r) st K := by
  obtain ⟨crs, st', ob, ts, hr, ho, hk⟩ := h
  obtain ⟨c0, hc0⟩ := h1 crs
  refine ⟨c0, st', e.ob ∧ ob, touchL si e :: ts, ?_, ⟨hob, ho⟩, hk⟩
  simp only [runs, hc0, hr]

theorem goOp_crs {st : St} {so : SO} {e : Eff} {c2 : List CR} (hc : isCall so = false) (h : goOp P st so [] = some (e, c2)) (crs : List CR) : ∃ c0, goOp P st so c0 = some (e, crs) := by
  obtain ⟨_, h1, h2⟩ := goOp_pass hc h
  cases hb : isBsl so with
  | false => exact ⟨crs, h1 hb crs⟩
  | true => exact ⟨.frz :: crs, h2 hb crs⟩

theorem RW.seg_aux : ∀ {sis rest : List SI} {st st' : St} {ob : Prop} {ts : List (Bool × List Nat)} {K : St → List (Bool × List Nat) → Prop}, seg P sis st = some (rest, st', ob, ts) → ob → RW P rest st' (fun st'' ts' => K st'' (ts ++ ts')) → RW P sis st K := by
  intro sis
  induction sis with
  | nil =>
    intro rest st st' ob ts K hs hob h
    simp only [seg] at hs
    injection hs with hs
    injection hs with h1 hs
    injection hs with h2 hs
    injection hs with h3 h4
    subst h1; subst h2; subst h4
    exact h
  | cons si r ih =>
    intro rest st st' ob ts K hs hob h
    have step : ∀ {e : Eff} {x : List SI × St × Prop × List (Bool × List Nat)}, (∀ crs, ∃ c0, runOp P st si c0 = some (e, crs)) → (match seg P r (upd st si e) with
        | some (rest, st', ob, ts) => some (rest, st', e.ob ∧ ob, touchL si e :: ts)
        | none => none) = some (rest, st', ob, ts) → RW P (si :: r) st K := by
      intro e x h1 h2
      split at h2 <;> first | (cases h2; done) | skip
      rename_i rest' st2 ob2 ts2 hseg
      injection h2 with h2
      injection h2 with e1 h2
      injection h2 with e2 h2
      injection h2 with e3 e4
      subst e1; subst e2; subst e3; subst e4
      exact RW.cons h1 hob.1 (ih hseg hob.2 (by simpa using h))
    have skip : ∀ (hsk : ∀ crs, runOp P st si crs = some (⟨.tup [], [], [], 0, True⟩, crs)), (match seg P r (upd st si ⟨.tup [], [], [], 0, True⟩) with
        | some (rest, st', ob, ts) => some (rest, st', ob, touchL si ⟨.tup [], [], [], 0, True⟩ :: ts)
        | none => none) = some (rest, st', ob, ts) → RW P (si :: r) st K := by
      intro hsk h2
      split at h2 <;> first | (cases h2; done) | skip
      rename_i rest' st2 ob2 ts2 hseg
      injection h2 with h2
      injection h2 with e1 h2
      injection h2 with e2 h2
      injection h2 with e3 e4
      subst e1; subst e2; subst e3; subst e4
      exact RW.cons (fun crs => ⟨crs, hsk crs⟩) trivial (ih hseg hob (by simpa using h))
    simp only [seg] at hs
    split at hs
    · rename_i hg
      split at hs
      · injection hs with hs
        injection hs with h1 hs
        injection hs with h2 hs
        injection hs with h3 h4
        subst h1; subst h2; subst h4
        simpa using h
      · rename_i hc
        split at hs <;> first | (cases hs; done) | skip
        rename_i e c2 hgo
        refine step (x := ([], st, True, [])) (fun crs => ?_) hs
        obtain ⟨c0, h0⟩ := goOp_crs hc hgo crs
        exact ⟨c0, by simp only [runOp, hg, h0]⟩
    · rename_i t w hg
      split at hs <;> first | (cases hs; done) | skip
      · rename_i b hl
        split at hs
        · rename_i hbw
          split at hs
          · injection hs with hs
            injection hs with h1 hs
            injection hs with h2 hs
            injection hs with h3 h4
            subst h1; subst h2; subst h4
            simpa using h
          · rename_i hc
            split at hs <;> first | (cases hs; done) | skip
            rename_i e c2 hgo
            refine step (x := ([], st, True, [])) (fun crs => ?_) hs
            obtain ⟨c0, h0⟩ := goOp_crs hc hgo crs
            exact ⟨c0, by simp only [runOp, hg, hl, hbw, if_true, h0]⟩
        · rename_i hbw
          exact skip (fun crs => by simp [runOp, hg, hl, hbw]) hs
      · rename_i hl
        exact skip (fun crs => by simp [runOp, hg, hl]) hs

/-- A literal of a slice that is one's own. -/
theorem RW.own {si : SI} {r : List SI} {st : St} {K : St → List (Bool × List Nat) → Prop} {e : Eff} {c2 : List CR} (h1 : runOp P st si [.own] = some (e, c2)) (hb : isBsl si.op = true) (hg : si.g = none) (hob : e.ob) (h : RW P r (upd st si e) fun st' ts => K st' (touchL si e :: ts)) : RW P (si :: r) st K := by
  refine RW.cons (fun crs => ⟨.own :: crs, ?_⟩) hob h
  obtain ⟨d, op, g⟩ := si
  simp only at hg; subst hg
  cases op <;> simp only [isBsl, Bool.false_eq_true] at hb
  simp only [runOp, goOp] at h1 ⊢
  split at h1 <;> first | (cases h1; done) | skip
  rename_i hs
  injection h1 with h1
  injection h1 with h1 h2
  subst h1
  simp only [hs]

/-- A call by its contract. -/
theorem RW.call {d : Option Nat} {f : X} {args : List X} {g : Option (Nat × Bool)} {r : List SI} {st : St} {K : St → List (Bool × List Nat) → Prop} {fid : FuncId} {as first cap as' : List SV} {F F' : Hp} {v : SV} {nk : Nat}
    (hf : ev (fun t => st.env.lookup t) f = some (.fn (.func fid) first cap)) (ha : evs (fun t => st.env.lookup t) args = some as) (has : first ++ as ++ cap = as') (hc : SCd P fid as' F st.k nk v F') (hs : HSub F st.hp)
    (hg : g = none ∨ ∃ t w, g = some (t, w) ∧ st.env.lookup t = some (.d (.bool w)))
    (h : RW P r (upd st ⟨d, .call f args, g⟩ ⟨v, F, F', nk, True⟩) fun st' ts => K st' (touchL ⟨d, .call f args, g⟩ ⟨v, F, F', nk, True⟩ :: ts)) : RW P (⟨d, .call f args, g⟩ :: r) st K := by
  refine RW.cons (e := ⟨v, F, F', nk, SCd P fid (first ++ as ++ cap) F st.k nk v F' ∧ HSub F st.hp⟩) (fun crs => ⟨.call F v F' nk :: crs, ?_⟩) ⟨by rw [has]; exact hc, hs⟩ h
  rcases hg with rfl | ⟨t, w, rfl, hl⟩
  · simp only [runOp, goOp, hf, ha]
  · simp [runOp, hl, goOp, hf, ha]

theorem SW.regR {N k0 : Nat} {st : St} {Q : Exit → St → Prop} {sis : List SI} {bs : List Nat} {draw : Bool} (hm : P.follows .mixedOrders = true) (h : RW P sis st fun st' ts => (!draw || noConf bs ts) = true ∧ Q .normal st') : SW P N k0 (.reg sis bs draw) st Q := by
  obtain ⟨crs, st', ob, ts, hr, ho, hn, hk⟩ := h
  exact SW.reg crs hm hr ho hn hk

theorem runOp_some {st : St} {d : Option Nat} {op : SO} {g : Option (Nat × Bool)} {crs : List CR} {e : Eff} {c2 : List CR} (hg : g = none ∨ ∃ t w, g = some (t, w) ∧ st.env.lookup t = some (.d (.bool w))) (h : goOp P st op crs = some (e, c2)) : runOp P st ⟨d, op, g⟩ crs = some (e, c2) := by
  rcases hg with rfl | ⟨t, w, rfl, hl⟩
  · simp only [runOp, h]
  · simp [runOp, hl, h]
theorem RW.ro_aux {d : Nat} {op : SO} {g : Option (Nat × Bool)} {r : List SI} {K : St → List (Bool × List Nat) → Prop} {env : List (Nat × SV)} {hp F F' : Hp} {k : Nat} {v : SV} {nk : Nat} {ob : Prop}
    (hr : roOf op = true) (hc : isCall op = false) (hb : isBsl op = false) (hg : g = none ∨ ∃ t w, g = some (t, w) ∧ env.lookup t = some (.d (.bool w))) (he : goOp P ⟨env, hp, k⟩ op [] = some (⟨v, F, F', nk, ob⟩, [])) (hob : ob) (hk : nk = 0)
    (h : RW P r ⟨(d, v) :: env, hp, k⟩ fun st' ts => K st' ((true, F.map (·.1) ++ F'.map (·.1)) :: ts)) : RW P (⟨some d, op, g⟩ :: r) ⟨env, hp, k⟩ K := by
  subst hk
  refine RW.cons (e := ⟨v, F, F', 0, ob⟩) (fun crs => ?_) hob ?_
  · obtain ⟨c0, h0⟩ := goOp_crs hc he crs
    exact ⟨c0, runOp_some hg h0⟩
  · simpa only [upd, touchL, hr, hmrg, if_true, Nat.add_zero] using h
def consO : Option Nat → SV → List (Nat × SV) → List (Nat × SV)
  | some d, v, env => (d, v) :: env
  | none, _, env => env
theorem upd_eq {d : Option Nat} {op : SO} {g : Option (Nat × Bool)} {env : List (Nat × SV)} {hp : Hp} {k : Nat} {e : Eff} : upd ⟨env, hp, k⟩ ⟨d, op, g⟩ e = ⟨consO d e.v env, hmrg (roOf op) hp e.F e.F', k + e.nk⟩ := by
  cases d <;> rfl
theorem RW.op_aux {d : Option Nat} {op : SO} {g : Option (Nat × Bool)} {r : List SI} {K : St → List (Bool × List Nat) → Prop} {env : List (Nat × SV)} {hp hp' F F' : Hp} {k k' : Nat} {v : SV} {nk : Nat} {ob : Prop}
    (hc : isCall op = false) (hg : g = none ∨ ∃ t w, g = some (t, w) ∧ env.lookup t = some (.d (.bool w))) (he : goOp P ⟨env, hp, k⟩ op [] = some (⟨v, F, F', nk, ob⟩, [])) (hob : ob) (hh : hmrg (roOf op) hp F F' = hp') (hk : k + nk = k')
    (h : RW P r ⟨consO d v env, hp', k'⟩ fun st' ts => K st' ((roOf op, F.map (·.1) ++ F'.map (·.1)) :: ts)) : RW P (⟨d, op, g⟩ :: r) ⟨env, hp, k⟩ K := by
  refine RW.cons (e := ⟨v, F, F', nk, ob⟩) (fun crs => ?_) hob ?_
  · obtain ⟨c0, h0⟩ := goOp_crs hc he crs
    exact ⟨c0, runOp_some hg h0⟩
  · rw [upd_eq, hh, hk]; exact h
/-- A literal of a slice, one's own. -/
theorem RW.own_aux {d : Option Nat} {e sz len : Nat} {z : List SV} {parts : List (Nat × Nat × X)} {g : Option (Nat × Bool)} {r : List SI} {K : St → List (Bool × List Nat) → Prop} {env : List (Nat × SV)} {hp hp' F F' : Hp} {k k' : Nat} {v : SV} {nk : Nat} {ob : Prop}
    (hg : g = none ∨ ∃ t w, g = some (t, w) ∧ env.lookup t = some (.d (.bool w))) (he : goOp P ⟨env, hp, k⟩ (.bsl e sz len z parts) [.own] = some (⟨v, F, F', nk, ob⟩, [])) (hob : ob) (hh : hmrg false hp F F' = hp') (hk : k + nk = k')
    (h : RW P r ⟨consO d v env, hp', k'⟩ fun st' ts => K st' ((false, F.map (·.1) ++ F'.map (·.1)) :: ts)) : RW P (⟨d, .bsl e sz len z parts, g⟩ :: r) ⟨env, hp, k⟩ K := by
  refine RW.cons (e := ⟨v, F, F', nk, ob⟩) (fun crs => ⟨.own :: crs, runOp_some hg ?_⟩) hob ?_
  · simp only [goOp] at he ⊢
    split at he <;> first | (cases he; done) | skip
    rename_i hs
    injection he with he
    injection he with he _
    subst he
    rfl
  · rw [upd_eq]
    show RW P r ⟨consO d v env, hmrg false hp F F', k + nk⟩ _
    rw [hh, hk]; exact h
theorem RW.skip_aux {d : Nat} {op : SO} {t : Nat} {w : Bool} {r : List SI} {K : St → List (Bool × List Nat) → Prop} {env : List (Nat × SV)} {hp : Hp} {k : Nat} {s : SV} (hg : env.lookup t = some s) (hs : skips w s = true)
    (h : RW P r ⟨(d, .tup []) :: env, hp, k⟩ fun st' ts => K st' ((roOf op, []) :: ts)) : RW P (⟨some d, op, some (t, w)⟩ :: r) ⟨env, hp, k⟩ K := by
  have hh : hmrg (roOf op) hp [] [] = hp := by unfold hmrg; split <;> rfl
  refine RW.cons (e := ⟨.tup [], [], [], 0, True⟩) (fun crs => ⟨crs, ?_⟩) trivial ?_
  · unfold skips at hs
    split at hs
    · simp only [runOp, hg]; rw [if_neg (by simpa using hs)]
    · simp only [runOp, hg]
    · cases hs
  · rw [upd_eq]
    show RW P r ⟨(d, .tup []) :: env, hmrg (roOf op) hp [] [], k + 0⟩ _
    rw [hh]; exact h
theorem RW.skip0_aux {op : SO} {t : Nat} {w : Bool} {r : List SI} {K : St → List (Bool × List Nat) → Prop} {env : List (Nat × SV)} {hp : Hp} {k : Nat} {s : SV} (hg : env.lookup t = some s) (hs : skips w s = true)
    (h : RW P r ⟨env, hp, k⟩ fun st' ts => K st' ((roOf op, []) :: ts)) : RW P (⟨none, op, some (t, w)⟩ :: r) ⟨env, hp, k⟩ K := by
  have hh : hmrg (roOf op) hp [] [] = hp := by unfold hmrg; split <;> rfl
  refine RW.cons (e := ⟨.tup [], [], [], 0, True⟩) (fun crs => ⟨crs, ?_⟩) trivial ?_
  · unfold skips at hs
    split at hs
    · simp only [runOp, hg]; rw [if_neg (by simpa using hs)]
    · simp only [runOp, hg]
    · cases hs
  · rw [upd_eq]
    show RW P r ⟨env, hmrg (roOf op) hp [] [], k + 0⟩ _
    rw [hh]; exact h
theorem RW.call_aux {d : Option Nat} {f : X} {args : List X} {g : Option (Nat × Bool)} {r : List SI} {K : St → List (Bool × List Nat) → Prop} {fid : FuncId} {as first cap as' : List SV} {env : List (Nat × SV)} {hp F F' : Hp} {k : Nat} {v : SV} {nk : Nat}
    (hf : ev (fun t => env.lookup t) f = some (.fn (.func fid) first cap)) (ha : evs (fun t => env.lookup t) args = some as) (has : first ++ as ++ cap = as') (hc : SCd P fid as' F k nk v F') (hs : HSub F hp)
    (hg : g = none ∨ ∃ t w, g = some (t, w) ∧ env.lookup t = some (.d (.bool w)))
    (h : RW P r ⟨consO d v env, hmrg false hp F F', k + nk⟩ fun st' ts => K st' ((false, F.map (·.1) ++ F'.map (·.1)) :: ts)) : RW P (⟨d, .call f args, g⟩ :: r) ⟨env, hp, k⟩ K := by
  refine RW.call (st := ⟨env, hp, k⟩) hf ha has hc hs hg ?_
  rw [upd_eq]; exact h
end Go.Sl
