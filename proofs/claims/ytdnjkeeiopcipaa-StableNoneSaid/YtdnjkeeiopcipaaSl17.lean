/-
  Code: the small form, its rules; from a body to a contract.
-/
import Derived.Test.YtdnjkeeiopcipaaSl16
import Derived.RangeFuncRecord
set_option linter.unusedSimpArgs false
set_option linter.unusedSectionVars false
set_option linter.unusedVariables false
namespace Go.Sl
open Go.RowKit

inductive SCo where
  | skip
  | reg (sis : List SI) (bs : List Nat) (draw : Bool)
  | seq (a b : SCo)
  | cond (x : X) (a b : SCo)
  | block (id : Nat) (c : SCo)
  | loop (c : SCo)
  | exit (id : Nat)
  | ret
  | rfun (g : X) (ps : List Nat) (assign body : SCo)

/-- Is there a range over a function in it? -/
def SCo.rf : SCo → Bool
  | .rfun .. => true
  | .seq a b | .cond _ a b => a.rf || b.rf
  | .block _ a | .loop a => a.rf
  | _ => false

def cK (P : Program) (N : Nat) : Code → Option SCo
  | .skip => some .skip
  | .region _ ops draw => match cReg P N ops draw with
    | some (sis, bs) => some (.reg sis bs draw)
    | none => none
  | .seq a b => match cK P N a, cK P N b with
    | some a, some b => some (.seq a b)
    | _, _ => none
  | .cond x a b => match cX x, cK P N a, cK P N b with
    | some x, some a, some b => some (.cond x a b)
    | _, _, _ => none
  | .block id c => (cK P N c).map (.block id)
  | .loop c => (cK P N c).map .loop
  | .exit id => some (.exit id)
  | .ret => some .ret
  | .rangeFunc g ps a b => match cX g, cK P N a, cK P N b with
    | some g, some a, some b => some (.rfun g ps.toList a b)
    | _, _, _ => none
  | _ => none

/-- From the state st on the code s ends as Q says. -/
def SW (P : Program) (N k0 : Nat) (s : SCo) (st : St) (Q : Exit → St → Prop) : Prop :=
  ∀ c, cK P N c = some s → ∀ rd, (s.rf = true → rd = none) → ∀ μ0 M0 w0 c0 a w, StA N μ0 M0 w0 c0 k0 st a w → c.wpIn (Wide rd) 0 P (fun e a' w' => ∃ st', Q e st' ∧ StA N μ0 M0 w0 c0 k0 st' a' w') a w

section
variable {P : Program} {N k0 : Nat} {st : St} {Q : Exit → St → Prop}

theorem SW.mono {s : SCo} {Q' : Exit → St → Prop} (h : SW P N k0 s st Q) (hq : ∀ e st', Q e st' → Q' e st') : SW P N k0 s st Q' :=
  fun c hc rd hrf μ0 M0 w0 c0 a w hSt => wpIn_mono (h c hc rd hrf μ0 M0 w0 c0 a w hSt) fun e a' w' ⟨st', h1, h2⟩ => ⟨st', hq e st' h1, h2⟩
theorem SW.skip (h : Q .normal st) : SW P N k0 .skip st Q := by
  intro c hc rd hrf μ0 M0 w0 c0 a w hSt
  cases c <;> simp only [cK] at hc <;> first
    | (cases hc; done)
    | exact wpIn_skip ⟨st, h, hSt⟩
    | (exfalso; split at hc <;> cases hc; done)
    | (exfalso; obtain ⟨_, _, hh⟩ := Option.map_eq_some_iff.1 hc; cases hh; done)
theorem SW.exit {id : Nat} (h : Q (.exit id) st) : SW P N k0 (.exit id) st Q := by
  intro c hc rd hrf μ0 M0 w0 c0 a w hSt
  cases c <;> simp only [cK] at hc <;> first
    | (cases hc; done)
    | (injection hc with hc; injection hc with hc; subst hc; exact wpIn_exit ⟨st, h, hSt⟩)
    | (exfalso; split at hc <;> cases hc; done)
    | (exfalso; obtain ⟨_, _, hh⟩ := Option.map_eq_some_iff.1 hc; cases hh; done)
theorem SW.ret (h : Q .ret st) : SW P N k0 .ret st Q := by
  intro c hc rd hrf μ0 M0 w0 c0 a w hSt
  cases c <;> simp only [cK] at hc <;> first
    | (cases hc; done)
    | exact wpIn_ret ⟨st, h, hSt⟩
    | (exfalso; split at hc <;> cases hc; done)
    | (exfalso; obtain ⟨_, _, hh⟩ := Option.map_eq_some_iff.1 hc; cases hh; done)

theorem SW.reg {sis : List SI} {bs : List Nat} {draw : Bool} (crs : List CR) {st' : St} {ob : Prop} {ts : List (Bool × List Nat)} (hm : P.follows .mixedOrders = true) (hrun : runs P sis st crs = some (st', ob, ts)) (hob : ob)
    (hconf : (!draw || noConf bs ts) = true) (h : Q .normal st') : SW P N k0 (.reg sis bs draw) st Q := by
  intro c hc rd hrf μ0 M0 w0 c0 a w hSt
  cases c <;> simp only [cK] at hc <;> first
    | (cases hc; done)
    | (exfalso; obtain ⟨_, _, hh⟩ := Option.map_eq_some_iff.1 hc; cases hh; done)
    | skip
  case region id ops dr =>
    split at hc <;> first | (cases hc; done) | skip
    rename_i sis' bs' hR
    injection hc with hc
    injection hc with e1 e2 e3
    subst e1; subst e2; subst e3
    exact region_rule hR hrun hob (fun hd => by simpa [hd] using hconf) hm hSt fun a' w' hSt' => ⟨st', h, hSt'⟩
  all_goals (exfalso; split at hc <;> cases hc)

theorem SW.seq {x y : SCo} (h : SW P N k0 x st fun e st' => match e with | .normal => SW P N k0 y st' Q | e => Q e st') : SW P N k0 (.seq x y) st Q := by
  intro c hc rd hrf μ0 M0 w0 c0 a w hSt
  cases c <;> simp only [cK] at hc <;> first
    | (cases hc; done)
    | (exfalso; obtain ⟨_, _, hh⟩ := Option.map_eq_some_iff.1 hc; cases hh; done)
    | skip
  case seq cx cy =>
    split at hc <;> first | (cases hc; done) | skip
    rename_i x' y' hx hy
    injection hc with hc
    injection hc with e1 e2
    subst e1; subst e2
    refine wpIn_seq (wpIn_mono (h cx hx rd (fun e => hrf (by simp [SCo.rf, e])) μ0 M0 w0 c0 a w hSt) fun e a' w' ⟨st', h1, h2⟩ => ?_)
    cases e <;> first
      | exact h1 cy hy rd (fun e => hrf (by simp [SCo.rf, e])) μ0 M0 w0 c0 a' w' h2
      | exact ⟨st', h1, h2⟩
  all_goals (exfalso; split at hc <;> cases hc)

theorem SW.block {id : Nat} {x : SCo} (h : SW P N k0 x st fun e st' => match e with | .exit id' => if id' = id then Q .normal st' else Q (.exit id') st' | e => Q e st') : SW P N k0 (.block id x) st Q := by
  intro c hc rd hrf μ0 M0 w0 c0 a w hSt
  cases c <;> simp only [cK] at hc <;> first
    | (cases hc; done)
    | (exfalso; split at hc <;> cases hc; done)
    | skip
  case block id' cx =>
    obtain ⟨x', hx, e1⟩ := Option.map_eq_some_iff.1 hc
    injection e1 with e1 e2
    subst e1; subst e2
    refine wpIn_block (wpIn_mono (h cx hx rd (fun e => hrf (by simp [SCo.rf, e])) μ0 M0 w0 c0 a w hSt) fun e a' w' ⟨st', h1, h2⟩ => ?_)
    cases e <;> try exact ⟨st', h1, h2⟩
    rename_i i
    simp only [Exit.inBlock] at h1 ⊢
    split
    · rename_i e1; rw [if_pos e1] at h1; exact ⟨st', h1, h2⟩
    · rename_i e1; rw [if_neg e1] at h1; exact ⟨st', h1, h2⟩
  all_goals (exfalso; obtain ⟨_, _, hh⟩ := Option.map_eq_some_iff.1 hc; cases hh)

theorem SW.cond {x : X} {y z : SCo} {b : Bool} (hx : ev (fun t => st.env.lookup t) x = some (.d (.bool b))) (h1 : b = true → SW P N k0 y st Q) (h2 : b = false → SW P N k0 z st Q) : SW P N k0 (.cond x y z) st Q := by
  intro c hc rd hrf μ0 M0 w0 c0 a w hSt
  cases c <;> simp only [cK] at hc <;> first
    | (cases hc; done)
    | (exfalso; obtain ⟨_, _, hh⟩ := Option.map_eq_some_iff.1 hc; cases hh; done)
    | skip
  case cond o cy cz =>
    split at hc <;> first | (cases hc; done) | skip
    rename_i x' y' z' hx' hy hz
    injection hc with hc
    injection hc with e1 e2 e3
    subst e1; subst e2; subst e3
    obtain ⟨hk0, hdf, hsz, μ, M, hsl, hS, hE⟩ := hSt
    have hk : Known (fun t => st.env.lookup t) #[o] (· < st.k) μ M a := fun t _ s hs => hsl t s hs
    have hb := Rp.bool_iff.1 (hk.get (by simp) hx' hx)
    exact wpIn_cond_split hb (fun e => h1 e cy hy rd (fun e => hrf (by simp [SCo.rf, e])) μ0 M0 w0 c0 a w ⟨hk0, hdf, hsz, μ, M, hsl, hS, hE⟩) (fun e => h2 e cz hz rd (fun e => hrf (by simp [SCo.rf, e])) μ0 M0 w0 c0 a w ⟨hk0, hdf, hsz, μ, M, hsl, hS, hE⟩)
  all_goals (exfalso; split at hc <;> cases hc)

/-! ### weaker states -/
def EnvW (ρ : Nat → Nat) (k : Nat) (env : List (Nat × SV)) : List (Nat × SV) → Prop
  | [] => True
  | (t, s) :: r => env.lookup t = some (s.ren ρ) ∧ s.ok (fun n => decide (n < k)) = true ∧ EnvW ρ k env r
def HpW (ρ : Nat → Nat) (k : Nat) (hp : Hp) : Hp → Prop
  | [] => True
  | (n, ob) :: r => lk hp (ρ n) = some (ob.ren ρ) ∧ n < k ∧ ob.ok (fun n => decide (n < k)) = true ∧ HpW ρ k hp r
def InjW (ρ : Nat → Nat) (h : Hp) : Prop := ∀ n, n ∈ h.map (·.1) → ∀ m, m ∈ h.map (·.1) → ρ n = ρ m → n = m
/-- st1 says less than st, or calls things otherwise. -/
def Weak (k0 : Nat) (st st1 : St) (ρ : Nat → Nat) : Prop :=
  k0 ≤ st1.k ∧ (∀ n, n < k0 → ρ n = n) ∧ EnvW ρ st1.k st.env st1.env ∧ HpW ρ st1.k st.hp st1.hp ∧ InjW ρ st1.hp

theorem EnvW.get {ρ : Nat → Nat} {k : Nat} {env : List (Nat × SV)} : ∀ {env1 : List (Nat × SV)}, EnvW ρ k env env1 → ∀ t s, env1.lookup t = some s → env.lookup t = some (s.ren ρ) ∧ s.ok (fun n => decide (n < k)) = true
  | [], _, t, s, h => by simp at h
  | (t', s') :: r, hw, t, s, h => by
    simp only [EnvW] at hw
    simp only [List.lookup] at h
    split at h
    · rename_i e
      have e : t = t' := by simpa using e
      injection h with h
      subst h; subst e
      exact ⟨hw.1, hw.2.1⟩
    · exact EnvW.get hw.2.2 t s h
theorem HpW.get {ρ : Nat → Nat} {k : Nat} {hp : Hp} : ∀ {hp1 : Hp}, HpW ρ k hp hp1 → ∀ n ob, lk hp1 n = some ob → lk hp (ρ n) = some (ob.ren ρ) ∧ n < k ∧ ob.ok (fun n => decide (n < k)) = true
  | [], _, n, ob, h => by simp [lk_nil] at h
  | (n', ob') :: r, hw, n, ob, h => by
    simp only [HpW] at hw
    rw [lk_cons] at h
    split at h
    · rename_i e
      injection h with h
      subst h; subst e
      exact ⟨hw.1, hw.2.1, hw.2.2.1⟩
    · exact HpW.get hw.2.2.2 n ob h
theorem lk_name {h : Hp} {n : Nat} (hn : lk h n ≠ none) : n ∈ h.map (·.1) := by
  obtain ⟨ob, ho⟩ := Option.ne_none_iff_exists'.1 hn
  exact List.mem_map.2 ⟨(n, ob), lk_mem ho, rfl⟩

theorem StA.weak {μ0 : Nat → Nm} {M0 : Mem} {w0 : World} {c0 : Nat → Option Ob} {st1 : St} {ρ : Nat → Nat} {a : Act} {w : World} (h : StA N μ0 M0 w0 c0 k0 st a w) (hw : Weak k0 st st1 ρ) : StA N μ0 M0 w0 c0 k0 st1 a w := by
  obtain ⟨hk0, hdf, hsz, μ, M, hsl, hS, hE⟩ := h
  obtain ⟨h1, h2, h3, h4, h5⟩ := hw
  let ν : Nat → Nm := fun n => if n < st1.k then μ (ρ n) else μ0 n
  have hν : ∀ n, n < st1.k → ν n = μ (ρ n) := fun n hn => by simp [ν, hn]
  have hν' : ∀ n, decide (n < st1.k) = true → ν n = μ (ρ n) := fun n hn => hν n (by simpa using hn)
  have hq : ∀ n, decide (n < st1.k) = true → n < st1.k := fun n hn => by simpa using hn
  refine ⟨h1, hdf, hsz, ν, M, fun t s hs => ?_, ⟨hS.mem, fun n ob hn => ?_, fun n m hn hm ln lm e => ?_⟩, ⟨fun n hn => ?_, hE.mem, hE.frame, hE.size, fun n hn => ?_, hE.os, hE.tape, hE.output⟩⟩
  · obtain ⟨a1, a2⟩ := h3.get t s hs
    exact Rp.to a2 hq hν' (hsl t _ a1).rep
  · obtain ⟨a1, a2, a3⟩ := h4.get n ob hn
    obtain ⟨_, b1, b2⟩ := hS.obs _ _ a1
    rw [hν n a2]
    exact ⟨a2, b1.to a3 hq hν', b2⟩
  · obtain ⟨o1, ho1⟩ := Option.ne_none_iff_exists'.1 hn
    obtain ⟨o2, ho2⟩ := Option.ne_none_iff_exists'.1 hm
    obtain ⟨a1, a2, _⟩ := h4.get n o1 ho1
    obtain ⟨b1, b2, _⟩ := h4.get m o2 ho2
    rw [hν n a2] at e ln
    rw [hν m b2] at e lm
    exact h5 n (lk_name hn) m (lk_name hm) (hS.inj _ _ (by rw [a1]; simp) (by rw [b1]; simp) ln lm e)
  · by_cases hk : n < k0
    · rw [hν n (by omega), h2 n hk]
      exact hE.old n (by omega)
    · simp only [ν]
      rw [if_neg (by omega)]
  · obtain ⟨o1, ho1⟩ := Option.ne_none_iff_exists'.1 hn
    obtain ⟨a1, a2, _⟩ := h4.get n o1 ho1
    rw [hν n a2]
    have hnm := hE.names (ρ n) (by rw [a1]; simp)
    by_cases hk : n < k0
    · rw [h2 n hk] at hnm ⊢
      rcases hnm with ⟨⟨b1, _⟩, _⟩ | ⟨b1, b2⟩
      · omega
      · exact .inr ⟨by omega, b2⟩
    · refine .inl ⟨⟨by omega, a2⟩, ?_⟩
      rcases hnm with ⟨_, b⟩ | ⟨b1, b2⟩
      · exact b
      · exact fun l => .inr ⟨ρ n, b2, by rw [hE.old _ b1] at l; exact l, by rw [hE.old _ b1]⟩

theorem SW.weak {s : SCo} {st1 : St} (ρ : Nat → Nat) (hw : Weak k0 st st1 ρ) (h : SW P N k0 s st1 Q) : SW P N k0 s st Q :=
  fun c hc rd hrf μ0 M0 w0 c0 a w hSt => h c hc rd hrf μ0 M0 w0 c0 a w (hSt.weak hw)

/-- A loop, by a family of states at its head. -/
theorem SW.loop {α : Type} {x : SCo} (I : α → St) (m : α → Nat) (i0 : α) (ρ0 : Nat → Nat) (h0 : Weak k0 st (I i0) ρ0)
    (round : ∀ i, SW P N k0 x (I i) fun e st' => match e with | .normal => ∃ j ρ, m j < m i ∧ Weak k0 st' (I j) ρ | e => Q e st') : SW P N k0 (.loop x) st Q := by
  intro c hc rd hrf μ0 M0 w0 c0 a w hSt
  cases c <;> simp only [cK] at hc <;> first
    | (cases hc; done)
    | (exfalso; split at hc <;> cases hc; done)
    | skip
  case loop cx =>
    obtain ⟨x', hx, e1⟩ := Option.map_eq_some_iff.1 hc
    injection e1 with e1
    subst e1
    have key : ∀ n i a w, m i = n → StA N μ0 M0 w0 c0 k0 (I i) a w → (Code.loop cx).wpIn (Wide rd) 0 P (fun e a' w' => ∃ st', Q e st' ∧ StA N μ0 M0 w0 c0 k0 st' a' w') a w := by
      intro n i a w hn hI
      refine wpIn_loop (fun a w => ∃ i, StA N μ0 M0 w0 c0 k0 (I i) a w) (fun a w => Classical.epsilon fun n => ∃ i, m i = n ∧ StA N μ0 M0 w0 c0 k0 (I i) a w ∧ ∀ j, StA N μ0 M0 w0 c0 k0 (I j) a w → m i ≤ m j) ⟨i, hI⟩ fun a w ⟨i, hI⟩ => ?_
      have least : ∀ a w, (∃ i, StA N μ0 M0 w0 c0 k0 (I i) a w) → ∃ n, ∃ i, m i = n ∧ StA N μ0 M0 w0 c0 k0 (I i) a w ∧ ∀ j, StA N μ0 M0 w0 c0 k0 (I j) a w → m i ≤ m j := by
        intro a w ⟨i, hI⟩
        have : ∀ n i, m i = n → StA N μ0 M0 w0 c0 k0 (I i) a w → ∃ n, ∃ i, m i = n ∧ StA N μ0 M0 w0 c0 k0 (I i) a w ∧ ∀ j, StA N μ0 M0 w0 c0 k0 (I j) a w → m i ≤ m j := by
          intro n
          induction n using Nat.strongRecOn with
          | _ n ih =>
            intro i hi hI
            by_cases hh : ∃ j, StA N μ0 M0 w0 c0 k0 (I j) a w ∧ m j < m i
            · obtain ⟨j, hj, hlt⟩ := hh
              exact ih (m j) (by omega) j rfl hj
            · exact ⟨m i, i, rfl, hI, fun j hj => Nat.le_of_not_lt fun h => hh ⟨j, hj, h⟩⟩
        exact this (m i) i rfl hI
      obtain ⟨i', e1, hI', hmin⟩ := Classical.epsilon_spec (least a w ⟨i, hI⟩)
      refine wpIn_mono (round i' cx hx rd (fun e => hrf (by simp [SCo.rf, e])) μ0 M0 w0 c0 a w hI') fun e a' w' ⟨st', h1, h2⟩ => ?_
      cases e <;> try exact ⟨st', h1, h2⟩
      obtain ⟨j, ρ, hlt, hw⟩ := h1
      have hJ := h2.weak hw
      refine ⟨⟨j, hJ⟩, ?_⟩
      obtain ⟨j', e2, hJ', hmin'⟩ := Classical.epsilon_spec (least a' w' ⟨j, hJ⟩)
      rw [← e1, ← e2]
      exact Nat.lt_of_le_of_lt (hmin' j hJ) hlt
    exact key (m i0) i0 a w rfl (hSt.weak h0)
  all_goals (exfalso; obtain ⟨_, _, hh⟩ := Option.map_eq_some_iff.1 hc; cases hh)

/-! ### from a body to a contract -/
inductive RV where
  | tmp (t : Nat)
  | cell (t : Nat) (sz : Option Nat)
def cRV (P : Program) : List ResultVar → Option (List RV)
  | [] => some []
  | .tmp t :: r => match cRV P r with
    | some r => some (.tmp t :: r)
    | none => none
  | .cell t ty :: r => match tySz P ty, cRV P r with
    | some sz, some r => some (.cell t sz :: r)
    | _, _ => none
def rvV (st : St) : List RV → Option (List SV × Prop)
  | [] => some ([], True)
  | .tmp t :: r => match st.env.lookup t, rvV st r with
    | some s, some (ss, ob) => some (s :: ss, ob)
    | _, _ => none
  | .cell t sz :: r => match st.env.lookup t, rvV st r with
    | some s, some (ss, ob) => match cellsAt (lk st.hp) s with
      | some (cs, off, _) => match ldv cs off sz with
        | some v => some (v :: ss, ldo cs off sz ∧ ob)
        | none => none
      | none => none
    | _, _ => none
def retV : List SV → SV
  | [s] => s
  | ss => .tup ss

def rvRun (tmps : Array Value) : ResultVar → Sem Value
  | .tmp t => pure (tmps.getD t undef)
  | .cell t ty => do loadVar ty (← asAddr (tmps.getD t undef))
theorem results_eq (fn : Func) (tmps : Array Value) : results fn tmps = (do let vs ← fn.results.mapM (rvRun tmps); pure (if h : vs.size = 1 then vs[0] else .tuple vs) : Sem Value) := by
  unfold results
  congr 1
theorem rv_run {w : World} {a : Act} {p : Nat → Prop} {μ : Nat → Nm} {M : Mem} (hsl : ∀ t s, st.env.lookup t = some s → Rp p μ M s (a.tmps.getD t undef)) (hS : SatF p μ M (lk st.hp) w) :
    ∀ (rs : List ResultVar) (rvs : List RV) (ss : List SV) (ob : Prop), cRV P rs = some rvs → rvV st rvs = some (ss, ob) → ob →
      ∃ vs : List Value, (rs.mapM (rvRun a.tmps)).run P w = .ok vs w ∧ Rps p μ M ss vs
  | [], rvs, ss, ob, h1, h2, h3 => by
    simp [cRV] at h1; subst h1
    simp [rvV] at h2; obtain ⟨rfl, _⟩ := h2
    exact ⟨[], by simp, Rps.nil_iff.2 rfl⟩
  | .tmp t :: rs, rvs, ss, ob, h1, h2, h3 => by
    simp only [cRV] at h1
    split at h1 <;> first | (cases h1; done) | skip
    rename_i r hr
    injection h1 with h1; subst h1
    simp only [rvV] at h2
    split at h2 <;> first | (cases h2; done) | skip
    rename_i s ss' ob' hs hss
    injection h2 with h2
    injection h2 with h2 h2'
    subst h2; subst h2'
    obtain ⟨vs, h4, h5⟩ := rv_run hsl hS rs r ss' _ hr hss h3
    refine ⟨_ :: vs, ?_, Rps.cons_iff.2 ⟨_, vs, rfl, hsl t s hs, h5⟩⟩
    simp only [List.mapM_cons, rvRun, Sem.run_bind, Sem.run_pure, Result.andThen_ok, h4]
  | .cell t ty :: rs, rvs, ss, ob, h1, h2, h3 => by
    simp only [cRV] at h1
    split at h1 <;> first | (cases h1; done) | skip
    rename_i sz r hsz hr
    injection h1 with h1; subst h1
    simp only [rvV] at h2
    split at h2 <;> first | (cases h2; done) | skip
    rename_i s ss' ob' hs hss
    split at h2 <;> first | (cases h2; done) | skip
    rename_i cs off F hc
    split at h2 <;> first | (cases h2; done) | skip
    rename_i v hv
    injection h2 with h2
    injection h2 with h2 h2'
    subst h2; subst h2'
    obtain ⟨vs, h4, h5⟩ := rv_run hsl hS rs r ss' _ hr hss h3.2
    obtain ⟨b, q, e1, hrd⟩ := cellsAt_reads hc (hsl t s hs) (hS.sub (cellsAt_sub hc))
    obtain ⟨u, hu, hu'⟩ := ldv_run hsz hv h3.1 hrd
    refine ⟨u :: vs, ?_, Rps.cons_iff.2 ⟨u, vs, rfl, hu', h5⟩⟩
    have hA : (asAddr (a.tmps.getD t undef)).run P w = .ok ⟨b, q + off, none⟩ w := by rw [e1]; rfl
    simp only [List.mapM_cons, rvRun, hA, Sem.run_bind, Sem.run_pure, Result.andThen_ok, hu, h4]

theorem results_run {w : World} {a : Act} {fn : Func} {rvs : List RV} {ss : List SV} {ob : Prop} {p : Nat → Prop} {μ : Nat → Nm} {M : Mem} (hsl : ∀ t s, st.env.lookup t = some s → Rp p μ M s (a.tmps.getD t undef)) (hS : SatF p μ M (lk st.hp) w)
    (h1 : cRV P fn.results.toList = some rvs) (h2 : rvV st rvs = some (ss, ob)) (h3 : ob) : ∃ v, (results fn a.tmps).run P w = .ok v w ∧ Rp p μ M (retV ss) v := by
  obtain ⟨vs, h4, h5⟩ := rv_run hsl hS fn.results.toList rvs ss ob h1 h2 h3
  have h6 : (fn.results.mapM (rvRun a.tmps)).run P w = .ok vs.toArray w := by
    rw [← Array.toArray_toList (xs := fn.results), List.mapM_toArray, Sem.run_map, h4]
    rfl
  have hl := h5.length
  rw [results_eq]
  simp only [Sem.run_bind, h6, Result.andThen_ok, Sem.run_pure]
  match ss, vs, hl, h5 with
  | [s], [v], _, h5 =>
    obtain ⟨u, us, e, hu, _⟩ := Rps.cons_iff.1 h5
    injection e with e1 e2
    subst e1
    exact ⟨v, by rw [dif_pos (by rfl)]; rfl, hu⟩
  | [], [], _, h5 => exact ⟨_, rfl, Rp.tup_iff.2 ⟨#[], by simp, h5⟩⟩
  | s :: s' :: ss, [], h, _ => simp at h
  | s :: s' :: ss, [v], h, _ => simp at h
  | s :: s' :: ss, v :: v' :: vs, _, h5 => exact ⟨_, rfl, Rp.tup_iff.2 ⟨(v :: v' :: vs).toArray, by simp, by simpa using h5⟩⟩

theorem SatF.put {p : Nat → Prop} {μ : Nat → Nm} {M : Mem} {c : Nat → Option Ob} {w : World} (hS : SatF p μ M c w) {r : Nat} {y : Obj} (x : Obj) (hr : w.heap[r]? = some y) (hf : foreign y = true) : SatF p μ M c (w.putObj r x) := by
  refine ⟨fun b o v h => ?_, fun n ob hn => ?_, hS.inj⟩
  · have h1 := hS.mem b o v h
    have hb : b ≠ r := by
      rintro rfl
      simp only [World.cell?, hr] at h1
      cases y <;> simp [foreign] at hf h1
    simp only [World.cell?, World.putObj_heap_other hb] at h1 ⊢
    exact h1
  · obtain ⟨a1, a2, a3⟩ := hS.obs n ob hn
    exact ⟨a1, a2.more (fun _ h => h) (fun _ _ => rfl) (Mem.le_refl _) (fun hl => World.putObj_heap_other (hS.not hr hf n (by rw [hn]; simp) hl)), a3⟩
theorem Ev.put {c c' : Nat → Option Ob} {new : Nat → Prop} {μ μ' : Nat → Nm} {M M' : Mem} {w0 w : World} (hE : Ev c new μ M w0 c' μ' M' w) {r : Nat} (x : Obj) (hr : w0.heap.size ≤ r) : Ev c new μ M w0 c' μ' M' (w.putObj r x) :=
  ⟨hE.old, hE.mem, fun b hb hn => ⟨(World.putObj_heap_other (by omega)).trans (hE.frame b hb hn).1, (hE.frame b hb hn).2⟩, by rw [World.putObj_size]; exact hE.size, hE.names, hE.os, hE.tape, hE.output⟩
theorem Marks.put {w0 w : World} {r : Nat} (x : Obj) : ∀ df, (∀ d', d' ∈ df → d' ≠ ⟨.collected r, #[]⟩) → Marks w0 w df → Marks w0 (w.putObj r x) df
  | [], _, _ => trivial
  | d :: ds, hne, ⟨⟨r', h1, h2, h3, h4⟩, h5⟩ =>
    ⟨⟨r', h1, h2, (World.putObj_heap_other (fun e => hne d (by simp) (by rw [h1, e]))).trans h3, h4⟩, Marks.put x ds (fun d' hd => hne d' (by simp [hd])) h5⟩
/-- A frame goes out over its marks. -/
theorem leaves_marks {fn : Func} {tmps : Array Value} {R : Ending → World → Prop} {p : Nat → Prop} {μ : Nat → Nm} {M : Mem} {c : Nat → Option Ob} {c0 : Nat → Option Ob} {new : Nat → Prop} {μ0 : Nat → Nm} {M0 : Mem} {w0 : World} :
    ∀ (df : List Deferred) (w : World), Marks w0 w df → SatF p μ M c w → Ev c0 new μ0 M0 w0 c μ M w → (∀ w', SatF p μ M c w' → Ev c0 new μ0 M0 w0 c μ M w' → LeavesIn (Wide none) 0 P fn tmps R [] .returning w') → LeavesInM (Wide none) 0 P fn tmps R df .returning w
  | [], w, _, hS, hE, h => h w hS hE
  | d :: ds, w, ⟨⟨r, h1, h2, h3, h4⟩, h5⟩, hS, hE, h => by
    refine ⟨by simp, .inl ⟨r, _, by rw [h1], run_takeDeferred h3, ?_⟩⟩
    exact leaves_marks ds _ (Marks.put _ ds h4 h5) (hS.put _ h3 rfl) (hE.put _ h2) h

/-- What holds where the body ends. -/
def Fin (k nk : Nat) (rvs : List RV) (Q : SV → Hp → Prop) (st : St) : Prop :=
  ∃ ss ob F', rvV st rvs = some (ss, ob) ∧ ob ∧ HSub F' st.hp ∧ Q (retV ss) F' ∧ (retV ss).ok (fun n => decide (n < k + nk)) = true ∧ F'.ok (fun n => decide (n < k + nk)) = true ∧ k + nk ≤ st.k

def argE : Nat → List SV → List (Nat × SV)
  | _, [] => []
  | i, s :: ss => (i, s) :: argE (i + 1) ss

theorem argE_get : ∀ (i : Nat) (ss : List SV) (t : Nat) (s : SV), (argE i ss).lookup t = some s → i ≤ t ∧ ss[t - i]? = some s
  | i, [], t, s, h => by simp [argE] at h
  | i, x :: ss, t, s, h => by
    simp only [argE, List.lookup] at h
    split at h
    · rename_i e
      have e : t = i := by simpa using e
      injection h with h
      subst h; subst e
      simp
    · obtain ⟨h1, h2⟩ := argE_get (i + 1) ss t s h
      refine ⟨by omega, ?_⟩
      rw [show t - i = (t - (i + 1)) + 1 by omega]
      simpa using h2

theorem SB.of_body {f : FuncId} {fn : Func} {c : Code} {s : SCo} {rvs : List RV} {args : List SV} {F : Hp} {k nk : Nat} {Q : SV → Hp → Prop} (hf : P.funcs[f]? = some fn) (hb : fn.body = some c) (hc : cK P fn.ntmps c = some s)
    (hrv : cRV P fn.results.toList = some rvs) (hcall : Callable P f = true) (hargs : SV.oks (fun n => decide (n < k)) args = true) (hF : F.ok (fun n => decide (n < k)) = true) (hN : args.length ≤ fn.ntmps)
    (h : SW P fn.ntmps k s ⟨argE 0 args, F, k⟩ fun e st' => match e with | .normal => Fin k nk rvs Q st' | .ret => Fin k nk rvs Q st' | _ => False) : SB P f args F k nk Q := by
  refine ⟨hcall, hargs, hF, fun μ M w vals hr hS => callsIn_W (r := none) (n := 0) |>.1 (callsIn_of_wp_marks hf hb trivial ?_)⟩
  have hlen : vals.size = args.length := by simpa using hr.length
  have hSt : StA fn.ntmps μ M w (lk F) k ⟨argE 0 args, F, k⟩ { tmps := vals ++ Array.replicate (fn.ntmps - vals.size) undef, defers := [] } w := by
    refine ⟨Nat.le_refl _, trivial, by simp; omega, μ, M, fun t s hs => ?_, hS, Ev.refl _ _ _ _ _ fun n hn hh => absurd hh.2 (Nat.not_lt.2 hh.1)⟩
    obtain ⟨_, h2⟩ := argE_get 0 args t s hs
    obtain ⟨u, hu, hr'⟩ := hr.get h2
    have hu' : vals[t]? = some u := by simpa using hu
    have hlt : t < vals.size := (Array.getElem?_eq_some_iff.1 hu').1
    have : (vals ++ Array.replicate (fn.ntmps - vals.size) undef).getD t undef = u := by
      rw [Array.getD_eq_getD_getElem?, Array.getElem?_append_left hlt, hu']
      rfl
    rw [this]
    exact hr'
  refine wpIn_mono (h c hc none (fun _ => rfl) μ M w (lk F) _ w hSt) ?_
  rintro e a' w' ⟨st', hQ, hSt'⟩
  obtain ⟨_, hdf, _, μ1, M1, hsl, hS0, hE0⟩ := hSt'
  have fin : Fin k nk rvs Q st' → LeavesInM (Wide none) 0 P fn a'.tmps (fun e w' => ∃ r F' μ' M' u, e = Ending.returned u ∧ Q r F' ∧ r.ok (fun n => decide (n < k + nk)) = true ∧ F'.ok (fun n => decide (n < k + nk)) = true ∧ Rep μ' M' r u ∧ SatF (· < k + nk) μ' M' (lk F') w' ∧
      Ev (lk F) (fun n => k ≤ n ∧ n < k + nk) μ M w (lk F') μ' M' w') a'.defers .returning w' := by
    rintro ⟨ss, ob, F', h1, h2, h3, h4, h5, h6, h7⟩
    refine leaves_marks a'.defers w' hdf hS0 hE0 fun w' hS1 hE1 => ?_
    obtain ⟨v, hv, hr'⟩ := results_run hsl hS1 hrv h1 h2
    refine ⟨v, hv, retV ss, F', fun n => if n < k + nk then μ1 n else μ n, M1, v, rfl, h4, h5, h6, ?_, ?_, ?_⟩
    · exact Rep.congr (fun n hn => by simp only [decide_eq_true_eq] at hn; rw [if_pos hn]) _ v h5 hr'.rep
    · refine ⟨hS1.mem, fun n ob hn => ?_, fun n m hn hm ln lm e => ?_⟩
      · obtain ⟨a1, a2⟩ := Hp.ok_lk h6 hn
        simp only [decide_eq_true_eq] at a1
        obtain ⟨_, b1, b2⟩ := hS1.obs n ob (h3 n ob hn)
        simp only [if_pos a1]
        refine ⟨a1, ?_, b2⟩
        have hb' : ObRep (· < st'.k) (fun n => μ1 (id n)) M1 w' (μ1 n) (ob.ren id) := by
          have hid : ∀ s : SV, s.ren id = s := fun s => by
            have key : ∀ s : SV, s.ren id = s := by
              intro s
              exact SV.rec (motive_1 := fun s => s.ren id = s) (motive_2 := fun l => SV.rens id l = l) (fun _ => rfl) (fun _ _ => rfl) (fun _ _ => rfl) (fun _ _ _ => rfl) (fun _ _ => rfl) (fun _ => rfl) (fun _ => rfl) (fun _ => rfl) (fun f a c h1 h2 => by simp only [SV.ren, h1, h2]) (fun cs h => by simp only [SV.ren, h]) (fun cs h => by simp only [SV.ren, h]) rfl rfl (fun c cs h1 h2 => by simp only [SV.rens, h1, h2]) s
            exact key s
          have hids : ∀ l : List SV, SV.rens id l = l := fun l => by induction l <;> simp_all [SV.rens]
          have : ob.ren id = ob := by
            cases ob <;> simp [Ob.ren, hids, hid]
          rw [this]; exact b1
        exact ObRep.to a2 (fun m hm => by simpa using hm) (fun m hm => by simp only [decide_eq_true_eq] at hm; simp [hm]) hb'
      · obtain ⟨o1, ho1⟩ := Option.ne_none_iff_exists'.1 hn
        obtain ⟨o2, ho2⟩ := Option.ne_none_iff_exists'.1 hm
        have a1 := (Hp.ok_lk h6 ho1).1
        have a2 := (Hp.ok_lk h6 ho2).1
        simp only [decide_eq_true_eq] at a1 a2
        rw [if_pos a1] at e ln
        rw [if_pos a2] at e lm
        exact hS1.inj n m (by rw [h3 n o1 ho1]; simp) (by rw [h3 m o2 ho2]; simp) ln lm e
    · refine ⟨fun n hn => ?_, hE1.mem, hE1.frame, hE1.size, fun n hn => ?_, hE1.os, hE1.tape, hE1.output⟩
      · by_cases hnk : n < k + nk
        · rw [if_pos hnk]; exact hE1.old n (by omega)
        · rw [if_neg hnk]
      · obtain ⟨o1, ho1⟩ := Option.ne_none_iff_exists'.1 hn
        have a1 := (Hp.ok_lk h6 ho1).1
        simp only [decide_eq_true_eq] at a1
        rw [if_pos a1]
        rcases hE1.names n (by rw [h3 n o1 ho1]; simp) with ⟨b1, b2⟩ | ⟨b1, b2⟩
        · exact .inl ⟨⟨b1.1, a1⟩, b2⟩
        · exact .inr ⟨by omega, b2⟩
  cases e <;> first
    | exact fin hQ
    | exact hQ.elim
end
end Go.Sl
