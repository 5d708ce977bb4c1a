/-
  Calls by contract; a region as a fold over its operations.
-/
import Derived.Test.YtdnjkeeiopcipaaSl13
set_option linter.unusedSimpArgs false
set_option linter.unusedSectionVars false
set_option linter.unusedVariables false
namespace Go.Sl
open Go.RowKit

def Callable (P : Program) (f : FuncId) : Bool :=
  match P.funcs[f]? with
  | some fn => fn.name != "runtime.NumGoroutine" && fn.body.isSome
  | none => false

/-- WHAT A CALL DOES: called with values that are as 'args' say, where the objects are as F says, it returns, as Q says; it makes at most nk new names, from k on. -/
def SC (P : Program) (f : FuncId) (args : List SV) (F : Hp) (k nk : Nat) (Q : SV → Hp → Prop) : Prop :=
  Callable P f = true ∧
  ∀ (p : Nat → Prop) (μ : Nat → Nm) (M : Mem) (w : World) (vals : Array Value), (∀ n, (k ≤ n ∧ n < k + nk) → ¬ p n) → Rps p μ M args vals.toList → SatF p μ M (lk F) w →
    Calls P f vals w fun e w' => ∃ r F' μ' M' u, e = .returned u ∧ Q r F' ∧ Rp (fun n => p n ∨ (k ≤ n ∧ n < k + nk)) μ' M' r u ∧ SatF (fun n => p n ∨ (k ≤ n ∧ n < k + nk)) μ' M' (lk F') w' ∧
      Ev (lk F) (fun n => k ≤ n ∧ n < k + nk) μ M w (lk F') μ' M' w'

def SCd (P : Program) (f : FuncId) (args : List SV) (F : Hp) (k nk : Nat) (v : SV) (F' : Hp) : Prop := SC P f args F k nk fun r h => r = v ∧ h = F'

theorem SC.mono {P : Program} {f : FuncId} {args : List SV} {F : Hp} {k nk : Nat} {Q Q' : SV → Hp → Prop} (h : SC P f args F k nk Q) (hq : ∀ r F', Q r F' → Q' r F') : SC P f args F k nk Q' :=
  ⟨h.1, fun p μ M w vals h1 h2 h3 => (h.2 p μ M w vals h1 h2 h3).mono fun e w' ⟨r, F', μ', M', u, a, b, c⟩ => ⟨r, F', μ', M', u, a, hq r F' b, c⟩⟩

section
variable {P : Program}

theorem run_callFunc {w : World} {f : FuncId} (h : Callable P f = true) (args : Array Value) : (callFunc f args).run P w = .ok (.enter f args) w := by
  unfold Callable at h
  split at h <;> first | (cases h; done) | skip
  rename_i fn hf
  simp only [Bool.and_eq_true, bne_iff_ne, ne_eq] at h
  obtain ⟨c, hc⟩ := Option.isSome_iff_exists.1 h.2
  simp [callFunc, hf, h.1, hc]

/-- A call's operation, where what it does is known. -/
theorem s_callQ {o : Oper} {E : Nat → Option SV} {c : Call} {fo : Operand} {f' : X} {as' : List X} {fid : FuncId} {first cap as : List SV} {F : Hp} {k nk : Nat} {Q : SV → Hp → Prop}
    (ho : o.op = .call c) (hcal : c.callee = .value fo) (hf : cX fo = some f') (ha : cXs c.args.toList = some as') (h1 : ev E f' = some (.fn (.func fid) first cap)) (h2 : evs E as' = some as)
    (hSC : SC P fid (first ++ as ++ cap) F k nk Q) {p : Nat → Prop} {μ : Nat → Nm} {M : Mem} {a : Act} {w : World} {K : Act → World → Prop} {QQ : Exit → Act → World → Prop} (hnew : ∀ n, (k ≤ n ∧ n < k + nk) → ¬ p n)
    (hk : Known E o.op.operands p μ M a) (hS : SatF p μ M (lk F) w)
    (hK : ∀ r F' u μ' M' w', Q r F' → Rp (fun n => p n ∨ (k ≤ n ∧ n < k + nk)) μ' M' r u → SatF (fun n => p n ∨ (k ≤ n ∧ n < k + nk)) μ' M' (lk F') w' → Ev (lk F) (fun n => k ≤ n ∧ n < k + nk) μ M w (lk F') μ' M' w' → K (a.put o.dst u) w') :
    o.wp P a w K QQ := by
  have hin : fo ∈ o.op.operands := by simp [ho, Op.operands, Call.operands, hcal]
  have hin2 : ∀ x ∈ c.args.toList, x ∈ o.op.operands := fun x hx => by
    rw [ho]; simp only [Op.operands, Call.operands, hcal, Array.mem_append]; exact .inr (by simpa using hx)
  obtain ⟨fs, cs, e1, r1, r2⟩ := Rp.fn_iff.1 (hk.get hin hf h1)
  have r3 := hk.gets hin2 ha h2
  have hargs : Rps p μ M (first ++ as ++ cap) (fs ++ c.args.map a.eval ++ cs).toList := by
    simpa using (r1.append r3).append r2
  have hrun : (execOp a.eval o).run P w = .ok (.enter fid (fs ++ c.args.map a.eval ++ cs)) w := by
    simp only [execOp, ho, resolve, hcal, e1, Deferred.ofValue, Sem.run_bind, Sem.run_pure, Result.andThen_ok, invoke, run_callFunc hSC.1]
  unfold Oper.wp
  rw [hrun, Oper.upon_enter]
  refine (hSC.2 p μ M w _ hnew hargs hS).mono ?_
  rintro e w' ⟨r, F', μ', M', u, rfl, hq, hr, hS', hE⟩
  exact hK r F' u μ' M' w' hq hr hS' hE

structure SI where
  dst : Option Nat
  op : SO
  g : Option (Nat × Bool)

def cOper (P : Program) (ops : Array Oper) (o : Oper) : Option SI :=
  match cO P o.op with
  | some so => match o.guard with
    | none => some ⟨o.dst, so, none⟩
    | some (j, w) => match dstOf ops j with
      | some t => some ⟨o.dst, so, some (t, w)⟩
      | none => none
  | none => none
def cOpers (P : Program) (ops : Array Oper) : List Oper → Option (List SI)
  | [] => some []
  | o :: r => match cOper P ops o, cOpers P ops r with
    | some s, some ss => some (s :: ss)
    | _, _ => none

structure St where
  env : List (Nat × SV)
  hp : Hp
  k : Nat

inductive CR where
  | own
  | frz
  | call (F : Hp) (v : SV) (F' : Hp) (nk : Nat)
  | tab (pt : FuncId → List SV → Option SV)

def HSub (F h : Hp) : Prop := ∀ n ob, lk F n = some ob → lk h n = some ob

def goOp (P : Program) (st : St) (so : SO) (crs : List CR) : Option (Eff × List CR) :=
  match so with
  | .call f args => match ev (fun t => st.env.lookup t) f, evs (fun t => st.env.lookup t) args, crs with
    | some (.fn (.func fid) first cap), some as, .call F v F' nk :: crs' => some (⟨v, F, F', nk, SCd P fid (first ++ as ++ cap) F st.k nk v F' ∧ HSub F st.hp⟩, crs')
    | some (.fn (.func fid) first cap), some as, .tab pt :: crs' => match pt fid (first ++ as ++ cap) with
      | some v => some (⟨v, [], [], 0, SCd P fid (first ++ as ++ cap) [] st.k 0 v [] ∧ HSub [] st.hp⟩, .tab pt :: crs')
      | none => none
    | _, _, _ => none
  | .bsl e sz len z parts => match crs with
    | .own :: crs' => match sop (fun t => st.env.lookup t) (lk st.hp) st.k true (.bsl e sz len z parts) with
      | some e => some (e, crs')
      | none => none
    | .frz :: crs' => match sop (fun t => st.env.lookup t) (lk st.hp) st.k false (.bsl e sz len z parts) with
      | some e => some (e, crs')
      | none => none
    | crs => match sop (fun t => st.env.lookup t) (lk st.hp) st.k false (.bsl e sz len z parts) with
      | some e => some (e, crs)
      | none => none
  | so => match sop (fun t => st.env.lookup t) (lk st.hp) st.k false so with
    | some e => some (e, crs)
    | none => none
def runOp (P : Program) (st : St) (si : SI) (crs : List CR) : Option (Eff × List CR) :=
  match si.g with
  | none => goOp P st si.op crs
  | some (t, w) => match st.env.lookup t with
    | some (.d (.bool b)) => if b == w then goOp P st si.op crs else some (⟨.tup [], [], [], 0, True⟩, crs)
    | some (.tup []) => some (⟨.tup [], [], [], 0, True⟩, crs)
    | _ => none

def hset : Hp → Nat → Ob → Hp
  | [], n, ob => [(n, ob)]
  | (m, o) :: h, n, ob => if m = n then (n, ob) :: h else (m, o) :: hset h n ob
def hdel : Hp → Nat → Hp
  | [], n => []
  | (m, o) :: h, n => if m = n then hdel h n else (m, o) :: hdel h n
def hsets (h : Hp) : Hp → Hp
  | [] => h
  | (n, ob) :: r => hset (hsets h r) n ob
def hdels (h : Hp) (F' : Hp) : Hp → Hp
  | [] => h
  | (n, _) :: r => if (lk F' n).isSome then hdels h F' r else hdel (hdels h F' r) n
def hmrg (ro : Bool) (h F F' : Hp) : Hp := if ro then h else hsets (hdels h F' F) F'

theorem lk_hset : ∀ (h : Hp) (n : Nat) (ob : Ob) (m : Nat), lk (hset h n ob) m = if m = n then some ob else lk h m
  | [], n, ob, m => by simp only [hset]; rw [lk_one]; rfl
  | (q, o) :: h, n, ob, m => by
    simp only [hset]
    split
    · rename_i e
      subst e
      rw [lk_cons, lk_cons]
      split <;> rfl
    · rename_i e
      rw [lk_cons, lk_cons, lk_hset h n ob m]
      by_cases h2 : m = n
      · subst h2
        have : m ≠ q := fun h => e h.symm
        simp [this]
      · simp [h2]
theorem lk_hdel : ∀ (h : Hp) (n m : Nat), lk (hdel h n) m = if m = n then none else lk h m
  | [], n, m => by simp [hdel, lk_nil]
  | (q, o) :: h, n, m => by
    simp only [hdel]
    split
    · rename_i e
      subst e
      rw [lk_hdel h q m, lk_cons]
      split <;> rfl
    · rename_i e
      rw [lk_cons, lk_cons, lk_hdel h n m]
      by_cases h2 : m = n
      · subst h2
        have : m ≠ q := fun h => e h.symm
        simp [this]
      · simp [h2]
theorem lk_hsets (h : Hp) : ∀ (F' : Hp) (m : Nat), lk (hsets h F') m = match lk F' m with
    | some ob => some ob
    | none => lk h m
  | [], m => by simp [hsets, lk_nil]
  | (n, ob) :: r, m => by
    simp only [hsets]
    rw [lk_hset, lk_hsets h r m, lk_cons]
    by_cases h1 : m = n <;> simp [h1]
theorem lk_hdels (h F' : Hp) : ∀ (F : Hp) (m : Nat), lk (hdels h F' F) m = if (lk F m).isSome && (lk F' m).isNone then none else lk h m
  | [], m => by simp [hdels, lk_nil]
  | (n, ob) :: r, m => by
    simp only [hdels]
    split
    · rename_i h1
      rw [lk_hdels h F' r m, lk_cons]
      by_cases h2 : m = n
      · subst h2
        have : (lk F' m).isNone = false := by
          cases hh : lk F' m with
          | none => rw [hh] at h1; cases h1
          | some _ => rfl
        simp [this]
      · simp [h2]
    · rename_i h1
      rw [lk_hdel, lk_hdels h F' r m, lk_cons]
      by_cases h2 : m = n
      · subst h2
        simp at h1
        simp [h1]
      · simp [h2]
theorem lk_hmrg {ro : Bool} {h F F' : Hp} (hs : HSub F h) (hr : ro = true → F' = F) : lk (hmrg ro h F F') = mrg (lk h) (lk F) (lk F') := by
  funext m
  unfold hmrg
  cases ro with
  | true =>
    rw [hr rfl]
    by_cases h1 : lk F m = none
    · rw [mrg_out h1 h1]; rfl
    · rw [mrg_in (.inl h1)]
      obtain ⟨ob, hob⟩ := Option.ne_none_iff_exists'.1 h1
      rw [hob]
      exact hs m ob hob
  | false =>
    simp only [Bool.false_eq_true, if_false]
    rw [lk_hsets, lk_hdels]
    cases h1 : lk F' m with
    | some ob => rw [mrg_in (.inr (by rw [h1]; simp))]; simp [h1]
    | none =>
      cases h2 : lk F m with
      | some ob => rw [mrg_in (.inl (by rw [h2]; simp))]; simp [h1]
      | none => rw [mrg_out h2 h1]; simp

def upd (st : St) (si : SI) (e : Eff) : St :=
  ⟨match si.dst with | some d => (d, e.v) :: st.env | none => st.env, hmrg (roOf si.op) st.hp e.F e.F', st.k + e.nk⟩

/-- The names that an operation touches; does it leave all as it was? -/
def touchL (si : SI) (e : Eff) : Bool × List Nat := (roOf si.op, e.F.map (·.1) ++ e.F'.map (·.1))

def runs (P : Program) : List SI → St → List CR → Option (St × Prop × List (Bool × List Nat))
  | [], st, _ => some (st, True, [])
  | si :: r, st, crs => match runOp P st si crs with
    | some (e, crs') => match runs P r (upd st si e) crs' with
      | some (st', ob, ts) => some (st', e.ob ∧ ob, touchL si e :: ts)
      | none => none
    | none => none

/-- Operations that touch one object are tied to each other, if one of them changes something. -/
def noConf (bs : List Nat) (ts : List (Bool × List Nat)) : Bool :=
  all2 ts.length fun i j => i == j || (ts.getD i (true, [])).1 || !((ts.getD i (true, [])).2.any fun n => (ts.getD j (true, [])).2.contains n) || ordB bs i j || ordB bs j i
def fullB (n : Nat) : List Nat := (List.range n).map fun j => 2 ^ j - 1

/-! ### what 'runs' says, of the region -/
def trace (P : Program) : List SI → St → List CR → List Eff
  | [], _, _ => []
  | si :: r, st, crs => match runOp P st si crs with
    | some (e, crs') => e :: trace P r (upd st si e) crs'
    | none => []
def stAt : List SI → St → List Eff → Nat → St
  | si :: r, st, e :: es, i + 1 => stAt r (upd st si e) es i
  | _, st, _, _ => st

theorem trace_length {st' : St} : ∀ {sis : List SI} {st : St} {crs : List CR} {ob : Prop} {ts : List (Bool × List Nat)}, runs P sis st crs = some (st', ob, ts) → (trace P sis st crs).length = sis.length ∧ ts = (List.zipWith touchL sis (trace P sis st crs)) ∧
    (ob → ∀ e ∈ trace P sis st crs, e.ob) ∧ st' = stAt sis st (trace P sis st crs) sis.length
  | [], st, crs, ob, ts, h => by
    simp [runs] at h
    obtain ⟨rfl, _, rfl⟩ := h
    simp [trace, stAt]
  | si :: r, st, crs, ob, ts, h => by
    simp only [runs] at h
    split at h <;> first | (cases h; done) | skip
    rename_i e crs' he
    split at h <;> first | (cases h; done) | skip
    rename_i st2 ob2 ts2 h2
    simp only [Option.some.injEq, Prod.mk.injEq] at h
    obtain ⟨rfl, rfl, rfl⟩ := h
    obtain ⟨a1, a2, a3, a4⟩ := trace_length h2
    simp only [trace, he]
    refine ⟨by simp [a1], by simp [← a2], fun h e' he' => ?_, by simpa [stAt] using a4⟩
    rcases List.mem_cons.1 he' with rfl | he'
    · exact h.1
    · exact a3 h.2 e' he'

theorem stAt_succ : ∀ (sis : List SI) (st : St) (es : List Eff) (i : Nat) (si : SI) (e : Eff), sis[i]? = some si → es[i]? = some e → stAt sis st es (i + 1) = upd (stAt sis st es i) si e
  | [], st, es, i, si, e, h, _ => by simp at h
  | si' :: r, st, [], i, si, e, _, h => by simp at h
  | si' :: r, st, e' :: es, 0, si, e, h1, h2 => by
    simp at h1 h2
    subst h1; subst h2
    cases r <;> cases es <;> simp [stAt]
  | si' :: r, st, e' :: es, i + 1, si, e, h1, h2 => by
    simp only [stAt]
    exact stAt_succ r _ es i si e (by simpa using h1) (by simpa using h2)

theorem trace_step : ∀ {sis : List SI} {st : St} {crs : List CR} {i : Nat} {si : SI} {e : Eff}, sis[i]? = some si → (trace P sis st crs)[i]? = some e → ∃ c1 c2, runOp P (stAt sis st (trace P sis st crs) i) si c1 = some (e, c2)
  | [], st, crs, i, si, e, h, _ => by simp at h
  | si' :: r, st, crs, i, si, e, h1, h2 => by
    simp only [trace] at h2 ⊢
    split at h2 <;> first | (simp at h2; done) | skip
    rename_i e' crs' he
    cases i with
    | zero =>
      simp at h1 h2
      subst h1; subst h2
      exact ⟨crs, crs', by simpa [stAt] using he⟩
    | succ i =>
      obtain ⟨c1, c2, h⟩ := trace_step (sis := r) (st := upd st si' e') (crs := crs') (i := i) (by simpa using h1) (by simpa using h2)
      exact ⟨c1, c2, by simpa [stAt] using h⟩

theorem lookup_upd (env : List (Nat × SV)) (d : Nat) (v : SV) (t : Nat) : ((d, v) :: env).lookup t = if d = t then some v else env.lookup t := by
  simp only [List.lookup]
  by_cases h : t = d
  · subst h; simp
  · rw [show (t == d) = false by simpa using h, if_neg (Ne.symm h)]

theorem sop_ro {E : Nat → Option SV} {H : Nat → Option Ob} {k : Nat} {own : Bool} {so : SO} {e : Eff} (h : sop E H k own so = some e) (hr : roOf so = true) : e.F' = e.F := by
  cases so <;> simp only [roOf, Bool.false_eq_true] at hr <;> simp only [sop] at h <;>
    (repeat' (first | (cases h; done) | (injection h with h; subst h; rfl) | split at h))
theorem sop_call {E : Nat → Option SV} {H : Nat → Option Ob} {k : Nat} {own : Bool} {f : X} {args : List X} : sop E H k own (.call f args) = none := by simp [sop]

theorem cO_call {op : Op} {f : X} {args : List X} (hc : cO P op = some (.call f args)) : ∃ c fo, op = .call c ∧ c.callee = .value fo ∧ cX fo = some f ∧ cXs c.args.toList = some args := by
  cases op <;> simp only [cO] at hc <;> try (cases hc; done)
  case call c =>
    refine ⟨c, ?_⟩
    cases hcal : c.callee with
    | value fo =>
      simp only [hcal] at hc
      split at hc <;> first | (cases hc; done) | skip
      rename_i f' as' hf ha
      injection hc with hc
      injection hc with hc1 hc2
      subst hc1; subst hc2
      exact ⟨fo, rfl, rfl, hf, ha⟩
    | invoke _ _ => simp [hcal] at hc
    | builtin b =>
      exfalso
      simp only [hcal] at hc
      repeat' (first | contradiction | (cases hc; done) | split at hc)
  all_goals (repeat' (first | contradiction | (cases hc; done) | (obtain ⟨_, _, hh⟩ := Option.map_eq_some_iff.1 hc; cases hh; done) | split at hc))

theorem goOp_sound {ops : Array Oper} {o : Oper} {st : St} {so : SO} {c1 c2 : List CR} {e : Eff} (hc : cO P o.op = some so) (h : goOp P st so c1 = some (e, c2)) (hob : e.ob) :
    Sound P o (fun t => st.env.lookup t) (lk st.hp) st.k e ∧ (roOf so = true → e.F' = e.F) := by
  have plain : ∀ (own : Bool) (c : List CR), sop (fun t => st.env.lookup t) (lk st.hp) st.k own so = some e → Sound P o (fun t => st.env.lookup t) (lk st.hp) st.k e ∧ (roOf so = true → e.F' = e.F) := fun own c hs =>
    ⟨sop_sound hc hs hob, sop_ro hs⟩
  unfold goOp at h
  split at h
  · rename_i f args
    split at h <;> first | (cases h; done) | skip
    · rename_i fid first cap as F v F' nk crs' h1 h2
      injection h with h
      injection h with h h'
      subst h; subst h'
      obtain ⟨hSC, hsub⟩ := hob
      refine ⟨⟨?_, hsub⟩, fun hr => by simp [roOf] at hr⟩
      obtain ⟨c, fo, hop, hcal, hf, ha⟩ := cO_call hc
      intro p μ M a w K Q hnew hk hS hK
      exact s_callQ hop hcal hf ha h1 h2 hSC hnew hk hS fun r F'' u μ' M' w' ⟨e1, e2⟩ hr hS' hE => by
        subst e1; subst e2
        exact hK u μ' M' w' hr hS' hE
    · rename_i fid first cap as pt crs' h1 h2
      split at h <;> first | (cases h; done) | skip
      rename_i v hv
      injection h with h
      injection h with h h'
      subst h; subst h'
      obtain ⟨hSC, hsub⟩ := hob
      refine ⟨⟨?_, hsub⟩, fun hr => by simp [roOf] at hr⟩
      obtain ⟨c, fo, hop, hcal, hf, ha⟩ := cO_call hc
      intro p μ M a w K Q hnew hk hS hK
      exact s_callQ hop hcal hf ha h1 h2 hSC hnew hk hS fun r F'' u μ' M' w' ⟨e1, e2⟩ hr hS' hE => by
        subst e1; subst e2
        exact hK u μ' M' w' hr hS' hE
  · split at h
    · split at h <;> first | (cases h; done) | skip
      rename_i hs
      injection h with h
      injection h with h h'
      subst h
      exact plain true [] hs
    all_goals
      split at h <;> first | (cases h; done) | skip
      rename_i hs
      injection h with h
      injection h with h h'
      subst h
      exact plain false [] hs
  · split at h <;> first | (cases h; done) | skip
    rename_i hs
    injection h with h
    injection h with h h'
    subst h
    exact plain false [] hs

/-! ### the region -/
def bsOf (ops : Array Oper) (draw : Bool) : List Nat := if draw then (Region.before ops).toList else fullB ops.size
def cReg (P : Program) (N : Nat) (ops : Array Oper) (draw : Bool) : Option (List SI × List Nat) :=
  match cOpers P ops ops.toList with
  | some sis =>
    if ((!draw || okB ops (bsOf ops draw)) && slotsOk ops (bsOf ops draw) && (sis.all fun s => match s.dst with | some d => decide (d < N) | none => true)) = true then some (sis, bsOf ops draw) else none
  | none => none

theorem cOpers_get {ops : Array Oper} : ∀ {l : List Oper} {sis : List SI}, cOpers P ops l = some sis → l.length = sis.length ∧ ∀ (i : Nat) (o : Oper), l[i]? = some o → ∃ si, sis[i]? = some si ∧ cOper P ops o = some si
  | [], sis, h => by simp [cOpers] at h; subst h; simp
  | o :: l, sis, h => by
    simp only [cOpers] at h
    split at h <;> first | (cases h; done) | skip
    rename_i s ss h1 h2
    simp at h
    subst h
    obtain ⟨a1, a2⟩ := cOpers_get h2
    refine ⟨by simp [a1], fun i o' hi => ?_⟩
    cases i with
    | zero => simp at hi; subst hi; exact ⟨s, rfl, h1⟩
    | succ i => simpa using a2 i o' (by simpa using hi)

theorem ordB_full {n i j : Nat} (hj : j < n) (hij : i < j) : ordB (fullB n) i j = true := by
  unfold ordB fullB
  rw [List.getD_eq_getElem?_getD, List.getElem?_map, List.getElem?_range hj]
  simp only [Option.map_some, Option.getD_some]
  rw [Nat.testBit_two_pow_sub_one]
  simpa using hij
end
end Go.Sl
