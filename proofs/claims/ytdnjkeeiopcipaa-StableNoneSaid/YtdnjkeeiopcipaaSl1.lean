/-
  Shadow values, the heap of named objects, and what it means that a world is as they say. Generic in the program.
-/
import Derived.Test.YtdnjkeeiopcipaaSl0
import Derived.Orders
import Derived.KernelRfl
import Derived.OrdersIn
set_option linter.unusedVariables false
set_option linter.unusedSimpArgs false
set_option linter.unusedSectionVars false
namespace Go.Sl

/-- Plain data, one cell each. -/
inductive DV where
  | int (k : IntKind) (n : Int)
  | bool (b : Bool)
  | nilp | nilm | nilf | nils
  | sl (n : Nat) (cs : List DV)
  deriving Inhabited

/-- The memory that nobody writes any more. -/
abbrev Mem := Nat → Nat → Option Value

mutual
def RepD (M : Mem) : DV → Value → Prop
  | .int k n, v => v = .int k n
  | .bool b, v => v = .bool b
  | .nilp, v => v = .pointer none
  | .nilm, v => v = .map none
  | .nilf, v => v = .nilFunc
  | .nils, v => v = .slice none 0 0
  | .sl n cs, v => ∃ A c, v = .slice A n c ∧ n ≤ c ∧ (n = 0 → cs = []) ∧ (0 < n → ∃ b o, A = some ⟨b, o, none⟩ ∧ RepR M b o cs)
def RepR (M : Mem) (b : Nat) : Nat → List DV → Prop
  | _, [] => True
  | o, c :: cs => (∃ u, M b o = some u ∧ RepD M c u) ∧ RepR M b (o + 1) cs
end

inductive SV where
  | d (x : DV)
  | ptr (n off : Nat)
  | gs (n len : Nat)
  | bs (n off len : Nat)
  | vp (cs : List DV) (i : Nat)
  | mp (n : Nat)
  | it (n : Nat)
  | yl (n : Nat)
  | fn (f : Fn) (first cap : List SV)
  | agg (cs : List SV)
  | tup (cs : List SV)
  | any
  deriving Inhabited

/-- A name stands for a block; of an owned row, its capacity; a row without capacity is not live. -/
structure Nm where
  blk : Nat
  cap : Nat
  live : Bool := true

mutual
def Rep (μ : Nat → Nm) (M : Mem) : SV → Value → Prop
  | .d x, v => RepD M x v
  | .ptr n off, v => v = .pointer (some ⟨(μ n).blk, off, none⟩)
  | .gs n len, v => ((μ n).live = true ∧ v = .slice (some ⟨(μ n).blk, 0, none⟩) len (μ n).cap) ∨ ((μ n).live = false ∧ len = 0 ∧ ∃ A, v = .slice A 0 0)
  | .vp cs i, v => ∃ b o, v = .pointer (some ⟨b, o + i, none⟩) ∧ RepR M b o cs
  | .bs n off len, v => ∃ A c, v = .slice (some A) len c ∧ len ≤ c ∧ (len ≠ 0 → A = ⟨(μ n).blk, off, none⟩)
  | .mp n, v => ((μ n).live = true ∧ v = .map (some (μ n).blk)) ∨ ((μ n).live = false ∧ v = .map none)
  | .it n, v => v = .pointer (some ⟨(μ n).blk, 0, none⟩)
  | .yl n, v => v = .func (.yield (μ n).blk) #[] #[]
  | .fn f a c, v => ∃ as cs, v = .func f as cs ∧ Reps μ M a as.toList ∧ Reps μ M c cs.toList
  | .agg cs, v => ∃ vs, v = .agg vs ∧ Reps μ M cs vs.toList
  | .tup cs, v => ∃ vs, v = .tuple vs ∧ Reps μ M cs vs.toList
  | .any, _ => True
def Reps (μ : Nat → Nm) (M : Mem) : List SV → List Value → Prop
  | [], vs => vs = []
  | c :: cs, vs => ∃ u us, vs = u :: us ∧ Rep μ M c u ∧ Reps μ M cs us
end

def Mem.le (M M' : Mem) : Prop := ∀ b o v, M b o = some v → M' b o = some v
theorem Mem.le_refl (M : Mem) : Mem.le M M := fun _ _ _ h => h
theorem Mem.le_trans {A B C : Mem} (h : Mem.le A B) (k : Mem.le B C) : Mem.le A C := fun b o v x => k b o v (h b o v x)

mutual
theorem RepD.mono {M M' : Mem} (h : Mem.le M M') : ∀ (x : DV) (v : Value), RepD M x v → RepD M' x v
  | .int k n, v, hr => by simpa [RepD] using hr
  | .bool b, v, hr => by simpa [RepD] using hr
  | .nilp, v, hr => by simpa [RepD] using hr
  | .nilm, v, hr => by simpa [RepD] using hr
  | .nilf, v, hr => by simpa [RepD] using hr
  | .nils, v, hr => by simpa [RepD] using hr
  | .sl n cs, v, hr => by
    simp only [RepD] at hr ⊢
    obtain ⟨A, c, h1, h2, h3, h4⟩ := hr
    exact ⟨A, c, h1, h2, h3, fun hn => let ⟨b, o, e, r⟩ := h4 hn; ⟨b, o, e, RepR.mono h b o cs r⟩⟩
theorem RepR.mono {M M' : Mem} (h : Mem.le M M') (b : Nat) : ∀ (o : Nat) (cs : List DV), RepR M b o cs → RepR M' b o cs
  | _, [], _ => by simp [RepR]
  | o, c :: cs, hr => by
    simp only [RepR] at hr ⊢
    obtain ⟨⟨u, hu, hc⟩, hs⟩ := hr
    exact ⟨⟨u, h b o u hu, RepD.mono h c u hc⟩, RepR.mono h b (o + 1) cs hs⟩
end

mutual
theorem Rep.mono {μ : Nat → Nm} {M M' : Mem} (h : Mem.le M M') : ∀ (x : SV) (v : Value), Rep μ M x v → Rep μ M' x v
  | .d x, v, hr => by simp only [Rep] at hr ⊢; exact RepD.mono h x v hr
  | .ptr n off, v, hr => by simpa [Rep] using hr
  | .gs n len, v, hr => by simpa [Rep] using hr
  | .vp cs i, v, hr => by
    simp only [Rep] at hr ⊢
    obtain ⟨b, o, e, r⟩ := hr
    exact ⟨b, o, e, RepR.mono h b o cs r⟩
  | .bs _ _ _, v, hr => by simpa [Rep] using hr
  | .mp n, v, hr => by simpa [Rep] using hr
  | .it n, v, hr => by simpa [Rep] using hr
  | .yl n, v, hr => by simpa [Rep] using hr
  | .fn f a c, v, hr => by
    simp only [Rep] at hr ⊢
    obtain ⟨as, cs, e, h1, h2⟩ := hr
    exact ⟨as, cs, e, Reps.mono h a _ h1, Reps.mono h c _ h2⟩
  | .agg cs, v, hr => by
    simp only [Rep] at hr ⊢
    obtain ⟨vs, e, h1⟩ := hr
    exact ⟨vs, e, Reps.mono h cs _ h1⟩
  | .tup cs, v, hr => by
    simp only [Rep] at hr ⊢
    obtain ⟨vs, e, h1⟩ := hr
    exact ⟨vs, e, Reps.mono h cs _ h1⟩
  | .any, _, _ => by simp [Rep]
theorem Reps.mono {μ : Nat → Nm} {M M' : Mem} (h : Mem.le M M') : ∀ (xs : List SV) (vs : List Value), Reps μ M xs vs → Reps μ M' xs vs
  | [], vs, hr => by simpa [Reps] using hr
  | x :: xs, vs, hr => by
    simp only [Reps] at hr ⊢
    obtain ⟨u, us, e, h1, h2⟩ := hr
    exact ⟨u, us, e, Rep.mono h x u h1, Reps.mono h xs us h2⟩
end

/-- As 'Rep', and it hangs on the names in p alone. -/
def Rp (p : Nat → Prop) (μ : Nat → Nm) (M : Mem) (s : SV) (v : Value) : Prop := ∀ μ' : Nat → Nm, (∀ n, p n → μ' n = μ n) → Rep μ' M s v
def Rps (p : Nat → Prop) (μ : Nat → Nm) (M : Mem) (s : List SV) (v : List Value) : Prop := ∀ μ' : Nat → Nm, (∀ n, p n → μ' n = μ n) → Reps μ' M s v

theorem Rp.rep {p : Nat → Prop} {μ : Nat → Nm} {M : Mem} {s : SV} {v : Value} (h : Rp p μ M s v) : Rep μ M s v := h μ fun _ _ => rfl
theorem Rps.reps {p : Nat → Prop} {μ : Nat → Nm} {M : Mem} {s : List SV} {v : List Value} (h : Rps p μ M s v) : Reps μ M s v := h μ fun _ _ => rfl
theorem Rp.more {p p' : Nat → Prop} {μ μ' : Nat → Nm} {M M' : Mem} {s : SV} {v : Value} (h : Rp p μ M s v) (hp : ∀ n, p n → p' n) (hμ : ∀ n, p n → μ' n = μ n) (hM : Mem.le M M') : Rp p' μ' M' s v :=
  fun ν hν => Rep.mono hM s v (h ν fun n hn => (hν n (hp n hn)).trans (hμ n hn))
theorem Rps.more {p p' : Nat → Prop} {μ μ' : Nat → Nm} {M M' : Mem} {s : List SV} {v : List Value} (h : Rps p μ M s v) (hp : ∀ n, p n → p' n) (hμ : ∀ n, p n → μ' n = μ n) (hM : Mem.le M M') : Rps p' μ' M' s v :=
  fun ν hν => Reps.mono hM s v (h ν fun n hn => (hν n (hp n hn)).trans (hμ n hn))

section
variable {p : Nat → Prop} {μ : Nat → Nm} {M : Mem}

theorem Rp.d_iff {x : DV} {v : Value} : Rp p μ M (.d x) v ↔ RepD M x v := ⟨fun h => by simpa [Rep] using h.rep, fun h μ' _ => by simpa [Rep] using h⟩
theorem Rp.int_iff {k : IntKind} {n : Int} {v : Value} : Rp p μ M (.d (.int k n)) v ↔ v = .int k n := by rw [Rp.d_iff, RepD]
theorem Rp.bool_iff {b : Bool} {v : Value} : Rp p μ M (.d (.bool b)) v ↔ v = .bool b := by rw [Rp.d_iff, RepD]
theorem Rp.any {v : Value} : Rp p μ M .any v := fun _ _ => by simp [Rep]
theorem Rps.nil_iff {vs : List Value} : Rps p μ M [] vs ↔ vs = [] := ⟨fun h => by simpa [Reps] using h.reps, fun h _ _ => by simpa [Reps] using h⟩
theorem Rps.cons_iff {c : SV} {cs : List SV} {vs : List Value} : Rps p μ M (c :: cs) vs ↔ ∃ u us, vs = u :: us ∧ Rp p μ M c u ∧ Rps p μ M cs us := by
  constructor
  · intro h
    obtain ⟨u, us, rfl, _, _⟩ := (by simpa [Reps] using h.reps : ∃ u us, vs = u :: us ∧ Rep μ M c u ∧ Reps μ M cs us)
    refine ⟨u, us, rfl, fun μ' hμ => ?_, fun μ' hμ => ?_⟩
    · obtain ⟨u', us', e, a, _⟩ := (by simpa only [Reps] using h μ' hμ : ∃ u' us', u :: us = u' :: us' ∧ Rep μ' M c u' ∧ Reps μ' M cs us')
      cases e; exact a
    · obtain ⟨u', us', e, _, a⟩ := (by simpa only [Reps] using h μ' hμ : ∃ u' us', u :: us = u' :: us' ∧ Rep μ' M c u' ∧ Reps μ' M cs us')
      cases e; exact a
  · rintro ⟨u, us, rfl, h1, h2⟩ μ' hμ
    simp only [Reps]
    exact ⟨u, us, rfl, h1 μ' hμ, h2 μ' hμ⟩
theorem Rp.agg_iff {cs : List SV} {v : Value} : Rp p μ M (.agg cs) v ↔ ∃ vs, v = .agg vs ∧ Rps p μ M cs vs.toList := by
  constructor
  · intro h
    obtain ⟨vs, rfl, _⟩ := (by simpa [Rep] using h.rep : ∃ vs, v = .agg vs ∧ Reps μ M cs vs.toList)
    exact ⟨vs, rfl, fun μ' hμ => by have := h μ' hμ; simpa [Rep] using this⟩
  · rintro ⟨vs, rfl, h1⟩ μ' hμ
    simp only [Rep]
    exact ⟨vs, rfl, h1 μ' hμ⟩
theorem Rp.tup_iff {cs : List SV} {v : Value} : Rp p μ M (.tup cs) v ↔ ∃ vs, v = .tuple vs ∧ Rps p μ M cs vs.toList := by
  constructor
  · intro h
    obtain ⟨vs, rfl, _⟩ := (by simpa [Rep] using h.rep : ∃ vs, v = .tuple vs ∧ Reps μ M cs vs.toList)
    exact ⟨vs, rfl, fun μ' hμ => by have := h μ' hμ; simpa [Rep] using this⟩
  · rintro ⟨vs, rfl, h1⟩ μ' hμ
    simp only [Rep]
    exact ⟨vs, rfl, h1 μ' hμ⟩
theorem Rp.fn_iff {f : Fn} {a c : List SV} {v : Value} : Rp p μ M (.fn f a c) v ↔ ∃ as cs, v = .func f as cs ∧ Rps p μ M a as.toList ∧ Rps p μ M c cs.toList := by
  constructor
  · intro h
    obtain ⟨as, cs, rfl, _⟩ := (by simpa [Rep] using h.rep : ∃ as cs, v = .func f as cs ∧ Reps μ M a as.toList ∧ Reps μ M c cs.toList)
    refine ⟨as, cs, rfl, fun μ' hμ => ?_, fun μ' hμ => ?_⟩
    · obtain ⟨as', cs', e, a', _⟩ := (by simpa only [Rep] using h μ' hμ : ∃ as' cs', Value.func f as cs = Value.func f as' cs' ∧ Reps μ' M a as'.toList ∧ Reps μ' M c cs'.toList)
      cases e; exact a'
    · obtain ⟨as', cs', e, _, a'⟩ := (by simpa only [Rep] using h μ' hμ : ∃ as' cs', Value.func f as cs = Value.func f as' cs' ∧ Reps μ' M a as'.toList ∧ Reps μ' M c cs'.toList)
      cases e; exact a'
  · rintro ⟨as, cs, rfl, h1, h2⟩ μ' hμ
    simp only [Rep]
    exact ⟨as, cs, rfl, h1 μ' hμ, h2 μ' hμ⟩
theorem Rps.length {cs : List SV} : ∀ {vs : List Value}, Rps p μ M cs vs → vs.length = cs.length := by
  induction cs with
  | nil => intro vs h; rw [Rps.nil_iff.1 h]; rfl
  | cons c cs ih =>
    intro vs h
    obtain ⟨u, us, rfl, _, h2⟩ := Rps.cons_iff.1 h
    simp [ih h2]
theorem Rps.get {cs : List SV} : ∀ {vs : List Value}, Rps p μ M cs vs → ∀ {i : Nat} {c : SV}, cs[i]? = some c → ∃ u, vs[i]? = some u ∧ Rp p μ M c u := by
  induction cs with
  | nil => intro vs _ i c h; simp at h
  | cons x cs ih =>
    intro vs h i c hi
    obtain ⟨u, us, rfl, h1, h2⟩ := Rps.cons_iff.1 h
    cases i with
    | zero => simp at hi; subst hi; exact ⟨u, rfl, h1⟩
    | succ i => simp at hi; simpa using ih h2 hi
theorem Rps.drop {cs : List SV} {vs : List Value} (n : Nat) (h : Rps p μ M cs vs) : Rps p μ M (cs.drop n) (vs.drop n) := by
  induction n generalizing cs vs with
  | zero => simpa using h
  | succ n ih =>
    cases cs with
    | nil => rw [Rps.nil_iff.1 h]; simp; exact Rps.nil_iff.2 rfl
    | cons c cs =>
      obtain ⟨u, us, rfl, _, h2⟩ := Rps.cons_iff.1 h
      simpa using ih h2
theorem Rps.take {cs : List SV} {vs : List Value} (n : Nat) (h : Rps p μ M cs vs) : Rps p μ M (cs.take n) (vs.take n) := by
  induction n generalizing cs vs with
  | zero => simp; exact Rps.nil_iff.2 rfl
  | succ n ih =>
    cases cs with
    | nil => rw [Rps.nil_iff.1 h]; simp; exact Rps.nil_iff.2 rfl
    | cons c cs =>
      obtain ⟨u, us, rfl, h1, h2⟩ := Rps.cons_iff.1 h
      simp
      exact Rps.cons_iff.2 ⟨_, _, rfl, h1, ih h2⟩
theorem Rps.append {cs ds : List SV} {vs us : List Value} (h : Rps p μ M cs vs) (k : Rps p μ M ds us) : Rps p μ M (cs ++ ds) (vs ++ us) := by
  induction cs generalizing vs with
  | nil => rw [Rps.nil_iff.1 h]; simpa using k
  | cons c cs ih =>
    obtain ⟨u, us', rfl, h1, h2⟩ := Rps.cons_iff.1 h
    simp
    exact Rps.cons_iff.2 ⟨_, _, rfl, h1, ih h2⟩
theorem Rps.set {cs : List SV} {vs : List Value} {c : SV} {u : Value} (i : Nat) (h : Rps p μ M cs vs) (hc : Rp p μ M c u) : Rps p μ M (cs.set i c) (vs.set i u) := by
  induction cs generalizing vs i with
  | nil => rw [Rps.nil_iff.1 h]; simpa using Rps.nil_iff.2 rfl
  | cons x cs ih =>
    obtain ⟨u', us', rfl, h1, h2⟩ := Rps.cons_iff.1 h
    cases i with
    | zero => simp; exact Rps.cons_iff.2 ⟨_, _, rfl, hc, h2⟩
    | succ i => simp; exact Rps.cons_iff.2 ⟨_, _, rfl, h1, ih i h2⟩
theorem Rps.map_d {xs : List DV} {vs : List Value} (hl : xs.length = vs.length) (h : ∀ (i : Nat) (x : DV) (v : Value), xs[i]? = some x → vs[i]? = some v → RepD M x v) : Rps p μ M (xs.map .d) vs := by
  induction xs generalizing vs with
  | nil => cases vs with
    | nil => exact Rps.nil_iff.2 rfl
    | cons _ _ => simp at hl
  | cons x xs ih =>
    cases vs with
    | nil => simp at hl
    | cons v vs =>
      simp
      refine Rps.cons_iff.2 ⟨v, vs, rfl, Rp.d_iff.2 (h 0 x v rfl rfl), ih (by simpa using hl) fun i y u hy hu => h (i + 1) y u (by simpa using hy) (by simpa using hu)⟩
end

theorem RepR.get {M : Mem} {b : Nat} : ∀ {cs : List DV} {o i : Nat} {c : DV}, RepR M b o cs → cs[i]? = some c → ∃ u, M b (o + i) = some u ∧ RepD M c u
  | [], _, _, _, _, h => by simp at h
  | x :: cs, o, i, c, hr, h => by
    simp only [RepR] at hr
    cases i with
    | zero => simp at h; subst h; simpa using hr.1
    | succ i =>
      simp at h
      have := RepR.get hr.2 h
      rwa [show o + 1 + i = o + (i + 1) by omega] at this
theorem RepR.drop {M : Mem} {b : Nat} : ∀ {cs : List DV} {o : Nat} (i : Nat), RepR M b o cs → RepR M b (o + i) (cs.drop i)
  | cs, o, 0, h => by simpa using h
  | [], o, i + 1, h => by simp [RepR]
  | x :: cs, o, i + 1, h => by
    simp only [RepR] at h
    have := RepR.drop i h.2
    rwa [show o + 1 + i = o + (i + 1) by omega] at this
theorem RepR.take {M : Mem} {b : Nat} : ∀ {cs : List DV} {o : Nat} (i : Nat), RepR M b o cs → RepR M b o (cs.take i)
  | cs, o, 0, h => by simp [RepR]
  | [], o, i + 1, h => by simp [RepR]
  | x :: cs, o, i + 1, h => by
    simp only [List.take_succ_cons, RepR] at h ⊢
    exact ⟨h.1, RepR.take i h.2⟩
theorem RepR.mk {M : Mem} {b : Nat} : ∀ {cs : List DV} {o : Nat}, (∀ (i : Nat) (c : DV), cs[i]? = some c → ∃ u, M b (o + i) = some u ∧ RepD M c u) → RepR M b o cs
  | [], _, _ => by simp [RepR]
  | x :: cs, o, h => by
    simp only [RepR]
    refine ⟨by simpa using h 0 x rfl, RepR.mk fun i c hi => ?_⟩
    have := h (i + 1) c (by simpa using hi)
    rwa [show o + 1 + i = o + (i + 1) by omega]

def SV.isOne : SV → Bool
  | .agg _ | .tup _ | .any => false
  | _ => true
theorem RepD.one {M : Mem} {x : DV} {v : Value} (h : RepD M x v) : v.oneCell' = true := by
  cases x <;> simp only [RepD] at h
  all_goals first
    | (subst h; rfl)
    | (obtain ⟨A, c, rfl, _⟩ := h; rfl)
theorem Rep.one {μ : Nat → Nm} {M : Mem} {s : SV} {v : Value} (hs : s.isOne = true) (h : Rep μ M s v) : v.oneCell' = true := by
  cases s <;> simp only [SV.isOne, Bool.false_eq_true] at hs <;> simp only [Rep] at h
  case d => exact h.one
  case gs => rcases h with ⟨_, rfl⟩ | ⟨_, _, _, rfl⟩ <;> rfl
  case bs => obtain ⟨_, _, rfl, _⟩ := h; rfl
  case mp => rcases h with ⟨_, rfl⟩ | ⟨_, rfl⟩ <;> rfl
  all_goals first
    | (subst h; rfl)
    | (obtain ⟨_, _, rfl, _⟩ := h; rfl)

/-- A value's cells. -/
def SV.cells : SV → List SV
  | .agg cs => cs
  | s => [s]
theorem Rp.cells {p : Nat → Prop} {μ : Nat → Nm} {M : Mem} {s : SV} {v : Value} (hs : s.cells.all SV.isOne = true) (h : Rp p μ M s v) : Rps p μ M s.cells v.cells.toList ∧ ∀ u ∈ v.cells.toList, u.oneCell' = true := by
  have key : ∀ (cs : List SV) (vs : List Value), cs.all SV.isOne = true → Rps p μ M cs vs → ∀ u ∈ vs, u.oneCell' = true := by
    intro cs
    induction cs with
    | nil => intro vs _ h u hu; rw [Rps.nil_iff.1 h] at hu; cases hu
    | cons c cs ih =>
      intro vs hc h u hu
      obtain ⟨u', us, rfl, h1, h2⟩ := Rps.cons_iff.1 h
      simp at hc
      rcases List.mem_cons.1 hu with rfl | hu
      · exact h1.rep.one hc.1
      · exact ih us (by simpa using hc.2) h2 u hu
  by_cases ha : ∃ cs, s = .agg cs
  · obtain ⟨cs, rfl⟩ := ha
    obtain ⟨vs, rfl, h1⟩ := Rp.agg_iff.1 h
    exact ⟨h1, key _ _ hs h1⟩
  · have hc : s.cells = [s] := by cases s <;> first | rfl | exact absurd ⟨_, rfl⟩ ha
    rw [hc] at hs ⊢
    simp at hs
    have ho := h.rep.one hs
    have hv : v.cells = #[v] := by cases v <;> simp_all [Value.cells, Value.oneCell']
    rw [hv]
    exact ⟨Rps.cons_iff.2 ⟨v, [], rfl, h, Rps.nil_iff.2 rfl⟩, by simpa using ho⟩
end Go.Sl
