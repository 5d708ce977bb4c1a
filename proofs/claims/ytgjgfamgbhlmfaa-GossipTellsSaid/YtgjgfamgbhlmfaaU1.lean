/-
  Draws only grow.
-/
import Derived.WalkKit
import Derived.Orders
import Derived.KernelRfl
import Derived.OrdersIn
set_option linter.unusedSimpArgs false
set_option linter.unusedVariables false
set_option linter.unusedSectionVars false
namespace Go.Sl
theorem viewStore_drawn {P : Program} {w : World} {at_ : Addr} {u : TypeId} {k : Addr} {v : Value} {b : Bool} {r : World × List Addr} (h : w.viewStore P at_ u k v b = .ok r) : r.1.drawn = w.drawn := by
  unfold World.viewStore at h
  simp only [bind, Except.bind, pure, Except.pure, throw, throwThe, MonadExceptOf.throw] at h
  repeat' split at h
  all_goals first
    | (cases h; done)
    | (injection h with h; subst h; rfl)
theorem farStore_drawn {P : Program} {w : World} {a : Addr} {v : Value} {b : Bool} {r : World × List Addr} (h : w.farStore P a v b = .ok r) : r.1.drawn = w.drawn := by
  unfold World.farStore at h
  split at h
  · split at h
    · rename_i hr
      injection h with h
      subst h
      exact viewStore_drawn hr
    · cases h
  · cases h
theorem ask_drawn {α : Type} : ∀ (a : Ask α) (w : World), w.drawn ≤ (w.ask a).2.drawn
  | .done a, w => by simp [World.ask]
  | .ask what range k, w => by
    simp only [World.ask]
    split
    · exact ask_drawn _ w
    · exact Nat.le_trans (Nat.le_succ _) (ask_drawn _ { w with drawn := w.drawn + 1 })
theorem sys_drawn (w : World) (c : Sys) : w.drawn ≤ (w.sys c).2.drawn := by
  unfold World.sys
  have := ask_drawn (Kernel.perform c w.os) w
  split
  · exact Nat.le_refl _
  · rename_i h
    rw [h] at this
    exact this
theorem run_drawn {P : Program} {α : Type} (s : Sem α) : ∀ (w : World) (v : α) (w' : World), s.run P w = .ok v w' → w.drawn ≤ w'.drawn := by
  induction s with
  | pure a => intro w v w' h; simp only [Sem.run] at h; injection h with _ h; subst h; exact Nat.le_refl _
  | load m a k ih =>
    intro w v w' h
    simp only [Sem.run] at h
    split at h
    · exact ih _ _ _ _ h
    · split at h
      · exact ih _ _ _ _ h
      · cases h
  | store m a x k ih =>
    intro w v w' h
    have fin : (match w.cell? a with
        | some _ => if w.frozen? a then Result.halt (.unsupported (.unsafePointer "a write to bytes that a string shares")) w else k.run P (w.setCell a x)
        | none => match w.farStore P a x (m == Mode.atomic) with
          | .ok (w, _) => k.run P w
          | .error h => .halt h w) = .ok v w' → w.drawn ≤ w'.drawn := by
      intro h
      split at h
      · split at h
        · cases h
        · exact ih (w.setCell a x) v w' h
      · split at h
        · rename_i w2 l hf
          have := farStore_drawn hf
          have h2 := ih w2 v w' h
          simp only at this
          omega
        · cases h
    cases x <;> first
      | (simp only [Sem.run] at h; exact fin h)
      | (simp only [Sem.run] at h; cases h; done)
  | new o k ih => intro w v w' h; simp only [Sem.run] at h; exact ih _ { w with heap := w.heap.push o } v w' h
  | shape r k ih => intro w v w' h; simp only [Sem.run] at h; exact ih _ _ _ _ h
  | freeze a n k ih =>
    intro w v w' h
    simp only [Sem.run] at h
    have := ih _ _ _ h
    have e : (w.freeze a n).drawn = w.drawn := by unfold World.freeze; split <;> rfl
    rwa [e] at this
  | frozen a k ih => intro w v w' h; simp only [Sem.run] at h; exact ih _ _ _ _ h
  | getObj r k ih =>
    intro w v w' h
    simp only [Sem.run] at h
    split at h
    · cases h
    · exact ih _ _ _ _ h
    · cases h
  | setObj r o k ih =>
    intro w v w' h
    simp only [Sem.run] at h
    split at h
    · cases h
    · exact ih { w with heap := w.heap.setIfInBounds r o } v w' h
    · cases h
  | choose q k ih =>
    intro w v w' h
    simp only [Sem.run] at h
    split at h
    · exact ih _ _ _ _ h
    · exact Nat.le_trans (Nat.le_succ _) (ih _ _ _ _ h)
  | sys c k ih =>
    intro w v w' h
    simp only [Sem.run] at h
    exact Nat.le_trans (sys_drawn w c) (ih _ _ _ _ h)
  | program k ih => intro w v w' h; simp only [Sem.run] at h; exact ih _ _ _ _ h
  | mark m k ih => intro w v w' h; simp only [Sem.run] at h; exact ih _ _ _ h
  | halt h' => intro w v w' h; simp only [Sem.run] at h; cases h
end Go.Sl

/-
  The tables of packages that the code reads (none here).
-/
namespace Go.Sl
def rawGlobs : List (Nat × List (IntKind × Int)) := []
end Go.Sl

/-
  Shadow values, the heap of named objects, and what it means that a world is as they say. Generic in the program.
-/
set_option linter.unusedVariables false
set_option linter.unusedSimpArgs false
set_option linter.unusedSectionVars false
namespace Go.Sl

/-- Plain data, one cell each. -/
inductive DV where
  | int (k : IntKind) (n : Int)
  | bool (b : Bool)
  | nilp | nilm | nilf | nils
  | sl (n : Nat) (cs : List DV)
  /-- a text, byte by byte -/
  | str (s : List Nat)
  deriving Inhabited

/-- The memory that nobody writes any more. -/
abbrev Mem := Nat → Nat → Option Value

mutual
def RepD (M : Mem) : DV → Value → Prop
  | .int k n, v => v = .int k n
  | .bool b, v => v = .bool b
  | .nilp, v => v = .pointer none
  | .nilm, v => v = .map none
  | .nilf, v => v = .nilFunc
  | .nils, v => v = .slice none 0 0
  | .str s, v => ∃ b : ByteArray, v = .string b ∧ b.data.toList.map UInt8.toNat = s
  | .sl n cs, v => ∃ A c, v = .slice A n c ∧ n ≤ c ∧ (n = 0 → cs = []) ∧ (0 < n → ∃ b o, A = some ⟨b, o, none⟩ ∧ RepR M b o cs)
def RepR (M : Mem) (b : Nat) : Nat → List DV → Prop
  | _, [] => True
  | o, c :: cs => (∃ u, M b o = some u ∧ RepD M c u) ∧ RepR M b (o + 1) cs
end

inductive SV where
  | d (x : DV)
  | ptr (n off : Nat)
  | gs (n len : Nat)
  | bs (n off len : Nat)
  | vp (cs : List DV) (i : Nat)
  | mp (n : Nat)
  | it (n : Nat)
  | yl (n : Nat)
  | fn (f : Fn) (first cap : List SV)
  | agg (cs : List SV)
  | tup (cs : List SV)
  | any
  deriving Inhabited

/-- A name stands for a block; of an owned row, its capacity; a row without capacity is not live. -/
structure Nm where
  blk : Nat
  cap : Nat
  live : Bool := true

mutual
def Rep (μ : Nat → Nm) (M : Mem) : SV → Value → Prop
  | .d x, v => RepD M x v
  | .ptr n off, v => v = .pointer (some ⟨(μ n).blk, off, none⟩)
  | .gs n len, v => ((μ n).live = true ∧ v = .slice (some ⟨(μ n).blk, 0, none⟩) len (μ n).cap) ∨ ((μ n).live = false ∧ len = 0 ∧ ∃ A, v = .slice A 0 0)
  | .vp cs i, v => ∃ b o, v = .pointer (some ⟨b, o + i, none⟩) ∧ RepR M b o cs
  | .bs n off len, v => ∃ A c, v = .slice (some A) len c ∧ len ≤ c ∧ (len ≠ 0 → A = ⟨(μ n).blk, off, none⟩)
  | .mp n, v => ((μ n).live = true ∧ v = .map (some (μ n).blk)) ∨ ((μ n).live = false ∧ v = .map none)
  | .it n, v => v = .pointer (some ⟨(μ n).blk, 0, none⟩)
  | .yl n, v => v = .func (.yield (μ n).blk) #[] #[]
  | .fn f a c, v => ∃ as cs, v = .func f as cs ∧ Reps μ M a as.toList ∧ Reps μ M c cs.toList
  | .agg cs, v => ∃ vs, v = .agg vs ∧ Reps μ M cs vs.toList
  | .tup cs, v => ∃ vs, v = .tuple vs ∧ Reps μ M cs vs.toList
  | .any, _ => True
def Reps (μ : Nat → Nm) (M : Mem) : List SV → List Value → Prop
  | [], vs => vs = []
  | c :: cs, vs => ∃ u us, vs = u :: us ∧ Rep μ M c u ∧ Reps μ M cs us
end

def Mem.le (M M' : Mem) : Prop := ∀ b o v, M b o = some v → M' b o = some v
theorem Mem.le_refl (M : Mem) : Mem.le M M := fun _ _ _ h => h
theorem Mem.le_trans {A B C : Mem} (h : Mem.le A B) (k : Mem.le B C) : Mem.le A C := fun b o v x => k b o v (h b o v x)

mutual
theorem RepD.mono {M M' : Mem} (h : Mem.le M M') : ∀ (x : DV) (v : Value), RepD M x v → RepD M' x v
  | .int k n, v, hr => by simpa [RepD] using hr
  | .bool b, v, hr => by simpa [RepD] using hr
  | .nilp, v, hr => by simpa [RepD] using hr
  | .nilm, v, hr => by simpa [RepD] using hr
  | .nilf, v, hr => by simpa [RepD] using hr
  | .nils, v, hr => by simpa [RepD] using hr
  | .str s, v, hr => by simpa [RepD] using hr
  | .sl n cs, v, hr => by
    simp only [RepD] at hr ⊢
    obtain ⟨A, c, h1, h2, h3, h4⟩ := hr
    exact ⟨A, c, h1, h2, h3, fun hn => let ⟨b, o, e, r⟩ := h4 hn; ⟨b, o, e, RepR.mono h b o cs r⟩⟩
theorem RepR.mono {M M' : Mem} (h : Mem.le M M') (b : Nat) : ∀ (o : Nat) (cs : List DV), RepR M b o cs → RepR M' b o cs
  | _, [], _ => by simp [RepR]
  | o, c :: cs, hr => by
    simp only [RepR] at hr ⊢
    obtain ⟨⟨u, hu, hc⟩, hs⟩ := hr
    exact ⟨⟨u, h b o u hu, RepD.mono h c u hc⟩, RepR.mono h b (o + 1) cs hs⟩
end

mutual
theorem Rep.mono {μ : Nat → Nm} {M M' : Mem} (h : Mem.le M M') : ∀ (x : SV) (v : Value), Rep μ M x v → Rep μ M' x v
  | .d x, v, hr => by simp only [Rep] at hr ⊢; exact RepD.mono h x v hr
  | .ptr n off, v, hr => by simpa [Rep] using hr
  | .gs n len, v, hr => by simpa [Rep] using hr
  | .vp cs i, v, hr => by
    simp only [Rep] at hr ⊢
    obtain ⟨b, o, e, r⟩ := hr
    exact ⟨b, o, e, RepR.mono h b o cs r⟩
  | .bs _ _ _, v, hr => by simpa [Rep] using hr
  | .mp n, v, hr => by simpa [Rep] using hr
  | .it n, v, hr => by simpa [Rep] using hr
  | .yl n, v, hr => by simpa [Rep] using hr
  | .fn f a c, v, hr => by
    simp only [Rep] at hr ⊢
    obtain ⟨as, cs, e, h1, h2⟩ := hr
    exact ⟨as, cs, e, Reps.mono h a _ h1, Reps.mono h c _ h2⟩
  | .agg cs, v, hr => by
    simp only [Rep] at hr ⊢
    obtain ⟨vs, e, h1⟩ := hr
    exact ⟨vs, e, Reps.mono h cs _ h1⟩
  | .tup cs, v, hr => by
    simp only [Rep] at hr ⊢
    obtain ⟨vs, e, h1⟩ := hr
    exact ⟨vs, e, Reps.mono h cs _ h1⟩
  | .any, _, _ => by simp [Rep]
theorem Reps.mono {μ : Nat → Nm} {M M' : Mem} (h : Mem.le M M') : ∀ (xs : List SV) (vs : List Value), Reps μ M xs vs → Reps μ M' xs vs
  | [], vs, hr => by simpa [Reps] using hr
  | x :: xs, vs, hr => by
    simp only [Reps] at hr ⊢
    obtain ⟨u, us, e, h1, h2⟩ := hr
    exact ⟨u, us, e, Rep.mono h x u h1, Reps.mono h xs us h2⟩
end

/-- As 'Rep', and it hangs on the names in p alone. -/
def Rp (p : Nat → Prop) (μ : Nat → Nm) (M : Mem) (s : SV) (v : Value) : Prop := ∀ μ' : Nat → Nm, (∀ n, p n → μ' n = μ n) → Rep μ' M s v
def Rps (p : Nat → Prop) (μ : Nat → Nm) (M : Mem) (s : List SV) (v : List Value) : Prop := ∀ μ' : Nat → Nm, (∀ n, p n → μ' n = μ n) → Reps μ' M s v

theorem Rp.rep {p : Nat → Prop} {μ : Nat → Nm} {M : Mem} {s : SV} {v : Value} (h : Rp p μ M s v) : Rep μ M s v := h μ fun _ _ => rfl
theorem Rps.reps {p : Nat → Prop} {μ : Nat → Nm} {M : Mem} {s : List SV} {v : List Value} (h : Rps p μ M s v) : Reps μ M s v := h μ fun _ _ => rfl
theorem Rp.more {p p' : Nat → Prop} {μ μ' : Nat → Nm} {M M' : Mem} {s : SV} {v : Value} (h : Rp p μ M s v) (hp : ∀ n, p n → p' n) (hμ : ∀ n, p n → μ' n = μ n) (hM : Mem.le M M') : Rp p' μ' M' s v :=
  fun ν hν => Rep.mono hM s v (h ν fun n hn => (hν n (hp n hn)).trans (hμ n hn))
theorem Rps.more {p p' : Nat → Prop} {μ μ' : Nat → Nm} {M M' : Mem} {s : List SV} {v : List Value} (h : Rps p μ M s v) (hp : ∀ n, p n → p' n) (hμ : ∀ n, p n → μ' n = μ n) (hM : Mem.le M M') : Rps p' μ' M' s v :=
  fun ν hν => Reps.mono hM s v (h ν fun n hn => (hν n (hp n hn)).trans (hμ n hn))

section
variable {p : Nat → Prop} {μ : Nat → Nm} {M : Mem}

theorem Rp.d_iff {x : DV} {v : Value} : Rp p μ M (.d x) v ↔ RepD M x v := ⟨fun h => by simpa [Rep] using h.rep, fun h μ' _ => by simpa [Rep] using h⟩
theorem Rp.int_iff {k : IntKind} {n : Int} {v : Value} : Rp p μ M (.d (.int k n)) v ↔ v = .int k n := by rw [Rp.d_iff, RepD]
theorem Rp.bool_iff {b : Bool} {v : Value} : Rp p μ M (.d (.bool b)) v ↔ v = .bool b := by rw [Rp.d_iff, RepD]
theorem Rp.any {v : Value} : Rp p μ M .any v := fun _ _ => by simp [Rep]
theorem Rps.nil_iff {vs : List Value} : Rps p μ M [] vs ↔ vs = [] := ⟨fun h => by simpa [Reps] using h.reps, fun h _ _ => by simpa [Reps] using h⟩
theorem Rps.cons_iff {c : SV} {cs : List SV} {vs : List Value} : Rps p μ M (c :: cs) vs ↔ ∃ u us, vs = u :: us ∧ Rp p μ M c u ∧ Rps p μ M cs us := by
  constructor
  · intro h
    obtain ⟨u, us, rfl, _, _⟩ := (by simpa [Reps] using h.reps : ∃ u us, vs = u :: us ∧ Rep μ M c u ∧ Reps μ M cs us)
    refine ⟨u, us, rfl, fun μ' hμ => ?_, fun μ' hμ => ?_⟩
    · obtain ⟨u', us', e, a, _⟩ := (by simpa only [Reps] using h μ' hμ : ∃ u' us', u :: us = u' :: us' ∧ Rep μ' M c u' ∧ Reps μ' M cs us')
      cases e; exact a
    · obtain ⟨u', us', e, _, a⟩ := (by simpa only [Reps] using h μ' hμ : ∃ u' us', u :: us = u' :: us' ∧ Rep μ' M c u' ∧ Reps μ' M cs us')
      cases e; exact a
  · rintro ⟨u, us, rfl, h1, h2⟩ μ' hμ
    simp only [Reps]
    exact ⟨u, us, rfl, h1 μ' hμ, h2 μ' hμ⟩
theorem Rp.agg_iff {cs : List SV} {v : Value} : Rp p μ M (.agg cs) v ↔ ∃ vs, v = .agg vs ∧ Rps p μ M cs vs.toList := by
  constructor
  · intro h
    obtain ⟨vs, rfl, _⟩ := (by simpa [Rep] using h.rep : ∃ vs, v = .agg vs ∧ Reps μ M cs vs.toList)
    exact ⟨vs, rfl, fun μ' hμ => by have := h μ' hμ; simpa [Rep] using this⟩
  · rintro ⟨vs, rfl, h1⟩ μ' hμ
    simp only [Rep]
    exact ⟨vs, rfl, h1 μ' hμ⟩
theorem Rp.tup_iff {cs : List SV} {v : Value} : Rp p μ M (.tup cs) v ↔ ∃ vs, v = .tuple vs ∧ Rps p μ M cs vs.toList := by
  constructor
  · intro h
    obtain ⟨vs, rfl, _⟩ := (by simpa [Rep] using h.rep : ∃ vs, v = .tuple vs ∧ Reps μ M cs vs.toList)
    exact ⟨vs, rfl, fun μ' hμ => by have := h μ' hμ; simpa [Rep] using this⟩
  · rintro ⟨vs, rfl, h1⟩ μ' hμ
    simp only [Rep]
    exact ⟨vs, rfl, h1 μ' hμ⟩
theorem Rp.fn_iff {f : Fn} {a c : List SV} {v : Value} : Rp p μ M (.fn f a c) v ↔ ∃ as cs, v = .func f as cs ∧ Rps p μ M a as.toList ∧ Rps p μ M c cs.toList := by
  constructor
  · intro h
    obtain ⟨as, cs, rfl, _⟩ := (by simpa [Rep] using h.rep : ∃ as cs, v = .func f as cs ∧ Reps μ M a as.toList ∧ Reps μ M c cs.toList)
    refine ⟨as, cs, rfl, fun μ' hμ => ?_, fun μ' hμ => ?_⟩
    · obtain ⟨as', cs', e, a', _⟩ := (by simpa only [Rep] using h μ' hμ : ∃ as' cs', Value.func f as cs = Value.func f as' cs' ∧ Reps μ' M a as'.toList ∧ Reps μ' M c cs'.toList)
      cases e; exact a'
    · obtain ⟨as', cs', e, _, a'⟩ := (by simpa only [Rep] using h μ' hμ : ∃ as' cs', Value.func f as cs = Value.func f as' cs' ∧ Reps μ' M a as'.toList ∧ Reps μ' M c cs'.toList)
      cases e; exact a'
  · rintro ⟨as, cs, rfl, h1, h2⟩ μ' hμ
    simp only [Rep]
    exact ⟨as, cs, rfl, h1 μ' hμ, h2 μ' hμ⟩
theorem Rps.length {cs : List SV} : ∀ {vs : List Value}, Rps p μ M cs vs → vs.length = cs.length := by
  induction cs with
  | nil => intro vs h; rw [Rps.nil_iff.1 h]; rfl
  | cons c cs ih =>
    intro vs h
    obtain ⟨u, us, rfl, _, h2⟩ := Rps.cons_iff.1 h
    simp [ih h2]
theorem Rps.get {cs : List SV} : ∀ {vs : List Value}, Rps p μ M cs vs → ∀ {i : Nat} {c : SV}, cs[i]? = some c → ∃ u, vs[i]? = some u ∧ Rp p μ M c u := by
  induction cs with
  | nil => intro vs _ i c h; simp at h
  | cons x cs ih =>
    intro vs h i c hi
    obtain ⟨u, us, rfl, h1, h2⟩ := Rps.cons_iff.1 h
    cases i with
    | zero => simp at hi; subst hi; exact ⟨u, rfl, h1⟩
    | succ i => simp at hi; simpa using ih h2 hi
theorem Rps.drop {cs : List SV} {vs : List Value} (n : Nat) (h : Rps p μ M cs vs) : Rps p μ M (cs.drop n) (vs.drop n) := by
  induction n generalizing cs vs with
  | zero => simpa using h
  | succ n ih =>
    cases cs with
    | nil => rw [Rps.nil_iff.1 h]; simp; exact Rps.nil_iff.2 rfl
    | cons c cs =>
      obtain ⟨u, us, rfl, _, h2⟩ := Rps.cons_iff.1 h
      simpa using ih h2
theorem Rps.take {cs : List SV} {vs : List Value} (n : Nat) (h : Rps p μ M cs vs) : Rps p μ M (cs.take n) (vs.take n) := by
  induction n generalizing cs vs with
  | zero => simp; exact Rps.nil_iff.2 rfl
  | succ n ih =>
    cases cs with
    | nil => rw [Rps.nil_iff.1 h]; simp; exact Rps.nil_iff.2 rfl
    | cons c cs =>
      obtain ⟨u, us, rfl, h1, h2⟩ := Rps.cons_iff.1 h
      simp
      exact Rps.cons_iff.2 ⟨_, _, rfl, h1, ih h2⟩
theorem Rps.append {cs ds : List SV} {vs us : List Value} (h : Rps p μ M cs vs) (k : Rps p μ M ds us) : Rps p μ M (cs ++ ds) (vs ++ us) := by
  induction cs generalizing vs with
  | nil => rw [Rps.nil_iff.1 h]; simpa using k
  | cons c cs ih =>
    obtain ⟨u, us', rfl, h1, h2⟩ := Rps.cons_iff.1 h
    simp
    exact Rps.cons_iff.2 ⟨_, _, rfl, h1, ih h2⟩
theorem Rps.set {cs : List SV} {vs : List Value} {c : SV} {u : Value} (i : Nat) (h : Rps p μ M cs vs) (hc : Rp p μ M c u) : Rps p μ M (cs.set i c) (vs.set i u) := by
  induction cs generalizing vs i with
  | nil => rw [Rps.nil_iff.1 h]; simpa using Rps.nil_iff.2 rfl
  | cons x cs ih =>
    obtain ⟨u', us', rfl, h1, h2⟩ := Rps.cons_iff.1 h
    cases i with
    | zero => simp; exact Rps.cons_iff.2 ⟨_, _, rfl, hc, h2⟩
    | succ i => simp; exact Rps.cons_iff.2 ⟨_, _, rfl, h1, ih i h2⟩
theorem Rps.map_d {xs : List DV} {vs : List Value} (hl : xs.length = vs.length) (h : ∀ (i : Nat) (x : DV) (v : Value), xs[i]? = some x → vs[i]? = some v → RepD M x v) : Rps p μ M (xs.map .d) vs := by
  induction xs generalizing vs with
  | nil => cases vs with
    | nil => exact Rps.nil_iff.2 rfl
    | cons _ _ => simp at hl
  | cons x xs ih =>
    cases vs with
    | nil => simp at hl
    | cons v vs =>
      simp
      refine Rps.cons_iff.2 ⟨v, vs, rfl, Rp.d_iff.2 (h 0 x v rfl rfl), ih (by simpa using hl) fun i y u hy hu => h (i + 1) y u (by simpa using hy) (by simpa using hu)⟩
end

theorem RepR.get {M : Mem} {b : Nat} : ∀ {cs : List DV} {o i : Nat} {c : DV}, RepR M b o cs → cs[i]? = some c → ∃ u, M b (o + i) = some u ∧ RepD M c u
  | [], _, _, _, _, h => by simp at h
  | x :: cs, o, i, c, hr, h => by
    simp only [RepR] at hr
    cases i with
    | zero => simp at h; subst h; simpa using hr.1
    | succ i =>
      simp at h
      have := RepR.get hr.2 h
      rwa [show o + 1 + i = o + (i + 1) by omega] at this
theorem RepR.drop {M : Mem} {b : Nat} : ∀ {cs : List DV} {o : Nat} (i : Nat), RepR M b o cs → RepR M b (o + i) (cs.drop i)
  | cs, o, 0, h => by simpa using h
  | [], o, i + 1, h => by simp [RepR]
  | x :: cs, o, i + 1, h => by
    simp only [RepR] at h
    have := RepR.drop i h.2
    rwa [show o + 1 + i = o + (i + 1) by omega] at this
theorem RepR.take {M : Mem} {b : Nat} : ∀ {cs : List DV} {o : Nat} (i : Nat), RepR M b o cs → RepR M b o (cs.take i)
  | cs, o, 0, h => by simp [RepR]
  | [], o, i + 1, h => by simp [RepR]
  | x :: cs, o, i + 1, h => by
    simp only [List.take_succ_cons, RepR] at h ⊢
    exact ⟨h.1, RepR.take i h.2⟩
theorem RepR.mk {M : Mem} {b : Nat} : ∀ {cs : List DV} {o : Nat}, (∀ (i : Nat) (c : DV), cs[i]? = some c → ∃ u, M b (o + i) = some u ∧ RepD M c u) → RepR M b o cs
  | [], _, _ => by simp [RepR]
  | x :: cs, o, h => by
    simp only [RepR]
    refine ⟨by simpa using h 0 x rfl, RepR.mk fun i c hi => ?_⟩
    have := h (i + 1) c (by simpa using hi)
    rwa [show o + 1 + i = o + (i + 1) by omega]

def SV.isOne : SV → Bool
  | .agg _ | .tup _ | .any => false
  | _ => true
theorem RepD.one {M : Mem} {x : DV} {v : Value} (h : RepD M x v) : v.oneCell' = true := by
  cases x <;> simp only [RepD] at h
  all_goals first
    | (subst h; rfl)
    | (obtain ⟨b, rfl, _⟩ := h; rfl)
    | (obtain ⟨A, c, rfl, _⟩ := h; rfl)
theorem Rep.one {μ : Nat → Nm} {M : Mem} {s : SV} {v : Value} (hs : s.isOne = true) (h : Rep μ M s v) : v.oneCell' = true := by
  cases s <;> simp only [SV.isOne, Bool.false_eq_true] at hs <;> simp only [Rep] at h
  case d => exact h.one
  case gs => rcases h with ⟨_, rfl⟩ | ⟨_, _, _, rfl⟩ <;> rfl
  case bs => obtain ⟨_, _, rfl, _⟩ := h; rfl
  case mp => rcases h with ⟨_, rfl⟩ | ⟨_, rfl⟩ <;> rfl
  all_goals first
    | (subst h; rfl)
    | (obtain ⟨_, _, rfl, _⟩ := h; rfl)

/-- A value's cells. -/
def SV.cells : SV → List SV
  | .agg cs => cs
  | s => [s]
theorem Rp.cells {p : Nat → Prop} {μ : Nat → Nm} {M : Mem} {s : SV} {v : Value} (hs : s.cells.all SV.isOne = true) (h : Rp p μ M s v) : Rps p μ M s.cells v.cells.toList ∧ ∀ u ∈ v.cells.toList, u.oneCell' = true := by
  have key : ∀ (cs : List SV) (vs : List Value), cs.all SV.isOne = true → Rps p μ M cs vs → ∀ u ∈ vs, u.oneCell' = true := by
    intro cs
    induction cs with
    | nil => intro vs _ h u hu; rw [Rps.nil_iff.1 h] at hu; cases hu
    | cons c cs ih =>
      intro vs hc h u hu
      obtain ⟨u', us, rfl, h1, h2⟩ := Rps.cons_iff.1 h
      simp at hc
      rcases List.mem_cons.1 hu with rfl | hu
      · exact h1.rep.one hc.1
      · exact ih us (by simpa using hc.2) h2 u hu
  by_cases ha : ∃ cs, s = .agg cs
  · obtain ⟨cs, rfl⟩ := ha
    obtain ⟨vs, rfl, h1⟩ := Rp.agg_iff.1 h
    exact ⟨h1, key _ _ hs h1⟩
  · have hc : s.cells = [s] := by cases s <;> first | rfl | exact absurd ⟨_, rfl⟩ ha
    rw [hc] at hs ⊢
    simp at hs
    have ho := h.rep.one hs
    have hv : v.cells = #[v] := by cases v <;> simp_all [Value.cells, Value.oneCell']
    rw [hv]
    exact ⟨Rps.cons_iff.2 ⟨v, [], rfl, h, Rps.nil_iff.2 rfl⟩, by simpa using ho⟩
/-- What the packages' tables hold, block by block; nobody writes them. -/
def globs : List (Nat × List DV) := rawGlobs.map fun x => (x.1, x.2.map fun c => .int c.1 c.2)
def GlobOk (M : Mem) : Prop := ∀ g cs, globs.lookup g = some cs → RepR M g 0 cs
theorem GlobOk.le {M M' : Mem} (h : GlobOk M) (hM : Mem.le M M') : GlobOk M' := fun g cs hg => RepR.mono hM g 0 cs (h g cs hg)
end Go.Sl

/-
  The heap of named objects in a world; what a step may change; the frame.
-/
set_option linter.unusedSimpArgs false
set_option linter.unusedSectionVars false
set_option linter.unusedVariables false
namespace Go.Sl

inductive Ob where
  | box (t : TypeId) (cs : List SV)
  | arr (e : TypeId) (sz len : Nat) (cs : List SV)
  | map (es : List (Nat × SV × SV)) (clock : Nat)
  /-- a map that is nil -/
  | nomap
  | iter (m : Option Nat) (since : Nat) (seen : List Nat) (stepped : Nat)
  /-- the record of a loop over a function -/
  | rcd (N : Nat) (ts : List Nat) (cs : List SV) (ps : List Nat) (as bd : Code) (st : LoopState) (pe : Option Code)

abbrev Hp := List (Nat × Ob)
def lk (h : Hp) (n : Nat) : Option Ob := h.lookup n

def RpE (p : Nat → Prop) (μ : Nat → Nm) (M : Mem) : List (Nat × SV × SV) → List MapEntry → Prop
  | [], es => es = []
  | (b, k, v) :: r, es => ∃ e es', es = e :: es' ∧ e.born = b ∧ Rp p μ M k e.key ∧ Rp p μ M v e.val ∧ RpE p μ M r es'
theorem RpE.more {p p' : Nat → Prop} {μ μ' : Nat → Nm} {M M' : Mem} (hp : ∀ n, p n → p' n) (hμ : ∀ n, p n → μ' n = μ n) (hM : Mem.le M M') :
    ∀ (r : List (Nat × SV × SV)) (es : List MapEntry), RpE p μ M r es → RpE p' μ' M' r es
  | [], es, h => h
  | (b, k, v) :: r, es, ⟨e, es', h1, h2, h3, h4, h5⟩ => ⟨e, es', h1, h2, h3.more hp hμ hM, h4.more hp hμ hM, RpE.more hp hμ hM r es' h5⟩

def ObRep (p : Nat → Prop) (μ : Nat → Nm) (M : Mem) (w : World) (m : Nm) : Ob → Prop
  | .box t cs => m.live = true ∧ ∃ vs : Array Value, w.heap[m.blk]? = some (.cells vs t (0, 0)) ∧ Rps p μ M cs vs.toList
  | .arr e sz len cs => (m.live = false ∧ len = 0 ∧ cs = []) ∨ m.live = true ∧ ∃ vs : Array Value, w.heap[m.blk]? = some (.cells vs e (0, 0)) ∧ cs.length = len * sz ∧ len ≤ m.cap ∧ m.cap ≤ maxLen ∧ vs.size = m.cap * sz ∧ Rps p μ M cs (vs.toList.take (len * sz))
  | .map es c => m.live = true ∧ ∃ ens : Array MapEntry, w.heap[m.blk]? = some (.map ens c) ∧ RpE p μ M es ens.toList
  | .nomap => m.live = false
  | .iter mo since seen st => m.live = true ∧ (∀ n, mo = some n → p n) ∧ w.heap[m.blk]? = some (.mapIter (mo.map fun n => (μ n).blk) since seen.toArray st)
  | .rcd N ts cs ps as bd st pe => m.live = true ∧ ∃ r : Loop, w.heap[m.blk]? = some (.loop r) ∧ Rps p μ M cs (ts.map fun t => r.tmps.getD t undef) ∧ r.tmps.size = N ∧ r.params.toList = ps ∧ r.assign = as ∧ r.body = bd ∧ r.state = st ∧ r.pending = pe

theorem ObRep.lt {p : Nat → Prop} {μ : Nat → Nm} {M : Mem} {w : World} {m : Nm} {ob : Ob} (h : ObRep p μ M w m ob) (hl : m.live = true) : m.blk < w.heap.size := by
  have key : ∀ {x : Obj}, w.heap[m.blk]? = some x → m.blk < w.heap.size := fun hx => (Array.getElem?_eq_some_iff.1 hx).1
  cases ob <;> simp only [ObRep] at h
  case box => obtain ⟨_, _, h, _⟩ := h; exact key h
  case arr =>
    rcases h with ⟨h, _⟩ | ⟨_, _, h, _⟩
    · rw [hl] at h; cases h
    · exact key h
  case map => obtain ⟨_, _, h, _⟩ := h; exact key h
  case nomap => rw [hl] at h; cases h
  case iter => exact key h.2.2
  case rcd => obtain ⟨_, _, h, _⟩ := h; exact key h
theorem ObRep.more {p p' : Nat → Prop} {μ μ' : Nat → Nm} {M M' : Mem} {w w' : World} {m : Nm} {ob : Ob} (h : ObRep p μ M w m ob) (hp : ∀ n, p n → p' n) (hμ : ∀ n, p n → μ' n = μ n) (hM : Mem.le M M')
    (hw : m.live = true → w'.heap[m.blk]? = w.heap[m.blk]?) : ObRep p' μ' M' w' m ob := by
  cases ob <;> simp only [ObRep] at h ⊢
  case box => obtain ⟨h0, vs, h1, h2⟩ := h; exact ⟨h0, vs, (hw h0).trans h1, h2.more hp hμ hM⟩
  case arr =>
    rcases h with h | ⟨h0, vs, h1, h2, h3, h4, h5, h6⟩
    · exact .inl h
    · exact .inr ⟨h0, vs, (hw h0).trans h1, h2, h3, h4, h5, h6.more hp hμ hM⟩
  case map => obtain ⟨h0, vs, h1, h2⟩ := h; exact ⟨h0, vs, (hw h0).trans h1, RpE.more hp hμ hM _ _ h2⟩
  case nomap => exact h
  case iter mo _ _ _ =>
    refine ⟨h.1, fun n hn => hp n (h.2.1 n hn), (hw h.1).trans (h.2.2.trans ?_)⟩
    cases mo with
    | none => rfl
    | some n => simp [hμ n (h.2.1 n rfl)]
  case rcd => obtain ⟨h0, r, h1, h2, h3⟩ := h; exact ⟨h0, r, (hw h0).trans h1, h2.more hp hμ hM, h3⟩

/-- The frozen memory is the world's, and holds the packages' tables. -/
structure MemOk (M : Mem) (w : World) : Prop where
  cell : ∀ b o v, M b o = some v → w.cell? ⟨b, o, none⟩ = some v
  glob : GlobOk M
instance {M : Mem} {w : World} : CoeFun (MemOk M w) fun _ => ∀ b o v, M b o = some v → w.cell? ⟨b, o, none⟩ = some v := ⟨MemOk.cell⟩
structure SatF (p : Nat → Prop) (μ : Nat → Nm) (M : Mem) (c : Nat → Option Ob) (w : World) : Prop where
  mem : MemOk M w
  obs : ∀ n ob, c n = some ob → p n ∧ ObRep p μ M w (μ n) ob ∧ ((μ n).live = true → ∀ o, M (μ n).blk o = none)
  inj : ∀ n m, c n ≠ none → c m ≠ none → (μ n).live = true → (μ m).live = true → (μ n).blk = (μ m).blk → n = m

/-- The tape stands; draws only grow. -/
def Tape (w w' : World) : Prop := w'.tape = w.tape ∧ w.drawn ≤ w'.drawn
theorem Tape.refl (w : World) : Tape w w := ⟨rfl, Nat.le_refl _⟩
theorem Tape.trans {w w' w'' : World} (h : Tape w' w'') (k : Tape w w') : Tape w w'' := ⟨h.1.trans k.1, Nat.le_trans k.2 h.2⟩

structure Ev (c : Nat → Option Ob) (new : Nat → Prop) (μ : Nat → Nm) (M : Mem) (w : World) (c' : Nat → Option Ob) (μ' : Nat → Nm) (M' : Mem) (w' : World) : Prop where
  old : ∀ n, ¬ new n → μ' n = μ n
  mem : Mem.le M M'
  frame : ∀ b, b < w.heap.size → (∀ n, c n ≠ none → (μ n).live = true → (μ n).blk ≠ b) → w'.heap[b]? = w.heap[b]? ∧ ∀ o, M' b o = M b o
  size : w.heap.size ≤ w'.heap.size
  names : ∀ n, c' n ≠ none → (new n ∧ ((μ' n).live = true → w.heap.size ≤ (μ' n).blk ∨ ∃ m, c m ≠ none ∧ (μ m).live = true ∧ (μ m).blk = (μ' n).blk)) ∨ (¬ new n ∧ c n ≠ none)
  os : w'.os = w.os
  tape : Tape w w'
  output : w'.output = w.output

def mrg (H F F' : Nat → Option Ob) (n : Nat) : Option Ob := if (F n).isSome || (F' n).isSome then F' n else H n

theorem mrg_in {H F F' : Nat → Option Ob} {n : Nat} (h : F n ≠ none ∨ F' n ≠ none) : mrg H F F' n = F' n := by
  unfold mrg
  rw [if_pos]
  rcases h with h | h <;> simp [Option.isSome_iff_ne_none, h]
theorem mrg_out {H F F' : Nat → Option Ob} {n : Nat} (h : F n = none) (h' : F' n = none) : mrg H F F' n = H n := by simp [mrg, h, h']

section
variable {p p' : Nat → Prop} {μ μ' : Nat → Nm} {M M' : Mem} {H F F' : Nat → Option Ob} {w w' : World} {new : Nat → Prop}

theorem SatF.sub (hS : SatF p μ M H w) (hsub : ∀ n ob, F n = some ob → H n = some ob) : SatF p μ M F w :=
  have hne : ∀ n, F n ≠ none → H n ≠ none := fun n h => by
    obtain ⟨ob, ho⟩ := Option.ne_none_iff_exists'.1 h
    rw [hsub n ob ho]; simp
  ⟨hS.mem, fun n ob h => hS.obs n ob (hsub n ob h), fun n m hn hm => hS.inj n m (hne n hn) (hne m hm)⟩

theorem SatF.lt (hS : SatF p μ M H w) {n : Nat} (h : H n ≠ none) (hl : (μ n).live = true) : (μ n).blk < w.heap.size := by
  obtain ⟨ob, ho⟩ := Option.ne_none_iff_exists'.1 h
  exact (hS.obs n ob ho).2.1.lt hl

theorem SatF.framed (hS : SatF p μ M H w) (hsub : ∀ n ob, F n = some ob → H n = some ob) (hnew : ∀ n, new n → ¬ p n)
    (hE : Ev F new μ M w F' μ' M' w') (hS' : SatF p' μ' M' F' w') (hp : ∀ n, p n → p' n) :
    SatF p' μ' M' (mrg H F F') w' ∧ Ev H new μ M w (mrg H F F') μ' M' w' := by
  have hne : ∀ n, F n ≠ none → H n ≠ none := fun n h => by
    obtain ⟨ob, ho⟩ := Option.ne_none_iff_exists'.1 h
    rw [hsub n ob ho]; simp
  have hpn : ∀ n, H n ≠ none → p n := fun n h => by
    obtain ⟨ob, ho⟩ := Option.ne_none_iff_exists'.1 h
    exact (hS.obs n ob ho).1
  have hold : ∀ n, p n → μ' n = μ n := fun n h => hE.old n fun h' => hnew n h' h
  have far : ∀ n, H n ≠ none → F n = none → (μ n).live = true → ∀ m, F m ≠ none → (μ m).live = true → (μ m).blk ≠ (μ n).blk := fun n hn hf l1 m hm l2 e => by
    have := hS.inj m n (hne m hm) hn l2 l1 e
    subst this
    exact hm hf
  have cut : ∀ n, (F n ≠ none ∨ F' n ≠ none) ∨ (F n = none ∧ F' n = none) := fun n => by
    cases h1 : F n <;> cases h2 : F' n <;> simp
  refine ⟨⟨hS'.mem, fun n ob hn => ?_, fun n m hn hm ln lm e => ?_⟩, ⟨hE.old, hE.mem, fun b hb hf => ?_, hE.size, fun n hn => ?_, hE.os, hE.tape, hE.output⟩⟩
  · rcases cut n with h | ⟨h1, h2⟩
    · rw [mrg_in h] at hn
      exact hS'.obs n ob hn
    · rw [mrg_out h1 h2] at hn
      obtain ⟨a1, a2, a3⟩ := hS.obs n ob hn
      have hHn : H n ≠ none := by rw [hn]; simp
      have hb := fun l : (μ n).live = true => hE.frame (μ n).blk (a2.lt l) (far n hHn h1 l)
      refine ⟨hp n a1, ?_, ?_⟩
      · rw [hold n a1]
        exact a2.more hp hold hE.mem fun l => (hb l).1
      · intro l o
        rw [hold n a1] at l ⊢
        rw [(hb l).2]
        exact a3 l o
  · have one : ∀ n m, F' n ≠ none → (F m = none ∧ F' m = none) → H m ≠ none → (μ' n).live = true → (μ' m).live = true → (μ' n).blk = (μ' m).blk → False := by
      intro n m hn hm hHm ln lm e
      have pm := hpn m hHm
      rw [hold m pm] at e lm
      rcases hE.names n hn with ⟨_, hh⟩ | ⟨h1, h2⟩
      · rcases hh ln with h | ⟨q, hq, lq, e'⟩
        · have := hS.lt hHm lm; omega
        · exact far m hHm hm.1 lm q hq lq (e'.trans e)
      · rw [hE.old n h1] at e ln
        exact far m hHm hm.1 lm n h2 ln e
    rcases cut n with hn' | hn' <;> rcases cut m with hm' | hm'
    · rw [mrg_in hn'] at hn; rw [mrg_in hm'] at hm
      exact hS'.inj n m hn hm ln lm e
    · rw [mrg_in hn'] at hn; rw [mrg_out hm'.1 hm'.2] at hm
      exact (one n m hn hm' hm ln lm e).elim
    · rw [mrg_out hn'.1 hn'.2] at hn; rw [mrg_in hm'] at hm
      exact (one m n hm hn' hn lm ln e.symm).elim
    · rw [mrg_out hn'.1 hn'.2] at hn; rw [mrg_out hm'.1 hm'.2] at hm
      rw [hold n (hpn n hn)] at e ln
      rw [hold m (hpn m hm)] at e lm
      exact hS.inj n m hn hm ln lm e
  · exact hE.frame b hb fun n hn => hf n (hne n hn)
  · rcases cut n with h | ⟨h1, h2⟩
    · rw [mrg_in h] at hn
      rcases hE.names n hn with ⟨a, hh⟩ | ⟨a, b⟩
      · refine .inl ⟨a, fun l => ?_⟩
        rcases hh l with b | ⟨m, hm, lm, e⟩
        · exact .inl b
        · exact .inr ⟨m, hne m hm, lm, e⟩
      · exact .inr ⟨a, hne n b⟩
    · rw [mrg_out h1 h2] at hn
      exact .inr ⟨fun h => hnew n h (hpn n hn), hn⟩

theorem Ev.refl (c : Nat → Option Ob) (new : Nat → Prop) (μ : Nat → Nm) (M : Mem) (w : World) (h : ∀ n, c n ≠ none → ¬ new n) : Ev c new μ M w c μ M w :=
  ⟨fun _ _ => rfl, Mem.le_refl M, fun _ _ _ => ⟨rfl, fun _ => rfl⟩, Nat.le_refl _, fun n hn => .inr ⟨h n hn, hn⟩, rfl, Tape.refl _, rfl⟩

theorem Ev.trans {c c1 c2 : Nat → Option Ob} {new1 new2 : Nat → Prop} {μ1 μ2 : Nat → Nm} {M1 M2 : Mem} {w1 w2 : World}
    (h1 : Ev c new1 μ M w c1 μ1 M1 w1) (h2 : Ev c1 new2 μ1 M1 w1 c2 μ2 M2 w2) : Ev c (fun n => new1 n ∨ new2 n) μ M w c2 μ2 M2 w2 where
  old n hn := (h2.old n fun h => hn (.inr h)).trans (h1.old n fun h => hn (.inl h))
  mem := Mem.le_trans h1.mem h2.mem
  frame b hb hf := by
    have e1 := h1.frame b hb hf
    have e2 := h2.frame b (Nat.lt_of_lt_of_le hb h1.size) fun n hn ln he => by
      rcases h1.names n hn with ⟨_, hh⟩ | ⟨h, h'⟩
      · rcases hh ln with h | ⟨m, hm, lm, e⟩
        · omega
        · exact hf m hm lm (e.trans he)
      · rw [h1.old n h] at he ln
        exact hf n h' ln he
    exact ⟨e2.1.trans e1.1, fun o => (e2.2 o).trans (e1.2 o)⟩
  size := Nat.le_trans h1.size h2.size
  names n hn := by
    rcases h2.names n hn with ⟨a, hh⟩ | ⟨a, b⟩
    · refine .inl ⟨.inr a, fun l => ?_⟩
      rcases hh l with b | ⟨m, hm, lm, e⟩
      · exact .inl (Nat.le_trans h1.size b)
      · rcases h1.names m hm with ⟨_, hh'⟩ | ⟨h, h'⟩
        · rcases hh' lm with h | ⟨q, hq, lq, e'⟩
          · exact .inl (by rw [← e]; exact h)
          · exact .inr ⟨q, hq, lq, e'.trans e⟩
        · rw [h1.old m h] at e lm
          exact .inr ⟨m, h', lm, e⟩
    · by_cases hn2 : new1 n
      · rcases h1.names n b with ⟨_, hh'⟩ | ⟨h, h'⟩
        · refine .inl ⟨.inl hn2, fun l => ?_⟩
          rw [h2.old n a] at l ⊢
          exact hh' l
        · exact absurd hn2 h
      · rcases h1.names n b with ⟨h, _⟩ | ⟨h, h'⟩
        · exact absurd h hn2
        · exact .inr ⟨fun hh => hh.elim hn2 a, h'⟩
  os := h2.os.trans h1.os
  tape := h2.tape.trans h1.tape
  output := h2.output.trans h1.output

/-- Another set of new names that says the same of the names in hand. -/
theorem Ev.new_iff {c c' : Nat → Option Ob} {new new' : Nat → Prop} (h : Ev c new μ M w c' μ' M' w') (hi : ∀ n, new n ↔ new' n) : Ev c new' μ M w c' μ' M' w' := by
  have : new = new' := funext fun n => propext (hi n)
  rw [← this]; exact h
/-- Fewer objects are known at the end. -/
theorem Ev.fewer {c c' c'' : Nat → Option Ob} (h : Ev c new μ M w c' μ' M' w') (hc : ∀ n, c'' n ≠ none → c' n ≠ none) : Ev c new μ M w c'' μ' M' w' :=
  ⟨h.old, h.mem, h.frame, h.size, fun n hn => h.names n (hc n hn), h.os, h.tape, h.output⟩
theorem Ev.drew {c c' : Nat → Option Ob} (h : Ev c new μ M w c' μ' M' w') : Ev c new μ M w c' μ' M' w'.drew :=
  ⟨h.old, h.mem, h.frame, h.size, h.names, h.os, ⟨h.tape.1, Nat.le_trans h.tape.2 (Nat.le_succ _)⟩, h.output⟩
theorem SatF.drew (h : SatF p μ M H w) : SatF p μ M H w.drew := by
  refine ⟨⟨h.mem.cell, h.mem.glob⟩, fun n ob hn => ?_, h.inj⟩
  obtain ⟨a, b, c⟩ := h.obs n ob hn
  exact ⟨a, b.more (fun _ h => h) (fun _ _ => rfl) (Mem.le_refl M) fun _ => rfl, c⟩
theorem SatF.more (h : SatF p μ M H w) (hp : ∀ n, p n → p' n) : SatF p' μ M H w := by
  refine ⟨h.mem, fun n ob hn => ?_, h.inj⟩
  obtain ⟨a, b, c⟩ := h.obs n ob hn
  exact ⟨hp n a, b.more hp (fun _ _ => rfl) (Mem.le_refl M) fun _ => rfl, c⟩
end
end Go.Sl

/-
  Operations: a small form of them, what they do to shadow values, and that the machine does so.
-/
set_option linter.unusedSimpArgs false
set_option linter.unusedSectionVars false
set_option linter.unusedVariables false
namespace Go.Sl
open Go.RowKit

inductive X where
  | t (n : Nat)
  | k (s : SV)
  deriving Inhabited

inductive SO where
  | mv (x : X)
  | pick (c a b : X)
  | alloc (t : TypeId) (z : List SV)
  | box (t : TypeId) (x : X)
  | load (sz : Option Nat) (x : X)
  | store (sz : Nat) (x v : X)
  | fld (off : Nat) (x : X)
  | idxA (len sz : Nat) (x i : X)
  | idxS (sz : Nat) (x i : X)
  | field (off : Nat) (sz : Option Nat) (x : X)
  | index (len sz : Nat) (agg : Bool) (x i : X)
  | bin (op : BinOp) (x y : X)
  | eqv (neg : Bool) (ks : List Bool) (x y : X)
  | eqb (neg : Bool) (x y : X)
  | eqnil (neg : Bool) (kd : Nat) (x : X)
  | not (x : X)
  | neg (x : X)
  | lens (x : X)
  | idxT (x i : X)
  | slcA (len sz : Nat) (x : X) (lo hi : Option X)
  | slc3 (x h m : X)
  | conv (k : IntKind) (x : X)
  | ext (i : Nat) (x : X)
  | nilc (x : X)
  | bld (z : List SV) (parts : List (Nat × Nat × X))
  | bsl (e sz len : Nat) (z : List SV) (parts : List (Nat × Nat × X))
  | slc (sz : Nat) (x : X) (lo hi : Option X)
  | len (x : X)
  | mx (x y : X)
  | mn (x y : X)
  | app (e sz bytes : Nat) (s x : X)
  | mkf (f : Fn) (first cap : List X)
  | mkm
  | mks (e sz bytes : Nat) (z : List SV) (len cap : X)
  | look (ks : List Bool) (agg : Bool) (z : SV) (m i : X) (ok : Bool)
  | mset (ks : List Bool) (agg : Bool) (m i v : X)
  | mlen (m : X)
  | mdel (ks : List Bool) (agg : Bool) (m i : X)
  | mrange (m : X)
  | mnext (it : X)
  | mentry (it : X)
  | copy (e sz : Nat) (d s : X)
  /-- an entry that is there then -/
  | mentr (ks : List Bool) (agg : Bool) (z : SV) (m i : X)
  | mstor (m s x : X)
  | clr (sz : Nat) (z : List SV) (x : X)
  | call (f : X) (args : List X)
  deriving Inhabited

/-- A constant cell. -/
def cC : Value → Option SV
  | .int k n => some (.d (.int k n))
  | .bool b => some (.d (.bool b))
  | .pointer none => some (.d .nilp)
  | .map none => some (.d .nilm)
  | .nilFunc => some (.d .nilf)
  | .slice none 0 0 => some (.d .nils)
  | .string b => some (.d (.str (b.data.toList.map UInt8.toNat)))
  | _ => none
def cCs : List Value → Option (List SV)
  | [] => some []
  | v :: vs => match cC v, cCs vs with
    | some s, some ss => some (s :: ss)
    | _, _ => none
def cV : Value → Option SV
  | .agg cs => (cCs cs.toList).map .agg
  | v => cC v
def cX : Operand → Option X
  | .tmp t => some (.t t)
  | .const v => (cV v).map .k
  | .func f => some (.k (.fn (.func f) [] []))
  | .global g => (globs.lookup g).map fun cs => .k (.vp cs 0)
def cXs : List Operand → Option (List X)
  | [] => some []
  | v :: vs => match cX v, cXs vs with
    | some s, some ss => some (s :: ss)
    | _, _ => none

theorem cC_rep {p : Nat → Prop} {μ : Nat → Nm} {M : Mem} : ∀ {v : Value} {s : SV}, cC v = some s → Rp p μ M s v ∧ s.isOne = true := by
  intro v s h
  unfold cC at h
  split at h <;> first | cases h | skip
  all_goals exact ⟨Rp.d_iff.2 (by simp [RepD]), rfl⟩
theorem cCs_rep {p : Nat → Prop} {μ : Nat → Nm} {M : Mem} : ∀ {vs : List Value} {ss : List SV}, cCs vs = some ss → Rps p μ M ss vs ∧ ss.all SV.isOne = true := by
  intro vs
  induction vs with
  | nil => intro ss h; simp [cCs] at h; subst h; exact ⟨Rps.nil_iff.2 rfl, rfl⟩
  | cons v vs ih =>
    intro ss h
    simp only [cCs] at h
    split at h
    · rename_i s ss' h1 h2
      simp at h
      subst h
      obtain ⟨a1, a2⟩ := cC_rep (p := p) (μ := μ) (M := M) h1
      obtain ⟨b1, b2⟩ := ih h2
      exact ⟨Rps.cons_iff.2 ⟨_, _, rfl, a1, b1⟩, by simp [a2, b2]⟩
    · cases h
theorem cV_rep {p : Nat → Prop} {μ : Nat → Nm} {M : Mem} {v : Value} {s : SV} (h : cV v = some s) : Rp p μ M s v := by
  unfold cV at h
  split at h
  · rename_i cs
    obtain ⟨ss, h1, rfl⟩ := Option.map_eq_some_iff.1 h
    exact Rp.agg_iff.2 ⟨cs, rfl, (cCs_rep h1).1⟩
  · exact (cC_rep h).1

def ev (E : Nat → Option SV) : X → Option SV
  | .t n => E n
  | .k s => some s
def evs (E : Nat → Option SV) : List X → Option (List SV)
  | [] => some []
  | x :: xs => match ev E x, evs E xs with
    | some s, some ss => some (s :: ss)
    | _, _ => none

/-- What is known of the slots that an operation looks at. -/
def Known (E : Nat → Option SV) (xs : Array Operand) (p : Nat → Prop) (μ : Nat → Nm) (M : Mem) (a : Act) : Prop :=
  (∀ t, Operand.tmp t ∈ xs → ∀ s, E t = some s → Rp p μ M s (a.tmps.getD t undef)) ∧ GlobOk M

section
variable {E : Nat → Option SV} {xs : Array Operand} {p : Nat → Prop} {μ : Nat → Nm} {M : Mem} {a : Act}
theorem Known.get (h : Known E xs p μ M a) {o : Operand} {x : X} {s : SV} (ho : o ∈ xs) (hx : cX o = some x) (hs : ev E x = some s) : Rp p μ M s (a.eval o) := by
  cases o with
  | tmp t =>
    simp [cX] at hx
    subst hx
    exact h.1 t ho s hs
  | const v =>
    simp only [cX] at hx
    obtain ⟨s', h1, rfl⟩ := Option.map_eq_some_iff.1 hx
    simp [ev] at hs
    subst hs
    exact cV_rep h1
  | func f =>
    simp [cX] at hx
    subst hx
    simp [ev] at hs
    subst hs
    exact Rp.fn_iff.2 ⟨#[], #[], rfl, Rps.nil_iff.2 rfl, Rps.nil_iff.2 rfl⟩
  | global g =>
    simp only [cX] at hx
    obtain ⟨cs, h1, rfl⟩ := Option.map_eq_some_iff.1 hx
    simp [ev] at hs
    subst hs
    exact fun μ' _ => by
      simp only [Rep]
      exact ⟨g, 0, rfl, h.2 g cs h1⟩
theorem Known.gets (h : Known E xs p μ M a) : ∀ {os : List Operand} {ys : List X} {ss : List SV}, (∀ o ∈ os, o ∈ xs) → cXs os = some ys → evs E ys = some ss → Rps p μ M ss (os.map a.eval)
  | [], ys, ss, _, hx, hs => by
    simp [cXs] at hx
    subst hx
    simp [evs] at hs
    subst hs
    exact Rps.nil_iff.2 rfl
  | o :: os, ys, ss, ho, hx, hs => by
    simp only [cXs] at hx
    split at hx
    · rename_i y ys' h1 h2
      simp at hx
      subst hx
      simp only [evs] at hs
      split at hs
      · rename_i s ss' h3 h4
        simp at hs
        subst hs
        exact Rps.cons_iff.2 ⟨_, _, rfl, h.get (ho o (by simp)) h1 h3, h.gets (fun o' ho' => ho o' (by simp [ho'])) h2 h4⟩
      · cases hs
    · cases hx
end

/-- What an operation does: its value, the objects that it looks at, these and new ones behind it, how many new names. -/
structure Eff where
  v : SV
  F : Hp
  F' : Hp
  nk : Nat
  ob : Prop

/-- Nothing is fenced off; in a round of a loop over a function, or in none. -/
def Wide (r : Option Nat) : Fence := { Fence.wide with round := r }
theorem callsIn_W {r : Option Nat} {n : Nat} {P : Program} {f : FuncId} {args : Array Value} {w : World} {R : Ending → World → Prop} : CallsIn (Wide r) n P f args w R ↔ Calls P f args w R :=
  (callsIn_wide (n := n) : CallsIn Fence.wide n P f args w R ↔ _)

def OT (P : Program) (o : Oper) (E : Nat → Option SV) (F : Hp) (new : Nat → Prop) (v : SV) (F' : Hp) : Prop :=
  ∀ (rd : Option Nat) (p : Nat → Prop) (μ : Nat → Nm) (M : Mem) (a : Act) (w : World) (K : Act → World → Prop) (Q : Exit → Act → World → Prop), (∀ n, new n → ¬ p n) →
    Known E o.op.operands p μ M a → SatF p μ M (lk F) w →
    (∀ u μ' M' w', Rp (fun n => p n ∨ new n) μ' M' v u → SatF (fun n => p n ∨ new n) μ' M' (lk F') w' → Ev (lk F) new μ M w (lk F') μ' M' w' → K (a.put o.dst u) w') →
    o.wpIn (Wide rd) 0 P a w K Q

section
variable {P : Program} {o : Oper} {E : Nat → Option SV} {F F' : Hp} {new : Nat → Prop} {v : SV}

theorem semAt_run {rd : Option Nat} {a : Act} {w w' : World} {x : Next} (hx : ∀ d, x ≠ .defer d) (h : (execOp a.eval o).run P w = .ok x w') : (o.semAt rd a.eval).run P w = .ok x w' := by
  by_cases hd : ∃ c, o.op = .defer c
  · exfalso
    obtain ⟨c, hd⟩ := hd
    simp only [execOp, hd, Sem.run_bind] at h
    cases hr : (resolve a.eval c o.type).run P w with
    | ok d w1 =>
      rw [hr] at h
      simp only [Result.andThen_ok, Sem.run_pure] at h
      injection h with h _
      exact hx d h.symm
    | halt z w1 => rw [hr] at h; simp [Result.andThen] at h
  · rw [Oper.semAt_eq rd _ _ (fun c e => hd ⟨c, e⟩)]; exact h
theorem wp_value {rd : Option Nat} {a : Act} {w w' : World} {K : Act → World → Prop} {Q : Exit → Act → World → Prop} {u : Value} (h : (execOp a.eval o).run P w = .ok (.value u) w') (hk : K (a.put o.dst u) w') : o.wpIn (Wide rd) 0 P a w K Q := by
  refine ⟨fun _ _ => trivial, ?_⟩
  rw [semAt_run (fun d e => by cases e) h]; exact hk
theorem wp_none {rd : Option Nat} {a : Act} {w w' : World} {K : Act → World → Prop} {Q : Exit → Act → World → Prop} (h : (execOp a.eval o).run P w = .ok .skip w') (hk : K (a.put o.dst undef) w') : o.wpIn (Wide rd) 0 P a w K Q := by
  refine ⟨fun _ _ => trivial, ?_⟩
  rw [semAt_run (fun d e => by cases e) h]; exact hk

/-- An operation that changes nothing. -/
theorem OT.pure {k : Nat} (h : ∀ (p : Nat → Prop) (μ : Nat → Nm) (M : Mem) (a : Act) (w : World), Known E o.op.operands p μ M a → SatF p μ M (lk F) w →
    ∃ u, (execOp a.eval o).run P w = .ok (.value u) w ∧ Rp p μ M v u) : OT P o E F (fun n => k ≤ n ∧ n < k + 0) v F := by
  intro rd p μ M a w K Q hnew hkn hS hK
  obtain ⟨u, hr, hu⟩ := h p μ M a w hkn hS
  refine wp_value hr (hK u μ M w (hu.more (fun n h => .inl h) (fun _ _ => rfl) (Mem.le_refl M)) (hS.more fun n h => .inl h) (Ev.refl _ _ _ _ _ fun n hn h => by omega))

def upN (μ : Nat → Nm) (k : Nat) (m : Nm) : Nat → Nm := fun n => if n = k then m else μ n
theorem upN_same (μ : Nat → Nm) (k : Nat) (m : Nm) : upN μ k m k = m := by simp [upN]
theorem upN_other (μ : Nat → Nm) (k : Nat) (m : Nm) {n : Nat} (h : n ≠ k) : upN μ k m n = μ n := by simp [upN, h]
theorem upN_p {p : Nat → Prop} {μ : Nat → Nm} {k : Nat} {m : Nm} (hk : ¬ p k) : ∀ n, p n → upN μ k m n = μ n := fun n hn => upN_other μ k m fun e => hk (e ▸ hn)

theorem heap_new (w : World) (o : Obj) : (w.alloc o).heap[w.heap.size]? = some o := by show (w.heap.push o)[w.heap.size]? = _; simp
theorem heap_old (w : World) (o : Obj) {b : Nat} (h : b < w.heap.size) : (w.alloc o).heap[b]? = w.heap[b]? := Below.heap_alloc w o b h

theorem mem_alloc {M : Mem} {w : World} (o : Obj) (h : MemOk M w) : MemOk M (w.alloc o) := by
  refine ⟨?_, h.glob⟩
  intro b i v hm
  have := h b i v hm
  rw [World.cell?_alloc_lt w o ⟨b, i, none⟩ (World.block_lt_of_cell? w ⟨b, i, none⟩ this)]
  exact this
theorem mem_lt {M : Mem} {w : World} {b : Nat} (h : MemOk M w) (hb : w.heap.size ≤ b) : ∀ i, M b i = none := by
  intro i
  cases hm : M b i with
  | none => rfl
  | some v =>
    have := World.block_lt_of_cell? w ⟨b, i, none⟩ (h b i v hm)
    simp at this
    omega

theorem lk_nil (n : Nat) : lk [] n = none := rfl
theorem lk_one {k : Nat} {ob : Ob} (n : Nat) : lk [(k, ob)] n = if n = k then some ob else none := by
  unfold lk
  simp only [List.lookup]
  by_cases h : n = k
  · subst h; simp
  · rw [if_neg h, show (n == k) = false by simpa using h]

/-- An operation that makes one object, and looks at none. -/
theorem OT.make {k : Nat} {ob : Ob} (h : ∀ (p : Nat → Prop) (μ : Nat → Nm) (M : Mem) (a : Act) (w : World), Known E o.op.operands p μ M a → MemOk M w →
    ∃ u ro cap, (execOp a.eval o).run P w = .ok (.value u) (w.alloc ro) ∧
      ∀ (p' : Nat → Prop) (μ' : Nat → Nm), (∀ n, p n → p' n) → (∀ n, p n → μ' n = μ n) → p' k → μ' k = ⟨w.heap.size, cap, true⟩ → ObRep p' μ' M (w.alloc ro) ⟨w.heap.size, cap, true⟩ ob ∧ Rp p' μ' M v u) :
    OT P o E [] (fun n => k ≤ n ∧ n < k + 1) v [(k, ob)] := by
  intro rd p μ M a w K Q hnew hkn hS hK
  obtain ⟨u, ro, cap, hr, hu⟩ := h p μ M a w hkn hS.mem
  have hk : ¬ p k := hnew k ⟨Nat.le_refl _, by omega⟩
  obtain ⟨h1, h2⟩ := hu (fun n => p n ∨ (k ≤ n ∧ n < k + 1)) (upN μ k ⟨w.heap.size, cap, true⟩) (fun n h => .inl h) (upN_p hk) (.inr ⟨Nat.le_refl _, by omega⟩) (upN_same _ _ _)
  refine wp_value hr (hK u (upN μ k ⟨w.heap.size, cap, true⟩) M (w.alloc ro) h2 ⟨mem_alloc ro hS.mem, fun n ob' hn => ?_, fun n m hn hm _ _ _ => ?_⟩ ⟨fun n hn => ?_, Mem.le_refl M, fun b hb _ => ⟨heap_old w ro hb, fun _ => rfl⟩, by simp, fun n hn => ?_, rfl, ⟨rfl, Nat.le_refl _⟩, rfl⟩)
  · rw [lk_one] at hn
    split at hn
    · rename_i hnk
      subst hnk
      simp at hn
      subst hn
      rw [upN_same]
      exact ⟨.inr ⟨Nat.le_refl _, by omega⟩, h1, fun _ => mem_lt hS.mem (Nat.le_refl _)⟩
    · cases hn
  · rw [lk_one] at hn hm
    split at hn <;> split at hm <;> first | omega | simp at hn hm
  · exact upN_other _ _ _ (by omega)
  · rw [lk_one] at hn
    split at hn
    · rename_i hnk
      subst hnk
      exact .inl ⟨⟨Nat.le_refl _, by omega⟩, fun _ => .inl (by rw [upN_same]; exact Nat.le_refl _)⟩
    · simp at hn

/-- An operation that writes the one object that it looks at. -/
theorem OT.write {k n : Nat} {ob ob' : Ob} (h : ∀ (p : Nat → Prop) (μ : Nat → Nm) (M : Mem) (a : Act) (w : World), Known E o.op.operands p μ M a → p n → ObRep p μ M w (μ n) ob →
    ∃ u w', ((execOp a.eval o).run P w = .ok (.value u) w' ∨ ((execOp a.eval o).run P w = .ok .skip w' ∧ u = undef)) ∧ Rp p μ M v u ∧ ObRep p μ M w' (μ n) ob' ∧
      (∀ b, ((μ n).live = true → b ≠ (μ n).blk) → w'.heap[b]? = w.heap[b]?) ∧ w'.heap.size = w.heap.size ∧ w'.os = w.os ∧ Tape w w' ∧ w'.output = w.output) :
    OT P o E [(n, ob)] (fun m => k ≤ m ∧ m < k + 0) v [(n, ob')] := by
  intro rd p μ M a w K Q hnew hkn hS hK
  obtain ⟨hp, hob, hmn⟩ := hS.obs n ob (by simp [lk_one])
  obtain ⟨u, w', hr, hu, hob', hother, hsz, h1, h2, h3⟩ := h p μ M a w hkn hp hob
  have hpk : ∀ m, p m → (fun m => p m ∨ (k ≤ m ∧ m < k + 0)) m := fun m hm => .inl hm
  have key : K (a.put o.dst u) w' := by
    refine hK u μ M w' (hu.more hpk (fun _ _ => rfl) (Mem.le_refl M)) ⟨⟨fun b i x hm => ?_, hS.mem.glob⟩, fun m ob'' hm => ?_, fun m m' hm hm' _ _ _ => ?_⟩
      ⟨fun _ _ => rfl, Mem.le_refl M, fun b hb hf => ⟨hother b fun l e => hf n (by simp [lk_one]) l e.symm, fun _ => rfl⟩, by omega, fun m hm => ?_, h1, h2, h3⟩
    · have hb : (μ n).live = true → b ≠ (μ n).blk := fun l e => by rw [e, hmn l] at hm; cases hm
      rw [← hS.mem b i x hm]
      unfold World.cell?
      rw [hother b hb]
    · rw [lk_one] at hm
      split at hm
      · rename_i e
        subst e
        simp at hm
        subst hm
        exact ⟨.inl hp, hob'.more hpk (fun _ _ => rfl) (Mem.le_refl M) fun _ => rfl, hmn⟩
      · cases hm
    · rw [lk_one] at hm hm'
      split at hm <;> split at hm' <;> first | omega | simp at hm hm'
    · rw [lk_one] at hm
      split at hm
      · rename_i e
        subst e
        exact .inr ⟨by omega, by simp [lk_one]⟩
      · simp at hm
  rcases hr with hr | ⟨hr, rfl⟩
  · exact wp_value hr key
  · exact wp_none hr key
end
end Go.Sl

/-
  The plain operations: how they are read off the program, what they give, and that the machine does so.
-/
set_option linter.unusedSimpArgs false
set_option linter.unusedSectionVars false
set_option linter.unusedVariables false
namespace Go.Sl
open Go.RowKit

def tySz (P : Program) (t : TypeId) : Option (Option Nat) :=
  match P.underlying t, P.info? t with
  | some (.struct _), some i => some (some i.size)
  | some (.array _ _), some i => some (some i.size)
  | some _, some _ => some none
  | _, _ => none
def zCells (P : Program) (t : TypeId) : Option (List SV) :=
  match P.info? t with
  | some i => match i.zero with
    | some z => cCs z.cells.toList
    | none => none
  | none => none

section
variable {P : Program} {w : World}

theorem run_info {t : TypeId} {i : TypeInfo} (h : P.info? t = some i) : (typeInfo t).run P w = .ok i w := by simp [typeInfo, h]
theorem run_size {t : TypeId} {i : TypeInfo} (h : P.info? t = some i) : (sizeOf t).run P w = .ok i.size w := by simp [sizeOf, run_info h]
theorem run_zero {t : TypeId} {i : TypeInfo} {z : Value} (h : P.info? t = some i) (hz : i.zero = some z) : (zeroValue t).run P w = .ok z w := by simp [zeroValue, run_info h, hz]

theorem tySz_none {t : TypeId} (h : tySz P t = some none) : (isAgg t).run P w = .ok false w := by
  unfold tySz at h
  cases hu : P.underlying t with
  | none => simp [hu] at h
  | some d =>
    rw [hu] at h
    simp only [isAgg, Sem.run_bind, run_underlying hu, Result.andThen_ok]
    cases hi : P.info? t <;> rw [hi] at h <;> cases d <;> simp at h ⊢
theorem tySz_some {t : TypeId} {n : Nat} (h : tySz P t = some (some n)) : (isAgg t).run P w = .ok true w ∧ (sizeOf t).run P w = .ok n w := by
  unfold tySz at h
  cases hu : P.underlying t with
  | none => simp [hu] at h
  | some d =>
    rw [hu] at h
    simp only [isAgg, Sem.run_bind, run_underlying hu, Result.andThen_ok]
    cases hi : P.info? t with
    | none => rw [hi] at h; cases d <;> simp at h
    | some i =>
      rw [hi] at h
      have hs : (sizeOf t).run P w = .ok i.size w := run_size hi
      cases d <;> simp at h ⊢ <;> (subst h; exact hs)

theorem run_loadVar_one {t : TypeId} {a : Addr} {v : Value} (h : tySz P t = some none) (hc : w.cell? a = some v) : (loadVar t a).run P w = .ok v w := by
  simp only [loadVar, Sem.run_bind, tySz_none h, Result.andThen_ok, Bool.false_eq_true, if_false, run_load, hc]
theorem run_loadVar_agg {t : TypeId} {a : Addr} {cs : List Value} (h : tySz P t = some (some cs.length)) (hc : ∀ (j : Nat) (v : Value), cs[j]? = some v → w.cell? (a.add j) = some v) :
    (loadVar t a).run P w = .ok (.agg cs.toArray) w := by
  simp only [loadVar, Sem.run_bind, (tySz_some h).1, (tySz_some h).2, Result.andThen_ok, if_true, run_loadCells_list w a cs hc, Sem.run_pure]

theorem addr_add (b o n : Nat) : Addr.add ⟨b, o, none⟩ n = ⟨b, o + n, none⟩ := Addr.add_lit b o n

theorem cell_of {b : Nat} {vs : Array Value} {t : TypeId} {fr : Nat × Nat} (h : w.heap[b]? = some (.cells vs t fr)) (i : Nat) : w.cell? ⟨b, i, none⟩ = vs[i]? := by
  simp [World.cell?, h]

theorem zCells_rep {t : TypeId} {z : List SV} (h : zCells P t = some z) {p : Nat → Prop} {μ : Nat → Nm} {M : Mem} : ∃ (v : Value), (∀ w : World, (zeroValue t).run P w = .ok v w) ∧ Rps p μ M z v.cells.toList ∧ z.all SV.isOne = true := by
  unfold zCells at h
  split at h
  · rename_i i hi
    split at h
    · rename_i z' hz
      obtain ⟨a, b⟩ := cCs_rep (p := p) (μ := μ) (M := M) h
      exact ⟨z', fun w => run_zero hi hz, a, b⟩
    · cases h
  · cases h

theorem SatF.one {p : Nat → Prop} {μ : Nat → Nm} {M : Mem} {n : Nat} {ob : Ob} (h : SatF p μ M (lk [(n, ob)]) w) : p n ∧ ObRep p μ M w (μ n) ob ∧ ((μ n).live = true → ∀ o, M (μ n).blk o = none) := h.obs n ob (by simp [lk_one])

/-- The cells that a pointer leads to: of an object by its name, or of memory that nobody writes. -/
def cellsAt (H : Nat → Option Ob) : SV → Option (List SV × Nat × Hp)
  | .ptr n off => match H n with
    | some (.box t cs) => some (cs, off, [(n, .box t cs)])
    | some (.arr e sz len cs) => some (cs, off, [(n, .arr e sz len cs)])
    | _ => none
  | .vp cs i => some (cs.map .d, i, [])
  | _ => none

theorem cellsAt_sub {H : Nat → Option Ob} {s : SV} {cs : List SV} {off : Nat} {F : Hp} (h : cellsAt H s = some (cs, off, F)) : ∀ n ob, lk F n = some ob → H n = some ob := by
  intro n ob hn
  unfold cellsAt at h
  split at h
  · split at h <;> simp at h <;> rename_i hh <;> obtain ⟨_, _, rfl⟩ := h <;> rw [lk_one] at hn <;> split at hn <;> simp at hn <;> subst_vars <;> exact hh
  · simp at h
    obtain ⟨_, _, rfl⟩ := h
    simp [lk_nil] at hn
  · cases h

theorem cellsAt_reads {H : Nat → Option Ob} {s : SV} {cs : List SV} {off : Nat} {F : Hp} (h : cellsAt H s = some (cs, off, F)) {p : Nat → Prop} {μ : Nat → Nm} {M : Mem} {v : Value}
    (hv : Rp p μ M s v) (hS : SatF p μ M (lk F) w) : ∃ b o, v = .pointer (some ⟨b, o + off, none⟩) ∧ ∀ (i : Nat) (c : SV), cs[i]? = some c → ∃ u, w.cell? ⟨b, o + i, none⟩ = some u ∧ Rp p μ M c u := by
  unfold cellsAt at h
  split at h
  · rename_i n off'
    have hv' := hv.rep
    simp only [Rep] at hv'
    split at h
    · rename_i t cs' hh
      simp at h
      obtain ⟨rfl, rfl, rfl⟩ := h
      obtain ⟨_, ⟨_, vs, hb, hr⟩, _⟩ := hS.one
      refine ⟨(μ n).blk, 0, by rw [hv']; simp, fun i c hi => ?_⟩
      obtain ⟨u, hu, hc⟩ := hr.get hi
      exact ⟨u, by rw [cell_of hb]; simpa using hu, hc⟩
    · rename_i e sz len cs' hh
      simp at h
      obtain ⟨rfl, rfl, rfl⟩ := h
      obtain ⟨_, ⟨_, _, rfl⟩ | ⟨_, vs, hb, _, _, _, _, hr⟩, _⟩ := hS.one
      · exact ⟨(μ n).blk, 0, by rw [hv']; simp, fun i c hi => by simp at hi⟩
      refine ⟨(μ n).blk, 0, by rw [hv']; simp, fun i c hi => ?_⟩
      obtain ⟨u, hu, hc⟩ := hr.get hi
      refine ⟨u, ?_, hc⟩
      rw [cell_of hb]
      rw [List.getElem?_take] at hu
      split at hu
      · simpa using hu
      · cases hu
    · cases h
  · rename_i cs' i'
    simp at h
    obtain ⟨rfl, rfl, rfl⟩ := h
    obtain ⟨b, o, rfl, hr⟩ := (by simpa [Rep] using hv.rep : ∃ b o, v = .pointer (some ⟨b, o + i', none⟩) ∧ RepR M b o cs')
    refine ⟨b, o, rfl, fun i c hi => ?_⟩
    rw [List.getElem?_map] at hi
    obtain ⟨x, hx, rfl⟩ := Option.map_eq_some_iff.1 hi
    obtain ⟨u, hu, hd⟩ := hr.get hx
    exact ⟨u, hS.mem b _ u hu, Rp.d_iff.2 hd⟩
  · cases h

/-- What a load gives. -/
def ldv (cs : List SV) (off : Nat) : Option Nat → Option SV
  | none => cs[off]?
  | some m => some (.agg ((cs.drop off).take m))
def ldo (cs : List SV) (off : Nat) : Option Nat → Prop
  | none => True
  | some m => off + m ≤ cs.length

theorem ldv_run {t : TypeId} {sz : Option Nat} (ht : tySz P t = some sz) {cs : List SV} {off b o : Nat} {s : SV} (h : ldv cs off sz = some s) (hle : ldo cs off sz) {p : Nat → Prop} {μ : Nat → Nm} {M : Mem}
    (hc : ∀ (i : Nat) (c : SV), cs[i]? = some c → ∃ u, w.cell? ⟨b, o + i, none⟩ = some u ∧ Rp p μ M c u) : ∃ v, (loadVar t ⟨b, o + off, none⟩).run P w = .ok v w ∧ Rp p μ M s v := by
  cases sz with
  | none =>
    obtain ⟨u, hu, hr⟩ := hc off s h
    exact ⟨u, run_loadVar_one ht hu, hr⟩
  | some m =>
    simp only [ldo] at hle
    · simp [ldv] at h
      subst h
      have key : ∀ (l : List SV) (q : Nat), (∀ (i : Nat) (c : SV), l[i]? = some c → ∃ u, w.cell? ⟨b, q + i, none⟩ = some u ∧ Rp p μ M c u) →
          ∃ vs : List Value, Rps p μ M l vs ∧ ∀ (j : Nat) (u : Value), vs[j]? = some u → w.cell? ⟨b, q + j, none⟩ = some u := by
        intro l
        induction l with
        | nil => intro q _; exact ⟨[], Rps.nil_iff.2 rfl, fun j u h => by simp at h⟩
        | cons c l ih =>
          intro q hq
          obtain ⟨u, hu, hr⟩ := hq 0 c rfl
          obtain ⟨vs, hvs, hcs⟩ := ih (q + 1) fun i c' hi => by
            have := hq (i + 1) c' (by simpa using hi)
            rwa [show q + (i + 1) = q + 1 + i by omega] at this
          refine ⟨u :: vs, Rps.cons_iff.2 ⟨u, vs, rfl, hr, hvs⟩, fun j x hj => ?_⟩
          cases j with
          | zero => simp at hj; subst hj; simpa using hu
          | succ j =>
            have := hcs j x (by simpa using hj)
            rwa [show q + 1 + j = q + (j + 1) by omega] at this
      obtain ⟨vs, hvs, hcell⟩ := key ((cs.drop off).take m) (o + off) fun i c hi => by
        rw [List.getElem?_take] at hi
        split at hi
        · rw [List.getElem?_drop] at hi
          have := hc (off + i) c hi
          rwa [show o + (off + i) = o + off + i by omega] at this
        · cases hi
      have hlen : vs.length = m := by
        rw [hvs.length, List.length_take, List.length_drop]; omega
      subst hlen
      exact ⟨.agg vs.toArray, run_loadVar_agg ht fun j u hj => by rw [addr_add]; exact hcell j u hj, Rp.agg_iff.2 ⟨vs.toArray, rfl, by simpa using hvs⟩⟩

/-- A store over the cells of a block of the call's own. -/
def spl (cs : List SV) (o : Nat) : List SV → List SV
  | [c] => cs.set o c
  | vs => cs.take o ++ vs ++ cs.drop (o + vs.length)
def splV (cs : List Value) (o : Nat) (vs : List Value) : List Value := cs.take o ++ vs ++ cs.drop (o + vs.length)
theorem set_split {α : Type} : ∀ (cs : List α) (o : Nat) (c : α), o < cs.length → cs.set o c = cs.take o ++ [c] ++ cs.drop (o + 1)
  | [], o, c, h => by simp at h
  | x :: xs, 0, c, _ => by simp
  | x :: xs, o + 1, c, h => by
    have := set_split xs o c (by simpa using h)
    simp [this]
theorem spl_eq {cs vs : List SV} {o : Nat} (h : o + vs.length ≤ cs.length) : spl cs o vs = cs.take o ++ vs ++ cs.drop (o + vs.length) := by
  unfold spl
  split
  · rename_i c
    simp only [List.length_singleton] at h ⊢
    exact set_split cs o c (by omega)
  · rfl
theorem Rps.spl {p : Nat → Prop} {μ : Nat → Nm} {M : Mem} {cs ds : List SV} {vs us : List Value} {o : Nat} (h : Rps p μ M cs vs) (k : Rps p μ M ds us) (hl : o + ds.length ≤ cs.length) : Rps p μ M (spl cs o ds) (splV vs o us) := by
  rw [spl_eq hl]
  unfold splV
  rw [k.length]
  exact ((h.take o).append k).append (h.drop _)

theorem splV_step : ∀ (cs : List Value) (k : Nat) (u : Value) (us : List Value), k < cs.length → splV (cs.set k u) (k + 1) us = splV cs k (u :: us)
  | [], k, u, us, h => by simp at h
  | x :: xs, 0, u, us, _ => by simp [splV, Nat.add_comm]
  | x :: xs, k + 1, u, us, h => by
    have := splV_step xs k u us (by simpa using h)
    simp only [splV, List.length_cons] at this ⊢
    simp only [List.set_cons_succ, List.take_succ_cons, List.cons_append, List.cons.injEq, true_and]
    rw [show k + 1 + 1 + us.length = (k + 1 + us.length) + 1 by omega, show k + 1 + (us.length + 1) = (k + (us.length + 1)) + 1 by omega, List.drop_succ_cons, List.drop_succ_cons]
    exact this
theorem run_storeCells {b : Nat} {t : TypeId} : ∀ (us : List Value) (vs : Array Value) (w : World) (o i : Nat), w.heap[b]? = some (.cells vs t (0, 0)) → o + i + us.length ≤ vs.size → (∀ u ∈ us, u.oneCell' = true) →
    ∃ w', (storeCells ⟨b, o, none⟩ us i).run P w = .ok () w' ∧ w'.heap[b]? = some (.cells (splV vs.toList (o + i) us).toArray t (0, 0)) ∧ (∀ c, c ≠ b → w'.heap[c]? = w.heap[c]?) ∧
      w'.heap.size = w.heap.size ∧ w'.os = w.os ∧ Tape w w' ∧ w'.output = w.output
  | [], vs, w, o, i, hb, _, _ => by
    refine ⟨w, by simp [storeCells], ?_, fun _ _ => rfl, rfl, rfl, Tape.refl _, rfl⟩
    simp [splV, hb]
  | u :: us, vs, w, o, i, hb, hl, h1 => by
    simp only [List.length_cons] at hl
    have hlt : o + i < vs.size := by omega
    have hc : w.cell? ⟨b, o + i, none⟩ = some vs[o + i] := by rw [cell_of hb, Array.getElem?_eq_getElem hlt]
    have hz : w.frozen? ⟨b, o + i, none⟩ = false := by simp [World.frozen?, hb]
    have hs : (store ⟨b, o + i, none⟩ u).run P w = .ok () (w.setCell ⟨b, o + i, none⟩ u) := by
      rw [run_store P w _ u .plain (h1 u (by simp))]
      simp [hc, hz]
    have hb' : (w.setCell ⟨b, o + i, none⟩ u).heap[b]? = some (.cells (vs.setIfInBounds (o + i) u) t (0, 0)) := by
      simp [World.setCell, Array.getElem?_modify, hb]
    obtain ⟨w', hr, h2, h3, h4, h5, h6, h7⟩ := run_storeCells us (vs.setIfInBounds (o + i) u) (w.setCell ⟨b, o + i, none⟩ u) o (i + 1) hb' (by simp; omega) fun x hx => h1 x (by simp [hx])
    refine ⟨w', ?_, ?_, fun c hc => (h3 c hc).trans (Below.heap_setCell w _ u c (by simpa using hc)), by simpa using h4, h5, h6, h7⟩
    · simp only [storeCells, addr_add, Sem.run_bind, hs, Result.andThen_ok, hr]
    · rw [h2]
      congr 3
      rw [Array.toList_setIfInBounds, show o + (i + 1) = o + i + 1 by omega]
      exact splV_step vs.toList (o + i) u us (by simpa using hlt)
end
end Go.Sl

/-
  '==' on flat data: structs and arrays of numbers and bools.
-/
set_option linter.unusedSimpArgs false
set_option linter.unusedSectionVars false
set_option linter.unusedVariables false
namespace Go.Sl
open Go.RowKit

def cEq : Bool → Value → Value → Option Bool
  | true, .int k a, .int k' b => if k = k' then some (a == b) else none
  | false, .bool a, .bool b => some (a == b)
  | _, _, _ => none
def csEq : List Bool → List Value → List Value → Option Bool
  | [], [], [] => some true
  | k :: ks, x :: xs, y :: ys => match cEq k x y, csEq ks xs ys with
    | some a, some b => some (a && b)
    | _, _ => none
  | _, _, _ => none

theorem csEq_length : ∀ {ks : List Bool} {xs ys : List Value} {b : Bool}, csEq ks xs ys = some b → xs.length = ks.length ∧ ys.length = ks.length
  | [], [], [], _, _ => ⟨rfl, rfl⟩
  | [], [], _ :: _, _, h => by simp [csEq] at h
  | [], _ :: _, _, _, h => by simp [csEq] at h
  | _ :: _, [], _, _, h => by simp [csEq] at h
  | _ :: _, _ :: _, [], _, h => by simp [csEq] at h
  | k :: ks, x :: xs, y :: ys, b, h => by
    simp only [csEq] at h
    split at h
    · rename_i h2
      have := csEq_length h2
      simp [this.1, this.2]
    · cases h
theorem csEq_one {k : Bool} {x y : Value} {b : Bool} (h : csEq [k] [x] [y] = some b) : cEq k x y = some b := by
  simp only [csEq] at h
  split at h
  · rename_i a b' h1 h2
    simp at h h2
    subst h; subst h2
    simpa using h1
  · cases h
theorem csEq_split : ∀ {k1 k2 : List Bool} {xs ys : List Value} {b : Bool}, csEq (k1 ++ k2) xs ys = some b →
    ∃ b1 b2, csEq k1 (xs.take k1.length) (ys.take k1.length) = some b1 ∧ csEq k2 (xs.drop k1.length) (ys.drop k1.length) = some b2 ∧ b = (b1 && b2)
  | [], k2, xs, ys, b, h => ⟨true, b, by simp [csEq], by simpa using h, by simp⟩
  | k :: k1, k2, [], ys, b, h => by simp [csEq] at h
  | k :: k1, k2, x :: xs, [], b, h => by simp [csEq] at h
  | k :: k1, k2, x :: xs, y :: ys, b, h => by
    simp only [List.cons_append, csEq] at h
    split at h
    · rename_i a b' h1 h2
      simp at h
      subst h
      obtain ⟨b1, b2, e1, e2, rfl⟩ := csEq_split h2
      refine ⟨a && b1, b2, ?_, by simpa using e2, by simp [Bool.and_assoc]⟩
      simp [csEq, h1, e1]
    · cases h

def plainFs (f : TypeId → Option (List Bool)) : Nat → List Field → Option (List Bool)
  | _, [] => some []
  | o, x :: xs => if x.name = "_" ∨ x.offset ≠ o then none else match f x.type with
    | some ks => match plainFs f (o + ks.length) xs with
      | some r => some (ks ++ r)
      | none => none
    | none => none
def rep (n : Nat) (ks : List Bool) : List Bool := match n with
  | 0 => []
  | n + 1 => ks ++ rep n ks
def plainEq (P : Program) : Nat → TypeId → Option (List Bool)
  | 0, _ => none
  | d + 1, t => match P.underlying t, P.info? t with
    | some .bool, some i => if i.size = 1 then some [false] else none
    | some (.int _), some i => if i.size = 1 then some [true] else none
    | some (.struct fs), some i => if P.stoodInHeld t then none else match plainFs (plainEq P d) 0 fs.toList with
      | some ks => if ks.length = i.size then some ks else none
      | none => none
    | some (.array n e), some i => match plainEq P d e with
      | some ks => if n * ks.length = i.size then some (rep n ks) else none
      | none => none
    | _, _ => none

theorem rep_length (n : Nat) (ks : List Bool) : (rep n ks).length = n * ks.length := by
  induction n with
  | zero => simp [rep]
  | succ n ih => simp [rep, ih, Nat.add_mul, Nat.add_comm]

def valOf (P : Program) (t : TypeId) (l : List Value) : Value :=
  match tySz P t with
  | some (some _) => .agg l.toArray
  | _ => l.headD undef

section
variable {P : Program} {w : World}

theorem plainEq_size {d : Nat} {t : TypeId} {ks : List Bool} (h : plainEq P d t = some ks) : tySz P t = some none ∧ ks.length = 1 ∨ tySz P t = some (some ks.length) := by
  cases d with
  | zero => simp [plainEq] at h
  | succ d =>
    simp only [plainEq] at h
    split at h
    · rename_i i h1 h2
      simp at h; obtain ⟨_, rfl⟩ := h
      exact .inl ⟨by simp [tySz, h1, h2], rfl⟩
    · rename_i k i h1 h2
      simp at h; obtain ⟨_, rfl⟩ := h
      exact .inl ⟨by simp [tySz, h1, h2], rfl⟩
    · rename_i fs i h1 h2
      split at h
      · cases h
      · split at h
        · split at h
          · rename_i hl
            simp at h; subst h
            exact .inr (by simp [tySz, h1, h2, hl])
          · cases h
        · cases h
    · rename_i n e i h1 h2
      split at h
      · split at h
        · rename_i hl
          simp at h; subst h
          exact .inr (by simp [tySz, h1, h2, rep_length, hl])
        · cases h
      · cases h
    · cases h

theorem part_run {d : Nat} {t : TypeId} {ks : List Bool} (h : plainEq P d t = some ks) (cs : List Value) (o : Nat) (hl : o + ks.length ≤ cs.length) :
    (part t cs.toArray o).run P w = .ok (valOf P t ((cs.drop o).take ks.length)) w := by
  rcases plainEq_size h with ⟨h1, h2⟩ | h1
  · have ho : o < cs.length := by omega
    have e : (List.take 1 (List.drop o cs)).headD undef = cs[o] := by rw [List.drop_eq_getElem_cons ho]; rfl
    simp only [part, Sem.run_bind, tySz_none h1, Result.andThen_ok, Bool.false_eq_true, if_false, valOf, h1, h2, e]
    simp [ho]
  · simp only [part, Sem.run_bind, (tySz_some h1).1, (tySz_some h1).2, Result.andThen_ok, if_true, Sem.run_pure, valOf, h1]
    congr 2
    apply Array.ext'
    simp

theorem eqFields_run (d : Nat) (ih : ∀ (t : TypeId) (ks : List Bool) (xs ys : List Value) (b : Bool), plainEq P d t = some ks → csEq ks xs ys = some b → (Op.equalIn d t (valOf P t xs) (valOf P t ys)).run P w = .ok b w)
    (xs ys : List Value) : ∀ (fs : List Field) (o : Nat) (ks : List Bool) (b : Bool), plainFs (plainEq P d) o fs = some ks → csEq ks (xs.drop o) (ys.drop o) = some b → o ≤ xs.length → o ≤ ys.length →
      (Op.eqFields d xs.toArray ys.toArray fs).run P w = .ok b w := by
  intro fs
  induction fs with
  | nil =>
    intro o ks b h hb _ _
    simp [plainFs] at h
    subst h
    have := csEq_length hb
    cases hx : xs.drop o <;> cases hy : ys.drop o <;> rw [hx, hy] at hb <;> simp [csEq] at hb
    subst hb
    simp [Op.eqFields]
  | cons f fs ihf =>
    intro o ks b h hb hox hoy
    simp only [plainFs] at h
    split at h
    · cases h
    · rename_i hno
      simp only [not_or, ne_eq, Decidable.not_not] at hno
      split at h
      · rename_i ks1 h1
        split at h
        · rename_i ks2 h2
          simp at h
          subst h
          obtain ⟨b1, b2, e1, e2, rfl⟩ := csEq_split hb
          have l1 := csEq_length e1
          have hx : o + ks1.length ≤ xs.length := by have := l1.1; simp at this; omega
          have hy : o + ks1.length ≤ ys.length := by have := l1.2; simp at this; omega
          simp only [List.drop_drop] at e2
          have hr := ihf (o + ks1.length) ks2 b2 h2 e2 hx hy
          simp only [Op.eqFields, ne_eq, hno.1, not_false_eq_true, if_true, Sem.run_bind, hno.2, part_run h1 xs o hx, part_run h1 ys o hy, Result.andThen_ok, ih f.type ks1 _ _ b1 h1 e1]
          cases b1
          · simp
          · simpa using hr
        · cases h
      · cases h

theorem plainEq_info {d : Nat} {t : TypeId} {ks : List Bool} (h : plainEq P d t = some ks) : ∃ i, P.info? t = some i ∧ i.size = ks.length := by
  cases d with
  | zero => simp [plainEq] at h
  | succ d =>
    simp only [plainEq] at h
    split at h
    · rename_i i h1 h2
      simp at h; obtain ⟨h3, rfl⟩ := h
      exact ⟨i, h2, h3⟩
    · rename_i k i h1 h2
      simp at h; obtain ⟨h3, rfl⟩ := h
      exact ⟨i, h2, h3⟩
    · rename_i fs i h1 h2
      split at h
      · cases h
      · split at h
        · split at h
          · rename_i hl
            simp at h; subst h
            exact ⟨i, h2, hl.symm⟩
          · cases h
        · cases h
    · rename_i n e i h1 h2
      split at h
      · split at h
        · rename_i hl
          simp at h; subst h
          exact ⟨i, h2, by rw [rep_length, hl]⟩
        · cases h
      · cases h
    · cases h

theorem arr_run (d : Nat) (ih : ∀ (t : TypeId) (ks : List Bool) (xs ys : List Value) (b : Bool), plainEq P d t = some ks → csEq ks xs ys = some b → (Op.equalIn d t (valOf P t xs) (valOf P t ys)).run P w = .ok b w)
    {e : TypeId} {ks : List Bool} (he : plainEq P d e = some ks) (xs ys : List Value) : ∀ (n k : Nat) (b : Bool), csEq (rep n ks) (xs.drop (k * ks.length)) (ys.drop (k * ks.length)) = some b →
      (k + n) * ks.length ≤ xs.length → (k + n) * ks.length ≤ ys.length →
      (forIn (m := Sem) (List.range' k n) ((none, ()) : Option Bool × Unit) fun i _ => do
        let a ← part e xs.toArray (i * ks.length)
        let c ← part e ys.toArray (i * ks.length)
        let r ← Op.equalIn d e a c
        if (!r) = true then pure (ForInStep.done (some false, ())) else pure (ForInStep.yield (none, ()))).run P w = .ok (if b then (none, ()) else (some false, ())) w := by
  intro n
  induction n with
  | zero =>
    intro k b hb _ _
    simp only [rep] at hb
    have hl := csEq_length hb
    cases hx : xs.drop (k * ks.length) <;> cases hy : ys.drop (k * ks.length) <;> rw [hx, hy] at hb <;> simp [csEq] at hb
    subst hb
    simp
  | succ n ihn =>
    intro k b hb hx hy
    simp only [rep] at hb
    obtain ⟨b1, b2, e1, e2, rfl⟩ := csEq_split hb
    have hx' : k * ks.length + ks.length ≤ xs.length := by
      have : (k + (n + 1)) * ks.length = k * ks.length + ks.length + n * ks.length := by rw [Nat.add_mul, Nat.add_mul]; omega
      omega
    have hy' : k * ks.length + ks.length ≤ ys.length := by
      have : (k + (n + 1)) * ks.length = k * ks.length + ks.length + n * ks.length := by rw [Nat.add_mul, Nat.add_mul]; omega
      omega
    have hk : k * ks.length + ks.length = (k + 1) * ks.length := by rw [Nat.add_mul]; omega
    simp only [List.drop_drop, hk] at e2
    have hr := ihn (k + 1) b2 e2 (by rwa [show k + 1 + n = k + (n + 1) by omega]) (by rwa [show k + 1 + n = k + (n + 1) by omega])
    simp only [List.range'_succ, List.forIn_cons, Sem.run_bind, part_run he xs _ hx', part_run he ys _ hy', Result.andThen_ok, ih e ks _ _ b1 he e1]
    cases b1
    · simp
    · simpa using hr
theorem equalIn_run : ∀ (d : Nat) (t : TypeId) (ks : List Bool) (xs ys : List Value) (b : Bool), plainEq P d t = some ks → csEq ks xs ys = some b → (Op.equalIn d t (valOf P t xs) (valOf P t ys)).run P w = .ok b w := by
  intro d
  induction d with
  | zero => intro t ks xs ys b h; simp [plainEq] at h
  | succ d ih =>
    intro t ks xs ys b h hb
    have hl := csEq_length hb
    have hsz := plainEq_size h
    simp only [plainEq] at h
    split at h
    · rename_i i h1 h2
      simp at h; obtain ⟨_, rfl⟩ := h
      have ht : tySz P t = some none := by simp [tySz, h1, h2]
      match xs, ys, hl with
      | [x], [y], _ =>
        simp only [valOf, ht, List.headD_cons]
        have hb := csEq_one hb
        cases x <;> cases y <;> simp [cEq] at hb
        subst hb
        rw [run_equalIn_bool w d t _ _ h1]
    · rename_i k i h1 h2
      simp at h; obtain ⟨_, rfl⟩ := h
      have ht : tySz P t = some none := by simp [tySz, h1, h2]
      match xs, ys, hl with
      | [x], [y], _ =>
        simp only [valOf, ht, List.headD_cons]
        have hb := csEq_one hb
        cases x <;> cases y <;> simp [cEq] at hb
        obtain ⟨rfl, rfl⟩ := hb
        exact run_equalIn_int w d t _ k _ _ h1
    · rename_i fs i h1 h2
      split at h
      · cases h
      · rename_i hst
        split at h
        · rename_i ks' h3
          split at h
          · rename_i hsize
            simp at h; subst h
            have ht : tySz P t = some (some i.size) := by simp [tySz, h1, h2]
            simp only [valOf, ht]
            have hf : P.fieldsOf t = fs := by simp [Program.fieldsOf, h1]
            rw [run_equalIn_struct w d t _ _ (by rw [hf]; exact h1) (by simpa using hst), hf]
            exact eqFields_run d ih xs ys fs.toList 0 ks' b h3 (by simpa using hb) (by omega) (by omega)
          · cases h
        · cases h
    · rename_i n e i h1 h2
      split at h
      · rename_i ks' h3
        split at h
        · rename_i hsize
          simp at h; subst h
          have ht : tySz P t = some (some i.size) := by simp [tySz, h1, h2]
          simp only [valOf, ht]
          simp only [Op.equalIn, Sem.run_bind, run_underlying h1, Result.andThen_ok]
          obtain ⟨i', hi', hs'⟩ := plainEq_info h3
          rw [run_size hi', hs']
          simp only [Result.andThen_ok]
          have hlen : ∀ l : List Value, l.length = (rep n ks').length → n * ks'.length ≤ l.length := fun l h => by rw [h, rep_length]; exact Nat.le_refl _
          have := arr_run d ih h3 xs ys n 0 b (by simpa using hb) (by simpa using hlen xs hl.1) (by simpa using hlen ys hl.2)
          simp only [Std.Legacy.Range.forIn_eq_forIn_range', Std.Legacy.Range.size, Nat.sub_zero, Nat.add_one_sub_one, Nat.div_one, this]
          cases b <;> simp
        · cases h
      · cases h
    · cases h
end
end Go.Sl
