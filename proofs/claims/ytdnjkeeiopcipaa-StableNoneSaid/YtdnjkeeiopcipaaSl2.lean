/-
  The heap of named objects in a world; what a step may change; the frame.
-/
import Derived.Test.YtdnjkeeiopcipaaSl1
set_option linter.unusedSimpArgs false
set_option linter.unusedSectionVars false
set_option linter.unusedVariables false
namespace Go.Sl

inductive Ob where
  | box (t : TypeId) (cs : List SV)
  | arr (e : TypeId) (sz len : Nat) (cs : List SV)
  | map (es : List (Nat × SV × SV)) (clock : Nat)
  /-- a map that is nil -/
  | nomap
  | iter (m : Option Nat) (since : Nat) (seen : List Nat) (stepped : Nat)
  /-- the record of a loop over a function -/
  | rcd (N : Nat) (ts : List Nat) (cs : List SV) (ps : List Nat) (as bd : Code) (st : LoopState) (pe : Option Code)

abbrev Hp := List (Nat × Ob)
def lk (h : Hp) (n : Nat) : Option Ob := h.lookup n

def RpE (p : Nat → Prop) (μ : Nat → Nm) (M : Mem) : List (Nat × SV × SV) → List MapEntry → Prop
  | [], es => es = []
  | (b, k, v) :: r, es => ∃ e es', es = e :: es' ∧ e.born = b ∧ Rp p μ M k e.key ∧ Rp p μ M v e.val ∧ RpE p μ M r es'
theorem RpE.more {p p' : Nat → Prop} {μ μ' : Nat → Nm} {M M' : Mem} (hp : ∀ n, p n → p' n) (hμ : ∀ n, p n → μ' n = μ n) (hM : Mem.le M M') :
    ∀ (r : List (Nat × SV × SV)) (es : List MapEntry), RpE p μ M r es → RpE p' μ' M' r es
  | [], es, h => h
  | (b, k, v) :: r, es, ⟨e, es', h1, h2, h3, h4, h5⟩ => ⟨e, es', h1, h2, h3.more hp hμ hM, h4.more hp hμ hM, RpE.more hp hμ hM r es' h5⟩

def ObRep (p : Nat → Prop) (μ : Nat → Nm) (M : Mem) (w : World) (m : Nm) : Ob → Prop
  | .box t cs => m.live = true ∧ ∃ vs : Array Value, w.heap[m.blk]? = some (.cells vs t (0, 0)) ∧ Rps p μ M cs vs.toList
  | .arr e sz len cs => (m.live = false ∧ len = 0 ∧ cs = []) ∨ m.live = true ∧ ∃ vs : Array Value, w.heap[m.blk]? = some (.cells vs e (0, 0)) ∧ cs.length = len * sz ∧ len ≤ m.cap ∧ m.cap ≤ maxLen ∧ vs.size = m.cap * sz ∧ Rps p μ M cs (vs.toList.take (len * sz))
  | .map es c => m.live = true ∧ ∃ ens : Array MapEntry, w.heap[m.blk]? = some (.map ens c) ∧ RpE p μ M es ens.toList
  | .nomap => m.live = false
  | .iter mo since seen st => m.live = true ∧ (∀ n, mo = some n → p n) ∧ w.heap[m.blk]? = some (.mapIter (mo.map fun n => (μ n).blk) since seen.toArray st)
  | .rcd N ts cs ps as bd st pe => m.live = true ∧ ∃ r : Loop, w.heap[m.blk]? = some (.loop r) ∧ Rps p μ M cs (ts.map fun t => r.tmps.getD t undef) ∧ r.tmps.size = N ∧ r.params.toList = ps ∧ r.assign = as ∧ r.body = bd ∧ r.state = st ∧ r.pending = pe

theorem ObRep.lt {p : Nat → Prop} {μ : Nat → Nm} {M : Mem} {w : World} {m : Nm} {ob : Ob} (h : ObRep p μ M w m ob) (hl : m.live = true) : m.blk < w.heap.size := by
  have key : ∀ {x : Obj}, w.heap[m.blk]? = some x → m.blk < w.heap.size := fun hx => (Array.getElem?_eq_some_iff.1 hx).1
  cases ob <;> simp only [ObRep] at h
  case box => obtain ⟨_, _, h, _⟩ := h; exact key h
  case arr =>
    rcases h with ⟨h, _⟩ | ⟨_, _, h, _⟩
    · rw [hl] at h; cases h
    · exact key h
  case map => obtain ⟨_, _, h, _⟩ := h; exact key h
  case nomap => rw [hl] at h; cases h
  case iter => exact key h.2.2
  case rcd => obtain ⟨_, _, h, _⟩ := h; exact key h
theorem ObRep.more {p p' : Nat → Prop} {μ μ' : Nat → Nm} {M M' : Mem} {w w' : World} {m : Nm} {ob : Ob} (h : ObRep p μ M w m ob) (hp : ∀ n, p n → p' n) (hμ : ∀ n, p n → μ' n = μ n) (hM : Mem.le M M')
    (hw : m.live = true → w'.heap[m.blk]? = w.heap[m.blk]?) : ObRep p' μ' M' w' m ob := by
  cases ob <;> simp only [ObRep] at h ⊢
  case box => obtain ⟨h0, vs, h1, h2⟩ := h; exact ⟨h0, vs, (hw h0).trans h1, h2.more hp hμ hM⟩
  case arr =>
    rcases h with h | ⟨h0, vs, h1, h2, h3, h4, h5, h6⟩
    · exact .inl h
    · exact .inr ⟨h0, vs, (hw h0).trans h1, h2, h3, h4, h5, h6.more hp hμ hM⟩
  case map => obtain ⟨h0, vs, h1, h2⟩ := h; exact ⟨h0, vs, (hw h0).trans h1, RpE.more hp hμ hM _ _ h2⟩
  case nomap => exact h
  case iter mo _ _ _ =>
    refine ⟨h.1, fun n hn => hp n (h.2.1 n hn), (hw h.1).trans (h.2.2.trans ?_)⟩
    cases mo with
    | none => rfl
    | some n => simp [hμ n (h.2.1 n rfl)]
  case rcd => obtain ⟨h0, r, h1, h2, h3⟩ := h; exact ⟨h0, r, (hw h0).trans h1, h2.more hp hμ hM, h3⟩

structure SatF (p : Nat → Prop) (μ : Nat → Nm) (M : Mem) (c : Nat → Option Ob) (w : World) : Prop where
  mem : ∀ b o v, M b o = some v → w.cell? ⟨b, o, none⟩ = some v
  obs : ∀ n ob, c n = some ob → p n ∧ ObRep p μ M w (μ n) ob ∧ ((μ n).live = true → ∀ o, M (μ n).blk o = none)
  inj : ∀ n m, c n ≠ none → c m ≠ none → (μ n).live = true → (μ m).live = true → (μ n).blk = (μ m).blk → n = m

/-- The tape stands; draws only grow. -/
def Tape (w w' : World) : Prop := w'.tape = w.tape ∧ w.drawn ≤ w'.drawn
theorem Tape.refl (w : World) : Tape w w := ⟨rfl, Nat.le_refl _⟩
theorem Tape.trans {w w' w'' : World} (h : Tape w' w'') (k : Tape w w') : Tape w w'' := ⟨h.1.trans k.1, Nat.le_trans k.2 h.2⟩

structure Ev (c : Nat → Option Ob) (new : Nat → Prop) (μ : Nat → Nm) (M : Mem) (w : World) (c' : Nat → Option Ob) (μ' : Nat → Nm) (M' : Mem) (w' : World) : Prop where
  old : ∀ n, ¬ new n → μ' n = μ n
  mem : Mem.le M M'
  frame : ∀ b, b < w.heap.size → (∀ n, c n ≠ none → (μ n).live = true → (μ n).blk ≠ b) → w'.heap[b]? = w.heap[b]? ∧ ∀ o, M' b o = M b o
  size : w.heap.size ≤ w'.heap.size
  names : ∀ n, c' n ≠ none → (new n ∧ ((μ' n).live = true → w.heap.size ≤ (μ' n).blk ∨ ∃ m, c m ≠ none ∧ (μ m).live = true ∧ (μ m).blk = (μ' n).blk)) ∨ (¬ new n ∧ c n ≠ none)
  os : w'.os = w.os
  tape : Tape w w'
  output : w'.output = w.output

def mrg (H F F' : Nat → Option Ob) (n : Nat) : Option Ob := if (F n).isSome || (F' n).isSome then F' n else H n

theorem mrg_in {H F F' : Nat → Option Ob} {n : Nat} (h : F n ≠ none ∨ F' n ≠ none) : mrg H F F' n = F' n := by
  unfold mrg
  rw [if_pos]
  rcases h with h | h <;> simp [Option.isSome_iff_ne_none, h]
theorem mrg_out {H F F' : Nat → Option Ob} {n : Nat} (h : F n = none) (h' : F' n = none) : mrg H F F' n = H n := by simp [mrg, h, h']

section
variable {p p' : Nat → Prop} {μ μ' : Nat → Nm} {M M' : Mem} {H F F' : Nat → Option Ob} {w w' : World} {new : Nat → Prop}

theorem SatF.sub (hS : SatF p μ M H w) (hsub : ∀ n ob, F n = some ob → H n = some ob) : SatF p μ M F w :=
  have hne : ∀ n, F n ≠ none → H n ≠ none := fun n h => by
    obtain ⟨ob, ho⟩ := Option.ne_none_iff_exists'.1 h
    rw [hsub n ob ho]; simp
  ⟨hS.mem, fun n ob h => hS.obs n ob (hsub n ob h), fun n m hn hm => hS.inj n m (hne n hn) (hne m hm)⟩

theorem SatF.lt (hS : SatF p μ M H w) {n : Nat} (h : H n ≠ none) (hl : (μ n).live = true) : (μ n).blk < w.heap.size := by
  obtain ⟨ob, ho⟩ := Option.ne_none_iff_exists'.1 h
  exact (hS.obs n ob ho).2.1.lt hl

theorem SatF.framed (hS : SatF p μ M H w) (hsub : ∀ n ob, F n = some ob → H n = some ob) (hnew : ∀ n, new n → ¬ p n)
    (hE : Ev F new μ M w F' μ' M' w') (hS' : SatF p' μ' M' F' w') (hp : ∀ n, p n → p' n) :
    SatF p' μ' M' (mrg H F F') w' ∧ Ev H new μ M w (mrg H F F') μ' M' w' := by
  have hne : ∀ n, F n ≠ none → H n ≠ none := fun n h => by
    obtain ⟨ob, ho⟩ := Option.ne_none_iff_exists'.1 h
    rw [hsub n ob ho]; simp
  have hpn : ∀ n, H n ≠ none → p n := fun n h => by
    obtain ⟨ob, ho⟩ := Option.ne_none_iff_exists'.1 h
    exact (hS.obs n ob ho).1
  have hold : ∀ n, p n → μ' n = μ n := fun n h => hE.old n fun h' => hnew n h' h
  have far : ∀ n, H n ≠ none → F n = none → (μ n).live = true → ∀ m, F m ≠ none → (μ m).live = true → (μ m).blk ≠ (μ n).blk := fun n hn hf l1 m hm l2 e => by
    have := hS.inj m n (hne m hm) hn l2 l1 e
    subst this
    exact hm hf
  have cut : ∀ n, (F n ≠ none ∨ F' n ≠ none) ∨ (F n = none ∧ F' n = none) := fun n => by
    cases h1 : F n <;> cases h2 : F' n <;> simp
  refine ⟨⟨hS'.mem, fun n ob hn => ?_, fun n m hn hm ln lm e => ?_⟩, ⟨hE.old, hE.mem, fun b hb hf => ?_, hE.size, fun n hn => ?_, hE.os, hE.tape, hE.output⟩⟩
  · rcases cut n with h | ⟨h1, h2⟩
    · rw [mrg_in h] at hn
      exact hS'.obs n ob hn
    · rw [mrg_out h1 h2] at hn
      obtain ⟨a1, a2, a3⟩ := hS.obs n ob hn
      have hHn : H n ≠ none := by rw [hn]; simp
      have hb := fun l : (μ n).live = true => hE.frame (μ n).blk (a2.lt l) (far n hHn h1 l)
      refine ⟨hp n a1, ?_, ?_⟩
      · rw [hold n a1]
        exact a2.more hp hold hE.mem fun l => (hb l).1
      · intro l o
        rw [hold n a1] at l ⊢
        rw [(hb l).2]
        exact a3 l o
  · have one : ∀ n m, F' n ≠ none → (F m = none ∧ F' m = none) → H m ≠ none → (μ' n).live = true → (μ' m).live = true → (μ' n).blk = (μ' m).blk → False := by
      intro n m hn hm hHm ln lm e
      have pm := hpn m hHm
      rw [hold m pm] at e lm
      rcases hE.names n hn with ⟨_, hh⟩ | ⟨h1, h2⟩
      · rcases hh ln with h | ⟨q, hq, lq, e'⟩
        · have := hS.lt hHm lm; omega
        · exact far m hHm hm.1 lm q hq lq (e'.trans e)
      · rw [hE.old n h1] at e ln
        exact far m hHm hm.1 lm n h2 ln e
    rcases cut n with hn' | hn' <;> rcases cut m with hm' | hm'
    · rw [mrg_in hn'] at hn; rw [mrg_in hm'] at hm
      exact hS'.inj n m hn hm ln lm e
    · rw [mrg_in hn'] at hn; rw [mrg_out hm'.1 hm'.2] at hm
      exact (one n m hn hm' hm ln lm e).elim
    · rw [mrg_out hn'.1 hn'.2] at hn; rw [mrg_in hm'] at hm
      exact (one m n hm hn' hn lm ln e.symm).elim
    · rw [mrg_out hn'.1 hn'.2] at hn; rw [mrg_out hm'.1 hm'.2] at hm
      rw [hold n (hpn n hn)] at e ln
      rw [hold m (hpn m hm)] at e lm
      exact hS.inj n m hn hm ln lm e
  · exact hE.frame b hb fun n hn => hf n (hne n hn)
  · rcases cut n with h | ⟨h1, h2⟩
    · rw [mrg_in h] at hn
      rcases hE.names n hn with ⟨a, hh⟩ | ⟨a, b⟩
      · refine .inl ⟨a, fun l => ?_⟩
        rcases hh l with b | ⟨m, hm, lm, e⟩
        · exact .inl b
        · exact .inr ⟨m, hne m hm, lm, e⟩
      · exact .inr ⟨a, hne n b⟩
    · rw [mrg_out h1 h2] at hn
      exact .inr ⟨fun h => hnew n h (hpn n hn), hn⟩

theorem Ev.refl (c : Nat → Option Ob) (new : Nat → Prop) (μ : Nat → Nm) (M : Mem) (w : World) (h : ∀ n, c n ≠ none → ¬ new n) : Ev c new μ M w c μ M w :=
  ⟨fun _ _ => rfl, Mem.le_refl M, fun _ _ _ => ⟨rfl, fun _ => rfl⟩, Nat.le_refl _, fun n hn => .inr ⟨h n hn, hn⟩, rfl, Tape.refl _, rfl⟩

theorem Ev.trans {c c1 c2 : Nat → Option Ob} {new1 new2 : Nat → Prop} {μ1 μ2 : Nat → Nm} {M1 M2 : Mem} {w1 w2 : World}
    (h1 : Ev c new1 μ M w c1 μ1 M1 w1) (h2 : Ev c1 new2 μ1 M1 w1 c2 μ2 M2 w2) : Ev c (fun n => new1 n ∨ new2 n) μ M w c2 μ2 M2 w2 where
  old n hn := (h2.old n fun h => hn (.inr h)).trans (h1.old n fun h => hn (.inl h))
  mem := Mem.le_trans h1.mem h2.mem
  frame b hb hf := by
    have e1 := h1.frame b hb hf
    have e2 := h2.frame b (Nat.lt_of_lt_of_le hb h1.size) fun n hn ln he => by
      rcases h1.names n hn with ⟨_, hh⟩ | ⟨h, h'⟩
      · rcases hh ln with h | ⟨m, hm, lm, e⟩
        · omega
        · exact hf m hm lm (e.trans he)
      · rw [h1.old n h] at he ln
        exact hf n h' ln he
    exact ⟨e2.1.trans e1.1, fun o => (e2.2 o).trans (e1.2 o)⟩
  size := Nat.le_trans h1.size h2.size
  names n hn := by
    rcases h2.names n hn with ⟨a, hh⟩ | ⟨a, b⟩
    · refine .inl ⟨.inr a, fun l => ?_⟩
      rcases hh l with b | ⟨m, hm, lm, e⟩
      · exact .inl (Nat.le_trans h1.size b)
      · rcases h1.names m hm with ⟨_, hh'⟩ | ⟨h, h'⟩
        · rcases hh' lm with h | ⟨q, hq, lq, e'⟩
          · exact .inl (by rw [← e]; exact h)
          · exact .inr ⟨q, hq, lq, e'.trans e⟩
        · rw [h1.old m h] at e lm
          exact .inr ⟨m, h', lm, e⟩
    · by_cases hn2 : new1 n
      · rcases h1.names n b with ⟨_, hh'⟩ | ⟨h, h'⟩
        · refine .inl ⟨.inl hn2, fun l => ?_⟩
          rw [h2.old n a] at l ⊢
          exact hh' l
        · exact absurd hn2 h
      · rcases h1.names n b with ⟨h, _⟩ | ⟨h, h'⟩
        · exact absurd h hn2
        · exact .inr ⟨fun hh => hh.elim hn2 a, h'⟩
  os := h2.os.trans h1.os
  tape := h2.tape.trans h1.tape
  output := h2.output.trans h1.output

/-- Another set of new names that says the same of the names in hand. -/
theorem Ev.new_iff {c c' : Nat → Option Ob} {new new' : Nat → Prop} (h : Ev c new μ M w c' μ' M' w') (hi : ∀ n, new n ↔ new' n) : Ev c new' μ M w c' μ' M' w' := by
  have : new = new' := funext fun n => propext (hi n)
  rw [← this]; exact h
/-- Fewer objects are known at the end. -/
theorem Ev.fewer {c c' c'' : Nat → Option Ob} (h : Ev c new μ M w c' μ' M' w') (hc : ∀ n, c'' n ≠ none → c' n ≠ none) : Ev c new μ M w c'' μ' M' w' :=
  ⟨h.old, h.mem, h.frame, h.size, fun n hn => h.names n (hc n hn), h.os, h.tape, h.output⟩
theorem Ev.drew {c c' : Nat → Option Ob} (h : Ev c new μ M w c' μ' M' w') : Ev c new μ M w c' μ' M' w'.drew :=
  ⟨h.old, h.mem, h.frame, h.size, h.names, h.os, ⟨h.tape.1, Nat.le_trans h.tape.2 (Nat.le_succ _)⟩, h.output⟩
theorem SatF.drew (h : SatF p μ M H w) : SatF p μ M H w.drew := by
  refine ⟨h.mem, fun n ob hn => ?_, h.inj⟩
  obtain ⟨a, b, c⟩ := h.obs n ob hn
  exact ⟨a, b.more (fun _ h => h) (fun _ _ => rfl) (Mem.le_refl M) fun _ => rfl, c⟩
theorem SatF.more (h : SatF p μ M H w) (hp : ∀ n, p n → p' n) : SatF p' μ M H w := by
  refine ⟨h.mem, fun n ob hn => ?_, h.inj⟩
  obtain ⟨a, b, c⟩ := h.obs n ob hn
  exact ⟨hp n a, b.more hp (fun _ _ => rfl) (Mem.le_refl M) fun _ => rfl, c⟩
end
end Go.Sl
