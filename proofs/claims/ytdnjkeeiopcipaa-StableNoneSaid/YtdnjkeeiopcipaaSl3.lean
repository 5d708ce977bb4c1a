/-
  Operations: a small form of them, what they do to shadow values, and that the machine does so.
-/
import Derived.Test.YtdnjkeeiopcipaaSl2
set_option linter.unusedSimpArgs false
set_option linter.unusedSectionVars false
set_option linter.unusedVariables false
namespace Go.Sl
open Go.RowKit

inductive X where
  | t (n : Nat)
  | k (s : SV)
  deriving Inhabited

inductive SO where
  | mv (x : X)
  | pick (c a b : X)
  | alloc (t : TypeId) (z : List SV)
  | box (t : TypeId) (x : X)
  | load (sz : Option Nat) (x : X)
  | store (sz : Nat) (x v : X)
  | fld (off : Nat) (x : X)
  | idxA (len sz : Nat) (x i : X)
  | idxS (sz : Nat) (x i : X)
  | field (off : Nat) (sz : Option Nat) (x : X)
  | index (len sz : Nat) (agg : Bool) (x i : X)
  | bin (op : BinOp) (x y : X)
  | eqv (neg : Bool) (ks : List Bool) (x y : X)
  | eqb (neg : Bool) (x y : X)
  | eqnil (neg : Bool) (kd : Nat) (x : X)
  | not (x : X)
  | neg (x : X)
  | slcA (len sz : Nat) (x : X) (lo hi : Option X)
  | conv (k : IntKind) (x : X)
  | ext (i : Nat) (x : X)
  | nilc (x : X)
  | bld (z : List SV) (parts : List (Nat × Nat × X))
  | bsl (e sz len : Nat) (z : List SV) (parts : List (Nat × Nat × X))
  | slc (sz : Nat) (x : X) (lo hi : Option X)
  | len (x : X)
  | mx (x y : X)
  | mn (x y : X)
  | app (e sz bytes : Nat) (s x : X)
  | mkf (f : Fn) (first cap : List X)
  | mkm
  | mks (e sz bytes : Nat) (z : List SV) (len cap : X)
  | look (ks : List Bool) (agg : Bool) (z : SV) (m i : X) (ok : Bool)
  | mset (ks : List Bool) (agg : Bool) (m i v : X)
  | mlen (m : X)
  | mdel (ks : List Bool) (agg : Bool) (m i : X)
  | mrange (m : X)
  | mnext (it : X)
  | mentry (it : X)
  | copy (e sz : Nat) (d s : X)
  | call (f : X) (args : List X)
  deriving Inhabited

/-- A constant cell. -/
def cC : Value → Option SV
  | .int k n => some (.d (.int k n))
  | .bool b => some (.d (.bool b))
  | .pointer none => some (.d .nilp)
  | .map none => some (.d .nilm)
  | .nilFunc => some (.d .nilf)
  | .slice none 0 0 => some (.d .nils)
  | _ => none
def cCs : List Value → Option (List SV)
  | [] => some []
  | v :: vs => match cC v, cCs vs with
    | some s, some ss => some (s :: ss)
    | _, _ => none
def cV : Value → Option SV
  | .agg cs => (cCs cs.toList).map .agg
  | v => cC v
def cX : Operand → Option X
  | .tmp t => some (.t t)
  | .const v => (cV v).map .k
  | .func f => some (.k (.fn (.func f) [] []))
  | .global _ => none
def cXs : List Operand → Option (List X)
  | [] => some []
  | v :: vs => match cX v, cXs vs with
    | some s, some ss => some (s :: ss)
    | _, _ => none

theorem cC_rep {p : Nat → Prop} {μ : Nat → Nm} {M : Mem} : ∀ {v : Value} {s : SV}, cC v = some s → Rp p μ M s v ∧ s.isOne = true := by
  intro v s h
  unfold cC at h
  split at h <;> first | cases h | skip
  all_goals exact ⟨Rp.d_iff.2 (by simp [RepD]), rfl⟩
theorem cCs_rep {p : Nat → Prop} {μ : Nat → Nm} {M : Mem} : ∀ {vs : List Value} {ss : List SV}, cCs vs = some ss → Rps p μ M ss vs ∧ ss.all SV.isOne = true := by
  intro vs
  induction vs with
  | nil => intro ss h; simp [cCs] at h; subst h; exact ⟨Rps.nil_iff.2 rfl, rfl⟩
  | cons v vs ih =>
    intro ss h
    simp only [cCs] at h
    split at h
    · rename_i s ss' h1 h2
      simp at h
      subst h
      obtain ⟨a1, a2⟩ := cC_rep (p := p) (μ := μ) (M := M) h1
      obtain ⟨b1, b2⟩ := ih h2
      exact ⟨Rps.cons_iff.2 ⟨_, _, rfl, a1, b1⟩, by simp [a2, b2]⟩
    · cases h
theorem cV_rep {p : Nat → Prop} {μ : Nat → Nm} {M : Mem} {v : Value} {s : SV} (h : cV v = some s) : Rp p μ M s v := by
  unfold cV at h
  split at h
  · rename_i cs
    obtain ⟨ss, h1, rfl⟩ := Option.map_eq_some_iff.1 h
    exact Rp.agg_iff.2 ⟨cs, rfl, (cCs_rep h1).1⟩
  · exact (cC_rep h).1

def ev (E : Nat → Option SV) : X → Option SV
  | .t n => E n
  | .k s => some s
def evs (E : Nat → Option SV) : List X → Option (List SV)
  | [] => some []
  | x :: xs => match ev E x, evs E xs with
    | some s, some ss => some (s :: ss)
    | _, _ => none

/-- What is known of the slots that an operation looks at. -/
def Known (E : Nat → Option SV) (xs : Array Operand) (p : Nat → Prop) (μ : Nat → Nm) (M : Mem) (a : Act) : Prop :=
  ∀ t, Operand.tmp t ∈ xs → ∀ s, E t = some s → Rp p μ M s (a.tmps.getD t undef)

section
variable {E : Nat → Option SV} {xs : Array Operand} {p : Nat → Prop} {μ : Nat → Nm} {M : Mem} {a : Act}
theorem Known.get (h : Known E xs p μ M a) {o : Operand} {x : X} {s : SV} (ho : o ∈ xs) (hx : cX o = some x) (hs : ev E x = some s) : Rp p μ M s (a.eval o) := by
  cases o with
  | tmp t =>
    simp [cX] at hx
    subst hx
    exact h t ho s hs
  | const v =>
    simp only [cX] at hx
    obtain ⟨s', h1, rfl⟩ := Option.map_eq_some_iff.1 hx
    simp [ev] at hs
    subst hs
    exact cV_rep h1
  | func f =>
    simp [cX] at hx
    subst hx
    simp [ev] at hs
    subst hs
    exact Rp.fn_iff.2 ⟨#[], #[], rfl, Rps.nil_iff.2 rfl, Rps.nil_iff.2 rfl⟩
  | global g => simp [cX] at hx
theorem Known.gets (h : Known E xs p μ M a) : ∀ {os : List Operand} {ys : List X} {ss : List SV}, (∀ o ∈ os, o ∈ xs) → cXs os = some ys → evs E ys = some ss → Rps p μ M ss (os.map a.eval)
  | [], ys, ss, _, hx, hs => by
    simp [cXs] at hx
    subst hx
    simp [evs] at hs
    subst hs
    exact Rps.nil_iff.2 rfl
  | o :: os, ys, ss, ho, hx, hs => by
    simp only [cXs] at hx
    split at hx
    · rename_i y ys' h1 h2
      simp at hx
      subst hx
      simp only [evs] at hs
      split at hs
      · rename_i s ss' h3 h4
        simp at hs
        subst hs
        exact Rps.cons_iff.2 ⟨_, _, rfl, h.get (ho o (by simp)) h1 h3, h.gets (fun o' ho' => ho o' (by simp [ho'])) h2 h4⟩
      · cases hs
    · cases hx
end

/-- What an operation does: its value, the objects that it looks at, these and new ones behind it, how many new names. -/
structure Eff where
  v : SV
  F : Hp
  F' : Hp
  nk : Nat
  ob : Prop

/-- Nothing is fenced off; in a round of a loop over a function, or in none. -/
def Wide (r : Option Nat) : Fence := { Fence.wide with round := r }
theorem callsIn_W {r : Option Nat} {n : Nat} {P : Program} {f : FuncId} {args : Array Value} {w : World} {R : Ending → World → Prop} : CallsIn (Wide r) n P f args w R ↔ Calls P f args w R :=
  (callsIn_wide (n := n) : CallsIn Fence.wide n P f args w R ↔ _)

def OT (P : Program) (o : Oper) (E : Nat → Option SV) (F : Hp) (new : Nat → Prop) (v : SV) (F' : Hp) : Prop :=
  ∀ (rd : Option Nat) (p : Nat → Prop) (μ : Nat → Nm) (M : Mem) (a : Act) (w : World) (K : Act → World → Prop) (Q : Exit → Act → World → Prop), (∀ n, new n → ¬ p n) →
    Known E o.op.operands p μ M a → SatF p μ M (lk F) w →
    (∀ u μ' M' w', Rp (fun n => p n ∨ new n) μ' M' v u → SatF (fun n => p n ∨ new n) μ' M' (lk F') w' → Ev (lk F) new μ M w (lk F') μ' M' w' → K (a.put o.dst u) w') →
    o.wpIn (Wide rd) 0 P a w K Q

section
variable {P : Program} {o : Oper} {E : Nat → Option SV} {F F' : Hp} {new : Nat → Prop} {v : SV}

theorem semAt_run {rd : Option Nat} {a : Act} {w w' : World} {x : Next} (hx : ∀ d, x ≠ .defer d) (h : (execOp a.eval o).run P w = .ok x w') : (o.semAt rd a.eval).run P w = .ok x w' := by
  by_cases hd : ∃ c, o.op = .defer c
  · exfalso
    obtain ⟨c, hd⟩ := hd
    simp only [execOp, hd, Sem.run_bind] at h
    cases hr : (resolve a.eval c o.type).run P w with
    | ok d w1 =>
      rw [hr] at h
      simp only [Result.andThen_ok, Sem.run_pure] at h
      injection h with h _
      exact hx d h.symm
    | halt z w1 => rw [hr] at h; simp [Result.andThen] at h
  · rw [Oper.semAt_eq rd _ _ (fun c e => hd ⟨c, e⟩)]; exact h
theorem wp_value {rd : Option Nat} {a : Act} {w w' : World} {K : Act → World → Prop} {Q : Exit → Act → World → Prop} {u : Value} (h : (execOp a.eval o).run P w = .ok (.value u) w') (hk : K (a.put o.dst u) w') : o.wpIn (Wide rd) 0 P a w K Q := by
  refine ⟨fun _ _ => trivial, ?_⟩
  rw [semAt_run (fun d e => by cases e) h]; exact hk
theorem wp_none {rd : Option Nat} {a : Act} {w w' : World} {K : Act → World → Prop} {Q : Exit → Act → World → Prop} (h : (execOp a.eval o).run P w = .ok .skip w') (hk : K (a.put o.dst undef) w') : o.wpIn (Wide rd) 0 P a w K Q := by
  refine ⟨fun _ _ => trivial, ?_⟩
  rw [semAt_run (fun d e => by cases e) h]; exact hk

/-- An operation that changes nothing. -/
theorem OT.pure {k : Nat} (h : ∀ (p : Nat → Prop) (μ : Nat → Nm) (M : Mem) (a : Act) (w : World), Known E o.op.operands p μ M a → SatF p μ M (lk F) w →
    ∃ u, (execOp a.eval o).run P w = .ok (.value u) w ∧ Rp p μ M v u) : OT P o E F (fun n => k ≤ n ∧ n < k + 0) v F := by
  intro rd p μ M a w K Q hnew hkn hS hK
  obtain ⟨u, hr, hu⟩ := h p μ M a w hkn hS
  refine wp_value hr (hK u μ M w (hu.more (fun n h => .inl h) (fun _ _ => rfl) (Mem.le_refl M)) (hS.more fun n h => .inl h) (Ev.refl _ _ _ _ _ fun n hn h => by omega))

def upN (μ : Nat → Nm) (k : Nat) (m : Nm) : Nat → Nm := fun n => if n = k then m else μ n
theorem upN_same (μ : Nat → Nm) (k : Nat) (m : Nm) : upN μ k m k = m := by simp [upN]
theorem upN_other (μ : Nat → Nm) (k : Nat) (m : Nm) {n : Nat} (h : n ≠ k) : upN μ k m n = μ n := by simp [upN, h]
theorem upN_p {p : Nat → Prop} {μ : Nat → Nm} {k : Nat} {m : Nm} (hk : ¬ p k) : ∀ n, p n → upN μ k m n = μ n := fun n hn => upN_other μ k m fun e => hk (e ▸ hn)

theorem heap_new (w : World) (o : Obj) : (w.alloc o).heap[w.heap.size]? = some o := by show (w.heap.push o)[w.heap.size]? = _; simp
theorem heap_old (w : World) (o : Obj) {b : Nat} (h : b < w.heap.size) : (w.alloc o).heap[b]? = w.heap[b]? := Below.heap_alloc w o b h

theorem mem_alloc {M : Mem} {w : World} (o : Obj) (h : ∀ b i v, M b i = some v → w.cell? ⟨b, i, none⟩ = some v) : ∀ b i v, M b i = some v → (w.alloc o).cell? ⟨b, i, none⟩ = some v := by
  intro b i v hm
  have := h b i v hm
  rw [World.cell?_alloc_lt w o ⟨b, i, none⟩ (World.block_lt_of_cell? w ⟨b, i, none⟩ this)]
  exact this
theorem mem_lt {M : Mem} {w : World} {b : Nat} (h : ∀ b i v, M b i = some v → w.cell? ⟨b, i, none⟩ = some v) (hb : w.heap.size ≤ b) : ∀ i, M b i = none := by
  intro i
  cases hm : M b i with
  | none => rfl
  | some v =>
    have := World.block_lt_of_cell? w ⟨b, i, none⟩ (h b i v hm)
    simp at this
    omega

theorem lk_nil (n : Nat) : lk [] n = none := rfl
theorem lk_one {k : Nat} {ob : Ob} (n : Nat) : lk [(k, ob)] n = if n = k then some ob else none := by
  unfold lk
  simp only [List.lookup]
  by_cases h : n = k
  · subst h; simp
  · rw [if_neg h, show (n == k) = false by simpa using h]

/-- An operation that makes one object, and looks at none. -/
theorem OT.make {k : Nat} {ob : Ob} (h : ∀ (p : Nat → Prop) (μ : Nat → Nm) (M : Mem) (a : Act) (w : World), Known E o.op.operands p μ M a → (∀ b o v, M b o = some v → w.cell? ⟨b, o, none⟩ = some v) →
    ∃ u ro cap, (execOp a.eval o).run P w = .ok (.value u) (w.alloc ro) ∧
      ∀ (p' : Nat → Prop) (μ' : Nat → Nm), (∀ n, p n → p' n) → (∀ n, p n → μ' n = μ n) → p' k → μ' k = ⟨w.heap.size, cap, true⟩ → ObRep p' μ' M (w.alloc ro) ⟨w.heap.size, cap, true⟩ ob ∧ Rp p' μ' M v u) :
    OT P o E [] (fun n => k ≤ n ∧ n < k + 1) v [(k, ob)] := by
  intro rd p μ M a w K Q hnew hkn hS hK
  obtain ⟨u, ro, cap, hr, hu⟩ := h p μ M a w hkn hS.mem
  have hk : ¬ p k := hnew k ⟨Nat.le_refl _, by omega⟩
  obtain ⟨h1, h2⟩ := hu (fun n => p n ∨ (k ≤ n ∧ n < k + 1)) (upN μ k ⟨w.heap.size, cap, true⟩) (fun n h => .inl h) (upN_p hk) (.inr ⟨Nat.le_refl _, by omega⟩) (upN_same _ _ _)
  refine wp_value hr (hK u (upN μ k ⟨w.heap.size, cap, true⟩) M (w.alloc ro) h2 ⟨mem_alloc ro hS.mem, fun n ob' hn => ?_, fun n m hn hm _ _ _ => ?_⟩ ⟨fun n hn => ?_, Mem.le_refl M, fun b hb _ => ⟨heap_old w ro hb, fun _ => rfl⟩, by simp, fun n hn => ?_, rfl, ⟨rfl, Nat.le_refl _⟩, rfl⟩)
  · rw [lk_one] at hn
    split at hn
    · rename_i hnk
      subst hnk
      simp at hn
      subst hn
      rw [upN_same]
      exact ⟨.inr ⟨Nat.le_refl _, by omega⟩, h1, fun _ => mem_lt hS.mem (Nat.le_refl _)⟩
    · cases hn
  · rw [lk_one] at hn hm
    split at hn <;> split at hm <;> first | omega | simp at hn hm
  · exact upN_other _ _ _ (by omega)
  · rw [lk_one] at hn
    split at hn
    · rename_i hnk
      subst hnk
      exact .inl ⟨⟨Nat.le_refl _, by omega⟩, fun _ => .inl (by rw [upN_same]; exact Nat.le_refl _)⟩
    · simp at hn

/-- An operation that writes the one object that it looks at. -/
theorem OT.write {k n : Nat} {ob ob' : Ob} (h : ∀ (p : Nat → Prop) (μ : Nat → Nm) (M : Mem) (a : Act) (w : World), Known E o.op.operands p μ M a → p n → ObRep p μ M w (μ n) ob →
    ∃ u w', ((execOp a.eval o).run P w = .ok (.value u) w' ∨ ((execOp a.eval o).run P w = .ok .skip w' ∧ u = undef)) ∧ Rp p μ M v u ∧ ObRep p μ M w' (μ n) ob' ∧
      (∀ b, ((μ n).live = true → b ≠ (μ n).blk) → w'.heap[b]? = w.heap[b]?) ∧ w'.heap.size = w.heap.size ∧ w'.os = w.os ∧ Tape w w' ∧ w'.output = w.output) :
    OT P o E [(n, ob)] (fun m => k ≤ m ∧ m < k + 0) v [(n, ob')] := by
  intro rd p μ M a w K Q hnew hkn hS hK
  obtain ⟨hp, hob, hmn⟩ := hS.obs n ob (by simp [lk_one])
  obtain ⟨u, w', hr, hu, hob', hother, hsz, h1, h2, h3⟩ := h p μ M a w hkn hp hob
  have hpk : ∀ m, p m → (fun m => p m ∨ (k ≤ m ∧ m < k + 0)) m := fun m hm => .inl hm
  have key : K (a.put o.dst u) w' := by
    refine hK u μ M w' (hu.more hpk (fun _ _ => rfl) (Mem.le_refl M)) ⟨fun b i x hm => ?_, fun m ob'' hm => ?_, fun m m' hm hm' _ _ _ => ?_⟩
      ⟨fun _ _ => rfl, Mem.le_refl M, fun b hb hf => ⟨hother b fun l e => hf n (by simp [lk_one]) l e.symm, fun _ => rfl⟩, by omega, fun m hm => ?_, h1, h2, h3⟩
    · have hb : (μ n).live = true → b ≠ (μ n).blk := fun l e => by rw [e, hmn l] at hm; cases hm
      rw [← hS.mem b i x hm]
      unfold World.cell?
      rw [hother b hb]
    · rw [lk_one] at hm
      split at hm
      · rename_i e
        subst e
        simp at hm
        subst hm
        exact ⟨.inl hp, hob'.more hpk (fun _ _ => rfl) (Mem.le_refl M) fun _ => rfl, hmn⟩
      · cases hm
    · rw [lk_one] at hm hm'
      split at hm <;> split at hm' <;> first | omega | simp at hm hm'
    · rw [lk_one] at hm
      split at hm
      · rename_i e
        subst e
        exact .inr ⟨by omega, by simp [lk_one]⟩
      · simp at hm
  rcases hr with hr | ⟨hr, rfl⟩
  · exact wp_value hr key
  · exact wp_none hr key
end
end Go.Sl
