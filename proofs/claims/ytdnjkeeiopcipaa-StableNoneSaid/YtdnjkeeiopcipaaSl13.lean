/-
  A region, in whatever order: what each operation needs is there when it comes up.
-/
import Derived.Test.YtdnjkeeiopcipaaSl12
set_option linter.unusedSimpArgs false
set_option linter.unusedSectionVars false
set_option linter.unusedVariables false
namespace Go.Sl
open Go.RowKit

/-! ### folds over places -/
def pick {α : Type} (A : Nat → Bool) (f : Nat → α) (n : Nat) (c : α) : α := match n with
  | 0 => c
  | n + 1 => if A n then f n else pick A f n c
theorem pick_congr {α : Type} {A B : Nat → Bool} {f : Nat → α} {c : α} : ∀ {n : Nat}, (∀ i, i < n → A i = B i) → pick A f n c = pick B f n c
  | 0, _ => rfl
  | n + 1, h => by simp only [pick, h n (by omega), pick_congr (n := n) fun i hi => h i (by omega)]
theorem pick_none {α : Type} {A : Nat → Bool} {f : Nat → α} {c : α} : ∀ {n : Nat}, (∀ i, i < n → A i = false) → pick A f n c = c
  | 0, _ => rfl
  | n + 1, h => by simp [pick, h n (by omega), pick_none (n := n) fun i hi => h i (by omega)]
/-- One place more, behind which nothing stands. -/
theorem pick_add {α : Type} {A B : Nat → Bool} {f : Nat → α} {c : α} {i : Nat} : ∀ {n : Nat}, i < n → (∀ j, j < n → j ≠ i → B j = A j) → (∀ j, j < n → i < j → A j = false) → B i = true → pick B f n c = f i
  | 0, h, _, _, _ => by omega
  | n + 1, h, h1, h2, h3 => by
    by_cases hn : n = i
    · subst hn; simp [pick, h3]
    · have hA : A n = false := h2 n (by omega) (by omega)
      have hB : B n = false := (h1 n (by omega) hn).trans hA
      simp only [pick, hB, Bool.false_eq_true, if_false]
      exact pick_add (by omega) (fun j hj => h1 j (by omega)) (fun j hj => h2 j (by omega)) h3
theorem pick_upto {α : Type} {A : Nat → Bool} {f : Nat → α} {c : α} {i : Nat} : ∀ {n : Nat}, i ≤ n → pick (fun j => A j && decide (j < i)) f n c = pick A f i c
  | 0, h => by
    have : i = 0 := by omega
    subst this; rfl
  | n + 1, h => by
    by_cases hn : i = n + 1
    · subst hn
      exact pick_congr fun j hj => by simp [hj]
    · have : decide (n < i) = false := by simp; omega
      simp only [pick, this, Bool.and_false, Bool.false_eq_true, if_false]
      exact pick_upto (by omega)

def ordB (bs : List Nat) (i j : Nat) : Bool := (bs.getD j 0).testBit i
def all2 (n : Nat) (f : Nat → Nat → Bool) : Bool := (List.range n).all fun i => (List.range n).all fun j => f i j
theorem all2_spec {n : Nat} {f : Nat → Nat → Bool} (h : all2 n f = true) {i j : Nat} (hi : i < n) (hj : j < n) : f i j = true := by
  have := List.all_eq_true.1 h i (List.mem_range.2 hi)
  exact List.all_eq_true.1 this j (List.mem_range.2 hj)

/-- What 'bs' tells to stand ahead of an operation does, by the region's own edges. -/
def okB (ops : Array Oper) (bs : List Nat) : Bool :=
  all2 ops.size (fun j i => !ordB bs i j || (i < j && ((ops[j]?).map fun o => o.after.any fun e => Region.binds .any e && (e.on == i || (e.on < j && ordB bs i e.on))).getD false)) &&
  (List.range ops.size).all fun j => ((ops[j]?).map fun o => o.after.all fun e => !Region.binds .any e || e.on < j).getD false
def dstOf (ops : Array Oper) (i : Nat) : Option Tmp := (ops[i]?).bind (·.dst)
def looks (ops : Array Oper) (i : Nat) : List Tmp := ((ops[i]?).map fun o => o.looksAt ops).getD []
/-- No slot is written twice; who reads a slot stands ahead of, or behind, who writes it. -/
def slotsOk (ops : Array Oper) (bs : List Nat) : Bool :=
  all2 ops.size fun i j => i == j || match dstOf ops i with
    | none => true
    | some d => dstOf ops j != some d && (!(looks ops j).contains d || ordB bs i j || ordB bs j i)

structure RG (P : Program) (ops : Array Oper) (bs : List Nat) (N : Nat) (E0 : Nat → Option SV) (H0 : Nat → Option Ob) (k0 : Nat) (eff : Nat → Eff) (ro : Nat → Bool) (kk : Nat → Nat) : Prop where
  slots : slotsOk ops bs = true
  inb : ∀ i d, dstOf ops i = some d → d < N
  kk0 : kk 0 = k0
  kkS : ∀ i, kk (i + 1) = kk i + (eff i).nk
  conf : ∀ i j nme, i < ops.size → j < ops.size → i ≠ j → ro i = false → ((lk (eff i).F nme).isSome || (lk (eff i).F' nme).isSome) = true → ((lk (eff j).F nme).isSome || (lk (eff j).F' nme).isSome) = true → ordB bs i j = true ∨ ordB bs j i = true
  rof : ∀ i, ro i = true → (eff i).F' = (eff i).F

section
variable {P : Program} {ops : Array Oper} {bs : List Nat} {N : Nat} {E0 : Nat → Option SV} {H0 : Nat → Option Ob} {k0 : Nat} {eff : Nat → Eff} {ro : Nat → Bool} {kk : Nat → Nat}

def slotP (ops : Array Oper) (E0 : Nat → Option SV) (eff : Nat → Eff) (D : Nat → Bool) (n t : Nat) : Option SV := pick (fun i => D i && dstOf ops i == some t) (fun i => some (eff i).v) n (E0 t)
def touch (eff : Nat → Eff) (i nme : Nat) : Bool := (lk (eff i).F nme).isSome || (lk (eff i).F' nme).isSome
def contP (H0 : Nat → Option Ob) (eff : Nat → Eff) (ro : Nat → Bool) (D : Nat → Bool) (n nme : Nat) : Option Ob := pick (fun i => D i && (!ro i && touch eff i nme)) (fun i => lk (eff i).F' nme) n (H0 nme)

/-- A guard's value that lets an operation be left out. -/
def skips (want : Bool) : SV → Bool
  | .d (.bool b) => b != want
  | .tup [] => true
  | _ => false
/-- The step of one operation, at the state that the text's order gives. -/
def StepOk (P : Program) (ops : Array Oper) (E : Nat → Option SV) (H : Nat → Option Ob) (k : Nat) (o : Oper) (e : Eff) : Prop :=
  (∃ j want t s, o.guard = some (j, want) ∧ dstOf ops j = some t ∧ E t = some s ∧ skips want s = true ∧ e.v = .tup [] ∧ e.F = [] ∧ e.F' = [] ∧ e.nk = 0) ∨
  ((o.guard = none ∨ ∃ j want t, o.guard = some (j, want) ∧ dstOf ops j = some t ∧ E t = some (.d (.bool want))) ∧ Sound P o E H k e)

theorem OT.facts {o : Oper} {E E' : Nat → Option SV} {F F' : Hp} {new : Nat → Prop} {v : SV} (h : OT P o E F new v F') (hE : ∀ t, Operand.tmp t ∈ o.op.operands → ∀ s, E t = some s → E' t = some s) : OT P o E' F new v F' := by
  intro rd p μ M a w K Q hnew hk hS hK
  exact h rd p μ M a w K Q hnew (fun t ht s hs => hk t ht s (hE t ht s hs)) hS hK

theorem looks_mem {i : Nat} {o : Oper} {t : Nat} (ho : ops[i]? = some o) (ht : Operand.tmp t ∈ o.op.operands) : t ∈ looks ops i := by
  simp only [looks, ho, Option.map_some, Option.getD_some, Oper.looksAt, List.mem_append]
  exact .inl (List.mem_filterMap.2 ⟨.tmp t, by simpa using ht, rfl⟩)
theorem looks_guard {i j : Nat} {o : Oper} {t : Nat} {want : Bool} (ho : ops[i]? = some o) (hg : o.guard = some (j, want)) (ht : dstOf ops j = some t) : t ∈ looks ops i := by
  simp only [looks, ho, Option.map_some, Option.getD_some, Oper.looksAt, List.mem_append, hg]
  refine .inr ?_
  unfold dstOf at ht
  simp [ht]

def Closed (ops : Array Oper) (D : Nat → Bool) : Prop := ∀ j o, D j = true → ops[j]? = some o → ∀ e ∈ o.after, Region.binds .any e = true → D e.on = true
def Preds (ops : Array Oper) (D : Nat → Bool) (i : Nat) : Prop := ∀ o, ops[i]? = some o → ∀ e ∈ o.after, Region.binds .any e = true → D e.on = true

theorem okB_lt (h : okB ops bs = true) {i j : Nat} (hj : j < ops.size) (hi : i < ops.size) (ho : ordB bs i j = true) : i < j ∧ ∃ o, ops[j]? = some o ∧ ∃ e ∈ o.after, Region.binds .any e = true ∧ (e.on = i ∨ (e.on < j ∧ ordB bs i e.on = true)) := by
  simp only [okB, Bool.and_eq_true] at h
  have := all2_spec h.1 hj hi
  simp only [ho, Bool.not_true, Bool.false_or, Bool.and_eq_true, decide_eq_true_eq] at this
  refine ⟨this.1, ops[j], Array.getElem?_eq_getElem hj, ?_⟩
  have h2 := this.2
  rw [Array.getElem?_eq_getElem hj] at h2
  simp only [Option.map_some, Option.getD_some] at h2
  obtain ⟨e, he, hb⟩ := Array.any_eq_true'.1 h2
  simp only [Bool.and_eq_true, Bool.or_eq_true, beq_iff_eq, decide_eq_true_eq] at hb
  exact ⟨e, he, hb.1, hb.2⟩

theorem preds_ord (h : okB ops bs = true) {D : Nat → Bool} (hc : Closed ops D) : ∀ {j i : Nat}, j < ops.size → i < ops.size → Preds ops D j → ordB bs i j = true → D i = true := by
  intro j
  induction j using Nat.strongRecOn with
  | _ j ih =>
    intro i hj hi hp ho
    obtain ⟨_, o, ho', e, he, hb, h2⟩ := okB_lt h hj hi ho
    have hD := hp o ho' e he hb
    rcases h2 with rfl | ⟨hlt, h3⟩
    · exact hD
    · exact ih e.on hlt (by omega) hi (fun o' ho'' => hc e.on o' hD ho'') h3
theorem closed_ord (h : okB ops bs = true) {D : Nat → Bool} (hc : Closed ops D) {i j : Nat} (hj : j < ops.size) (hi : i < ops.size) (hD : D j = true) (ho : ordB bs i j = true) : D i = true :=
  preds_ord h hc hj hi (fun o' ho' => hc j o' hD ho') ho

/-- Of an operation that may come up now: whoever is tied to it has come up just where he stands ahead of it. -/
theorem tied (h : okB ops bs = true) {D : Nat → Bool} (hc : Closed ops D) {i j : Nat} (hi : i < ops.size) (hj : j < ops.size) (hn : D i = false) (hp : Preds ops D i) (ho : ordB bs i j = true ∨ ordB bs j i = true) : D j = decide (j < i) := by
  rcases ho with ho | ho
  · have hlt := (okB_lt h hj hi ho).1
    cases hD : D j with
    | false => simp; omega
    | true =>
      have := closed_ord h hc hj hi hD ho
      rw [this] at hn; cases hn
  · have hlt := (okB_lt h hi hj ho).1
    rw [preds_ord h hc hi hj hp ho]
    simp [hlt]

variable (hR : RG P ops bs N E0 H0 k0 eff ro kk)
include hR

theorem RG.slot_at {D : Nat → Bool} {i t : Nat} (hi : i < ops.size) (hn : D i = false) (hT : ∀ j, j < ops.size → j ≠ i → (ordB bs i j = true ∨ ordB bs j i = true) → D j = decide (j < i)) (hl : t ∈ looks ops i) :
    slotP ops E0 eff D ops.size t = slotP ops E0 eff (fun _ => true) i t := by
  unfold slotP
  rw [← pick_upto (A := fun j => true && dstOf ops j == some t) (n := ops.size) (by omega)]
  refine pick_congr fun j hj => ?_
  by_cases hd : dstOf ops j = some t
  · by_cases hji : j = i
    · subst hji; simp [hn, hd]
    · have hs := all2_spec hR.slots hj hi
      simp only [beq_iff_eq, hji, Bool.or_eq_true, false_or, hd, Bool.and_eq_true, Bool.not_eq_true'] at hs
      have hcon : (looks ops i).contains t = true := by simpa using hl
      rw [hcon] at hs
      have ho : ordB bs i j = true ∨ ordB bs j i = true := by
        rcases hs.2 with (h | h) | h
        · cases h
        · exact .inr h
        · exact .inl h
      simp [hd, hT j hj hji ho]
  · simp [beq_eq_false_iff_ne.2 hd]

theorem RG.cont_at {D : Nat → Bool} {i nme : Nat} (hi : i < ops.size) (hn : D i = false) (hT : ∀ j, j < ops.size → j ≠ i → (ordB bs i j = true ∨ ordB bs j i = true) → D j = decide (j < i)) (ht : touch eff i nme = true) :
    contP H0 eff ro D ops.size nme = contP H0 eff ro (fun _ => true) i nme := by
  unfold contP
  rw [← pick_upto (A := fun j => true && (!ro j && touch eff j nme)) (n := ops.size) (by omega)]
  refine pick_congr fun j hj => ?_
  by_cases hd : ro j = false ∧ touch eff j nme = true
  · by_cases hji : j = i
    · subst hji; simp [hn]
    · have ho := hR.conf j i nme hj hi hji hd.1 hd.2 ht
      simp [hd.1, hd.2, hT j hj (by assumption) ho.symm]
  · have : (!ro j && touch eff j nme) = false := by
      cases h1 : ro j <;> cases h2 : touch eff j nme <;> simp_all
    simp [this]

theorem RG.slot_add {D : Nat → Bool} {i t : Nat} (hi : i < ops.size) (hn : D i = false) :
    slotP ops E0 eff (fun j => D j || j == i) ops.size t = if dstOf ops i = some t then some (eff i).v else slotP ops E0 eff D ops.size t := by
  by_cases hd : dstOf ops i = some t
  · rw [if_pos hd]
    unfold slotP
    refine pick_add (A := fun j => D j && dstOf ops j == some t) hi (fun j hj hji => by simp [beq_eq_false_iff_ne.2 hji]) (fun j hj hlt => ?_) (by simp [hd])
    have hs := all2_spec hR.slots hi hj
    simp only [beq_iff_eq, Bool.or_eq_true, show ¬ i = j by omega, false_or, hd, Bool.and_eq_true, bne_iff_ne, ne_eq] at hs
    simp [hs.1]
  · rw [if_neg hd]
    unfold slotP
    refine pick_congr fun j hj => ?_
    by_cases hji : j = i
    · subst hji; simp [hd, hn]
    · simp [beq_eq_false_iff_ne.2 hji]

theorem RG.cont_add {D : Nat → Bool} {i : Nat} (hi : i < ops.size) (hn : D i = false) (hT : ∀ j, j < ops.size → j ≠ i → (ordB bs i j = true ∨ ordB bs j i = true) → D j = decide (j < i)) (hr : ro i = false) :
    contP H0 eff ro (fun j => D j || j == i) ops.size = mrg (contP H0 eff ro D ops.size) (lk (eff i).F) (lk (eff i).F') := by
  funext nme
  by_cases ht : touch eff i nme = true
  · rw [mrg_in (by
      simp only [touch, Bool.or_eq_true, Option.isSome_iff_ne_none] at ht
      exact ht)]
    unfold contP
    refine pick_add (A := fun j => D j && (!ro j && touch eff j nme)) hi (fun j hj hji => by simp [beq_eq_false_iff_ne.2 hji]) (fun j hj hlt => ?_) (by simp [hr, ht])
    by_cases hd : ro j = false ∧ touch eff j nme = true
    · have ho := hR.conf j i nme hj hi (by omega) hd.1 hd.2 ht
      have := hT j hj (by omega) ho.symm
      simp [this]
      omega
    · have : (!ro j && touch eff j nme) = false := by
        cases h1 : ro j <;> cases h2 : touch eff j nme <;> simp_all
      simp [this]
  · have hF : lk (eff i).F nme = none ∧ lk (eff i).F' nme = none := by
      simp only [touch, Bool.or_eq_true, Option.isSome_iff_ne_none, not_or, Classical.not_not] at ht
      exact ht
    rw [mrg_out hF.1 hF.2]
    unfold contP
    refine pick_congr fun j hj => ?_
    by_cases hji : j = i
    · subst hji; simp [hn, ht]
    · simp [beq_eq_false_iff_ne.2 hji]
theorem RG.cont_same {D : Nat → Bool} {i : Nat} (hr : ro i = true) : contP H0 eff ro (fun j => D j || j == i) ops.size = contP H0 eff ro D ops.size := by
  funext nme
  unfold contP
  refine pick_congr fun j hj => ?_
  by_cases hji : j = i
  · subst hji; simp [hr]
  · simp [beq_eq_false_iff_ne.2 hji]

theorem RG.mono : ∀ {i j : Nat}, i ≤ j → kk i ≤ kk j := by
  intro i j h
  induction j with
  | zero => have : i = 0 := by omega
            subst this; exact Nat.le_refl _
  | succ j ih =>
    by_cases hij : i = j + 1
    · subst hij; exact Nat.le_refl _
    · have := ih (by omega); rw [hR.kkS]; omega
omit hR

def newD (ops : Array Oper) (eff : Nat → Eff) (kk : Nat → Nat) (D : Nat → Bool) (n : Nat) : Prop := ∃ j, j < ops.size ∧ D j = true ∧ kk j ≤ n ∧ n < kk j + (eff j).nk
def pD (ops : Array Oper) (k0 : Nat) (eff : Nat → Eff) (kk : Nat → Nat) (D : Nat → Bool) (n : Nat) : Prop := n < k0 ∨ newD ops eff kk D n

/-- What is so when just those of D have come up. -/
structure Inv (ops : Array Oper) (N : Nat) (E0 : Nat → Option SV) (H0 : Nat → Option Ob) (k0 : Nat) (eff : Nat → Eff) (ro : Nat → Bool) (kk : Nat → Nat) (μ0 : Nat → Nm) (M0 : Mem) (w0 : World) (df : List Deferred) (D : Nat → Bool) (a : Act) (w : World) : Prop where
  ex : ∃ μ M, (∀ t s, slotP ops E0 eff D ops.size t = some s → Rp (pD ops k0 eff kk D) μ M s (a.tmps.getD t undef)) ∧ SatF (pD ops k0 eff kk D) μ M (contP H0 eff ro D ops.size) w ∧
    Ev H0 (newD ops eff kk D) μ0 M0 w0 (contP H0 eff ro D ops.size) μ M w
  df : a.defers = df
  sz : a.tmps.size = N

theorem put_same {a : Act} {d : Nat} {v : Value} (h : d < a.tmps.size) : (a.put (some d) v).tmps.getD d undef = v := by
  simp [Act.put, h]
theorem put_other {a : Act} {d t : Nat} {v : Value} (h : t ≠ d) : (a.put (some d) v).tmps.getD t undef = a.tmps.getD t undef := by
  simp [Act.put, Array.getElem?_setIfInBounds_ne (Ne.symm h)]
theorem put_size {a : Act} {d : Option Nat} {v : Value} : (a.put d v).tmps.size = a.tmps.size := by cases d <;> simp [Act.put]
theorem put_defers' {a : Act} {d : Option Nat} {v : Value} : (a.put d v).defers = a.defers := by cases d <;> rfl

theorem yielded_un {a : Act} {j t : Nat} (hd : dstOf ops j = some t) (h : a.tmps.getD t undef = undef) : yielded ops a.tmps j = none := by
  unfold yielded
  unfold dstOf at hd
  rw [hd]
  simp only [Option.bind_some]
  rcases Nat.lt_or_ge t a.tmps.size with hl | hl
  · rw [Array.getElem?_eq_getElem hl]
    rw [Array.getD_eq_getD_getElem?, Array.getElem?_eq_getElem hl] at h
    simp only [Option.getD_some] at h
    rw [h]
    rfl
  · rw [Array.getElem?_eq_none hl]
theorem put_undef {a : Act} {d : Nat} : (a.put (some d) undef).tmps.getD d undef = undef := by
  rcases Nat.lt_or_ge d a.tmps.size with hl | hl
  · exact put_same hl
  · rw [Array.getD_eq_getD_getElem?, Array.getElem?_eq_none (by rw [put_size]; exact hl)]
    rfl
theorem yielded_of {a : Act} {j t : Nat} {b : Bool} (hd : dstOf ops j = some t) (h : a.tmps.getD t undef = .bool b) : yielded ops a.tmps j = some b := by
  unfold yielded
  unfold dstOf at hd
  rw [hd]
  have : a.tmps[t]? = some (.bool b) := by
    rcases Nat.lt_or_ge t a.tmps.size with hl | hl
    · rw [Array.getElem?_eq_getElem hl]
      simp [hl] at h
      rw [h]
    · simp [Array.getElem?_eq_none hl] at h
      cases h
  simp [this]

include hR in
theorem RG.step {rd : Option Nat} {μ0 : Nat → Nm} {M0 : Mem} {w0 : World} {df : List Deferred} {D : Nat → Bool} {i : Nat} {o : Oper} (ho : ops[i]? = some o) (hn : D i = false) (hT : ∀ j, j < ops.size → j ≠ i → (ordB bs i j = true ∨ ordB bs j i = true) → D j = decide (j < i))
    (hs : StepOk P ops (slotP ops E0 eff (fun _ => true) i) (contP H0 eff ro (fun _ => true) i) (kk i) o (eff i)) {a : Act} {w : World} {Q : Exit → Act → World → Prop}
    (hI : Inv ops N E0 H0 k0 eff ro kk μ0 M0 w0 df D a w)  : wpOpIn (Wide rd) 0 P ops Q i (Inv ops N E0 H0 k0 eff ro kk μ0 M0 w0 df (fun j => D j || j == i)) a w := by
  have hi : i < ops.size := (Array.getElem?_eq_some_iff.1 ho).1
  obtain ⟨⟨μ, M, hsl, hS, hE⟩, hdf, hsz⟩ := hI
  have hslot : ∀ t, t ∈ looks ops i → ∀ s, slotP ops E0 eff (fun _ => true) i t = some s → slotP ops E0 eff D ops.size t = some s := fun t ht s h => by
    rw [hR.slot_at hi hn hT ht]; exact h
  have hdst : dstOf ops i = o.dst := by simp [dstOf, ho]
  unfold wpOpIn
  simp only [ho]
  rcases hs with ⟨j, want, t, sv, hg, hd, hE', hb, e1, e2, e3, e4⟩ | ⟨hg, hOT, hsub⟩
  · have hv := hsl t _ (hslot t (looks_guard ho hg hd) _ hE')
    have hw : Region.wanted o (yielded ops a.tmps) = false := by
      simp only [Region.wanted, hg]
      unfold skips at hb
      split at hb
      · rw [yielded_of hd (Rp.bool_iff.1 hv)]
        simpa using hb
      · obtain ⟨vs, e, hvs⟩ := Rp.tup_iff.1 hv
        have hvs0 : vs = #[] := by have := Rps.nil_iff.1 hvs; simpa using this
        rw [yielded_un hd (by rw [e, hvs0]; rfl)]
        rfl
      · cases hb
    simp only [hw, Bool.false_eq_true, if_false]
    have hnew : newD ops eff kk (fun j => D j || j == i) = newD ops eff kk D := by
      funext n
      apply propext
      constructor
      · rintro ⟨j', h1, h2, h3, h4⟩
        by_cases hji : j' = i
        · subst hji; omega
        · exact ⟨j', h1, by simpa [beq_eq_false_iff_ne.2 hji] using h2, h3, h4⟩
      · rintro ⟨j', h1, h2, h3, h4⟩
        exact ⟨j', h1, by simp [h2], h3, h4⟩
    have hpd : pD ops k0 eff kk (fun j => D j || j == i) = pD ops k0 eff kk D := by
      unfold pD; rw [hnew]
    have hcont : contP H0 eff ro (fun j => D j || j == i) ops.size = contP H0 eff ro D ops.size := by
      cases hr : ro i with
      | true => exact hR.cont_same hr
      | false =>
        rw [hR.cont_add hi hn hT hr, e2, e3]
        funext nme
        exact mrg_out rfl rfl
    refine ⟨fun _ _ => trivial, ⟨⟨μ, M, fun t s h => ?_, by rw [hpd, hcont]; exact hS, by rw [hnew, hcont]; exact hE⟩, by rw [put_defers']; exact hdf, by rw [put_size]; exact hsz⟩⟩
    rw [hR.slot_add hi hn] at h
    rw [hpd]
    split at h
    · rename_i heq
      rw [e1] at h
      injection h with h
      subst h
      rw [hdst] at heq
      rw [heq, put_undef]
      exact Rp.tup_iff.2 ⟨#[], rfl, Rps.nil_iff.2 rfl⟩
    · rename_i hne
      rw [hdst] at hne
      cases hod : o.dst with
      | none => exact hsl t s h
      | some d => rw [put_other (fun e => hne (by rw [hod, e]))]; exact hsl t s h
  · have hw : Region.wanted o (yielded ops a.tmps) = true := by
      rcases hg with hg | ⟨j, want, t, hg, hd, hE'⟩
      · simp [Region.wanted, hg]
      · have hv := Rp.bool_iff.1 (hsl t _ (hslot t (looks_guard ho hg hd) _ hE'))
        simp only [Region.wanted, hg, yielded_of hd hv]
        simp
    simp only [hw, if_true]
    have hnewp : ∀ n, (kk i ≤ n ∧ n < kk i + (eff i).nk) → ¬ pD ops k0 eff kk D n := by
      rintro n ⟨h1, h2⟩ (h3 | ⟨j, hj, hDj, h4, h5⟩)
      · have := hR.mono (Nat.zero_le i); rw [hR.kk0] at this; omega
      · rcases Nat.lt_trichotomy j i with hlt | heq | hgt
        · have := hR.mono (show j + 1 ≤ i by omega); rw [hR.kkS] at this; omega
        · subst heq; rw [hDj] at hn; cases hn
        · have := hR.mono (show i + 1 ≤ j by omega); rw [hR.kkS] at this; omega
    have hsub' : ∀ nme ob, lk (eff i).F nme = some ob → contP H0 eff ro D ops.size nme = some ob := fun nme ob h => by
      rw [hR.cont_at hi hn hT (by simp [touch, h])]
      exact hsub nme ob h
    refine hOT.facts (fun t ht s h => hslot t (looks_mem ho ht) s h) rd (pD ops k0 eff kk D) μ M a w _ Q hnewp (fun t ht s h => hsl t s h) (hS.sub hsub') fun u μ' M' w' hu hS' hE' => ?_
    have hpeq : (fun n => pD ops k0 eff kk D n ∨ (kk i ≤ n ∧ n < kk i + (eff i).nk)) = pD ops k0 eff kk (fun j => D j || j == i) := by
      funext n
      apply propext
      constructor
      · rintro ((h | ⟨j, hj, h1, h2⟩) | h)
        · exact .inl h
        · exact .inr ⟨j, hj, by simp [h1], h2⟩
        · exact .inr ⟨i, hi, by simp, h⟩
      · rintro (h | ⟨j, hj, h1, h2⟩)
        · exact .inl (.inl h)
        · by_cases hji : j = i
          · subst hji; exact .inr h2
          · exact .inl (.inr ⟨j, hj, by simpa [beq_eq_false_iff_ne.2 hji] using h1, h2⟩)
    have hneq : (fun n => newD ops eff kk D n ∨ (kk i ≤ n ∧ n < kk i + (eff i).nk)) = newD ops eff kk (fun j => D j || j == i) := by
      funext n
      apply propext
      constructor
      · rintro (⟨j, hj, h1, h2⟩ | h)
        · exact ⟨j, hj, by simp [h1], h2⟩
        · exact ⟨i, hi, by simp, h⟩
      · rintro ⟨j, hj, h1, h2⟩
        by_cases hji : j = i
        · subst hji; exact .inr h2
        · exact .inl ⟨j, hj, by simpa [beq_eq_false_iff_ne.2 hji] using h1, h2⟩
    have hfr := hS.framed hsub' hnewp hE' hS' fun n h => .inl h
    rw [hpeq] at hu hfr
    have hcont : contP H0 eff ro (fun j => D j || j == i) ops.size = mrg (contP H0 eff ro D ops.size) (lk (eff i).F) (lk (eff i).F') := by
      cases hr : ro i with
      | false => exact hR.cont_add hi hn hT hr
      | true =>
        rw [hR.cont_same hr, hR.rof i hr]
        funext nme
        by_cases h : lk (eff i).F nme = none
        · rw [mrg_out h h]
        · rw [mrg_in (.inl h)]
          obtain ⟨ob, hob⟩ := Option.ne_none_iff_exists'.1 h
          rw [hob]; exact hsub' nme ob hob
    refine ⟨⟨μ', M', fun t s h => ?_, by rw [hcont]; exact hfr.1, ?_⟩, by rw [put_defers']; exact hdf, by rw [put_size]; exact hsz⟩
    · rw [hR.slot_add hi hn] at h
      have hold : ∀ s, slotP ops E0 eff D ops.size t = some s → Rp (pD ops k0 eff kk (fun j => D j || j == i)) μ' M' s (a.tmps.getD t undef) := fun s h => by
        rw [← hpeq]
        exact (hsl t s h).more (fun n h => .inl h) (fun n h => hE'.old n fun h' => hnewp n h' h) hE'.mem
      split at h
      · rename_i hd
        injection h with h
        subst h
        rw [hdst] at hd
        rw [hd, put_same (by rw [hsz]; exact hR.inb i t (by rw [hdst, hd]))]
        exact hu
      · rename_i hne
        rw [hdst] at hne
        cases hod : o.dst with
        | none => exact hold s h
        | some d => rw [put_other (fun e => hne (by rw [hod, e]))]; exact hold s h
    · rw [hcont]
      have := hE.trans hfr.2
      rwa [hneq] at this

/-! ### all of them -/
theorem Inv.congr {μ0 : Nat → Nm} {M0 : Mem} {w0 : World} {df : List Deferred} {D D' : Nat → Bool} {a : Act} {w : World} (h : Inv ops N E0 H0 k0 eff ro kk μ0 M0 w0 df D a w) (hD : ∀ j, j < ops.size → D j = D' j) : Inv ops N E0 H0 k0 eff ro kk μ0 M0 w0 df D' a w := by
  have e1 : slotP ops E0 eff D ops.size = slotP ops E0 eff D' ops.size := funext fun t => pick_congr fun i hi => by rw [hD i hi]
  have e2 : contP H0 eff ro D ops.size = contP H0 eff ro D' ops.size := funext fun t => pick_congr fun i hi => by rw [hD i hi]
  have e3 : newD ops eff kk D = newD ops eff kk D' := funext fun n => propext ⟨fun ⟨j, h1, h2, h3⟩ => ⟨j, h1, by rw [← hD j h1]; exact h2, h3⟩, fun ⟨j, h1, h2, h3⟩ => ⟨j, h1, by rw [hD j h1]; exact h2, h3⟩⟩
  have e4 : pD ops k0 eff kk D = pD ops k0 eff kk D' := by unfold pD; rw [e3]
  obtain ⟨⟨μ, M, h1, h2, h3⟩, h4, h5⟩ := h
  rw [e1, e4] at h1
  rw [e4, e2] at h2
  rw [e3, e2] at h3
  exact ⟨⟨μ, M, h1, h2, h3⟩, h4, h5⟩

def countU (listed : Array Bool) : Nat → Nat
  | 0 => 0
  | n + 1 => countU listed n + if listed.getD n true then 0 else 1
theorem countU_set {listed : Array Bool} {i : Nat} (hu : listed.getD i true = false) : ∀ n, countU (listed.setIfInBounds i true) n + (if i < n then 1 else 0) = countU listed n
  | 0 => by simp [countU]
  | n + 1 => by
    have ih := countU_set hu n
    simp only [countU]
    by_cases hn : n = i
    · subst hn
      have hlt : n < listed.size := by
        rcases Nat.lt_or_ge n listed.size with h | h
        · exact h
        · simp [Array.getElem?_eq_none h] at hu
      have h1 : (listed.setIfInBounds n true).getD n true = true := by simp [hlt]
      rw [h1, hu]
      simp at ih ⊢
      omega
    · rw [getD_set_ne true (Ne.symm hn)]
      by_cases hlt : i < n
      · simp [hlt] at ih
        simp [show i < n + 1 by omega]
        omega
      · simp [hlt] at ih
        simp [show ¬ i < n + 1 by omega]
        omega
theorem countU_zero {listed : Array Bool} : ∀ {n : Nat}, countU listed n = 0 → ∀ j, j < n → listed.getD j true = true
  | 0, _, j, h => by omega
  | n + 1, h, j, hj => by
    simp only [countU] at h
    by_cases hn : j = n
    · subst hn
      cases hh : listed.getD j true with
      | true => rfl
      | false => rw [hh] at h; simp at h
    · exact countU_zero (n := n) (by omega) j (by omega)
theorem countU_pos {listed : Array Bool} {n : Nat} (h : ∀ j, j < n → listed.getD j true = true) : countU listed n = 0 := by
  induction n with
  | zero => rfl
  | succ n ih => simp only [countU, h n (by omega), ih fun j hj => h j (by omega)]; rfl

theorem ready_nil (hb : okB ops bs = true) {listed : Array Bool} (hsz : listed.size = ops.size) (h : Region.ready .any ops listed = []) : ∀ j, j < ops.size → listed.getD j true = true := by
  intro j
  induction j using Nat.strongRecOn with
  | _ j ih =>
    intro hj
    cases hl : listed.getD j true with
    | true => rfl
    | false =>
      exfalso
      have : j ∈ Region.ready .any ops listed := mem_ready.2 ⟨hl, ops[j], Array.getElem?_eq_getElem hj, fun e he hbd => by
        simp only [okB, Bool.and_eq_true] at hb
        have h2 := List.all_eq_true.1 hb.2 j (List.mem_range.2 hj)
        rw [Array.getElem?_eq_getElem hj] at h2
        simp only [Option.map_some, Option.getD_some] at h2
        have h3 := Array.all_eq_true_iff_forall_mem.1 h2 e he
        simp only [hbd, Bool.not_true, Bool.false_or, decide_eq_true_eq] at h3
        have h4 := ih e.on h3 (by omega)
        have hlt : e.on < listed.size := by omega
        simp [hlt] at h4 ⊢
        exact h4⟩
      rw [h] at this
      cases this

theorem RG.drawn {rd : Option Nat} (hR : RG P ops bs N E0 H0 k0 eff ro kk) (hb : okB ops bs = true)
    (hs : ∀ (i : Nat) (o : Oper), ops[i]? = some o → StepOk P ops (slotP ops E0 eff (fun _ => true) i) (contP H0 eff ro (fun _ => true) i) (kk i) o (eff i))
    {μ0 : Nat → Nm} {M0 : Mem} {w0 : World} {df : List Deferred} {Q : Exit → Act → World → Prop} (hQ : ∀ a w, Inv ops N E0 H0 k0 eff ro kk μ0 M0 w0 df (fun _ => true) a w → Q .normal a w) :
    ∀ (fuel : Nat) (listed : Array Bool) (a : Act) (w : World), listed.size = ops.size → countU listed ops.size = fuel → Closed ops (fun j => listed.getD j false) → Inv ops N E0 H0 k0 eff ro kk μ0 M0 w0 df (fun j => listed.getD j false) a w →
      wpAnyIn (Wide rd) 0 P .any ops Q fuel listed a w := by
  have same : ∀ (listed : Array Bool), listed.size = ops.size → ∀ j, j < ops.size → listed.getD j true = listed.getD j false := fun listed hl j hj => by simp [show j < listed.size by omega]
  intro fuel
  induction fuel with
  | zero =>
    intro listed a w hl hcnt hc hI
    have hall := countU_zero hcnt
    refine ⟨?_, hQ a w (hI.congr fun j hj => by rw [← same listed hl j hj]; exact hall j hj)⟩
    refine List.eq_nil_iff_forall_not_mem.2 fun i hi => ?_
    obtain ⟨h1, o, h2, _⟩ := mem_ready.1 hi
    rw [hall i (Array.getElem?_eq_some_iff.1 h2).1] at h1
    cases h1
  | succ fuel ih =>
    intro listed a w hl hcnt hc hI
    refine ⟨fun h => ?_, fun i hi => ?_⟩
    · have := countU_pos (ready_nil hb hl h)
      omega
    · obtain ⟨h1, o, h2, h3⟩ := mem_ready.1 hi
      have hi' : i < ops.size := (Array.getElem?_eq_some_iff.1 h2).1
      have hn : listed.getD i false = false := by rw [← same listed hl i hi']; exact h1
      have hp : Preds ops (fun j => listed.getD j false) i := fun o' ho' e he hbd => by
        rw [h2] at ho'; injection ho' with ho'; subst ho'
        exact h3 e he hbd
      refine wpOpIn_mono (fun a' w' hI' => ?_) (hR.step h2 hn (fun j hj hji ho => tied hb hc hi' hj hn hp ho) (hs i o h2) hI)
      have hD : ∀ j, (listed.getD j false || j == i) = (listed.setIfInBounds i true).getD j false := fun j => by
        by_cases hji : j = i
        · subst hji
          simp [show j < listed.size by omega]
        · rw [getD_set_ne false (Ne.symm hji)]
          simp [beq_eq_false_iff_ne.2 hji]
      refine ih (listed.setIfInBounds i true) a' w' (by simpa using hl) (by have := countU_set h1 ops.size; simp [hi'] at this; omega) (fun j o' hDj ho' e he hbd => ?_) (hI'.congr fun j _ => hD j)
      simp only [← hD] at hDj ⊢
      simp only [Bool.or_eq_true, beq_iff_eq] at hDj
      rcases hDj with h | rfl
      · simp [hc j o' h ho' e he hbd]
      · rw [h2] at ho'; injection ho' with ho'; subst ho'
        have := h3 e he hbd
        simp [this]

theorem RG.inOrder {rd : Option Nat} (hR : RG P ops bs N E0 H0 k0 eff ro kk)
    (hs : ∀ (i : Nat) (o : Oper), ops[i]? = some o → StepOk P ops (slotP ops E0 eff (fun _ => true) i) (contP H0 eff ro (fun _ => true) i) (kk i) o (eff i))
    {μ0 : Nat → Nm} {M0 : Mem} {w0 : World} {df : List Deferred} {Q : Exit → Act → World → Prop} (hQ : ∀ a w, Inv ops N E0 H0 k0 eff ro kk μ0 M0 w0 df (fun _ => true) a w → Q .normal a w) :
    ∀ (m k : Nat) (a : Act) (w : World), k + m = ops.size → Inv ops N E0 H0 k0 eff ro kk μ0 M0 w0 df (fun j => decide (j < k)) a w → wpOpsIn (Wide rd) 0 P ops Q (List.range' k m) a w := by
  intro m
  induction m with
  | zero =>
    intro k a w hk hI
    simp only [List.range', wpOpsIn]
    exact hQ a w (hI.congr fun j hj => by simp; omega)
  | succ m ih =>
    intro k a w hk hI
    rw [List.range'_succ, wpOpsIn_cons]
    have hkn : k < ops.size := by omega
    refine wpOpIn_mono (fun a' w' hI' => ?_) (hR.step (Array.getElem?_eq_getElem hkn) (by simp) (fun j _ _ _ => rfl) (hs k _ (Array.getElem?_eq_getElem hkn)) hI)
    exact ih (k + 1) a' w' (by omega) (hI'.congr fun j _ => by
      by_cases h1 : j = k
      · subst h1; simp
      · simp [beq_eq_false_iff_ne.2 h1]; omega)
end
end Go.Sl
