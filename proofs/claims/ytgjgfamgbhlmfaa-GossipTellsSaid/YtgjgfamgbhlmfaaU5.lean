/-
  A region, in whatever order: what each operation needs is there when it comes up.
-/
import Derived.Test.YtgjgfamgbhlmfaaU4
set_option linter.unusedSimpArgs false
set_option linter.unusedSectionVars false
set_option linter.unusedVariables false
namespace Go.Sl
open Go.RowKit

/-! ### folds over places -/
def pick {α : Type} (A : Nat → Bool) (f : Nat → α) (n : Nat) (c : α) : α := match n with
  | 0 => c
  | n + 1 => if A n then f n else pick A f n c
theorem pick_congr {α : Type} {A B : Nat → Bool} {f : Nat → α} {c : α} : ∀ {n : Nat}, (∀ i, i < n → A i = B i) → pick A f n c = pick B f n c
  | 0, _ => rfl
  | n + 1, h => by simp only [pick, h n (by omega), pick_congr (n := n) fun i hi => h i (by omega)]
theorem pick_none {α : Type} {A : Nat → Bool} {f : Nat → α} {c : α} : ∀ {n : Nat}, (∀ i, i < n → A i = false) → pick A f n c = c
  | 0, _ => rfl
  | n + 1, h => by simp [pick, h n (by omega), pick_none (n := n) fun i hi => h i (by omega)]
/-- One place more, behind which nothing stands. -/
theorem pick_add {α : Type} {A B : Nat → Bool} {f : Nat → α} {c : α} {i : Nat} : ∀ {n : Nat}, i < n → (∀ j, j < n → j ≠ i → B j = A j) → (∀ j, j < n → i < j → A j = false) → B i = true → pick B f n c = f i
  | 0, h, _, _, _ => by omega
  | n + 1, h, h1, h2, h3 => by
    by_cases hn : n = i
    · subst hn; simp [pick, h3]
    · have hA : A n = false := h2 n (by omega) (by omega)
      have hB : B n = false := (h1 n (by omega) hn).trans hA
      simp only [pick, hB, Bool.false_eq_true, if_false]
      exact pick_add (by omega) (fun j hj => h1 j (by omega)) (fun j hj => h2 j (by omega)) h3
theorem pick_upto {α : Type} {A : Nat → Bool} {f : Nat → α} {c : α} {i : Nat} : ∀ {n : Nat}, i ≤ n → pick (fun j => A j && decide (j < i)) f n c = pick A f i c
  | 0, h => by
    have : i = 0 := by omega
    subst this; rfl
  | n + 1, h => by
    by_cases hn : i = n + 1
    · subst hn
      exact pick_congr fun j hj => by simp [hj]
    · have : decide (n < i) = false := by simp; omega
      simp only [pick, this, Bool.and_false, Bool.false_eq_true, if_false]
      exact pick_upto (by omega)

def ordB (bs : List Nat) (i j : Nat) : Bool := (bs.getD j 0).testBit i
def all2 (n : Nat) (f : Nat → Nat → Bool) : Bool := (List.range n).all fun i => (List.range n).all fun j => f i j
theorem all2_spec {n : Nat} {f : Nat → Nat → Bool} (h : all2 n f = true) {i j : Nat} (hi : i < n) (hj : j < n) : f i j = true := by
  have := List.all_eq_true.1 h i (List.mem_range.2 hi)
  exact List.all_eq_true.1 this j (List.mem_range.2 hj)

/-- What 'bs' tells to stand ahead of an operation does, by the region's own edges. -/
def okB (ops : Array Oper) (bs : List Nat) : Bool :=
  all2 ops.size (fun j i => !ordB bs i j || (i < j && ((ops[j]?).map fun o => o.after.any fun e => Region.binds .any e && (e.on == i || (e.on < j && ordB bs i e.on))).getD false)) &&
  (List.range ops.size).all fun j => ((ops[j]?).map fun o => o.after.all fun e => !Region.binds .any e || e.on < j).getD false
def dstOf (ops : Array Oper) (i : Nat) : Option Tmp := (ops[i]?).bind (·.dst)
def looks (ops : Array Oper) (i : Nat) : List Tmp := ((ops[i]?).map fun o => o.looksAt ops).getD []
/-- No slot is written twice; who reads a slot stands ahead of, or behind, who writes it. -/
def slotsOk (ops : Array Oper) (bs : List Nat) : Bool :=
  all2 ops.size fun i j => i == j || match dstOf ops i with
    | none => true
    | some d => dstOf ops j != some d && (!(looks ops j).contains d || ordB bs i j || ordB bs j i)

structure RG (P : Program) (ops : Array Oper) (bs : List Nat) (N : Nat) (E0 : Nat → Option SV) (H0 : Nat → Option Ob) (k0 : Nat) (eff : Nat → Eff) (ro : Nat → Bool) (kk : Nat → Nat) : Prop where
  slots : slotsOk ops bs = true
  inb : ∀ i d, dstOf ops i = some d → d < N
  kk0 : kk 0 = k0
  kkS : ∀ i, kk (i + 1) = kk i + (eff i).nk
  conf : ∀ i j nme, i < ops.size → j < ops.size → i ≠ j → ro i = false → ((lk (eff i).F nme).isSome || (lk (eff i).F' nme).isSome) = true → ((lk (eff j).F nme).isSome || (lk (eff j).F' nme).isSome) = true → ordB bs i j = true ∨ ordB bs j i = true
  rof : ∀ i, ro i = true → (eff i).F' = (eff i).F

section
variable {P : Program} {ops : Array Oper} {bs : List Nat} {N : Nat} {E0 : Nat → Option SV} {H0 : Nat → Option Ob} {k0 : Nat} {eff : Nat → Eff} {ro : Nat → Bool} {kk : Nat → Nat}

def slotP (ops : Array Oper) (E0 : Nat → Option SV) (eff : Nat → Eff) (D : Nat → Bool) (n t : Nat) : Option SV := pick (fun i => D i && dstOf ops i == some t) (fun i => some (eff i).v) n (E0 t)
def touch (eff : Nat → Eff) (i nme : Nat) : Bool := (lk (eff i).F nme).isSome || (lk (eff i).F' nme).isSome
def contP (H0 : Nat → Option Ob) (eff : Nat → Eff) (ro : Nat → Bool) (D : Nat → Bool) (n nme : Nat) : Option Ob := pick (fun i => D i && (!ro i && touch eff i nme)) (fun i => lk (eff i).F' nme) n (H0 nme)

/-- A guard's value that lets an operation be left out. -/
def skips (want : Bool) : SV → Bool
  | .d (.bool b) => b != want
  | .tup [] => true
  | _ => false
/-- The step of one operation, at the state that the text's order gives. -/
def StepOk (P : Program) (ops : Array Oper) (E : Nat → Option SV) (H : Nat → Option Ob) (k : Nat) (o : Oper) (e : Eff) : Prop :=
  (∃ j want t s, o.guard = some (j, want) ∧ dstOf ops j = some t ∧ E t = some s ∧ skips want s = true ∧ e.v = .tup [] ∧ e.F = [] ∧ e.F' = [] ∧ e.nk = 0) ∨
  ((o.guard = none ∨ ∃ j want t, o.guard = some (j, want) ∧ dstOf ops j = some t ∧ E t = some (.d (.bool want))) ∧ Sound P o E H k e)

theorem OT.facts {o : Oper} {E E' : Nat → Option SV} {F F' : Hp} {new : Nat → Prop} {v : SV} (h : OT P o E F new v F') (hE : ∀ t, Operand.tmp t ∈ o.op.operands → ∀ s, E t = some s → E' t = some s) : OT P o E' F new v F' := by
  intro rd p μ M a w K Q hnew hk hS hK
  exact h rd p μ M a w K Q hnew ⟨fun t ht s hs => hk.1 t ht s (hE t ht s hs), hk.2⟩ hS hK

theorem looks_mem {i : Nat} {o : Oper} {t : Nat} (ho : ops[i]? = some o) (ht : Operand.tmp t ∈ o.op.operands) : t ∈ looks ops i := by
  simp only [looks, ho, Option.map_some, Option.getD_some, Oper.looksAt, List.mem_append]
  exact .inl (List.mem_filterMap.2 ⟨.tmp t, by simpa using ht, rfl⟩)
theorem looks_guard {i j : Nat} {o : Oper} {t : Nat} {want : Bool} (ho : ops[i]? = some o) (hg : o.guard = some (j, want)) (ht : dstOf ops j = some t) : t ∈ looks ops i := by
  simp only [looks, ho, Option.map_some, Option.getD_some, Oper.looksAt, List.mem_append, hg]
  refine .inr ?_
  unfold dstOf at ht
  simp [ht]

def Closed (ops : Array Oper) (D : Nat → Bool) : Prop := ∀ j o, D j = true → ops[j]? = some o → ∀ e ∈ o.after, Region.binds .any e = true → D e.on = true
def Preds (ops : Array Oper) (D : Nat → Bool) (i : Nat) : Prop := ∀ o, ops[i]? = some o → ∀ e ∈ o.after, Region.binds .any e = true → D e.on = true

theorem okB_lt (h : okB ops bs = true) {i j : Nat} (hj : j < ops.size) (hi : i < ops.size) (ho : ordB bs i j = true) : i < j ∧ ∃ o, ops[j]? = some o ∧ ∃ e ∈ o.after, Region.binds .any e = true ∧ (e.on = i ∨ (e.on < j ∧ ordB bs i e.on = true)) := by
  simp only [okB, Bool.and_eq_true] at h
  have := all2_spec h.1 hj hi
  simp only [ho, Bool.not_true, Bool.false_or, Bool.and_eq_true, decide_eq_true_eq] at this
  refine ⟨this.1, ops[j], Array.getElem?_eq_getElem hj, ?_⟩
  have h2 := this.2
  rw [Array.getElem?_eq_getElem hj] at h2
  simp only [Option.map_some, Option.getD_some] at h2
  obtain ⟨e, he, hb⟩ := Array.any_eq_true'.1 h2
  simp only [Bool.and_eq_true, Bool.or_eq_true, beq_iff_eq, decide_eq_true_eq] at hb
  exact ⟨e, he, hb.1, hb.2⟩

theorem preds_ord (h : okB ops bs = true) {D : Nat → Bool} (hc : Closed ops D) : ∀ {j i : Nat}, j < ops.size → i < ops.size → Preds ops D j → ordB bs i j = true → D i = true := by
  intro j
  induction j using Nat.strongRecOn with
  | _ j ih =>
    intro i hj hi hp ho
    obtain ⟨_, o, ho', e, he, hb, h2⟩ := okB_lt h hj hi ho
    have hD := hp o ho' e he hb
    rcases h2 with rfl | ⟨hlt, h3⟩
    · exact hD
    · exact ih e.on hlt (by omega) hi (fun o' ho'' => hc e.on o' hD ho'') h3
theorem closed_ord (h : okB ops bs = true) {D : Nat → Bool} (hc : Closed ops D) {i j : Nat} (hj : j < ops.size) (hi : i < ops.size) (hD : D j = true) (ho : ordB bs i j = true) : D i = true :=
  preds_ord h hc hj hi (fun o' ho' => hc j o' hD ho') ho

/-- Of an operation that may come up now: whoever is tied to it has come up just where he stands ahead of it. -/
theorem tied (h : okB ops bs = true) {D : Nat → Bool} (hc : Closed ops D) {i j : Nat} (hi : i < ops.size) (hj : j < ops.size) (hn : D i = false) (hp : Preds ops D i) (ho : ordB bs i j = true ∨ ordB bs j i = true) : D j = decide (j < i) := by
  rcases ho with ho | ho
  · have hlt := (okB_lt h hj hi ho).1
    cases hD : D j with
    | false => simp; omega
    | true =>
      have := closed_ord h hc hj hi hD ho
      rw [this] at hn; cases hn
  · have hlt := (okB_lt h hi hj ho).1
    rw [preds_ord h hc hi hj hp ho]
    simp [hlt]

variable (hR : RG P ops bs N E0 H0 k0 eff ro kk)
include hR

theorem RG.slot_at {D : Nat → Bool} {i t : Nat} (hi : i < ops.size) (hn : D i = false) (hT : ∀ j, j < ops.size → j ≠ i → (ordB bs i j = true ∨ ordB bs j i = true) → D j = decide (j < i)) (hl : t ∈ looks ops i) :
    slotP ops E0 eff D ops.size t = slotP ops E0 eff (fun _ => true) i t := by
  unfold slotP
  rw [← pick_upto (A := fun j => true && dstOf ops j == some t) (n := ops.size) (by omega)]
  refine pick_congr fun j hj => ?_
  by_cases hd : dstOf ops j = some t
  · by_cases hji : j = i
    · subst hji; simp [hn, hd]
    · have hs := all2_spec hR.slots hj hi
      simp only [beq_iff_eq, hji, Bool.or_eq_true, false_or, hd, Bool.and_eq_true, Bool.not_eq_true'] at hs
      have hcon : (looks ops i).contains t = true := by simpa using hl
      rw [hcon] at hs
      have ho : ordB bs i j = true ∨ ordB bs j i = true := by
        rcases hs.2 with (h | h) | h
        · cases h
        · exact .inr h
        · exact .inl h
      simp [hd, hT j hj hji ho]
  · simp [beq_eq_false_iff_ne.2 hd]

theorem RG.cont_at {D : Nat → Bool} {i nme : Nat} (hi : i < ops.size) (hn : D i = false) (hT : ∀ j, j < ops.size → j ≠ i → (ordB bs i j = true ∨ ordB bs j i = true) → D j = decide (j < i)) (ht : touch eff i nme = true) :
    contP H0 eff ro D ops.size nme = contP H0 eff ro (fun _ => true) i nme := by
  unfold contP
  rw [← pick_upto (A := fun j => true && (!ro j && touch eff j nme)) (n := ops.size) (by omega)]
  refine pick_congr fun j hj => ?_
  by_cases hd : ro j = false ∧ touch eff j nme = true
  · by_cases hji : j = i
    · subst hji; simp [hn]
    · have ho := hR.conf j i nme hj hi hji hd.1 hd.2 ht
      simp [hd.1, hd.2, hT j hj (by assumption) ho.symm]
  · have : (!ro j && touch eff j nme) = false := by
      cases h1 : ro j <;> cases h2 : touch eff j nme <;> simp_all
    simp [this]

theorem RG.slot_add {D : Nat → Bool} {i t : Nat} (hi : i < ops.size) (hn : D i = false) :
    slotP ops E0 eff (fun j => D j || j == i) ops.size t = if dstOf ops i = some t then some (eff i).v else slotP ops E0 eff D ops.size t := by
  by_cases hd : dstOf ops i = some t
  · rw [if_pos hd]
    unfold slotP
    refine pick_add (A := fun j => D j && dstOf ops j == some t) hi (fun j hj hji => by simp [beq_eq_false_iff_ne.2 hji]) (fun j hj hlt => ?_) (by simp [hd])
    have hs := all2_spec hR.slots hi hj
    simp only [beq_iff_eq, Bool.or_eq_true, show ¬ i = j by omega, false_or, hd, Bool.and_eq_true, bne_iff_ne, ne_eq] at hs
    simp [hs.1]
  · rw [if_neg hd]
    unfold slotP
    refine pick_congr fun j hj => ?_
    by_cases hji : j = i
    · subst hji; simp [hd, hn]
    · simp [beq_eq_false_iff_ne.2 hji]

theorem RG.cont_add {D : Nat → Bool} {i : Nat} (hi : i < ops.size) (hn : D i = false) (hT : ∀ j, j < ops.size → j ≠ i → (ordB bs i j = true ∨ ordB bs j i = true) → D j = decide (j < i)) (hr : ro i = false) :
    contP H0 eff ro (fun j => D j || j == i) ops.size = mrg (contP H0 eff ro D ops.size) (lk (eff i).F) (lk (eff i).F') := by
  funext nme
  by_cases ht : touch eff i nme = true
  · rw [mrg_in (by
      simp only [touch, Bool.or_eq_true, Option.isSome_iff_ne_none] at ht
      exact ht)]
    unfold contP
    refine pick_add (A := fun j => D j && (!ro j && touch eff j nme)) hi (fun j hj hji => by simp [beq_eq_false_iff_ne.2 hji]) (fun j hj hlt => ?_) (by simp [hr, ht])
    by_cases hd : ro j = false ∧ touch eff j nme = true
    · have ho := hR.conf j i nme hj hi (by omega) hd.1 hd.2 ht
      have := hT j hj (by omega) ho.symm
      simp [this]
      omega
    · have : (!ro j && touch eff j nme) = false := by
        cases h1 : ro j <;> cases h2 : touch eff j nme <;> simp_all
      simp [this]
  · have hF : lk (eff i).F nme = none ∧ lk (eff i).F' nme = none := by
      simp only [touch, Bool.or_eq_true, Option.isSome_iff_ne_none, not_or, Classical.not_not] at ht
      exact ht
    rw [mrg_out hF.1 hF.2]
    unfold contP
    refine pick_congr fun j hj => ?_
    by_cases hji : j = i
    · subst hji; simp [hn, ht]
    · simp [beq_eq_false_iff_ne.2 hji]
theorem RG.cont_same {D : Nat → Bool} {i : Nat} (hr : ro i = true) : contP H0 eff ro (fun j => D j || j == i) ops.size = contP H0 eff ro D ops.size := by
  funext nme
  unfold contP
  refine pick_congr fun j hj => ?_
  by_cases hji : j = i
  · subst hji; simp [hr]
  · simp [beq_eq_false_iff_ne.2 hji]

theorem RG.mono : ∀ {i j : Nat}, i ≤ j → kk i ≤ kk j := by
  intro i j h
  induction j with
  | zero => have : i = 0 := by omega
            subst this; exact Nat.le_refl _
  | succ j ih =>
    by_cases hij : i = j + 1
    · subst hij; exact Nat.le_refl _
    · have := ih (by omega); rw [hR.kkS]; omega
omit hR

def newD (ops : Array Oper) (eff : Nat → Eff) (kk : Nat → Nat) (D : Nat → Bool) (n : Nat) : Prop := ∃ j, j < ops.size ∧ D j = true ∧ kk j ≤ n ∧ n < kk j + (eff j).nk
def pD (ops : Array Oper) (k0 : Nat) (eff : Nat → Eff) (kk : Nat → Nat) (D : Nat → Bool) (n : Nat) : Prop := n < k0 ∨ newD ops eff kk D n

/-- What is so when just those of D have come up. -/
structure Inv (ops : Array Oper) (N : Nat) (E0 : Nat → Option SV) (H0 : Nat → Option Ob) (k0 : Nat) (eff : Nat → Eff) (ro : Nat → Bool) (kk : Nat → Nat) (μ0 : Nat → Nm) (M0 : Mem) (w0 : World) (df : List Deferred) (D : Nat → Bool) (a : Act) (w : World) : Prop where
  ex : ∃ μ M, (∀ t s, slotP ops E0 eff D ops.size t = some s → Rp (pD ops k0 eff kk D) μ M s (a.tmps.getD t undef)) ∧ SatF (pD ops k0 eff kk D) μ M (contP H0 eff ro D ops.size) w ∧
    Ev H0 (newD ops eff kk D) μ0 M0 w0 (contP H0 eff ro D ops.size) μ M w
  df : a.defers = df
  sz : a.tmps.size = N

theorem put_same {a : Act} {d : Nat} {v : Value} (h : d < a.tmps.size) : (a.put (some d) v).tmps.getD d undef = v := by
  simp [Act.put, h]
theorem put_other {a : Act} {d t : Nat} {v : Value} (h : t ≠ d) : (a.put (some d) v).tmps.getD t undef = a.tmps.getD t undef := by
  simp [Act.put, Array.getElem?_setIfInBounds_ne (Ne.symm h)]
theorem put_size {a : Act} {d : Option Nat} {v : Value} : (a.put d v).tmps.size = a.tmps.size := by cases d <;> simp [Act.put]
theorem put_defers' {a : Act} {d : Option Nat} {v : Value} : (a.put d v).defers = a.defers := by cases d <;> rfl

theorem yielded_un {a : Act} {j t : Nat} (hd : dstOf ops j = some t) (h : a.tmps.getD t undef = undef) : yielded ops a.tmps j = none := by
  unfold yielded
  unfold dstOf at hd
  rw [hd]
  simp only [Option.bind_some]
  rcases Nat.lt_or_ge t a.tmps.size with hl | hl
  · rw [Array.getElem?_eq_getElem hl]
    rw [Array.getD_eq_getD_getElem?, Array.getElem?_eq_getElem hl] at h
    simp only [Option.getD_some] at h
    rw [h]
    rfl
  · rw [Array.getElem?_eq_none hl]
theorem put_undef {a : Act} {d : Nat} : (a.put (some d) undef).tmps.getD d undef = undef := by
  rcases Nat.lt_or_ge d a.tmps.size with hl | hl
  · exact put_same hl
  · rw [Array.getD_eq_getD_getElem?, Array.getElem?_eq_none (by rw [put_size]; exact hl)]
    rfl
theorem yielded_of {a : Act} {j t : Nat} {b : Bool} (hd : dstOf ops j = some t) (h : a.tmps.getD t undef = .bool b) : yielded ops a.tmps j = some b := by
  unfold yielded
  unfold dstOf at hd
  rw [hd]
  have : a.tmps[t]? = some (.bool b) := by
    rcases Nat.lt_or_ge t a.tmps.size with hl | hl
    · rw [Array.getElem?_eq_getElem hl]
      simp [hl] at h
      rw [h]
    · simp [Array.getElem?_eq_none hl] at h
      cases h
  simp [this]

include hR in
theorem RG.step {rd : Option Nat} {μ0 : Nat → Nm} {M0 : Mem} {w0 : World} {df : List Deferred} {D : Nat → Bool} {i : Nat} {o : Oper} (ho : ops[i]? = some o) (hn : D i = false) (hT : ∀ j, j < ops.size → j ≠ i → (ordB bs i j = true ∨ ordB bs j i = true) → D j = decide (j < i))
    (hs : StepOk P ops (slotP ops E0 eff (fun _ => true) i) (contP H0 eff ro (fun _ => true) i) (kk i) o (eff i)) {a : Act} {w : World} {Q : Exit → Act → World → Prop}
    (hI : Inv ops N E0 H0 k0 eff ro kk μ0 M0 w0 df D a w)  : wpOpIn (Wide rd) 0 P ops Q i (Inv ops N E0 H0 k0 eff ro kk μ0 M0 w0 df (fun j => D j || j == i)) a w := by
  have hi : i < ops.size := (Array.getElem?_eq_some_iff.1 ho).1
  obtain ⟨⟨μ, M, hsl, hS, hE⟩, hdf, hsz⟩ := hI
  have hslot : ∀ t, t ∈ looks ops i → ∀ s, slotP ops E0 eff (fun _ => true) i t = some s → slotP ops E0 eff D ops.size t = some s := fun t ht s h => by
    rw [hR.slot_at hi hn hT ht]; exact h
  have hdst : dstOf ops i = o.dst := by simp [dstOf, ho]
  unfold wpOpIn
  simp only [ho]
  rcases hs with ⟨j, want, t, sv, hg, hd, hE', hb, e1, e2, e3, e4⟩ | ⟨hg, hOT, hsub⟩
  · have hv := hsl t _ (hslot t (looks_guard ho hg hd) _ hE')
    have hw : Region.wanted o (yielded ops a.tmps) = false := by
      simp only [Region.wanted, hg]
      unfold skips at hb
      split at hb
      · rw [yielded_of hd (Rp.bool_iff.1 hv)]
        simpa using hb
      · obtain ⟨vs, e, hvs⟩ := Rp.tup_iff.1 hv
        have hvs0 : vs = #[] := by have := Rps.nil_iff.1 hvs; simpa using this
        rw [yielded_un hd (by rw [e, hvs0]; rfl)]
        rfl
      · cases hb
    simp only [hw, Bool.false_eq_true, if_false]
    have hnew : newD ops eff kk (fun j => D j || j == i) = newD ops eff kk D := by
      funext n
      apply propext
      constructor
      · rintro ⟨j', h1, h2, h3, h4⟩
        by_cases hji : j' = i
        · subst hji; omega
        · exact ⟨j', h1, by simpa [beq_eq_false_iff_ne.2 hji] using h2, h3, h4⟩
      · rintro ⟨j', h1, h2, h3, h4⟩
        exact ⟨j', h1, by simp [h2], h3, h4⟩
    have hpd : pD ops k0 eff kk (fun j => D j || j == i) = pD ops k0 eff kk D := by
      unfold pD; rw [hnew]
    have hcont : contP H0 eff ro (fun j => D j || j == i) ops.size = contP H0 eff ro D ops.size := by
      cases hr : ro i with
      | true => exact hR.cont_same hr
      | false =>
        rw [hR.cont_add hi hn hT hr, e2, e3]
        funext nme
        exact mrg_out rfl rfl
    refine ⟨fun _ _ => trivial, ⟨⟨μ, M, fun t s h => ?_, by rw [hpd, hcont]; exact hS, by rw [hnew, hcont]; exact hE⟩, by rw [put_defers']; exact hdf, by rw [put_size]; exact hsz⟩⟩
    rw [hR.slot_add hi hn] at h
    rw [hpd]
    split at h
    · rename_i heq
      rw [e1] at h
      injection h with h
      subst h
      rw [hdst] at heq
      rw [heq, put_undef]
      exact Rp.tup_iff.2 ⟨#[], rfl, Rps.nil_iff.2 rfl⟩
    · rename_i hne
      rw [hdst] at hne
      cases hod : o.dst with
      | none => exact hsl t s h
      | some d => rw [put_other (fun e => hne (by rw [hod, e]))]; exact hsl t s h
  · have hw : Region.wanted o (yielded ops a.tmps) = true := by
      rcases hg with hg | ⟨j, want, t, hg, hd, hE'⟩
      · simp [Region.wanted, hg]
      · have hv := Rp.bool_iff.1 (hsl t _ (hslot t (looks_guard ho hg hd) _ hE'))
        simp only [Region.wanted, hg, yielded_of hd hv]
        simp
    simp only [hw, if_true]
    have hnewp : ∀ n, (kk i ≤ n ∧ n < kk i + (eff i).nk) → ¬ pD ops k0 eff kk D n := by
      rintro n ⟨h1, h2⟩ (h3 | ⟨j, hj, hDj, h4, h5⟩)
      · have := hR.mono (Nat.zero_le i); rw [hR.kk0] at this; omega
      · rcases Nat.lt_trichotomy j i with hlt | heq | hgt
        · have := hR.mono (show j + 1 ≤ i by omega); rw [hR.kkS] at this; omega
        · subst heq; rw [hDj] at hn; cases hn
        · have := hR.mono (show i + 1 ≤ j by omega); rw [hR.kkS] at this; omega
    have hsub' : ∀ nme ob, lk (eff i).F nme = some ob → contP H0 eff ro D ops.size nme = some ob := fun nme ob h => by
      rw [hR.cont_at hi hn hT (by simp [touch, h])]
      exact hsub nme ob h
    refine hOT.facts (fun t ht s h => hslot t (looks_mem ho ht) s h) rd (pD ops k0 eff kk D) μ M a w _ Q hnewp ⟨fun t ht s h => hsl t s h, hS.mem.glob⟩ (hS.sub hsub') fun u μ' M' w' hu hS' hE' => ?_
    have hpeq : (fun n => pD ops k0 eff kk D n ∨ (kk i ≤ n ∧ n < kk i + (eff i).nk)) = pD ops k0 eff kk (fun j => D j || j == i) := by
      funext n
      apply propext
      constructor
      · rintro ((h | ⟨j, hj, h1, h2⟩) | h)
        · exact .inl h
        · exact .inr ⟨j, hj, by simp [h1], h2⟩
        · exact .inr ⟨i, hi, by simp, h⟩
      · rintro (h | ⟨j, hj, h1, h2⟩)
        · exact .inl (.inl h)
        · by_cases hji : j = i
          · subst hji; exact .inr h2
          · exact .inl (.inr ⟨j, hj, by simpa [beq_eq_false_iff_ne.2 hji] using h1, h2⟩)
    have hneq : (fun n => newD ops eff kk D n ∨ (kk i ≤ n ∧ n < kk i + (eff i).nk)) = newD ops eff kk (fun j => D j || j == i) := by
      funext n
      apply propext
      constructor
      · rintro (⟨j, hj, h1, h2⟩ | h)
        · exact ⟨j, hj, by simp [h1], h2⟩
        · exact ⟨i, hi, by simp, h⟩
      · rintro ⟨j, hj, h1, h2⟩
        by_cases hji : j = i
        · subst hji; exact .inr h2
        · exact .inl ⟨j, hj, by simpa [beq_eq_false_iff_ne.2 hji] using h1, h2⟩
    have hfr := hS.framed hsub' hnewp hE' hS' fun n h => .inl h
    rw [hpeq] at hu hfr
    have hcont : contP H0 eff ro (fun j => D j || j == i) ops.size = mrg (contP H0 eff ro D ops.size) (lk (eff i).F) (lk (eff i).F') := by
      cases hr : ro i with
      | false => exact hR.cont_add hi hn hT hr
      | true =>
        rw [hR.cont_same hr, hR.rof i hr]
        funext nme
        by_cases h : lk (eff i).F nme = none
        · rw [mrg_out h h]
        · rw [mrg_in (.inl h)]
          obtain ⟨ob, hob⟩ := Option.ne_none_iff_exists'.1 h
          rw [hob]; exact hsub' nme ob hob
    refine ⟨⟨μ', M', fun t s h => ?_, by rw [hcont]; exact hfr.1, ?_⟩, by rw [put_defers']; exact hdf, by rw [put_size]; exact hsz⟩
    · rw [hR.slot_add hi hn] at h
      have hold : ∀ s, slotP ops E0 eff D ops.size t = some s → Rp (pD ops k0 eff kk (fun j => D j || j == i)) μ' M' s (a.tmps.getD t undef) := fun s h => by
        rw [← hpeq]
        exact (hsl t s h).more (fun n h => .inl h) (fun n h => hE'.old n fun h' => hnewp n h' h) hE'.mem
      split at h
      · rename_i hd
        injection h with h
        subst h
        rw [hdst] at hd
        rw [hd, put_same (by rw [hsz]; exact hR.inb i t (by rw [hdst, hd]))]
        exact hu
      · rename_i hne
        rw [hdst] at hne
        cases hod : o.dst with
        | none => exact hold s h
        | some d => rw [put_other (fun e => hne (by rw [hod, e]))]; exact hold s h
    · rw [hcont]
      have := hE.trans hfr.2
      rwa [hneq] at this

/-! ### all of them -/
theorem Inv.congr {μ0 : Nat → Nm} {M0 : Mem} {w0 : World} {df : List Deferred} {D D' : Nat → Bool} {a : Act} {w : World} (h : Inv ops N E0 H0 k0 eff ro kk μ0 M0 w0 df D a w) (hD : ∀ j, j < ops.size → D j = D' j) : Inv ops N E0 H0 k0 eff ro kk μ0 M0 w0 df D' a w := by
  have e1 : slotP ops E0 eff D ops.size = slotP ops E0 eff D' ops.size := funext fun t => pick_congr fun i hi => by rw [hD i hi]
  have e2 : contP H0 eff ro D ops.size = contP H0 eff ro D' ops.size := funext fun t => pick_congr fun i hi => by rw [hD i hi]
  have e3 : newD ops eff kk D = newD ops eff kk D' := funext fun n => propext ⟨fun ⟨j, h1, h2, h3⟩ => ⟨j, h1, by rw [← hD j h1]; exact h2, h3⟩, fun ⟨j, h1, h2, h3⟩ => ⟨j, h1, by rw [hD j h1]; exact h2, h3⟩⟩
  have e4 : pD ops k0 eff kk D = pD ops k0 eff kk D' := by unfold pD; rw [e3]
  obtain ⟨⟨μ, M, h1, h2, h3⟩, h4, h5⟩ := h
  rw [e1, e4] at h1
  rw [e4, e2] at h2
  rw [e3, e2] at h3
  exact ⟨⟨μ, M, h1, h2, h3⟩, h4, h5⟩

def countU (listed : Array Bool) : Nat → Nat
  | 0 => 0
  | n + 1 => countU listed n + if listed.getD n true then 0 else 1
theorem countU_set {listed : Array Bool} {i : Nat} (hu : listed.getD i true = false) : ∀ n, countU (listed.setIfInBounds i true) n + (if i < n then 1 else 0) = countU listed n
  | 0 => by simp [countU]
  | n + 1 => by
    have ih := countU_set hu n
    simp only [countU]
    by_cases hn : n = i
    · subst hn
      have hlt : n < listed.size := by
        rcases Nat.lt_or_ge n listed.size with h | h
        · exact h
        · simp [Array.getElem?_eq_none h] at hu
      have h1 : (listed.setIfInBounds n true).getD n true = true := by simp [hlt]
      rw [h1, hu]
      simp at ih ⊢
      omega
    · rw [getD_set_ne true (Ne.symm hn)]
      by_cases hlt : i < n
      · simp [hlt] at ih
        simp [show i < n + 1 by omega]
        omega
      · simp [hlt] at ih
        simp [show ¬ i < n + 1 by omega]
        omega
theorem countU_zero {listed : Array Bool} : ∀ {n : Nat}, countU listed n = 0 → ∀ j, j < n → listed.getD j true = true
  | 0, _, j, h => by omega
  | n + 1, h, j, hj => by
    simp only [countU] at h
    by_cases hn : j = n
    · subst hn
      cases hh : listed.getD j true with
      | true => rfl
      | false => rw [hh] at h; simp at h
    · exact countU_zero (n := n) (by omega) j (by omega)
theorem countU_pos {listed : Array Bool} {n : Nat} (h : ∀ j, j < n → listed.getD j true = true) : countU listed n = 0 := by
  induction n with
  | zero => rfl
  | succ n ih => simp only [countU, h n (by omega), ih fun j hj => h j (by omega)]; rfl

theorem ready_nil (hb : okB ops bs = true) {listed : Array Bool} (hsz : listed.size = ops.size) (h : Region.ready .any ops listed = []) : ∀ j, j < ops.size → listed.getD j true = true := by
  intro j
  induction j using Nat.strongRecOn with
  | _ j ih =>
    intro hj
    cases hl : listed.getD j true with
    | true => rfl
    | false =>
      exfalso
      have : j ∈ Region.ready .any ops listed := mem_ready.2 ⟨hl, ops[j], Array.getElem?_eq_getElem hj, fun e he hbd => by
        simp only [okB, Bool.and_eq_true] at hb
        have h2 := List.all_eq_true.1 hb.2 j (List.mem_range.2 hj)
        rw [Array.getElem?_eq_getElem hj] at h2
        simp only [Option.map_some, Option.getD_some] at h2
        have h3 := Array.all_eq_true_iff_forall_mem.1 h2 e he
        simp only [hbd, Bool.not_true, Bool.false_or, decide_eq_true_eq] at h3
        have h4 := ih e.on h3 (by omega)
        have hlt : e.on < listed.size := by omega
        simp [hlt] at h4 ⊢
        exact h4⟩
      rw [h] at this
      cases this

theorem RG.drawn {rd : Option Nat} (hR : RG P ops bs N E0 H0 k0 eff ro kk) (hb : okB ops bs = true)
    (hs : ∀ (i : Nat) (o : Oper), ops[i]? = some o → StepOk P ops (slotP ops E0 eff (fun _ => true) i) (contP H0 eff ro (fun _ => true) i) (kk i) o (eff i))
    {μ0 : Nat → Nm} {M0 : Mem} {w0 : World} {df : List Deferred} {Q : Exit → Act → World → Prop} (hQ : ∀ a w, Inv ops N E0 H0 k0 eff ro kk μ0 M0 w0 df (fun _ => true) a w → Q .normal a w) :
    ∀ (fuel : Nat) (listed : Array Bool) (a : Act) (w : World), listed.size = ops.size → countU listed ops.size = fuel → Closed ops (fun j => listed.getD j false) → Inv ops N E0 H0 k0 eff ro kk μ0 M0 w0 df (fun j => listed.getD j false) a w →
      wpAnyIn (Wide rd) 0 P .any ops Q fuel listed a w := by
  have same : ∀ (listed : Array Bool), listed.size = ops.size → ∀ j, j < ops.size → listed.getD j true = listed.getD j false := fun listed hl j hj => by simp [show j < listed.size by omega]
  intro fuel
  induction fuel with
  | zero =>
    intro listed a w hl hcnt hc hI
    have hall := countU_zero hcnt
    refine ⟨?_, hQ a w (hI.congr fun j hj => by rw [← same listed hl j hj]; exact hall j hj)⟩
    refine List.eq_nil_iff_forall_not_mem.2 fun i hi => ?_
    obtain ⟨h1, o, h2, _⟩ := mem_ready.1 hi
    rw [hall i (Array.getElem?_eq_some_iff.1 h2).1] at h1
    cases h1
  | succ fuel ih =>
    intro listed a w hl hcnt hc hI
    refine ⟨fun h => ?_, fun i hi => ?_⟩
    · have := countU_pos (ready_nil hb hl h)
      omega
    · obtain ⟨h1, o, h2, h3⟩ := mem_ready.1 hi
      have hi' : i < ops.size := (Array.getElem?_eq_some_iff.1 h2).1
      have hn : listed.getD i false = false := by rw [← same listed hl i hi']; exact h1
      have hp : Preds ops (fun j => listed.getD j false) i := fun o' ho' e he hbd => by
        rw [h2] at ho'; injection ho' with ho'; subst ho'
        exact h3 e he hbd
      refine wpOpIn_mono (fun a' w' hI' => ?_) (hR.step h2 hn (fun j hj hji ho => tied hb hc hi' hj hn hp ho) (hs i o h2) hI)
      have hD : ∀ j, (listed.getD j false || j == i) = (listed.setIfInBounds i true).getD j false := fun j => by
        by_cases hji : j = i
        · subst hji
          simp [show j < listed.size by omega]
        · rw [getD_set_ne false (Ne.symm hji)]
          simp [beq_eq_false_iff_ne.2 hji]
      refine ih (listed.setIfInBounds i true) a' w' (by simpa using hl) (by have := countU_set h1 ops.size; simp [hi'] at this; omega) (fun j o' hDj ho' e he hbd => ?_) (hI'.congr fun j _ => hD j)
      simp only [← hD] at hDj ⊢
      simp only [Bool.or_eq_true, beq_iff_eq] at hDj
      rcases hDj with h | rfl
      · simp [hc j o' h ho' e he hbd]
      · rw [h2] at ho'; injection ho' with ho'; subst ho'
        have := h3 e he hbd
        simp [this]

theorem RG.inOrder {rd : Option Nat} (hR : RG P ops bs N E0 H0 k0 eff ro kk)
    (hs : ∀ (i : Nat) (o : Oper), ops[i]? = some o → StepOk P ops (slotP ops E0 eff (fun _ => true) i) (contP H0 eff ro (fun _ => true) i) (kk i) o (eff i))
    {μ0 : Nat → Nm} {M0 : Mem} {w0 : World} {df : List Deferred} {Q : Exit → Act → World → Prop} (hQ : ∀ a w, Inv ops N E0 H0 k0 eff ro kk μ0 M0 w0 df (fun _ => true) a w → Q .normal a w) :
    ∀ (m k : Nat) (a : Act) (w : World), k + m = ops.size → Inv ops N E0 H0 k0 eff ro kk μ0 M0 w0 df (fun j => decide (j < k)) a w → wpOpsIn (Wide rd) 0 P ops Q (List.range' k m) a w := by
  intro m
  induction m with
  | zero =>
    intro k a w hk hI
    simp only [List.range', wpOpsIn]
    exact hQ a w (hI.congr fun j hj => by simp; omega)
  | succ m ih =>
    intro k a w hk hI
    rw [List.range'_succ, wpOpsIn_cons]
    have hkn : k < ops.size := by omega
    refine wpOpIn_mono (fun a' w' hI' => ?_) (hR.step (Array.getElem?_eq_getElem hkn) (by simp) (fun j _ _ _ => rfl) (hs k _ (Array.getElem?_eq_getElem hkn)) hI)
    exact ih (k + 1) a' w' (by omega) (hI'.congr fun j _ => by
      by_cases h1 : j = k
      · subst h1; simp
      · simp [beq_eq_false_iff_ne.2 h1]; omega)
end
end Go.Sl

/-
  Calls by contract; a region as a fold over its operations.
-/
set_option linter.unusedSimpArgs false
set_option linter.unusedSectionVars false
set_option linter.unusedVariables false
namespace Go.Sl
open Go.RowKit

def Callable (P : Program) (f : FuncId) : Bool :=
  match P.funcs[f]? with
  | some fn => fn.name != "runtime.NumGoroutine" && fn.body.isSome
  | none => false

/-- WHAT A CALL DOES: called with values that are as 'args' say, where the objects are as F says, it returns, as Q says; it makes at most nk new names, from k on. -/
def SC (P : Program) (f : FuncId) (args : List SV) (F : Hp) (k nk : Nat) (Q : SV → Hp → Prop) : Prop :=
  Callable P f = true ∧
  ∀ (p : Nat → Prop) (μ : Nat → Nm) (M : Mem) (w : World) (vals : Array Value), (∀ n, (k ≤ n ∧ n < k + nk) → ¬ p n) → Rps p μ M args vals.toList → SatF p μ M (lk F) w →
    Calls P f vals w fun e w' => ∃ r F' μ' M' u, e = .returned u ∧ Q r F' ∧ Rp (fun n => p n ∨ (k ≤ n ∧ n < k + nk)) μ' M' r u ∧ SatF (fun n => p n ∨ (k ≤ n ∧ n < k + nk)) μ' M' (lk F') w' ∧
      Ev (lk F) (fun n => k ≤ n ∧ n < k + nk) μ M w (lk F') μ' M' w'

def SCd (P : Program) (f : FuncId) (args : List SV) (F : Hp) (k nk : Nat) (v : SV) (F' : Hp) : Prop := SC P f args F k nk fun r h => r = v ∧ h = F'

theorem SC.mono {P : Program} {f : FuncId} {args : List SV} {F : Hp} {k nk : Nat} {Q Q' : SV → Hp → Prop} (h : SC P f args F k nk Q) (hq : ∀ r F', Q r F' → Q' r F') : SC P f args F k nk Q' :=
  ⟨h.1, fun p μ M w vals h1 h2 h3 => (h.2 p μ M w vals h1 h2 h3).mono fun e w' ⟨r, F', μ', M', u, a, b, c⟩ => ⟨r, F', μ', M', u, a, hq r F' b, c⟩⟩

/-- A CALL OF yield, the loop's record called nl. -/
def YieldX (P : Program) (l : Nat) (vals : Array Value) (w : World) (R : Ending → World → Prop) : Prop :=
  ∃ fn tmps assign body, (Instr.yield l vals).run P w = .ok (.round l fn tmps assign body) w ∧ RoundIn (Wide none) 0 P l fn tmps assign body w R
def SY (P : Program) (nl : Nat) (args : List SV) (F : Hp) (k nk : Nat) (Q : SV → Hp → Prop) : Prop :=
  ∀ (p : Nat → Prop) (μ : Nat → Nm) (M : Mem) (w : World) (vals : Array Value), (∀ n, (k ≤ n ∧ n < k + nk) → ¬ p n) → p nl → Rps p μ M args vals.toList → SatF p μ M (lk F) w →
    YieldX P (μ nl).blk vals w fun e w' => ∃ r F' μ' M' u, e = .returned u ∧ Q r F' ∧ Rp (fun n => p n ∨ (k ≤ n ∧ n < k + nk)) μ' M' r u ∧ SatF (fun n => p n ∨ (k ≤ n ∧ n < k + nk)) μ' M' (lk F') w' ∧
      Ev (lk F) (fun n => k ≤ n ∧ n < k + nk) μ M w (lk F') μ' M' w'
def SYd (P : Program) (nl : Nat) (args : List SV) (F : Hp) (k nk : Nat) (v : SV) (F' : Hp) : Prop := SY P nl args F k nk fun r h => r = v ∧ h = F'

section
variable {P : Program}

theorem run_callFunc {w : World} {f : FuncId} (h : Callable P f = true) (args : Array Value) : (callFunc f args).run P w = .ok (.enter f args) w := by
  unfold Callable at h
  split at h <;> first | (cases h; done) | skip
  rename_i fn hf
  simp only [Bool.and_eq_true, bne_iff_ne, ne_eq] at h
  obtain ⟨c, hc⟩ := Option.isSome_iff_exists.1 h.2
  simp [callFunc, hf, h.1, hc]

/-- A call's operation, where what it does is known. -/
theorem s_callQ {o : Oper} {E : Nat → Option SV} {c : Call} {fo : Operand} {f' : X} {as' : List X} {fid : FuncId} {first cap as : List SV} {F : Hp} {k nk : Nat} {Q : SV → Hp → Prop}
    (ho : o.op = .call c) (hcal : c.callee = .value fo) (hf : cX fo = some f') (ha : cXs c.args.toList = some as') (h1 : ev E f' = some (.fn (.func fid) first cap)) (h2 : evs E as' = some as)
    (hSC : SC P fid (first ++ as ++ cap) F k nk Q) {rd : Option Nat} {p : Nat → Prop} {μ : Nat → Nm} {M : Mem} {a : Act} {w : World} {K : Act → World → Prop} {QQ : Exit → Act → World → Prop} (hnew : ∀ n, (k ≤ n ∧ n < k + nk) → ¬ p n)
    (hk : Known E o.op.operands p μ M a) (hS : SatF p μ M (lk F) w)
    (hK : ∀ r F' u μ' M' w', Q r F' → Rp (fun n => p n ∨ (k ≤ n ∧ n < k + nk)) μ' M' r u → SatF (fun n => p n ∨ (k ≤ n ∧ n < k + nk)) μ' M' (lk F') w' → Ev (lk F) (fun n => k ≤ n ∧ n < k + nk) μ M w (lk F') μ' M' w' → K (a.put o.dst u) w') :
    o.wpIn (Wide rd) 0 P a w K QQ := by
  have hin : fo ∈ o.op.operands := by simp [ho, Op.operands, Call.operands, hcal]
  have hin2 : ∀ x ∈ c.args.toList, x ∈ o.op.operands := fun x hx => by
    rw [ho]; simp only [Op.operands, Call.operands, hcal, Array.mem_append]; exact .inr (by simpa using hx)
  obtain ⟨fs, cs, e1, r1, r2⟩ := Rp.fn_iff.1 (hk.get hin hf h1)
  have r3 := hk.gets hin2 ha h2
  have hargs : Rps p μ M (first ++ as ++ cap) (fs ++ c.args.map a.eval ++ cs).toList := by
    simpa using (r1.append r3).append r2
  have hrun : (execOp a.eval o).run P w = .ok (.enter fid (fs ++ c.args.map a.eval ++ cs)) w := by
    simp only [execOp, ho, resolve, hcal, e1, Deferred.ofValue, Sem.run_bind, Sem.run_pure, Result.andThen_ok, invoke, run_callFunc hSC.1]
  refine ⟨fun _ _ => trivial, ?_⟩
  rw [semAt_run (fun d e => by cases e) hrun, Oper.uponIn_enter]
  refine ⟨(fun h => by cases h), callsIn_W.2 ?_⟩
  refine (hSC.2 p μ M w _ hnew hargs hS).mono ?_
  rintro e w' ⟨r, F', μ', M', u, rfl, hq, hr, hS', hE⟩
  exact hK r F' u μ' M' w' hq hr hS' hE

/-- A call of yield. -/
theorem s_yieldQ {o : Oper} {E : Nat → Option SV} {c : Call} {fo : Operand} {f' : X} {as' : List X} {nl : Nat} {as : List SV} {F : Hp} {k nk : Nat} {Q : SV → Hp → Prop}
    (ho : o.op = .call c) (hcal : c.callee = .value fo) (hf : cX fo = some f') (ha : cXs c.args.toList = some as') (h1 : ev E f' = some (.yl nl)) (h2 : evs E as' = some as) (hF : lk F nl ≠ none)
    (hSC : SY P nl as F k nk Q) {rd : Option Nat} {p : Nat → Prop} {μ : Nat → Nm} {M : Mem} {a : Act} {w : World} {K : Act → World → Prop} {QQ : Exit → Act → World → Prop} (hnew : ∀ n, (k ≤ n ∧ n < k + nk) → ¬ p n)
    (hk : Known E o.op.operands p μ M a) (hS : SatF p μ M (lk F) w)
    (hK : ∀ r F' u μ' M' w', Q r F' → Rp (fun n => p n ∨ (k ≤ n ∧ n < k + nk)) μ' M' r u → SatF (fun n => p n ∨ (k ≤ n ∧ n < k + nk)) μ' M' (lk F') w' → Ev (lk F) (fun n => k ≤ n ∧ n < k + nk) μ M w (lk F') μ' M' w' → K (a.put o.dst u) w') :
    o.wpIn (Wide rd) 0 P a w K QQ := by
  have hin : fo ∈ o.op.operands := by simp [ho, Op.operands, Call.operands, hcal]
  have hin2 : ∀ x ∈ c.args.toList, x ∈ o.op.operands := fun x hx => by
    rw [ho]; simp only [Op.operands, Call.operands, hcal, Array.mem_append]; exact .inr (by simpa using hx)
  have e1 : a.eval fo = .func (.yield (μ nl).blk) #[] #[] := by simpa [Rep] using (hk.get hin hf h1).rep
  have r3 := hk.gets hin2 ha h2
  have hargs : Rps p μ M as (c.args.map a.eval).toList := by simpa using r3
  obtain ⟨ob, hob⟩ := Option.ne_none_iff_exists'.1 hF
  obtain ⟨fn, tmps, assign, body, hy, hround⟩ := hSC p μ M w _ hnew (hS.obs nl ob hob).1 hargs hS
  have hrun : (execOp a.eval o).run P w = .ok (.round (μ nl).blk fn tmps assign body) w := by
    simp only [execOp, ho, resolve, hcal, e1, Deferred.ofValue, Sem.run_bind, Sem.run_pure, Result.andThen_ok, invoke]
    simpa using hy
  refine ⟨fun _ _ => trivial, ?_⟩
  rw [semAt_run (fun d e => by cases e) hrun, Oper.uponIn_round]
  refine ⟨(fun h => by cases h), RoundIn.mono (show RoundIn (Wide rd) (0 - 1) P _ _ _ _ _ _ _ from hround) ?_⟩
  rintro e w' ⟨r, F', μ', M', u, rfl, hq, hr, hS', hE⟩
  exact hK r F' u μ' M' w' hq hr hS' hE

structure SI where
  dst : Option Nat
  op : SO
  g : Option (Nat × Bool)

def cOper (P : Program) (ops : Array Oper) (o : Oper) : Option SI :=
  match cO P o.op with
  | some so => match o.guard with
    | none => some ⟨o.dst, so, none⟩
    | some (j, w) => match dstOf ops j with
      | some t => some ⟨o.dst, so, some (t, w)⟩
      | none => none
  | none => none
def cOpers (P : Program) (ops : Array Oper) : List Oper → Option (List SI)
  | [] => some []
  | o :: r => match cOper P ops o, cOpers P ops r with
    | some s, some ss => some (s :: ss)
    | _, _ => none

structure St where
  env : List (Nat × SV)
  hp : Hp
  k : Nat

inductive CR where
  | own
  | frz
  | call (F : Hp) (v : SV) (F' : Hp) (nk : Nat)
  | tab (pt : FuncId → List SV → Option SV)

def HSub (F h : Hp) : Prop := ∀ n ob, lk F n = some ob → lk h n = some ob

def goOp (P : Program) (st : St) (so : SO) (crs : List CR) : Option (Eff × List CR) :=
  match so with
  | .call f args => match ev (fun t => st.env.lookup t) f, evs (fun t => st.env.lookup t) args, crs with
    | some (.fn (.func fid) first cap), some as, .call F v F' nk :: crs' => some (⟨v, F, F', nk, SCd P fid (first ++ as ++ cap) F st.k nk v F' ∧ HSub F st.hp⟩, crs')
    | some (.fn (.func fid) first cap), some as, .tab pt :: crs' => match pt fid (first ++ as ++ cap) with
      | some v => some (⟨v, [], [], 0, SCd P fid (first ++ as ++ cap) [] st.k 0 v [] ∧ HSub [] st.hp⟩, .tab pt :: crs')
      | none => none
    | some (.yl nl), some as, .call F v F' nk :: crs' => some (⟨v, F, F', nk, SYd P nl as F st.k nk v F' ∧ lk F nl ≠ none ∧ HSub F st.hp⟩, crs')
    | _, _, _ => none
  | .bsl e sz len z parts => match crs with
    | .own :: crs' => match sop (fun t => st.env.lookup t) (lk st.hp) st.k true (.bsl e sz len z parts) with
      | some e => some (e, crs')
      | none => none
    | .frz :: crs' => match sop (fun t => st.env.lookup t) (lk st.hp) st.k false (.bsl e sz len z parts) with
      | some e => some (e, crs')
      | none => none
    | crs => match sop (fun t => st.env.lookup t) (lk st.hp) st.k false (.bsl e sz len z parts) with
      | some e => some (e, crs)
      | none => none
  | so => match sop (fun t => st.env.lookup t) (lk st.hp) st.k false so with
    | some e => some (e, crs)
    | none => none
def runOp (P : Program) (st : St) (si : SI) (crs : List CR) : Option (Eff × List CR) :=
  match si.g with
  | none => goOp P st si.op crs
  | some (t, w) => match st.env.lookup t with
    | some (.d (.bool b)) => if b == w then goOp P st si.op crs else some (⟨.tup [], [], [], 0, True⟩, crs)
    | some (.tup []) => some (⟨.tup [], [], [], 0, True⟩, crs)
    | _ => none

def hrep : Hp → Nat → Ob → Hp
  | [], n, ob => [(n, ob)]
  | (m, o) :: h, n, ob => if m = n then (n, ob) :: h else (m, o) :: hrep h n ob
/-- In its place; what is new stands ahead. -/
def hset (h : Hp) (n : Nat) (ob : Ob) : Hp := match lk h n with
  | some _ => hrep h n ob
  | none => (n, ob) :: h
def hdel : Hp → Nat → Hp
  | [], n => []
  | (m, o) :: h, n => if m = n then hdel h n else (m, o) :: hdel h n
def hsets (h : Hp) : Hp → Hp
  | [] => h
  | (n, ob) :: r => hset (hsets h r) n ob
def hdels (h : Hp) (F' : Hp) : Hp → Hp
  | [] => h
  | (n, _) :: r => if (lk F' n).isSome then hdels h F' r else hdel (hdels h F' r) n
def hmrg (ro : Bool) (h F F' : Hp) : Hp := if ro then h else hsets (hdels h F' F) F'

theorem lk_hrep : ∀ (h : Hp) (n : Nat) (ob : Ob) (m : Nat), lk (hrep h n ob) m = if m = n then some ob else lk h m
  | [], n, ob, m => by simp only [hrep]; rw [lk_one]; rfl
  | (q, o) :: h, n, ob, m => by
    simp only [hrep]
    split
    · rename_i e
      subst e
      rw [lk_cons, lk_cons]
      split <;> rfl
    · rename_i e
      rw [lk_cons, lk_cons, lk_hrep h n ob m]
      by_cases h2 : m = n
      · subst h2
        have : m ≠ q := fun h => e h.symm
        simp [this]
      · simp [h2]
theorem lk_hset (h : Hp) (n : Nat) (ob : Ob) (m : Nat) : lk (hset h n ob) m = if m = n then some ob else lk h m := by
  unfold hset
  split
  · exact lk_hrep h n ob m
  · have : lk ((n, ob) :: h) m = if m = n then some ob else lk h m := by
      unfold lk
      simp only [List.lookup]
      by_cases e : m = n
      · subst e; simp
      · rw [if_neg e, show (m == n) = false by simpa using e]
    exact this
theorem lk_hdel : ∀ (h : Hp) (n m : Nat), lk (hdel h n) m = if m = n then none else lk h m
  | [], n, m => by simp [hdel, lk_nil]
  | (q, o) :: h, n, m => by
    simp only [hdel]
    split
    · rename_i e
      subst e
      rw [lk_hdel h q m, lk_cons]
      split <;> rfl
    · rename_i e
      rw [lk_cons, lk_cons, lk_hdel h n m]
      by_cases h2 : m = n
      · subst h2
        have : m ≠ q := fun h => e h.symm
        simp [this]
      · simp [h2]
theorem lk_hsets (h : Hp) : ∀ (F' : Hp) (m : Nat), lk (hsets h F') m = match lk F' m with
    | some ob => some ob
    | none => lk h m
  | [], m => by simp [hsets, lk_nil]
  | (n, ob) :: r, m => by
    simp only [hsets]
    rw [lk_hset, lk_hsets h r m, lk_cons]
    by_cases h1 : m = n <;> simp [h1]
theorem lk_hdels (h F' : Hp) : ∀ (F : Hp) (m : Nat), lk (hdels h F' F) m = if (lk F m).isSome && (lk F' m).isNone then none else lk h m
  | [], m => by simp [hdels, lk_nil]
  | (n, ob) :: r, m => by
    simp only [hdels]
    split
    · rename_i h1
      rw [lk_hdels h F' r m, lk_cons]
      by_cases h2 : m = n
      · subst h2
        have : (lk F' m).isNone = false := by
          cases hh : lk F' m with
          | none => rw [hh] at h1; cases h1
          | some _ => rfl
        simp [this]
      · simp [h2]
    · rename_i h1
      rw [lk_hdel, lk_hdels h F' r m, lk_cons]
      by_cases h2 : m = n
      · subst h2
        simp at h1
        simp [h1]
      · simp [h2]
theorem lk_hmrg {ro : Bool} {h F F' : Hp} (hs : HSub F h) (hr : ro = true → F' = F) : lk (hmrg ro h F F') = mrg (lk h) (lk F) (lk F') := by
  funext m
  unfold hmrg
  cases ro with
  | true =>
    rw [hr rfl]
    by_cases h1 : lk F m = none
    · rw [mrg_out h1 h1]; rfl
    · rw [mrg_in (.inl h1)]
      obtain ⟨ob, hob⟩ := Option.ne_none_iff_exists'.1 h1
      rw [hob]
      exact hs m ob hob
  | false =>
    simp only [Bool.false_eq_true, if_false]
    rw [lk_hsets, lk_hdels]
    cases h1 : lk F' m with
    | some ob => rw [mrg_in (.inr (by rw [h1]; simp))]; simp [h1]
    | none =>
      cases h2 : lk F m with
      | some ob => rw [mrg_in (.inl (by rw [h2]; simp))]; simp [h1]
      | none => rw [mrg_out h2 h1]; simp

def upd (st : St) (si : SI) (e : Eff) : St :=
  ⟨match si.dst with | some d => (d, e.v) :: st.env | none => st.env, hmrg (roOf si.op) st.hp e.F e.F', st.k + e.nk⟩

/-- The names that an operation touches; does it leave all as it was? -/
def touchL (si : SI) (e : Eff) : Bool × List Nat := (roOf si.op, e.F.map (·.1) ++ e.F'.map (·.1))

def runs (P : Program) : List SI → St → List CR → Option (St × Prop × List (Bool × List Nat))
  | [], st, _ => some (st, True, [])
  | si :: r, st, crs => match runOp P st si crs with
    | some (e, crs') => match runs P r (upd st si e) crs' with
      | some (st', ob, ts) => some (st', e.ob ∧ ob, touchL si e :: ts)
      | none => none
    | none => none

/-- Operations that touch one object are tied to each other, if one of them changes something. -/
def noConf (bs : List Nat) (ts : List (Bool × List Nat)) : Bool :=
  all2 ts.length fun i j => i == j || (ts.getD i (true, [])).1 || !((ts.getD i (true, [])).2.any fun n => (ts.getD j (true, [])).2.contains n) || ordB bs i j || ordB bs j i
def fullB (n : Nat) : List Nat := (List.range n).map fun j => 2 ^ j - 1

/-! ### what 'runs' says, of the region -/
def trace (P : Program) : List SI → St → List CR → List Eff
  | [], _, _ => []
  | si :: r, st, crs => match runOp P st si crs with
    | some (e, crs') => e :: trace P r (upd st si e) crs'
    | none => []
def stAt : List SI → St → List Eff → Nat → St
  | si :: r, st, e :: es, i + 1 => stAt r (upd st si e) es i
  | _, st, _, _ => st

theorem trace_length {st' : St} : ∀ {sis : List SI} {st : St} {crs : List CR} {ob : Prop} {ts : List (Bool × List Nat)}, runs P sis st crs = some (st', ob, ts) → (trace P sis st crs).length = sis.length ∧ ts = (List.zipWith touchL sis (trace P sis st crs)) ∧
    (ob → ∀ e ∈ trace P sis st crs, e.ob) ∧ st' = stAt sis st (trace P sis st crs) sis.length
  | [], st, crs, ob, ts, h => by
    simp [runs] at h
    obtain ⟨rfl, _, rfl⟩ := h
    simp [trace, stAt]
  | si :: r, st, crs, ob, ts, h => by
    simp only [runs] at h
    split at h <;> first | (cases h; done) | skip
    rename_i e crs' he
    split at h <;> first | (cases h; done) | skip
    rename_i st2 ob2 ts2 h2
    simp only [Option.some.injEq, Prod.mk.injEq] at h
    obtain ⟨rfl, rfl, rfl⟩ := h
    obtain ⟨a1, a2, a3, a4⟩ := trace_length h2
    simp only [trace, he]
    refine ⟨by simp [a1], by simp [← a2], fun h e' he' => ?_, by simpa [stAt] using a4⟩
    rcases List.mem_cons.1 he' with rfl | he'
    · exact h.1
    · exact a3 h.2 e' he'

theorem stAt_succ : ∀ (sis : List SI) (st : St) (es : List Eff) (i : Nat) (si : SI) (e : Eff), sis[i]? = some si → es[i]? = some e → stAt sis st es (i + 1) = upd (stAt sis st es i) si e
  | [], st, es, i, si, e, h, _ => by simp at h
  | si' :: r, st, [], i, si, e, _, h => by simp at h
  | si' :: r, st, e' :: es, 0, si, e, h1, h2 => by
    simp at h1 h2
    subst h1; subst h2
    cases r <;> cases es <;> simp [stAt]
  | si' :: r, st, e' :: es, i + 1, si, e, h1, h2 => by
    simp only [stAt]
    exact stAt_succ r _ es i si e (by simpa using h1) (by simpa using h2)

theorem trace_step : ∀ {sis : List SI} {st : St} {crs : List CR} {i : Nat} {si : SI} {e : Eff}, sis[i]? = some si → (trace P sis st crs)[i]? = some e → ∃ c1 c2, runOp P (stAt sis st (trace P sis st crs) i) si c1 = some (e, c2)
  | [], st, crs, i, si, e, h, _ => by simp at h
  | si' :: r, st, crs, i, si, e, h1, h2 => by
    simp only [trace] at h2 ⊢
    split at h2 <;> first | (simp at h2; done) | skip
    rename_i e' crs' he
    cases i with
    | zero =>
      simp at h1 h2
      subst h1; subst h2
      exact ⟨crs, crs', by simpa [stAt] using he⟩
    | succ i =>
      obtain ⟨c1, c2, h⟩ := trace_step (sis := r) (st := upd st si' e') (crs := crs') (i := i) (by simpa using h1) (by simpa using h2)
      exact ⟨c1, c2, by simpa [stAt] using h⟩

theorem lookup_upd (env : List (Nat × SV)) (d : Nat) (v : SV) (t : Nat) : ((d, v) :: env).lookup t = if d = t then some v else env.lookup t := by
  simp only [List.lookup]
  by_cases h : t = d
  · subst h; simp
  · rw [show (t == d) = false by simpa using h, if_neg (Ne.symm h)]

theorem sop_ro {E : Nat → Option SV} {H : Nat → Option Ob} {k : Nat} {own : Bool} {so : SO} {e : Eff} (h : sop E H k own so = some e) (hr : roOf so = true) : e.F' = e.F := by
  cases so <;> simp only [roOf, Bool.false_eq_true] at hr <;> simp only [sop] at h <;>
    (repeat' (first | (cases h; done) | (injection h with h; subst h; rfl) | split at h))
theorem sop_call {E : Nat → Option SV} {H : Nat → Option Ob} {k : Nat} {own : Bool} {f : X} {args : List X} : sop E H k own (.call f args) = none := by simp [sop]

theorem cO_call {op : Op} {f : X} {args : List X} (hc : cO P op = some (.call f args)) : ∃ c fo, op = .call c ∧ c.callee = .value fo ∧ cX fo = some f ∧ cXs c.args.toList = some args := by
  cases op <;> simp only [cO] at hc <;> try (cases hc; done)
  case call c =>
    refine ⟨c, ?_⟩
    cases hcal : c.callee with
    | value fo =>
      simp only [hcal] at hc
      split at hc <;> first | (cases hc; done) | skip
      rename_i f' as' hf ha
      injection hc with hc
      injection hc with hc1 hc2
      subst hc1; subst hc2
      exact ⟨fo, rfl, rfl, hf, ha⟩
    | invoke _ _ => simp [hcal] at hc
    | builtin b =>
      exfalso
      simp only [hcal] at hc
      repeat' (first | contradiction | (cases hc; done) | split at hc)
  all_goals (repeat' (first | contradiction | (cases hc; done) | (obtain ⟨_, _, hh⟩ := Option.map_eq_some_iff.1 hc; cases hh; done) | split at hc))

theorem goOp_sound {ops : Array Oper} {o : Oper} {st : St} {so : SO} {c1 c2 : List CR} {e : Eff} (hc : cO P o.op = some so) (h : goOp P st so c1 = some (e, c2)) (hob : e.ob) :
    Sound P o (fun t => st.env.lookup t) (lk st.hp) st.k e ∧ (roOf so = true → e.F' = e.F) := by
  have plain : ∀ (own : Bool) (c : List CR), sop (fun t => st.env.lookup t) (lk st.hp) st.k own so = some e → Sound P o (fun t => st.env.lookup t) (lk st.hp) st.k e ∧ (roOf so = true → e.F' = e.F) := fun own c hs =>
    ⟨sop_sound hc hs hob, sop_ro hs⟩
  unfold goOp at h
  split at h
  · rename_i f args
    split at h <;> first | (cases h; done) | skip
    · rename_i fid first cap as F v F' nk crs' h1 h2
      injection h with h
      injection h with h h'
      subst h; subst h'
      obtain ⟨hSC, hsub⟩ := hob
      refine ⟨⟨?_, hsub⟩, fun hr => by simp [roOf] at hr⟩
      obtain ⟨c, fo, hop, hcal, hf, ha⟩ := cO_call hc
      intro rd p μ M a w K Q hnew hk hS hK
      exact s_callQ hop hcal hf ha h1 h2 hSC hnew hk hS fun r F'' u μ' M' w' ⟨e1, e2⟩ hr hS' hE => by
        subst e1; subst e2
        exact hK u μ' M' w' hr hS' hE
    · rename_i fid first cap as pt crs' h1 h2
      split at h <;> first | (cases h; done) | skip
      rename_i v hv
      injection h with h
      injection h with h h'
      subst h; subst h'
      obtain ⟨hSC, hsub⟩ := hob
      refine ⟨⟨?_, hsub⟩, fun hr => by simp [roOf] at hr⟩
      obtain ⟨c, fo, hop, hcal, hf, ha⟩ := cO_call hc
      intro rd p μ M a w K Q hnew hk hS hK
      exact s_callQ hop hcal hf ha h1 h2 hSC hnew hk hS fun r F'' u μ' M' w' ⟨e1, e2⟩ hr hS' hE => by
        subst e1; subst e2
        exact hK u μ' M' w' hr hS' hE
    · rename_i nl as F v F' nk crs' h1 h2
      injection h with h
      injection h with h h'
      subst h; subst h'
      obtain ⟨hSC, hnl, hsub⟩ := hob
      refine ⟨⟨?_, hsub⟩, fun hr => by simp [roOf] at hr⟩
      obtain ⟨c, fo, hop, hcal, hf, ha⟩ := cO_call hc
      intro rd p μ M a w K Q hnew hk hS hK
      exact s_yieldQ hop hcal hf ha h1 h2 hnl hSC hnew hk hS fun r F'' u μ' M' w' ⟨e1, e2⟩ hr hS' hE => by
        subst e1; subst e2
        exact hK u μ' M' w' hr hS' hE
  · split at h
    · split at h <;> first | (cases h; done) | skip
      rename_i hs
      injection h with h
      injection h with h h'
      subst h
      exact plain true [] hs
    all_goals
      split at h <;> first | (cases h; done) | skip
      rename_i hs
      injection h with h
      injection h with h h'
      subst h
      exact plain false [] hs
  · split at h <;> first | (cases h; done) | skip
    rename_i hs
    injection h with h
    injection h with h h'
    subst h
    exact plain false [] hs

/-! ### the region -/
def bsOf (ops : Array Oper) (draw : Bool) : List Nat := if draw then (Region.before ops).toList else fullB ops.size
def cReg (P : Program) (N : Nat) (ops : Array Oper) (draw : Bool) : Option (List SI × List Nat) :=
  match cOpers P ops ops.toList with
  | some sis =>
    if ((!draw || okB ops (bsOf ops draw)) && slotsOk ops (bsOf ops draw) && (sis.all fun s => match s.dst with | some d => decide (d < N) | none => true)) = true then some (sis, bsOf ops draw) else none
  | none => none

theorem cOpers_get {ops : Array Oper} : ∀ {l : List Oper} {sis : List SI}, cOpers P ops l = some sis → l.length = sis.length ∧ ∀ (i : Nat) (o : Oper), l[i]? = some o → ∃ si, sis[i]? = some si ∧ cOper P ops o = some si
  | [], sis, h => by simp [cOpers] at h; subst h; simp
  | o :: l, sis, h => by
    simp only [cOpers] at h
    split at h <;> first | (cases h; done) | skip
    rename_i s ss h1 h2
    simp at h
    subst h
    obtain ⟨a1, a2⟩ := cOpers_get h2
    refine ⟨by simp [a1], fun i o' hi => ?_⟩
    cases i with
    | zero => simp at hi; subst hi; exact ⟨s, rfl, h1⟩
    | succ i => simpa using a2 i o' (by simpa using hi)

theorem ordB_full {n i j : Nat} (hj : j < n) (hij : i < j) : ordB (fullB n) i j = true := by
  unfold ordB fullB
  rw [List.getD_eq_getElem?_getD, List.getElem?_map, List.getElem?_range hj]
  simp only [Option.map_some, Option.getD_some]
  rw [Nat.testBit_two_pow_sub_one]
  simpa using hij
end
end Go.Sl

/-
  Names in values; contracts by other names; the state; the rule for a region.
-/
set_option linter.unusedSimpArgs false
set_option linter.unusedSectionVars false
set_option linter.unusedVariables false
namespace Go.Sl
open Go.RowKit

mutual
def SV.ok (q : Nat → Bool) : SV → Bool
  | .d _ => true
  | .ptr n _ => q n
  | .gs n _ => q n
  | .vp _ _ => true
  | .bs n _ _ => q n
  | .mp n => q n
  | .it n => q n
  | .yl n => q n
  | .fn _ a c => SV.oks q a && SV.oks q c
  | .agg cs => SV.oks q cs
  | .tup cs => SV.oks q cs
  | .any => true
def SV.oks (q : Nat → Bool) : List SV → Bool
  | [] => true
  | c :: cs => SV.ok q c && SV.oks q cs
end
mutual
def SV.ren (ρ : Nat → Nat) : SV → SV
  | .d x => .d x
  | .ptr n o => .ptr (ρ n) o
  | .gs n l => .gs (ρ n) l
  | .vp cs i => .vp cs i
  | .bs n o l => .bs (ρ n) o l
  | .mp n => .mp (ρ n)
  | .it n => .it (ρ n)
  | .yl n => .yl (ρ n)
  | .fn f a c => .fn f (SV.rens ρ a) (SV.rens ρ c)
  | .agg cs => .agg (SV.rens ρ cs)
  | .tup cs => .tup (SV.rens ρ cs)
  | .any => .any
def SV.rens (ρ : Nat → Nat) : List SV → List SV
  | [] => []
  | c :: cs => SV.ren ρ c :: SV.rens ρ cs
end

mutual
theorem Rep.congr {q : Nat → Bool} {μ ν : Nat → Nm} {M : Mem} (h : ∀ n, q n = true → ν n = μ n) : ∀ (s : SV) (v : Value), s.ok q = true → Rep μ M s v → Rep ν M s v
  | .d x, v, _, hr => by simpa [Rep] using hr
  | .ptr n o, v, hq, hr => by simp only [Rep, SV.ok] at *; rw [h n hq]; exact hr
  | .gs n l, v, hq, hr => by simp only [Rep, SV.ok] at *; rw [h n hq]; exact hr
  | .vp cs i, v, _, hr => by simpa [Rep] using hr
  | .bs n _ _, v, hq, hr => by simp only [Rep, SV.ok] at *; rw [h n hq]; exact hr
  | .mp n, v, hq, hr => by simp only [Rep, SV.ok] at *; rw [h n hq]; exact hr
  | .it n, v, hq, hr => by simp only [Rep, SV.ok] at *; rw [h n hq]; exact hr
  | .yl n, v, hq, hr => by simp only [Rep, SV.ok] at *; rw [h n hq]; exact hr
  | .fn f a c, v, hq, hr => by
    simp only [Rep, SV.ok, Bool.and_eq_true] at *
    obtain ⟨as, cs, e, h1, h2⟩ := hr
    exact ⟨as, cs, e, Reps.congr h a _ hq.1 h1, Reps.congr h c _ hq.2 h2⟩
  | .agg cs, v, hq, hr => by
    simp only [Rep, SV.ok] at *
    obtain ⟨vs, e, h1⟩ := hr
    exact ⟨vs, e, Reps.congr h cs _ hq h1⟩
  | .tup cs, v, hq, hr => by
    simp only [Rep, SV.ok] at *
    obtain ⟨vs, e, h1⟩ := hr
    exact ⟨vs, e, Reps.congr h cs _ hq h1⟩
  | .any, _, _, _ => by simp [Rep]
theorem Reps.congr {q : Nat → Bool} {μ ν : Nat → Nm} {M : Mem} (h : ∀ n, q n = true → ν n = μ n) : ∀ (s : List SV) (v : List Value), SV.oks q s = true → Reps μ M s v → Reps ν M s v
  | [], v, _, hr => by simpa [Reps] using hr
  | c :: cs, v, hq, hr => by
    simp only [Reps, SV.oks, Bool.and_eq_true] at *
    obtain ⟨u, us, e, h1, h2⟩ := hr
    exact ⟨u, us, e, Rep.congr h c u hq.1 h1, Reps.congr h cs us hq.2 h2⟩
end
mutual
theorem Rep.ren_iff {ρ : Nat → Nat} {μ : Nat → Nm} {M : Mem} : ∀ (s : SV) (v : Value), Rep μ M (s.ren ρ) v ↔ Rep (fun n => μ (ρ n)) M s v
  | .d x, v => by simp [Rep, SV.ren]
  | .ptr n o, v => by simp [Rep, SV.ren]
  | .gs n l, v => by simp [Rep, SV.ren]
  | .vp cs i, v => by simp [Rep, SV.ren]
  | .bs n _ _, v => by simp [Rep, SV.ren]
  | .mp n, v => by simp [Rep, SV.ren]
  | .it n, v => by simp [Rep, SV.ren]
  | .yl n, v => by simp [Rep, SV.ren]
  | .fn f a c, v => by
    simp only [Rep, SV.ren]
    constructor
    · rintro ⟨as, cs, e, h1, h2⟩; exact ⟨as, cs, e, (Reps.ren_iff a _).1 h1, (Reps.ren_iff c _).1 h2⟩
    · rintro ⟨as, cs, e, h1, h2⟩; exact ⟨as, cs, e, (Reps.ren_iff a _).2 h1, (Reps.ren_iff c _).2 h2⟩
  | .agg cs, v => by
    simp only [Rep, SV.ren]
    constructor
    · rintro ⟨vs, e, h1⟩; exact ⟨vs, e, (Reps.ren_iff cs _).1 h1⟩
    · rintro ⟨vs, e, h1⟩; exact ⟨vs, e, (Reps.ren_iff cs _).2 h1⟩
  | .tup cs, v => by
    simp only [Rep, SV.ren]
    constructor
    · rintro ⟨vs, e, h1⟩; exact ⟨vs, e, (Reps.ren_iff cs _).1 h1⟩
    · rintro ⟨vs, e, h1⟩; exact ⟨vs, e, (Reps.ren_iff cs _).2 h1⟩
  | .any, _ => by simp [Rep, SV.ren]
theorem Reps.ren_iff {ρ : Nat → Nat} {μ : Nat → Nm} {M : Mem} : ∀ (s : List SV) (v : List Value), Reps μ M (SV.rens ρ s) v ↔ Reps (fun n => μ (ρ n)) M s v
  | [], v => by simp [Reps, SV.rens]
  | c :: cs, v => by
    simp only [Reps, SV.rens]
    constructor
    · rintro ⟨u, us, e, h1, h2⟩; exact ⟨u, us, e, (Rep.ren_iff c u).1 h1, (Reps.ren_iff cs us).1 h2⟩
    · rintro ⟨u, us, e, h1, h2⟩; exact ⟨u, us, e, (Rep.ren_iff c u).2 h1, (Reps.ren_iff cs us).2 h2⟩
end
theorem SV.oks_iff {q : Nat → Bool} : ∀ {cs : List SV}, SV.oks q cs = true ↔ ∀ c ∈ cs, c.ok q = true
  | [] => by simp [SV.oks]
  | c :: cs => by simp [SV.oks, SV.oks_iff (cs := cs)]
theorem SV.oks_d {q : Nat → Bool} (xs : List DV) : SV.oks q (xs.map .d) = true := by
  rw [SV.oks_iff]; intro c hc; obtain ⟨x, _, rfl⟩ := List.mem_map.1 hc; rfl
theorem SV.rens_d {ρ : Nat → Nat} : ∀ (xs : List DV), SV.rens ρ (xs.map .d) = xs.map .d
  | [] => rfl
  | x :: xs => by simp [SV.rens, SV.ren, SV.rens_d xs]

def Ob.ok (q : Nat → Bool) : Ob → Bool
  | .box _ cs => SV.oks q cs
  | .arr _ _ _ cs => SV.oks q cs
  | .map es _ => es.all fun e => e.2.1.ok q && e.2.2.ok q
  | .nomap => true
  | .iter mo _ _ _ => match mo with
    | some n => q n
    | none => true
  | .rcd _ _ cs _ _ _ _ _ => SV.oks q cs
def Ob.ren (ρ : Nat → Nat) : Ob → Ob
  | .box t cs => .box t (SV.rens ρ cs)
  | .arr e sz len cs => .arr e sz len (SV.rens ρ cs)
  | .map es c => .map (es.map fun e => (e.1, e.2.1.ren ρ, e.2.2.ren ρ)) c
  | .nomap => .nomap
  | .iter mo a b c => .iter (mo.map ρ) a b c
  | .rcd N ts cs ps as bd st pe => .rcd N ts (SV.rens ρ cs) ps as bd st pe
def Hp.ren (ρ : Nat → Nat) (h : Hp) : Hp := h.map fun x => (ρ x.1, x.2.ren ρ)
def Hp.ok (q : Nat → Bool) (h : Hp) : Bool := h.all fun x => q x.1 && x.2.ok q

section
variable {p p' : Nat → Prop} {μ ν : Nat → Nm} {M : Mem}

theorem Rp.of_rep {q : Nat → Bool} {s : SV} {v : Value} (hq : s.ok q = true) (hp : ∀ n, q n = true → p n) (h : Rep μ M s v) : Rp p μ M s v :=
  fun ν hν => Rep.congr (fun n hn => hν n (hp n hn)) s v hq h
theorem Rps.of_reps {q : Nat → Bool} {s : List SV} {v : List Value} (hq : SV.oks q s = true) (hp : ∀ n, q n = true → p n) (h : Reps μ M s v) : Rps p μ M s v :=
  fun ν hν => Reps.congr (fun n hn => hν n (hp n hn)) s v hq h
/-- To other names: what is known under ρ. -/
theorem Rp.to {q : Nat → Bool} {ρ : Nat → Nat} {s : SV} {v : Value} (hq : s.ok q = true) (hp : ∀ n, q n = true → p n) (hν : ∀ n, q n = true → ν n = μ (ρ n)) (h : Rep μ M (s.ren ρ) v) : Rp p ν M s v :=
  Rp.of_rep hq hp (Rep.congr hν s v hq ((Rep.ren_iff s v).1 h))
theorem Rp.back {q : Nat → Bool} {ρ : Nat → Nat} {s : SV} {v : Value} (hq : s.ok q = true) (hp : ∀ n, q n = true → p (ρ n)) (hν : ∀ n, q n = true → μ (ρ n) = ν n) (h : Rep ν M s v) : Rp p μ M (s.ren ρ) v :=
  fun μ' hμ' => (Rep.ren_iff s v).2 (Rep.congr (fun n hn => (hμ' _ (hp n hn)).trans (hν n hn)) s v hq h)
theorem Rps.to {q : Nat → Bool} {ρ : Nat → Nat} {s : List SV} {v : List Value} (hq : SV.oks q s = true) (hp : ∀ n, q n = true → p n) (hν : ∀ n, q n = true → ν n = μ (ρ n)) (h : Reps μ M (SV.rens ρ s) v) : Rps p ν M s v :=
  Rps.of_reps hq hp (Reps.congr hν s v hq ((Reps.ren_iff s v).1 h))
theorem Rps.back {q : Nat → Bool} {ρ : Nat → Nat} {s : List SV} {v : List Value} (hq : SV.oks q s = true) (hp : ∀ n, q n = true → p (ρ n)) (hν : ∀ n, q n = true → μ (ρ n) = ν n) (h : Reps ν M s v) : Rps p μ M (SV.rens ρ s) v :=
  fun μ' hμ' => (Reps.ren_iff s v).2 (Reps.congr (fun n hn => (hμ' _ (hp n hn)).trans (hν n hn)) s v hq h)

theorem RpE.to {q : Nat → Bool} {ρ : Nat → Nat} (hp : ∀ n, q n = true → p n) (hν : ∀ n, q n = true → ν n = μ (ρ n)) : ∀ (es : List (Nat × SV × SV)) (ens : List MapEntry), (es.all fun e => e.2.1.ok q && e.2.2.ok q) = true →
    RpE p' μ M (es.map fun e => (e.1, e.2.1.ren ρ, e.2.2.ren ρ)) ens → RpE p ν M es ens
  | [], ens, _, h => h
  | (b, k, v) :: es, ens, hq, h => by
    simp only [List.all_cons, Bool.and_eq_true] at hq
    obtain ⟨e, es', rfl, h2, h3, h4, h5⟩ := h
    exact ⟨e, es', rfl, h2, Rp.to hq.1.1 hp hν h3.rep, Rp.to hq.1.2 hp hν h4.rep, RpE.to hp hν es es' (by simpa using hq.2) h5⟩
theorem RpE.back {q : Nat → Bool} {ρ : Nat → Nat} (hp : ∀ n, q n = true → p (ρ n)) (hν : ∀ n, q n = true → μ (ρ n) = ν n) : ∀ (es : List (Nat × SV × SV)) (ens : List MapEntry), (es.all fun e => e.2.1.ok q && e.2.2.ok q) = true →
    RpE p' ν M es ens → RpE p μ M (es.map fun e => (e.1, e.2.1.ren ρ, e.2.2.ren ρ)) ens
  | [], ens, _, h => h
  | (b, k, v) :: es, ens, hq, h => by
    simp only [List.all_cons, Bool.and_eq_true] at hq
    obtain ⟨e, es', rfl, h2, h3, h4, h5⟩ := h
    exact ⟨e, es', rfl, h2, Rp.back hq.1.1 hp hν h3.rep, Rp.back hq.1.2 hp hν h4.rep, RpE.back hp hν es es' (by simpa using hq.2) h5⟩

theorem ObRep.to {w : World} {q : Nat → Bool} {ρ : Nat → Nat} {m : Nm} {ob : Ob} (hq : ob.ok q = true) (hp : ∀ n, q n = true → p n) (hν : ∀ n, q n = true → ν n = μ (ρ n)) (h : ObRep p' μ M w m (ob.ren ρ)) : ObRep p ν M w m ob := by
  cases ob <;> simp only [ObRep, Ob.ren, Ob.ok] at h hq ⊢
  case box => obtain ⟨h0, vs, h1, h2⟩ := h; exact ⟨h0, vs, h1, Rps.to hq hp hν h2.reps⟩
  case arr =>
    have hl : ∀ (l : List SV), (SV.rens ρ l).length = l.length := fun l => by induction l <;> simp_all [SV.rens]
    rcases h with ⟨a1, a2, a3⟩ | ⟨h0, vs, h1, h2, h3, h4, h5, h6⟩
    · exact .inl ⟨a1, a2, List.eq_nil_of_length_eq_zero (by rw [← hl, a3]; rfl)⟩
    exact .inr ⟨h0, vs, h1, by rw [← h2, hl], h3, h4, h5, Rps.to hq hp hν h6.reps⟩
  case map => obtain ⟨h0, ens, h1, h2⟩ := h; exact ⟨h0, ens, h1, RpE.to hp hν _ _ hq h2⟩
  case nomap => exact h
  case iter mo a b c =>
    cases mo with
    | none => exact ⟨h.1, fun n hn => (by cases hn), by simpa using h.2.2⟩
    | some n =>
      refine ⟨h.1, fun n' hn => by injection hn with hn; subst hn; exact hp n hq, ?_⟩
      simp only [Option.map_some] at h ⊢
      rw [hν n hq]; exact h.2.2
  case rcd => obtain ⟨h0, r, h1, h2, h3⟩ := h; exact ⟨h0, r, h1, Rps.to hq hp hν h2.reps, h3⟩
theorem ObRep.back {w : World} {q : Nat → Bool} {ρ : Nat → Nat} {m : Nm} {ob : Ob} (hq : ob.ok q = true) (hp : ∀ n, q n = true → p (ρ n)) (hν : ∀ n, q n = true → μ (ρ n) = ν n) (h : ObRep p' ν M w m ob) : ObRep p μ M w m (ob.ren ρ) := by
  cases ob <;> simp only [ObRep, Ob.ren, Ob.ok] at h hq ⊢
  case box => obtain ⟨h0, vs, h1, h2⟩ := h; exact ⟨h0, vs, h1, Rps.back hq hp hν h2.reps⟩
  case arr =>
    have hl : ∀ (l : List SV), (SV.rens ρ l).length = l.length := fun l => by induction l <;> simp_all [SV.rens]
    rcases h with ⟨a1, a2, a3⟩ | ⟨h0, vs, h1, h2, h3, h4, h5, h6⟩
    · exact .inl ⟨a1, a2, by rw [a3]; rfl⟩
    exact .inr ⟨h0, vs, h1, by rw [hl, h2], h3, h4, h5, Rps.back hq hp hν h6.reps⟩
  case map => obtain ⟨h0, ens, h1, h2⟩ := h; exact ⟨h0, ens, h1, RpE.back hp hν _ _ hq h2⟩
  case nomap => exact h
  case iter mo a b c =>
    cases mo with
    | none => exact ⟨h.1, fun n hn => (by cases hn), by simpa using h.2.2⟩
    | some n =>
      refine ⟨h.1, fun n' hn => by simp at hn; subst hn; exact hp n hq, ?_⟩
      simp only [Option.map_some] at h ⊢
      rw [hν n hq]; exact h.2.2
  case rcd => obtain ⟨h0, r, h1, h2, h3⟩ := h; exact ⟨h0, r, h1, Rps.back hq hp hν h2.reps, h3⟩
end

theorem lk_mem : ∀ {h : Hp} {n : Nat} {ob : Ob}, lk h n = some ob → (n, ob) ∈ h
  | [], n, ob, h => by simp [lk_nil] at h
  | (m, o) :: h, n, ob, hh => by
    rw [lk_cons] at hh
    split at hh
    · rename_i e
      injection hh with hh
      subst hh; subst e
      simp
    · exact List.mem_cons_of_mem _ (lk_mem hh)
theorem Hp.ok_lk {q : Nat → Bool} {h : Hp} (hq : h.ok q = true) {n : Nat} {ob : Ob} (hl : lk h n = some ob) : q n = true ∧ ob.ok q = true := by
  have := List.all_eq_true.1 hq _ (lk_mem hl)
  simpa using this
theorem lk_ren {ρ : Nat → Nat} {h : Hp} {q : Nat → Bool} (hq : h.ok q = true) (hinj : ∀ n m, q n = true → q m = true → ρ n = ρ m → n = m) {n : Nat} (hn : q n = true) : lk (h.ren ρ) (ρ n) = (lk h n).map (Ob.ren ρ) := by
  induction h with
  | nil => rfl
  | cons x h ih =>
    obtain ⟨m, o⟩ := x
    simp only [Hp.ok, List.all_cons, Bool.and_eq_true] at hq
    simp only [Hp.ren, List.map_cons]
    rw [lk_cons, lk_cons]
    by_cases e : n = m
    · subst e; simp
    · rw [if_neg e, if_neg (fun h => e (hinj n m hn hq.1.1 h))]
      exact ih (by simpa [Hp.ok] using hq.2)
theorem lk_ren_some {ρ : Nat → Nat} {h : Hp} {m : Nat} {ob : Ob} (hl : lk (h.ren ρ) m = some ob) : ∃ n ob', (n, ob') ∈ h ∧ m = ρ n ∧ ob = ob'.ren ρ := by
  obtain ⟨⟨n, ob'⟩, h1, h2⟩ := List.mem_map.1 (lk_mem hl)
  simp at h2
  exact ⟨n, ob', h1, h2.1.symm, h2.2.symm⟩

/-- WHAT A FUNCTION's BODY DOES, its own names from k on. -/
def SB (P : Program) (f : FuncId) (args : List SV) (F : Hp) (k nk : Nat) (Q : SV → Hp → Prop) : Prop :=
  Callable P f = true ∧ SV.oks (fun n => decide (n < k)) args = true ∧ F.ok (fun n => decide (n < k)) = true ∧
  ∀ (μ : Nat → Nm) (M : Mem) (w : World) (vals : Array Value), Rps (· < k) μ M args vals.toList → SatF (· < k) μ M (lk F) w →
    Calls P f vals w fun e w' => ∃ r F' μ' M' u, e = .returned u ∧ Q r F' ∧ r.ok (fun n => decide (n < k + nk)) = true ∧ F'.ok (fun n => decide (n < k + nk)) = true ∧ Rep μ' M' r u ∧ SatF (· < k + nk) μ' M' (lk F') w' ∧
      Ev (lk F) (fun n => k ≤ n ∧ n < k + nk) μ M w (lk F') μ' M' w'

/-- By the caller's names: the core. -/
theorem at_core {args : List SV} {F : Hp} {k nk : Nat} {Q : SV → Hp → Prop} (hao : SV.oks (fun n => decide (n < k)) args = true) (hFo : F.ok (fun n => decide (n < k)) = true) (ρ : Nat → Nat) (k' : Nat) (hinj : ∀ n m, n < k → m < k → ρ n = ρ m → n = m)
    (hnew : ∀ i, i < nk → ρ (k + i) = k' + i) {p : Nat → Prop} {μ : Nat → Nm} {M : Mem} {w : World} {vals : Array Value} (hp : ∀ n, (k' ≤ n ∧ n < k' + nk) → ¬ p n) (hpk : ∀ n, n < k → p (ρ n)) (hr : Rps p μ M (SV.rens ρ args) vals.toList) (hS : SatF p μ M (lk (F.ren ρ)) w) :
    Rps (· < k) (fun n => μ (ρ n)) M args vals.toList ∧ SatF (· < k) (fun n => μ (ρ n)) M (lk F) w ∧ ∀ e w',
      (∃ r F' μ' M' u, e = Ending.returned u ∧ Q r F' ∧ r.ok (fun n => decide (n < k + nk)) = true ∧ F'.ok (fun n => decide (n < k + nk)) = true ∧ Rep μ' M' r u ∧ SatF (· < k + nk) μ' M' (lk F') w' ∧
        Ev (lk F) (fun n => k ≤ n ∧ n < k + nk) (fun n => μ (ρ n)) M w (lk F') μ' M' w') →
      ∃ r F' μ' M' u, e = Ending.returned u ∧ (∃ r0 F0, Q r0 F0 ∧ r = r0.ren ρ ∧ F' = F0.ren ρ) ∧ Rp (fun n => p n ∨ (k' ≤ n ∧ n < k' + nk)) μ' M' r u ∧ SatF (fun n => p n ∨ (k' ≤ n ∧ n < k' + nk)) μ' M' (lk F') w' ∧
        Ev (lk (F.ren ρ)) (fun n => k' ≤ n ∧ n < k' + nk) μ M w (lk F') μ' M' w' := by
  have hq1 : ∀ n, decide (n < k) = true → n < k := fun n h => by simpa using h
  have hlt : ∀ n m, n < k → k ≤ m → m < k + nk → ρ n ≠ ρ m := fun n m hn hm hm' e => by
    have h1 := hnew (m - k) (by omega)
    rw [show k + (m - k) = m by omega] at h1
    exact hp (ρ n) (by rw [e, h1]; omega) (hpk n hn)
  have hin : ∀ n m, n < k + nk → m < k + nk → ρ n = ρ m → n = m := fun n m hn hm e => by
    by_cases h1 : n < k <;> by_cases h2 : m < k
    · exact hinj n m h1 h2 e
    · exact absurd e (hlt n m h1 (by omega) hm)
    · exact absurd e.symm (hlt m n h2 (by omega) hn)
    · have a1 := hnew (n - k) (by omega)
      have a2 := hnew (m - k) (by omega)
      rw [show k + (n - k) = n by omega] at a1
      rw [show k + (m - k) = m by omega] at a2
      omega
  have hr' : Rps (· < k) (fun n => μ (ρ n)) M args vals.toList := Rps.to hao hq1 (fun n _ => rfl) hr.reps
  have hF : ∀ n, n < k → lk (F.ren ρ) (ρ n) = (lk F n).map (Ob.ren ρ) := fun n hn => lk_ren hFo (fun a b ha hb => hinj a b (hq1 a ha) (hq1 b hb)) (by simpa using hn)
  have hFlt : ∀ n, lk F n ≠ none → n < k := fun n hn => by
    obtain ⟨ob, hob⟩ := Option.ne_none_iff_exists'.1 hn
    exact hq1 n (Hp.ok_lk hFo hob).1
  have hS' : SatF (· < k) (fun n => μ (ρ n)) M (lk F) w := by
    refine ⟨hS.mem, fun n ob hn => ?_, fun n m hn hm ln lm e => ?_⟩
    · obtain ⟨q1, q2⟩ := Hp.ok_lk hFo hn
      have hnk := hq1 n q1
      have := hF n hnk
      rw [hn] at this
      obtain ⟨_, b1, b2⟩ := hS.obs (ρ n) (ob.ren ρ) this
      exact ⟨hnk, b1.to q2 hq1 (fun n _ => rfl), b2⟩
    · have h1 := hFlt n hn
      have h2 := hFlt m hm
      refine hinj n m h1 h2 (hS.inj (ρ n) (ρ m) ?_ ?_ ln lm e)
      · rw [hF n h1]; simpa using hn
      · rw [hF m h2]; simpa using hm
  refine ⟨hr', hS', ?_⟩
  rintro e w' ⟨r, F', μ', M', u, rfl, hQ, hro, hFo', hru, hS2, hE⟩
  have hq2 : ∀ n, decide (n < k + nk) = true → n < k + nk := fun n h => by simpa using h
  -- the caller's reading of the new names
  let μx : Nat → Nm := fun m => if k' ≤ m ∧ m < k' + nk then μ' (k + (m - k')) else μ m
  have hx : ∀ n, n < k + nk → μx (ρ n) = μ' n := fun n hn => by
    by_cases h1 : n < k
    · have : ¬ (k' ≤ ρ n ∧ ρ n < k' + nk) := fun hh => hp (ρ n) hh (hpk n h1)
      simp only [μx, this, if_false]
      exact (hE.old n (by omega)).symm
    · have a1 := hnew (n - k) (by omega)
      rw [show k + (n - k) = n by omega] at a1
      simp only [μx]
      rw [a1, if_pos (by omega)]
      congr 1
      omega
  have hpx : ∀ n, n < k + nk → (p (ρ n) ∨ (k' ≤ ρ n ∧ ρ n < k' + nk)) := fun n hn => by
    by_cases h1 : n < k
    · exact .inl (hpk n h1)
    · have a1 := hnew (n - k) (by omega)
      rw [show k + (n - k) = n by omega] at a1
      exact .inr (by omega)
  have hF2 : ∀ n, n < k + nk → lk (F'.ren ρ) (ρ n) = (lk F' n).map (Ob.ren ρ) := fun n hn => lk_ren hFo' (fun a b ha hb => hin a b (hq2 a ha) (hq2 b hb)) (by simpa using hn)
  have hlkF' : ∀ m ob, lk (F'.ren ρ) m = some ob → ∃ n ob', n < k + nk ∧ m = ρ n ∧ ob = ob'.ren ρ ∧ lk F' n = some ob' ∧ ob'.ok (fun n => decide (n < k + nk)) = true := by
    intro m ob hm
    obtain ⟨n, ob', h1, rfl, rfl⟩ := lk_ren_some hm
    have hn : n < k + nk := by
      have := List.all_eq_true.1 hFo' _ h1
      simp at this
      exact this.1
    rw [hF2 n hn] at hm
    obtain ⟨ob2, h2, h3⟩ := Option.map_eq_some_iff.1 hm
    exact ⟨n, ob2, hn, rfl, h3.symm, h2, (Hp.ok_lk hFo' h2).2⟩
  refine ⟨r.ren ρ, F'.ren ρ, μx, M', u, rfl, ⟨r, F', hQ, rfl, rfl⟩, Rp.back hro (fun n hn => hpx n (hq2 n hn)) (fun n hn => hx n (hq2 n hn)) hru, ⟨hS2.mem, fun m ob hm => ?_, fun a b ha hb la lb e => ?_⟩, ⟨fun m hm => ?_, hE.mem, fun b hb hf => ?_, hE.size, fun m hm => ?_, hE.os, hE.tape, hE.output⟩⟩
  · obtain ⟨n, ob', hn, rfl, rfl, hl, hok⟩ := hlkF' m ob hm
    obtain ⟨_, b1, b2⟩ := hS2.obs n ob' hl
    rw [hx n hn]
    exact ⟨hpx n hn, b1.back hok (fun n hn => hpx n (hq2 n hn)) (fun n hn => hx n (hq2 n hn)), b2⟩
  · obtain ⟨oa, hoa⟩ := Option.ne_none_iff_exists'.1 ha
    obtain ⟨ob, hob⟩ := Option.ne_none_iff_exists'.1 hb
    obtain ⟨n, _, hn, rfl, _, hl, _⟩ := hlkF' a oa hoa
    obtain ⟨m, _, hm, rfl, _, hl', _⟩ := hlkF' b ob hob
    rw [hx n hn] at e la
    rw [hx m hm] at e lb
    rw [hS2.inj n m (by rw [hl]; simp) (by rw [hl']; simp) la lb e]
  · simp only [μx]
    rw [if_neg hm]
  · refine hE.frame b hb fun n hn => ?_
    have h1 := hFlt n hn
    exact hf (ρ n) (by rw [hF n h1]; simpa using hn)
  · obtain ⟨ob, hob⟩ := Option.ne_none_iff_exists'.1 hm
    obtain ⟨n, _, hn, rfl, _, hl, _⟩ := hlkF' m ob hob
    rw [hx n hn]
    rcases hE.names n (by rw [hl]; simp) with ⟨⟨h1, h2⟩, h3⟩ | ⟨h1, h2⟩
    · have a1 := hnew (n - k) (by omega)
      rw [show k + (n - k) = n by omega] at a1
      refine .inl ⟨by omega, fun ln => ?_⟩
      rcases h3 ln with h3 | ⟨q, hq, lq, e⟩
      · exact .inl h3
      · have hqk := hFlt q hq
        exact .inr ⟨ρ q, by rw [hF q hqk]; simpa using hq, lq, e⟩
    · have h3 := hFlt n h2
      refine .inr ⟨fun hh => hp (ρ n) hh (hpk n h3), by rw [hF n h3]; simpa using h2⟩
/-- The same, by the caller's names. -/
theorem SB.at {P : Program} {f : FuncId} {args : List SV} {F : Hp} {k nk : Nat} {Q : SV → Hp → Prop} (h : SB P f args F k nk Q) (ρ : Nat → Nat) (k' : Nat) (hinj : ∀ n m, n < k → m < k → ρ n = ρ m → n = m)
    (hargs : ∀ n, n < k → ∀ (p : Nat → Prop) μ M w vals, Rps p μ M (SV.rens ρ args) vals → SatF p μ M (lk (F.ren ρ)) w → p (ρ n)) (hnew : ∀ i, i < nk → ρ (k + i) = k' + i) :
    SC P f (SV.rens ρ args) (F.ren ρ) k' nk fun r F' => ∃ r0 F0, Q r0 F0 ∧ r = r0.ren ρ ∧ F' = F0.ren ρ := by
  refine ⟨h.1, fun p μ M w vals hp hr hS => ?_⟩
  obtain ⟨h1, h2, h3⟩ := at_core (Q := Q) h.2.1 h.2.2.1 ρ k' hinj hnew hp (fun n hn => hargs n hn p μ M w _ hr hS) hr hS
  exact (h.2.2.2 _ M w vals h1 h2).mono h3

/-- WHAT A ROUND DOES, its own names from k on. -/
def SYB (P : Program) (nl : Nat) (args : List SV) (F : Hp) (k nk : Nat) (Q : SV → Hp → Prop) : Prop :=
  SV.oks (fun n => decide (n < k)) args = true ∧ F.ok (fun n => decide (n < k)) = true ∧
  ∀ (μ : Nat → Nm) (M : Mem) (w : World) (vals : Array Value), Rps (· < k) μ M args vals.toList → SatF (· < k) μ M (lk F) w →
    YieldX P (μ nl).blk vals w fun e w' => ∃ r F' μ' M' u, e = .returned u ∧ Q r F' ∧ r.ok (fun n => decide (n < k + nk)) = true ∧ F'.ok (fun n => decide (n < k + nk)) = true ∧ Rep μ' M' r u ∧ SatF (· < k + nk) μ' M' (lk F') w' ∧
      Ev (lk F) (fun n => k ≤ n ∧ n < k + nk) μ M w (lk F') μ' M' w'
theorem SYB.at {P : Program} {nl : Nat} {args : List SV} {F : Hp} {k nk : Nat} {Q : SV → Hp → Prop} (h : SYB P nl args F k nk Q) (ρ : Nat → Nat) (k' : Nat) (hinj : ∀ n m, n < k → m < k → ρ n = ρ m → n = m)
    (hargs : ∀ n, n < k → ∀ (p : Nat → Prop) μ M w vals, Rps p μ M (SV.rens ρ args) vals → SatF p μ M (lk (F.ren ρ)) w → p (ρ n)) (hnew : ∀ i, i < nk → ρ (k + i) = k' + i) :
    SY P (ρ nl) (SV.rens ρ args) (F.ren ρ) k' nk fun r F' => ∃ r0 F0, Q r0 F0 ∧ r = r0.ren ρ ∧ F' = F0.ren ρ := by
  intro p μ M w vals hp _ hr hS
  obtain ⟨h1, h2, h3⟩ := at_core (Q := Q) h.1 h.2.1 ρ k' hinj hnew hp (fun n hn => hargs n hn p μ M w _ hr hS) hr hS
  obtain ⟨fn, tmps, assign, body, hy, hround⟩ := h.2.2 _ M w vals h1 h2
  exact ⟨fn, tmps, assign, body, hy, hround.mono h3⟩
end Go.Sl
