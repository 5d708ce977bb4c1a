/-
  Small lemmas for walks.
-/
import Derived.Test.YtdnjkeeiopcipaaSl17
set_option linter.unusedSimpArgs false
set_option linter.unusedSectionVars false
set_option linter.unusedVariables false
namespace Go.Sl
open Go.RowKit

abbrev u32 (n : Nat) : SV := .d (.int .u32 (n : Int))
abbrev u64 (n : Nat) : SV := .d (.int .u64 (n : Int))
abbrev u8 (n : Nat) : SV := .d (.int .u8 (n : Int))
abbrev i64 (n : Int) : SV := .d (.int .i64 n)
abbrev bl (b : Bool) : SV := .d (.bool b)

mutual
theorem SV.ren_id : ∀ s : SV, s.ren id = s
  | .d _ | .ptr _ _ | .gs _ _ | .bs _ _ _ | .vp _ _ | .mp _ | .it _ | .yl _ | .any => rfl
  | .fn f a c => by simp only [SV.ren, SV.rens_id a, SV.rens_id c]
  | .agg cs => by simp only [SV.ren, SV.rens_id cs]
  | .tup cs => by simp only [SV.ren, SV.rens_id cs]
theorem SV.rens_id : ∀ s : List SV, SV.rens id s = s
  | [] => rfl
  | c :: cs => by simp only [SV.rens, SV.ren_id c, SV.rens_id cs]
end
theorem Ob.ren_id (o : Ob) : o.ren id = o := by
  cases o <;> simp [Ob.ren, SV.rens_id, SV.ren_id]

/-- Fewer facts, no other names. -/
def EnvS (k : Nat) (env : List (Nat × SV)) : List (Nat × SV) → Prop
  | [] => True
  | (t, s) :: r => env.lookup t = some s ∧ s.ok (fun n => decide (n < k)) = true ∧ EnvS k env r
def HpS (k : Nat) (hp : Hp) : Hp → Prop
  | [] => True
  | (n, ob) :: r => lk hp n = some ob ∧ n < k ∧ ob.ok (fun n => decide (n < k)) = true ∧ HpS k hp r
def Sub (k0 : Nat) (st st1 : St) : Prop := k0 ≤ st1.k ∧ EnvS st1.k st.env st1.env ∧ HpS st1.k st.hp st1.hp
theorem Sub.weak {k0 : Nat} {st st1 : St} (h : Sub k0 st st1) : Weak k0 st st1 id := by
  obtain ⟨h1, h2, h3⟩ := h
  refine ⟨h1, fun _ _ => rfl, ?_, ?_, fun n _ m _ e => e⟩
  · generalize st1.env = e at h2
    induction e with
    | nil => trivial
    | cons x e ih => exact ⟨by rw [SV.ren_id]; exact h2.1, h2.2.1, ih h2.2.2⟩
  · generalize st1.hp = e at h3
    induction e with
    | nil => trivial
    | cons x e ih => exact ⟨by rw [Ob.ren_id]; exact h3.1, h3.2.1, h3.2.2.1, ih h3.2.2.2⟩

section
variable {P : Program} {N k0 : Nat} {st : St} {Q : Exit → St → Prop}
/-- A loop, by a family of states at its head, no other names. -/
theorem SW.loopS {α : Type} {x : SCo} (I : α → St) (m : α → Nat) (i0 : α) (h0 : Sub k0 st (I i0))
    (round : ∀ i, SW P N k0 x (I i) fun e st' => match e with | .normal => ∃ j, m j < m i ∧ Sub k0 st' (I j) | e => Q e st') : SW P N k0 (.loop x) st Q :=
  SW.loop I m i0 id h0.weak fun i => (round i).mono fun e st' h => by
    cases e <;> first
      | (obtain ⟨j, h1, h2⟩ := h; exact ⟨j, id, h1, h2.weak⟩)
      | exact h
theorem SW.sub {s : SCo} {st1 : St} (hw : Sub k0 st st1) (h : SW P N k0 s st1 Q) : SW P N k0 s st Q := SW.weak id hw.weak h
end

/-! ### flat cells of slices of structs -/
theorem flat_get {α β : Type} (f : α → List β) (sz : Nat) (hf : ∀ x, (f x).length = sz) : ∀ (l : List α) (i j : Nat) (x : α), l[i]? = some x → j < sz → (l.flatMap f)[i * sz + j]? = (f x)[j]?
  | [], i, j, x, h, _ => by simp at h
  | y :: l, 0, j, x, h, hj => by
    simp at h; subst h
    rw [List.flatMap_cons, List.getElem?_append_left (by rw [hf]; omega)]
    simp
  | y :: l, i + 1, j, x, h, hj => by
    simp at h
    rw [List.flatMap_cons, List.getElem?_append_right (by rw [hf, Nat.add_mul]; omega), hf]
    rw [show (i + 1) * sz + j - sz = i * sz + j by rw [Nat.add_mul]; omega]
    exact flat_get f sz hf l i j x h hj
theorem flat_take {α β : Type} (f : α → List β) (sz : Nat) (hf : ∀ x, (f x).length = sz) : ∀ (l : List α) (i : Nat) (x : α), l[i]? = some x → ((l.flatMap f).drop (i * sz)).take sz = f x
  | [], i, x, h => by simp at h
  | y :: l, 0, x, h => by
    simp at h; subst h
    simp [List.flatMap_cons, List.take_left' (hf y)]
  | y :: l, i + 1, x, h => by
    simp at h
    rw [List.flatMap_cons, Nat.add_mul, Nat.one_mul, Nat.add_comm, ← List.drop_drop, List.drop_left' (hf y)]
    exact flat_take f sz hf l i x h
theorem flat_length {α β : Type} (f : α → List β) (sz : Nat) (hf : ∀ x, (f x).length = sz) (l : List α) : (l.flatMap f).length = l.length * sz := by
  induction l with
  | nil => simp
  | cons x l ih => simp [List.flatMap_cons, hf, ih, Nat.add_mul, Nat.add_comm]

/-- i64 numbers that fit. -/
theorem wrap_nat (n : Nat) (h : n < 9223372036854775808) : IntKind.i64.wrap (n : Int) = n := by
  simp [IntKind.wrap, IntKind.bits, IntKind.signed]; omega
theorem wrap_i (n : Int) (h : -9223372036854775808 ≤ n) (h' : n < 9223372036854775808) : IntKind.i64.wrap n = n := by
  simp [IntKind.wrap, IntKind.bits, IntKind.signed]; omega
theorem wrap_succ (n : Nat) (h : n < 9223372036854775807) : IntKind.i64.wrap ((n : Int) + 1) = ((n + 1 : Nat) : Int) := by
  rw [wrap_i _ (by omega) (by omega)]; rfl

theorem HSub.nil (h : Hp) : HSub [] h := fun n ob hn => by simp [lk_nil] at hn

/-- A function that makes nothing that stays: its answer, by its arguments. -/
def Pure (P : Program) (f : FuncId) (args : List SV) (v : SV) : Prop := SB P f args [] 0 0 fun r F => r = v ∧ F = []

theorem SV.none_both {ρ : Nat → Nat} (s : SV) : s.ok (fun n => decide (n < 0)) = true → s.ren ρ = s :=
  SV.rec (motive_1 := fun s => s.ok (fun n => decide (n < 0)) = true → s.ren ρ = s) (motive_2 := fun l => SV.oks (fun n => decide (n < 0)) l = true → SV.rens ρ l = l)
    (fun _ _ => rfl) (fun _ _ h => by simp [SV.ok] at h) (fun _ _ h => by simp [SV.ok] at h) (fun _ _ _ h => by simp [SV.ok] at h) (fun _ _ _ => rfl) (fun _ h => by simp [SV.ok] at h) (fun _ h => by simp [SV.ok] at h) (fun _ h => by simp [SV.ok] at h)
    (fun f a c h1 h2 h => by simp only [SV.ok, Bool.and_eq_true] at h; simp only [SV.ren, h1 h.1, h2 h.2])
    (fun cs h1 h => by simp only [SV.ok] at h; simp only [SV.ren, h1 h]) (fun cs h1 h => by simp only [SV.ok] at h; simp only [SV.ren, h1 h]) (fun _ => rfl)
    (fun _ => rfl) (fun c cs h1 h2 h => by simp only [SV.oks, Bool.and_eq_true] at h; simp only [SV.rens, h1 h.1, h2 h.2]) s
theorem Pure.sc {P : Program} {f : FuncId} {args : List SV} {v : SV} (h : Pure P f args v) (hv : v.ok (fun n => decide (n < 0)) = true) (k : Nat) : SCd P f args [] k 0 v [] := by
  have := SB.at h id k (fun n m hn => absurd hn (Nat.not_lt_zero n)) (fun n hn => absurd hn (Nat.not_lt_zero n)) (fun i hi => absurd hi (Nat.not_lt_zero i))
  rw [SV.rens_id] at this
  refine this.mono ?_
  rintro r F' ⟨r0, F0, ⟨rfl, rfl⟩, rfl, rfl⟩
  exact ⟨SV.none_both _ hv, rfl⟩
theorem fin_pure {rvs : List RV} {st : St} {ss : List SV} {ob : Prop} {v : SV} (h : rvV st rvs = some (ss, ob)) (hob : ob) (hv : retV ss = v) (hok : v.ok (fun n => decide (n < 0)) = true) : Fin 0 0 rvs (fun r F => r = v ∧ F = []) st :=
  ⟨ss, ob, [], h, hob, HSub.nil _, ⟨hv, rfl⟩, by rw [hv]; exact hok, rfl, by omega⟩

structure Vec where
  (a0 a1 a2 a3 a4 a5 a6 a7 : Nat)
  deriving DecidableEq
def Vec.get (v : Vec) : Nat → Nat
  | 0 => v.a0 | 1 => v.a1 | 2 => v.a2 | 3 => v.a3 | 4 => v.a4 | 5 => v.a5 | 6 => v.a6 | 7 => v.a7 | _ => 0
def Vec.of (f : Nat → Nat) : Vec := ⟨f 0, f 1, f 2, f 3, f 4, f 5, f 6, f 7⟩
theorem Vec.get_of (f : Nat → Nat) {r : Nat} (h : r < 8) : (Vec.of f).get r = f r := by
  match r, h with
  | 0, _ | 1, _ | 2, _ | 3, _ | 4, _ | 5, _ | 6, _ | 7, _ => rfl
theorem Vec.ext' {a b : Vec} (h : ∀ r, r < 8 → a.get r = b.get r) : a = b := by
  obtain ⟨a0, a1, a2, a3, a4, a5, a6, a7⟩ := a
  obtain ⟨b0, b1, b2, b3, b4, b5, b6, b7⟩ := b
  have h0 : a0 = b0 := h 0 (by omega)
  have h1 : a1 = b1 := h 1 (by omega)
  have h2 : a2 = b2 := h 2 (by omega)
  have h3 : a3 = b3 := h 3 (by omega)
  have h4 : a4 = b4 := h 4 (by omega)
  have h5 : a5 = b5 := h 5 (by omega)
  have h6 : a6 = b6 := h 6 (by omega)
  have h7 : a7 = b7 := h 7 (by omega)
  subst h0 h1 h2 h3 h4 h5 h6 h7
  rfl
def Vec.ds (v : Vec) : List DV := [.int .u32 v.a0, .int .u32 v.a1, .int .u32 v.a2, .int .u32 v.a3, .int .u32 v.a4, .int .u32 v.a5, .int .u32 v.a6, .int .u32 v.a7]
def Vec.cells (v : Vec) : List SV := [u32 v.a0, u32 v.a1, u32 v.a2, u32 v.a3, u32 v.a4, u32 v.a5, u32 v.a6, u32 v.a7]
theorem Vec.map_ds (v : Vec) : v.ds.map .d = v.cells := rfl
theorem Vec.ds_len (v : Vec) : v.ds.length = 8 := rfl
theorem Vec.cells_get (v : Vec) {r : Nat} (h : r < 8) : v.cells[r]? = some (u32 (v.get r)) := by
  match r, h with
  | 0, _ | 1, _ | 2, _ | 3, _ | 4, _ | 5, _ | 6, _ | 7, _ => rfl
theorem Vec.ds_get (v : Vec) {r : Nat} (h : r < 8) : v.ds[r]? = some (.int .u32 (v.get r)) := by
  match r, h with
  | 0, _ | 1, _ | 2, _ | 3, _ | 4, _ | 5, _ | 6, _ | 7, _ => rfl
theorem Vec.cells_one (v : Vec) : v.cells.all SV.isOne = true := rfl
theorem Vec.cells_len (v : Vec) : v.cells.length = 8 := rfl
theorem Vec.cells_ok (v : Vec) (q : Nat → Bool) : SV.oks q v.cells = true := rfl
def Vec.set (v : Vec) (i x : Nat) : Vec := Vec.of fun r => if r = i then x else v.get r
theorem Vec.cells_set (v : Vec) {i : Nat} (h : i < 8) (x : Nat) : v.cells.set i (u32 x) = (v.set i x).cells := by
  match i, h with
  | 0, _ | 1, _ | 2, _ | 3, _ | 4, _ | 5, _ | 6, _ | 7, _ => rfl
def Vec.wf (v : Vec) : Prop := ∀ r, r < 8 → v.get r < 4294967296
/-- '==' of two vectors, cell by cell. -/
theorem Vec.eqb (a b : Vec) : csqS (rep 8 [true]) a.cells b.cells = some (decide (a = b)) := by
  have h : csqS (rep 8 [true]) a.cells b.cells = some (((a.a0 : Int) == b.a0) && (((a.a1 : Int) == b.a1) && (((a.a2 : Int) == b.a2) && (((a.a3 : Int) == b.a3) && (((a.a4 : Int) == b.a4) && (((a.a5 : Int) == b.a5) && (((a.a6 : Int) == b.a6) && (((a.a7 : Int) == b.a7) && true)))))))) := by
    simp [csqS, cqS, rep, Vec.cells]
  rw [h]
  congr 1
  obtain ⟨a0, a1, a2, a3, a4, a5, a6, a7⟩ := a
  obtain ⟨b0, b1, b2, b3, b4, b5, b6, b7⟩ := b
  rw [Bool.eq_iff_iff]
  simp
  omega
end Go.Sl
