/-
  '==' on flat data: structs and arrays of numbers and bools.
-/
import Derived.Test.YtdnjkeeiopcipaaSl4
set_option linter.unusedSimpArgs false
set_option linter.unusedSectionVars false
set_option linter.unusedVariables false
namespace Go.Sl
open Go.RowKit

def cEq : Bool → Value → Value → Option Bool
  | true, .int k a, .int k' b => if k = k' then some (a == b) else none
  | false, .bool a, .bool b => some (a == b)
  | _, _, _ => none
def csEq : List Bool → List Value → List Value → Option Bool
  | [], [], [] => some true
  | k :: ks, x :: xs, y :: ys => match cEq k x y, csEq ks xs ys with
    | some a, some b => some (a && b)
    | _, _ => none
  | _, _, _ => none

theorem csEq_length : ∀ {ks : List Bool} {xs ys : List Value} {b : Bool}, csEq ks xs ys = some b → xs.length = ks.length ∧ ys.length = ks.length
  | [], [], [], _, _ => ⟨rfl, rfl⟩
  | [], [], _ :: _, _, h => by simp [csEq] at h
  | [], _ :: _, _, _, h => by simp [csEq] at h
  | _ :: _, [], _, _, h => by simp [csEq] at h
  | _ :: _, _ :: _, [], _, h => by simp [csEq] at h
  | k :: ks, x :: xs, y :: ys, b, h => by
    simp only [csEq] at h
    split at h
    · rename_i h2
      have := csEq_length h2
      simp [this.1, this.2]
    · cases h
theorem csEq_one {k : Bool} {x y : Value} {b : Bool} (h : csEq [k] [x] [y] = some b) : cEq k x y = some b := by
  simp only [csEq] at h
  split at h
  · rename_i a b' h1 h2
    simp at h h2
    subst h; subst h2
    simpa using h1
  · cases h
theorem csEq_split : ∀ {k1 k2 : List Bool} {xs ys : List Value} {b : Bool}, csEq (k1 ++ k2) xs ys = some b →
    ∃ b1 b2, csEq k1 (xs.take k1.length) (ys.take k1.length) = some b1 ∧ csEq k2 (xs.drop k1.length) (ys.drop k1.length) = some b2 ∧ b = (b1 && b2)
  | [], k2, xs, ys, b, h => ⟨true, b, by simp [csEq], by simpa using h, by simp⟩
  | k :: k1, k2, [], ys, b, h => by simp [csEq] at h
  | k :: k1, k2, x :: xs, [], b, h => by simp [csEq] at h
  | k :: k1, k2, x :: xs, y :: ys, b, h => by
    simp only [List.cons_append, csEq] at h
    split at h
    · rename_i a b' h1 h2
      simp at h
      subst h
      obtain ⟨b1, b2, e1, e2, rfl⟩ := csEq_split h2
      refine ⟨a && b1, b2, ?_, by simpa using e2, by simp [Bool.and_assoc]⟩
      simp [csEq, h1, e1]
    · cases h

def plainFs (f : TypeId → Option (List Bool)) : Nat → List Field → Option (List Bool)
  | _, [] => some []
  | o, x :: xs => if x.name = "_" ∨ x.offset ≠ o then none else match f x.type with
    | some ks => match plainFs f (o + ks.length) xs with
      | some r => some (ks ++ r)
      | none => none
    | none => none
def rep (n : Nat) (ks : List Bool) : List Bool := match n with
  | 0 => []
  | n + 1 => ks ++ rep n ks
def plainEq (P : Program) : Nat → TypeId → Option (List Bool)
  | 0, _ => none
  | d + 1, t => match P.underlying t, P.info? t with
    | some .bool, some i => if i.size = 1 then some [false] else none
    | some (.int _), some i => if i.size = 1 then some [true] else none
    | some (.struct fs), some i => if P.stoodInHeld t then none else match plainFs (plainEq P d) 0 fs.toList with
      | some ks => if ks.length = i.size then some ks else none
      | none => none
    | some (.array n e), some i => match plainEq P d e with
      | some ks => if n * ks.length = i.size then some (rep n ks) else none
      | none => none
    | _, _ => none

theorem rep_length (n : Nat) (ks : List Bool) : (rep n ks).length = n * ks.length := by
  induction n with
  | zero => simp [rep]
  | succ n ih => simp [rep, ih, Nat.add_mul, Nat.add_comm]

def valOf (P : Program) (t : TypeId) (l : List Value) : Value :=
  match tySz P t with
  | some (some _) => .agg l.toArray
  | _ => l.headD undef

section
variable {P : Program} {w : World}

theorem plainEq_size {d : Nat} {t : TypeId} {ks : List Bool} (h : plainEq P d t = some ks) : tySz P t = some none ∧ ks.length = 1 ∨ tySz P t = some (some ks.length) := by
  cases d with
  | zero => simp [plainEq] at h
  | succ d =>
    simp only [plainEq] at h
    split at h
    · rename_i i h1 h2
      simp at h; obtain ⟨_, rfl⟩ := h
      exact .inl ⟨by simp [tySz, h1, h2], rfl⟩
    · rename_i k i h1 h2
      simp at h; obtain ⟨_, rfl⟩ := h
      exact .inl ⟨by simp [tySz, h1, h2], rfl⟩
    · rename_i fs i h1 h2
      split at h
      · cases h
      · split at h
        · split at h
          · rename_i hl
            simp at h; subst h
            exact .inr (by simp [tySz, h1, h2, hl])
          · cases h
        · cases h
    · rename_i n e i h1 h2
      split at h
      · split at h
        · rename_i hl
          simp at h; subst h
          exact .inr (by simp [tySz, h1, h2, rep_length, hl])
        · cases h
      · cases h
    · cases h

theorem part_run {d : Nat} {t : TypeId} {ks : List Bool} (h : plainEq P d t = some ks) (cs : List Value) (o : Nat) (hl : o + ks.length ≤ cs.length) :
    (part t cs.toArray o).run P w = .ok (valOf P t ((cs.drop o).take ks.length)) w := by
  rcases plainEq_size h with ⟨h1, h2⟩ | h1
  · have ho : o < cs.length := by omega
    have e : (List.take 1 (List.drop o cs)).headD undef = cs[o] := by rw [List.drop_eq_getElem_cons ho]; rfl
    simp only [part, Sem.run_bind, tySz_none h1, Result.andThen_ok, Bool.false_eq_true, if_false, valOf, h1, h2, e]
    simp [ho]
  · simp only [part, Sem.run_bind, (tySz_some h1).1, (tySz_some h1).2, Result.andThen_ok, if_true, Sem.run_pure, valOf, h1]
    congr 2
    apply Array.ext'
    simp

theorem eqFields_run (d : Nat) (ih : ∀ (t : TypeId) (ks : List Bool) (xs ys : List Value) (b : Bool), plainEq P d t = some ks → csEq ks xs ys = some b → (Op.equalIn d t (valOf P t xs) (valOf P t ys)).run P w = .ok b w)
    (xs ys : List Value) : ∀ (fs : List Field) (o : Nat) (ks : List Bool) (b : Bool), plainFs (plainEq P d) o fs = some ks → csEq ks (xs.drop o) (ys.drop o) = some b → o ≤ xs.length → o ≤ ys.length →
      (Op.eqFields d xs.toArray ys.toArray fs).run P w = .ok b w := by
  intro fs
  induction fs with
  | nil =>
    intro o ks b h hb _ _
    simp [plainFs] at h
    subst h
    have := csEq_length hb
    cases hx : xs.drop o <;> cases hy : ys.drop o <;> rw [hx, hy] at hb <;> simp [csEq] at hb
    subst hb
    simp [Op.eqFields]
  | cons f fs ihf =>
    intro o ks b h hb hox hoy
    simp only [plainFs] at h
    split at h
    · cases h
    · rename_i hno
      simp only [not_or, ne_eq, Decidable.not_not] at hno
      split at h
      · rename_i ks1 h1
        split at h
        · rename_i ks2 h2
          simp at h
          subst h
          obtain ⟨b1, b2, e1, e2, rfl⟩ := csEq_split hb
          have l1 := csEq_length e1
          have hx : o + ks1.length ≤ xs.length := by have := l1.1; simp at this; omega
          have hy : o + ks1.length ≤ ys.length := by have := l1.2; simp at this; omega
          simp only [List.drop_drop] at e2
          have hr := ihf (o + ks1.length) ks2 b2 h2 e2 hx hy
          simp only [Op.eqFields, ne_eq, hno.1, not_false_eq_true, if_true, Sem.run_bind, hno.2, part_run h1 xs o hx, part_run h1 ys o hy, Result.andThen_ok, ih f.type ks1 _ _ b1 h1 e1]
          cases b1
          · simp
          · simpa using hr
        · cases h
      · cases h

theorem plainEq_info {d : Nat} {t : TypeId} {ks : List Bool} (h : plainEq P d t = some ks) : ∃ i, P.info? t = some i ∧ i.size = ks.length := by
  cases d with
  | zero => simp [plainEq] at h
  | succ d =>
    simp only [plainEq] at h
    split at h
    · rename_i i h1 h2
      simp at h; obtain ⟨h3, rfl⟩ := h
      exact ⟨i, h2, h3⟩
    · rename_i k i h1 h2
      simp at h; obtain ⟨h3, rfl⟩ := h
      exact ⟨i, h2, h3⟩
    · rename_i fs i h1 h2
      split at h
      · cases h
      · split at h
        · split at h
          · rename_i hl
            simp at h; subst h
            exact ⟨i, h2, hl.symm⟩
          · cases h
        · cases h
    · rename_i n e i h1 h2
      split at h
      · split at h
        · rename_i hl
          simp at h; subst h
          exact ⟨i, h2, by rw [rep_length, hl]⟩
        · cases h
      · cases h
    · cases h

theorem arr_run (d : Nat) (ih : ∀ (t : TypeId) (ks : List Bool) (xs ys : List Value) (b : Bool), plainEq P d t = some ks → csEq ks xs ys = some b → (Op.equalIn d t (valOf P t xs) (valOf P t ys)).run P w = .ok b w)
    {e : TypeId} {ks : List Bool} (he : plainEq P d e = some ks) (xs ys : List Value) : ∀ (n k : Nat) (b : Bool), csEq (rep n ks) (xs.drop (k * ks.length)) (ys.drop (k * ks.length)) = some b →
      (k + n) * ks.length ≤ xs.length → (k + n) * ks.length ≤ ys.length →
      (forIn (m := Sem) (List.range' k n) ((none, ()) : Option Bool × Unit) fun i _ => do
        let a ← part e xs.toArray (i * ks.length)
        let c ← part e ys.toArray (i * ks.length)
        let r ← Op.equalIn d e a c
        if (!r) = true then pure (ForInStep.done (some false, ())) else pure (ForInStep.yield (none, ()))).run P w = .ok (if b then (none, ()) else (some false, ())) w := by
  intro n
  induction n with
  | zero =>
    intro k b hb _ _
    simp only [rep] at hb
    have hl := csEq_length hb
    cases hx : xs.drop (k * ks.length) <;> cases hy : ys.drop (k * ks.length) <;> rw [hx, hy] at hb <;> simp [csEq] at hb
    subst hb
    simp
  | succ n ihn =>
    intro k b hb hx hy
    simp only [rep] at hb
    obtain ⟨b1, b2, e1, e2, rfl⟩ := csEq_split hb
    have hx' : k * ks.length + ks.length ≤ xs.length := by
      have : (k + (n + 1)) * ks.length = k * ks.length + ks.length + n * ks.length := by rw [Nat.add_mul, Nat.add_mul]; omega
      omega
    have hy' : k * ks.length + ks.length ≤ ys.length := by
      have : (k + (n + 1)) * ks.length = k * ks.length + ks.length + n * ks.length := by rw [Nat.add_mul, Nat.add_mul]; omega
      omega
    have hk : k * ks.length + ks.length = (k + 1) * ks.length := by rw [Nat.add_mul]; omega
    simp only [List.drop_drop, hk] at e2
    have hr := ihn (k + 1) b2 e2 (by rwa [show k + 1 + n = k + (n + 1) by omega]) (by rwa [show k + 1 + n = k + (n + 1) by omega])
    simp only [List.range'_succ, List.forIn_cons, Sem.run_bind, part_run he xs _ hx', part_run he ys _ hy', Result.andThen_ok, ih e ks _ _ b1 he e1]
    cases b1
    · simp
    · simpa using hr
theorem equalIn_run : ∀ (d : Nat) (t : TypeId) (ks : List Bool) (xs ys : List Value) (b : Bool), plainEq P d t = some ks → csEq ks xs ys = some b → (Op.equalIn d t (valOf P t xs) (valOf P t ys)).run P w = .ok b w := by
  intro d
  induction d with
  | zero => intro t ks xs ys b h; simp [plainEq] at h
  | succ d ih =>
    intro t ks xs ys b h hb
    have hl := csEq_length hb
    have hsz := plainEq_size h
    simp only [plainEq] at h
    split at h
    · rename_i i h1 h2
      simp at h; obtain ⟨_, rfl⟩ := h
      have ht : tySz P t = some none := by simp [tySz, h1, h2]
      match xs, ys, hl with
      | [x], [y], _ =>
        simp only [valOf, ht, List.headD_cons]
        have hb := csEq_one hb
        cases x <;> cases y <;> simp [cEq] at hb
        subst hb
        rw [run_equalIn_bool w d t _ _ h1]
    · rename_i k i h1 h2
      simp at h; obtain ⟨_, rfl⟩ := h
      have ht : tySz P t = some none := by simp [tySz, h1, h2]
      match xs, ys, hl with
      | [x], [y], _ =>
        simp only [valOf, ht, List.headD_cons]
        have hb := csEq_one hb
        cases x <;> cases y <;> simp [cEq] at hb
        obtain ⟨rfl, rfl⟩ := hb
        exact run_equalIn_int w d t _ k _ _ h1
    · rename_i fs i h1 h2
      split at h
      · cases h
      · rename_i hst
        split at h
        · rename_i ks' h3
          split at h
          · rename_i hsize
            simp at h; subst h
            have ht : tySz P t = some (some i.size) := by simp [tySz, h1, h2]
            simp only [valOf, ht]
            have hf : P.fieldsOf t = fs := by simp [Program.fieldsOf, h1]
            rw [run_equalIn_struct w d t _ _ (by rw [hf]; exact h1) (by simpa using hst), hf]
            exact eqFields_run d ih xs ys fs.toList 0 ks' b h3 (by simpa using hb) (by omega) (by omega)
          · cases h
        · cases h
    · rename_i n e i h1 h2
      split at h
      · rename_i ks' h3
        split at h
        · rename_i hsize
          simp at h; subst h
          have ht : tySz P t = some (some i.size) := by simp [tySz, h1, h2]
          simp only [valOf, ht]
          simp only [Op.equalIn, Sem.run_bind, run_underlying h1, Result.andThen_ok]
          obtain ⟨i', hi', hs'⟩ := plainEq_info h3
          rw [run_size hi', hs']
          simp only [Result.andThen_ok]
          have hlen : ∀ l : List Value, l.length = (rep n ks').length → n * ks'.length ≤ l.length := fun l h => by rw [h, rep_length]; exact Nat.le_refl _
          have := arr_run d ih h3 xs ys n 0 b (by simpa using hb) (by simpa using hlen xs hl.1) (by simpa using hlen ys hl.2)
          simp only [Std.Legacy.Range.forIn_eq_forIn_range', Std.Legacy.Range.size, Nat.sub_zero, Nat.add_one_sub_one, Nat.div_one, this]
          cases b <;> simp
        · cases h
      · cases h
    · cases h
end
end Go.Sl
