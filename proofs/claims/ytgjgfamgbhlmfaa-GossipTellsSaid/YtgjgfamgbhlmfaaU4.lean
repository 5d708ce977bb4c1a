/-
  The machine does what 'sop' says: maps with flat keys.
-/
import Derived.Test.YtgjgfamgbhlmfaaU3
import Derived.Maps.Keyed
set_option linter.unusedSectionVars false
set_option linter.unusedVariables false
set_option linter.unusedSimpArgs false
namespace Go.Sl
open Go.RowKit

section
variable {P : Program}

theorem checkKey_fields (em : Bool) (d : Nat) (ih : ∀ (t : TypeId) (ks : List Bool) (xs : List Value) (w : World), plainEq P d t = some ks → xs.length = ks.length → (Instr.checkKey em d t (valOf P t xs)).run P w = .ok () w)
    (xs : List Value) (w : World) : ∀ (fs : List Field) (o : Nat) (ks : List Bool), plainFs (plainEq P d) o fs = some ks → o + ks.length ≤ xs.length →
      (forIn (m := Sem) fs PUnit.unit fun f _ => do
        if f.name ≠ "_" then
          Instr.checkKey em d f.type (← part f.type xs.toArray f.offset)
        pure (ForInStep.yield PUnit.unit)).run P w = .ok PUnit.unit w := by
  intro fs
  induction fs with
  | nil => intro o ks h _; simp
  | cons f fs ihf =>
    intro o ks h hx
    simp only [plainFs] at h
    split at h
    · cases h
    · rename_i hno
      simp only [not_or, ne_eq, Decidable.not_not] at hno
      split at h
      · rename_i ks1 h1
        split at h
        · rename_i ks2 h2
          simp at h
          subst h
          simp at hx
          have hr := ihf (o + ks1.length) ks2 h2 (by omega)
          have hi := ih f.type ks1 ((xs.drop o).take ks1.length) w h1 (by simp; omega)
          simp only [List.forIn_cons, Sem.run_bind, ne_eq, hno.1, not_false_eq_true, if_true, hno.2, part_run h1 xs o (by omega), Result.andThen_ok, hi, Sem.run_pure]
          simpa using hr
        · cases h
      · cases h

theorem checkKey_arr (em : Bool) (d : Nat) (ih : ∀ (t : TypeId) (ks : List Bool) (xs : List Value) (w : World), plainEq P d t = some ks → xs.length = ks.length → (Instr.checkKey em d t (valOf P t xs)).run P w = .ok () w)
    {e : TypeId} {ks : List Bool} (he : plainEq P d e = some ks) (xs : List Value) (w : World) : ∀ (n k : Nat), (k + n) * ks.length ≤ xs.length →
      (forIn (m := Sem) (List.range' k n) PUnit.unit fun i _ => do
        let s ← sizeOf e
        let v ← part e xs.toArray (i * s)
        Instr.checkKey em d e v
        pure (ForInStep.yield PUnit.unit)).run P w = .ok PUnit.unit w := by
  intro n
  obtain ⟨i', hi', hs'⟩ := plainEq_info he
  induction n with
  | zero => intro k _; simp
  | succ n ihn =>
    intro k hx
    have hx' : k * ks.length + ks.length ≤ xs.length := by
      have : (k + (n + 1)) * ks.length = k * ks.length + ks.length + n * ks.length := by rw [Nat.add_mul, Nat.add_mul]; omega
      omega
    have hr := ihn (k + 1) (by rwa [show k + 1 + n = k + (n + 1) by omega])
    have hi := ih e ks ((xs.drop (k * ks.length)).take ks.length) w he (by simp; omega)
    simp only [List.range'_succ, List.forIn_cons, Sem.run_bind, run_size hi', hs', Result.andThen_ok, part_run he xs _ hx', hi, Sem.run_pure]
    exact hr

theorem checkKey_run (em : Bool) : ∀ (d : Nat) (t : TypeId) (ks : List Bool) (xs : List Value) (w : World), plainEq P d t = some ks → xs.length = ks.length → (Instr.checkKey em d t (valOf P t xs)).run P w = .ok () w := by
  intro d
  induction d with
  | zero => intro t ks xs w h; simp [plainEq] at h
  | succ d ih =>
    intro t ks xs w h hl
    simp only [plainEq] at h
    split at h
    · rename_i i h1 h2
      generalize valOf P t xs = v
      cases v <;> simp [Instr.checkKey, run_underlying h1]
    · rename_i k i h1 h2
      generalize valOf P t xs = v
      cases v <;> simp [Instr.checkKey, run_underlying h1]
    · rename_i fs i h1 h2
      split at h
      · cases h
      · split at h
        · rename_i ks' h3
          split at h
          · rename_i hsize
            simp at h; subst h
            have ht : tySz P t = some (some i.size) := by simp [tySz, h1, h2]
            have := checkKey_fields (P := P) em d ih xs w fs.toList 0 ks' h3 (by omega)
            simp only [valOf, ht, Instr.checkKey, Sem.run_bind, run_underlying h1, Result.andThen_ok]
            simp only [← Array.forIn_toList] 
            rw [this]; rfl
          · cases h
        · cases h
    · rename_i n e i h1 h2
      split at h
      · rename_i ks' h3
        split at h
        · rename_i hsize
          simp at h; subst h
          have ht : tySz P t = some (some i.size) := by simp [tySz, h1, h2]
          rw [rep_length] at hl
          have := checkKey_arr (P := P) em d ih h3 xs w n 0 (by simp; omega)
          simp only [valOf, ht, Instr.checkKey, Sem.run_bind, run_underlying h1, Result.andThen_ok]
          simp only [Std.Legacy.Range.forIn_eq_forIn_range', Std.Legacy.Range.size, Nat.sub_zero, Nat.add_sub_cancel, Nat.div_one]
          rw [this]; rfl
        · cases h
      · cases h
    · cases h

theorem cEq_eq : ∀ {k : Bool} {x y : Value}, cEq k x y = some true → x = y := by
  intro k x y h
  cases k <;> cases x <;> cases y <;> simp [cEq] at h
  · subst h; rfl
  · obtain ⟨rfl, rfl⟩ := h; rfl
theorem csEq_eq : ∀ {ks : List Bool} {xs ys : List Value}, csEq ks xs ys = some true → xs = ys
  | [], [], [], _ => rfl
  | [], [], _ :: _, h => by simp [csEq] at h
  | [], _ :: _, _, h => by simp [csEq] at h
  | _ :: _, [], _, h => by simp [csEq] at h
  | _ :: _, _ :: _, [], h => by simp [csEq] at h
  | k :: ks, x :: xs, y :: ys, h => by
    simp only [csEq] at h
    split at h
    · rename_i a b h1 h2
      simp at h
      obtain ⟨rfl, rfl⟩ := h
      rw [cEq_eq h1, csEq_eq h2]
    · cases h
theorem cEq_bits {k : Bool} {x : Value} {b : Bool} (h : cEq k x x = some b) (d : Nat) : Instr.sameBits d x x = true := by
  cases k <;> cases x <;> simp [cEq] at h <;> cases d <;> simp [Instr.sameBits]
theorem csEq_bits {d : Nat} : ∀ {ks : List Bool} {xs : List Value} {b : Bool}, csEq ks xs xs = some b → (xs.zip xs).all (fun (x, y) => Instr.sameBits d x y) = true
  | [], [], _, _ => rfl
  | [], _ :: _, _, h => by simp [csEq] at h
  | _ :: _, [], _, h => by simp [csEq] at h
  | k :: ks, x :: xs, b, h => by
    simp only [csEq] at h
    split at h
    · rename_i a b h1 h2
      simp only [List.zip_cons_cons, List.all_cons, csEq_bits h2, Bool.and_true]
      exact cEq_bits h1 d
    · cases h

/-- A key's value. -/
structure KeyV (P : Program) (t : TypeId) (ks : List Bool) (v : Value) : Prop where
  eq : v = valOf P t v.cells.toList
  self : ∃ b, csEq ks v.cells.toList v.cells.toList = some b
theorem KeyV.len {t : TypeId} {ks : List Bool} {v : Value} (h : KeyV P t ks v) : v.cells.toList.length = ks.length := by
  obtain ⟨b, hb⟩ := h.self
  exact (csEq_length hb).1
theorem KeyV.check {t : TypeId} {ks : List Bool} {v : Value} (h : KeyV P t ks v) (hks : plainEq P 10000 t = some ks) (em : Bool) (w : World) : (Instr.checkKey em 10000 t v).run P w = .ok () w := by
  have := checkKey_run (P := P) em 10000 t ks v.cells.toList w hks h.len
  rwa [← h.eq] at this
theorem KeyV.stays {t : TypeId} {ks : List Bool} {v : Value} (h : KeyV P t ks v) (w : World) : (Instr.keyThatStays v v).run P w = .ok v w := by
  have : Instr.sameBits 10000 v v = true := by
    obtain ⟨b, hb⟩ := h.self
    by_cases ha : ∃ cs, v = .agg cs
    · obtain ⟨cs, rfl⟩ := ha
      simp only [Value.cells] at hb
      simp only [Instr.sameBits, BEq.rfl, Bool.true_and]
      exact csEq_bits hb
    · have hc : v.cells = #[v] := by cases v <;> first | rfl | exact absurd ⟨_, rfl⟩ ha
      rw [hc] at hb
      match ks, hb with
      | [k], hb =>
        have hb := csEq_one hb
        exact cEq_bits hb 10000
      | [], hb => simp [csEq] at hb
      | _ :: _ :: _, hb =>
        simp only [csEq] at hb
        split at hb
        · rename_i h2; simp at h2
        · cases hb
  simp [Instr.keyThatStays, this]
theorem KeyV.same {t : TypeId} {ks : List Bool} {u v : Value} (hu : KeyV P t ks u) (hv : KeyV P t ks v) (h : csEq ks u.cells.toList v.cells.toList = some true) : u = v := by
  rw [hu.eq, hv.eq, csEq_eq h]

theorem keyOk_rep {p : Nat → Prop} {μ : Nat → Nm} {M : Mem} {t : TypeId} {ks : List Bool} (hks : plainEq P 10000 t = some ks) {key : SV} (hko : keyOk ks (aggOf P t) key = true) {v : Value} (hr : Rp p μ M key v) :
    KeyV P t ks v ∧ Rps p μ M key.cells v.cells.toList := by
  unfold keyOk at hko
  simp only [Bool.and_eq_true, beq_iff_eq] at hko
  obtain ⟨h1, h2⟩ := hko
  obtain ⟨b, hb⟩ := Option.isSome_iff_exists.1 h2
  by_cases ha : ∃ cs, key = .agg cs
  · obtain ⟨cs, rfl⟩ := ha
    obtain ⟨vs, rfl, hvs⟩ := Rp.agg_iff.1 hr
    refine ⟨⟨?_, b, csqS_rep hb hvs hvs⟩, hvs⟩
    simp only [isAggS] at h1
    have : ∃ n, tySz P t = some (some n) := by
      unfold aggOf at h1
      split at h1
      · exact ⟨_, by assumption⟩
      · cases h1
    obtain ⟨n, hn⟩ := this
    simp [valOf, hn, Value.cells]
  · have hc : key.cells = [key] := by cases key <;> first | rfl | exact absurd ⟨_, rfl⟩ ha
    have hg : isAggS key = false := by cases key <;> first | rfl | exact absurd ⟨_, rfl⟩ ha
    rw [hg] at h1
    rw [hc] at hb ⊢
    have hk1 : ∃ k, ks = [k] ∧ cqS k key key = some b := by
      match ks, hb with
      | [], hb => simp [csqS] at hb
      | [k], hb =>
        simp only [csqS] at hb
        split at hb
        · rename_i a b' e1 e2
          simp at hb e2
          subst e2; subst hb
          exact ⟨k, rfl, by simpa using e1⟩
        · cases hb
      | _ :: _ :: _, hb =>
        simp only [csqS] at hb
        split at hb
        · rename_i h2; simp at h2
        · cases hb
    obtain ⟨k, rfl, hk⟩ := hk1
    have hty : tySz P t = some none := by
      rcases plainEq_size hks with ⟨e, _⟩ | e
      · exact e
      · simp [aggOf, e] at h1
    have hv : v.cells = #[v] := by
      cases k <;> cases key <;> simp [cqS] at hk <;> rename_i x <;> cases x <;> simp [cqS] at hk
      · rw [Rp.bool_iff.1 hr]; rfl
      · rw [Rp.int_iff.1 hr]; rfl
    have hcs : Rps p μ M [key] v.cells.toList := by rw [hv]; exact Rps.cons_iff.2 ⟨v, [], rfl, hr, Rps.nil_iff.2 rfl⟩
    refine ⟨⟨?_, b, csqS_rep hb hcs hcs⟩, hcs⟩
    simp [valOf, hty, hv]

/-- Where a key stands, by values. -/
noncomputable def findV (P : Program) (t : TypeId) (ks : List Bool) (x : Value) : List MapEntry → Nat → Option (Option Nat)
  | [], _ => some none
  | e :: r, i => open Classical in if KeyV P t ks e.key then match csEq ks x.cells.toList e.key.cells.toList with
    | some true => some (some i)
    | some false => findV P t ks x r (i + 1)
    | none => none
    else none
theorem findS_V {p : Nat → Prop} {μ : Nat → Nm} {M : Mem} {t : TypeId} {ks : List Bool} (hks : plainEq P 10000 t = some ks) {key : SV} {x : Value} (hx : Rps p μ M key.cells x.cells.toList) : ∀ {es : List (Nat × SV × SV)} {ens : List MapEntry} {i : Nat} {r : Option Nat},
    RpE p μ M es ens → findS ks (aggOf P t) key es i = some r → findV P t ks x ens i = some r ∧ (∀ j, r = some j → i ≤ j ∧ ∃ e en, es[j - i]? = some e ∧ ens[j - i]? = some en ∧ KeyV P t ks en.key ∧ csEq ks x.cells.toList en.key.cells.toList = some true ∧ Rp p μ M e.2.1 en.key ∧ Rp p μ M e.2.2 en.val)
  | [], ens, i, r, hr, h => by
    simp only [RpE] at hr
    subst hr
    simp only [findS, Option.some.injEq] at h
    subst h
    exact ⟨rfl, fun j h => by cases h⟩
  | (b, k, v) :: es, ens, i, r, hr, h => by
    obtain ⟨en, ens', rfl, h1, h2, h3, h4⟩ := hr
    simp only [findS] at h
    split at h
    · rename_i hko
      obtain ⟨hv, hkc⟩ := keyOk_rep hks hko h2
      split at h
      · rename_i hq
        have hq := csqS_rep hq hx hkc
        simp at h; subst h
        refine ⟨by simp [findV, hq, hv], fun j hj => ?_⟩
        simp at hj; subst hj
        exact ⟨Nat.le_refl _, (b, k, v), en, by simp, by simp, hv, hq, h2, h3⟩
      · rename_i hq
        have hq := csqS_rep hq hx hkc
        obtain ⟨a1, a2⟩ := findS_V hks hx h4 h
        refine ⟨by simp [findV, hq, a1, hv], fun j hj => ?_⟩
        obtain ⟨b1, e, en', b2, b3, b4⟩ := a2 j hj
        refine ⟨by omega, e, en', ?_, ?_, b4⟩
        · rw [show j - i = (j - (i + 1)) + 1 by omega]; simpa using b2
        · rw [show j - i = (j - (i + 1)) + 1 by omega]; simpa using b3
      · cases h
    · cases h

theorem findV_keys {t : TypeId} {ks : List Bool} (hks : plainEq P 10000 t = some ks) {x : Value} (hx : KeyV P t ks x) (w : World) : ∀ (es : List MapEntry) (i : Nat) (r : Option Nat), findV P t ks x es i = some r →
    ((Instr.findAsking t x es i).run P w = .ok (r.map fun j => (j, ((es[j - i]?).map (·.val)).getD undef)) w) ∧ ∀ j, r = some j → i ≤ j
  | [], i, r, h => by
    simp only [findV, Option.some.injEq] at h
    subst h
    exact ⟨by simp [Instr.findAsking], fun j h => by cases h⟩
  | e :: es, i, r, h => by
    simp only [findV] at h
    split at h <;> first | (cases h; done) | skip
    rename_i he
    have hq : ∀ b, csEq ks x.cells.toList e.key.cells.toList = some b → (Op.equal t x e.key).run P w = .ok b w := fun b hb => by
      have := equalIn_run (P := P) (w := w) 10000 t ks _ _ b hks hb
      rw [← hx.eq, ← he.eq] at this
      exact this
    split at h
    · rename_i hb
      simp at h; subst h
      exact ⟨by simp [Instr.findAsking, hq _ hb], fun j hj => by simp at hj; omega⟩
    · rename_i hb
      obtain ⟨a1, a2⟩ := findV_keys hks hx w es (i + 1) r h
      refine ⟨?_, fun j hj => by have := a2 j hj; omega⟩
      simp only [Instr.findAsking, Sem.run_bind, hq _ hb, Result.andThen_ok, Bool.false_eq_true, if_false, a1]
      cases r with
      | none => rfl
      | some j =>
        have := a2 j rfl
        simp only [Option.map_some, show j - i = (j - (i + 1)) + 1 by omega, List.getElem?_cons_succ]
    · cases h

theorem sameNow_none {d : TypeDesc} {a b : Value} {r : Bool} (h : Instr.sameNow d a b = some r) (hd : (∃ fs, d = .struct fs) ∨ ∃ n e, d = .array n e) : False := by
  rcases hd with ⟨fs, rfl⟩ | ⟨n, e, rfl⟩ <;> simp [Instr.sameNow] at h

theorem findNow_V {t : TypeId} {d : TypeDesc} {k : Bool} (hd : (k = true ∧ ∃ q, d = .int q) ∨ (k = false ∧ d = .bool)) {x : Value} (hx1 : x.cells.toList = [x]) (sgl : ∀ {v : Value}, KeyV P t [k] v → v.cells.toList = [v]) : ∀ (es : List MapEntry) (i : Nat) (r : Option Nat), findV P t [k] x es i = some r →
    Instr.findNow d x es i = some (r.map fun j => (j, ((es[j - i]?).map (·.val)).getD undef)) ∧ ∀ j, r = some j → i ≤ j
  | [], i, r, h => by
    simp only [findV, Option.some.injEq] at h
    subst h
    exact ⟨by simp [Instr.findNow], fun j h => by cases h⟩
  | e :: es, i, r, h => by
    simp only [findV] at h
    split at h <;> first | (cases h; done) | skip
    rename_i hke
    have hq : ∀ b, csEq [k] x.cells.toList e.key.cells.toList = some b → Instr.sameNow d x e.key = some b := fun b hb => by
      rw [hx1, sgl hke] at hb
      have hb := csEq_one hb
      generalize e.key = y at hb
      rcases hd with ⟨rfl, q, rfl⟩ | ⟨rfl, rfl⟩ <;> cases x <;> cases y <;> simp [cEq] at hb
      · simp [Instr.sameNow, hb]
      · simp [Instr.sameNow, hb]
    split at h
    · rename_i hb
      simp at h; subst h
      exact ⟨by simp [Instr.findNow, hq _ hb], fun j hj => by simp at hj; omega⟩
    · rename_i hb
      obtain ⟨a1, a2⟩ := findNow_V hd hx1 sgl es (i + 1) r h
      refine ⟨?_, fun j hj => by have := a2 j hj; omega⟩
      simp only [Instr.findNow, hq _ hb, a1]
      cases r with
      | none => rfl
      | some j =>
        have := a2 j rfl
        simp only [Option.map_some, show j - i = (j - (i + 1)) + 1 by omega, List.getElem?_cons_succ]
    · cases h

theorem findKey_run {t : TypeId} {ks : List Bool} (hks : plainEq P 10000 t = some ks) {x : Value} (hx : KeyV P t ks x) (w : World) {es : List MapEntry} {r : Option Nat} (h : findV P t ks x es 0 = some r) :
    (Instr.findKey t x es).run P w = .ok (r.map fun j => (j, ((es[j]?).map (·.val)).getD undef)) w := by
  obtain ⟨a1, _⟩ := findV_keys hks hx w es 0 r h
  have agg : (∃ d, P.underlying t = some d ∧ ((∃ fs, d = .struct fs) ∨ ∃ n e, d = .array n e)) → (Instr.findKey t x es).run P w = .ok (r.map fun j => (j, ((es[j]?).map (·.val)).getD undef)) w := by
    rintro ⟨d, hd, hk⟩
    simp only [Instr.findKey, Sem.run_bind, run_underlying hd, Result.andThen_ok]
    cases es with
    | nil =>
      simp only [findV, Option.some.injEq] at h
      subst h
      simp [Instr.findNow]
    | cons e es =>
      have : Instr.findNow d x (e :: es) 0 = none := by
        simp only [Instr.findNow]
        split
        · rename_i hs; exact (sameNow_none hs hk).elim
        · rename_i hs; exact (sameNow_none hs hk).elim
        · rfl
      rw [this]
      simpa using a1
  have one : ∀ (k : Bool) (d : TypeDesc), ks = [k] → P.underlying t = some d → tySz P t = some none → ((k = true ∧ ∃ q, d = .int q) ∨ (k = false ∧ d = .bool)) → (Instr.findKey t x es).run P w = .ok (r.map fun j => (j, ((es[j]?).map (·.val)).getD undef)) w := by
    intro k d hk hd hty hkd
    subst hk
    have sgl : ∀ {v : Value}, KeyV P t [k] v → v.cells.toList = [v] := fun {v} hv => by
      have e := hv.eq
      simp only [valOf, hty] at e
      have hl := hv.len
      match hc : v.cells.toList, hl with
      | [y], _ => rw [hc] at e; simp at e; rw [e]
    obtain ⟨b1, _⟩ := findNow_V hkd (sgl hx) sgl es 0 r h
    simp only [Instr.findKey, Sem.run_bind, run_underlying hd, Result.andThen_ok, b1]
    simp
  obtain ⟨d, hks⟩ : ∃ d, plainEq P (d + 1) t = some ks := ⟨9999, hks⟩
  simp only [plainEq] at hks
  split at hks
  · rename_i i h1 h2
    simp at hks; obtain ⟨_, rfl⟩ := hks
    exact one false _ rfl h1 (by simp [tySz, h1, h2]) (.inr ⟨rfl, rfl⟩)
  · rename_i k i h1 h2
    simp at hks; obtain ⟨_, rfl⟩ := hks
    exact one true _ rfl h1 (by simp [tySz, h1, h2]) (.inl ⟨rfl, _, rfl⟩)
  · rename_i fs i h1 h2
    exact agg ⟨_, h1, .inl ⟨_, rfl⟩⟩
  · rename_i n el i h1 h2
    exact agg ⟨_, h1, .inr ⟨_, _, rfl⟩⟩
  · cases hks
end
section
variable {P : Program} {o : Oper} {E : Nat → Option SV} {H : Nat → Option Ob} {k : Nat} {own : Bool} {e : Eff}

theorem cZero_rep {t : TypeId} {z : SV} (h : cZero P t = some z) : ∃ v, (∀ w : World, (zeroValue t).run P w = .ok v w) ∧ ∀ {p : Nat → Prop} {μ : Nat → Nm} {M : Mem}, Rp p μ M z v := by
  unfold cZero at h
  split at h
  · rename_i i hi
    split at h
    · rename_i z' hz
      exact ⟨z', fun w => run_zero hi hz, fun {_ _ _} => cV_rep h⟩
    · cases h
  · cases h

theorem RpE.length {p : Nat → Prop} {μ : Nat → Nm} {M : Mem} : ∀ {es : List (Nat × SV × SV)} {ens : List MapEntry}, RpE p μ M es ens → ens.length = es.length
  | [], ens, hr => by simp only [RpE] at hr; subst hr; rfl
  | (b, k, v) :: es, ens, hr => by
    obtain ⟨en, ens', rfl, h1, h2, h3, h4⟩ := hr
    simp [RpE.length h4]
theorem RpE.append {p : Nat → Prop} {μ : Nat → Nm} {M : Mem} {b : Nat} {k v : SV} {en : MapEntry} (h1 : en.born = b) (h2 : Rp p μ M k en.key) (h3 : Rp p μ M v en.val) : ∀ {es : List (Nat × SV × SV)} {ens : List MapEntry}, RpE p μ M es ens → RpE p μ M (es ++ [(b, k, v)]) (ens ++ [en])
  | [], ens, hr => by simp only [RpE] at hr; subst hr; exact ⟨en, [], rfl, h1, h2, h3, rfl⟩
  | (b', k', v') :: es, ens, hr => by
    obtain ⟨en', ens', rfl, g1, g2, g3, g4⟩ := hr
    exact ⟨en', _, rfl, g1, g2, g3, RpE.append h1 h2 h3 g4⟩
theorem RpE.modify {p : Nat → Prop} {μ : Nat → Nm} {M : Mem} {v : SV} {u : Value} (hv : Rp p μ M v u) : ∀ {es : List (Nat × SV × SV)} {ens : List MapEntry} (i : Nat), RpE p μ M es ens → RpE p μ M (es.modify i fun e => (e.1, e.2.1, v)) (ens.modify i fun e => { e with val := u })
  | [], ens, i, hr => by simp only [RpE] at hr; subst hr; simp [RpE]
  | (b', k', v') :: es, ens, 0, hr => by
    obtain ⟨en', ens', rfl, g1, g2, g3, g4⟩ := hr
    exact ⟨_, _, rfl, g1, g2, hv, g4⟩
  | (b', k', v') :: es, ens, i + 1, hr => by
    obtain ⟨en', ens', rfl, g1, g2, g3, g4⟩ := hr
    exact ⟨en', _, rfl, g1, g2, g3, RpE.modify hv i g4⟩
theorem RpE.erase {p : Nat → Prop} {μ : Nat → Nm} {M : Mem} : ∀ {es : List (Nat × SV × SV)} {ens : List MapEntry} (i : Nat), RpE p μ M es ens → RpE p μ M (es.eraseIdx i) (ens.eraseIdx i)
  | [], ens, i, hr => by simp only [RpE] at hr; subst hr; simp [RpE]
  | (b', k', v') :: es, ens, 0, hr => by
    obtain ⟨en', ens', rfl, g1, g2, g3, g4⟩ := hr
    exact g4
  | (b', k', v') :: es, ens, i + 1, hr => by
    obtain ⟨en', ens', rfl, g1, g2, g3, g4⟩ := hr
    exact ⟨en', _, rfl, g1, g2, g3, RpE.erase i g4⟩
theorem RpE.find {p : Nat → Prop} {μ : Nat → Nm} {M : Mem} {st : Nat} : ∀ {es : List (Nat × SV × SV)} {ens : List MapEntry} {e : Nat × SV × SV}, RpE p μ M es ens → es.find? (fun e => e.1 == st) = some e → ∃ en, ens.find? (fun x => x.born == st) = some en ∧ Rp p μ M e.2.1 en.key ∧ Rp p μ M e.2.2 en.val
  | [], ens, e, hr, h => by simp at h
  | (b', k', v') :: es, ens, e, hr, h => by
    obtain ⟨en', ens', rfl, g1, g2, g3, g4⟩ := hr
    simp only [List.find?_cons] at h ⊢
    rw [g1]
    cases hb : b' == st
    · simp only [hb] at h ⊢
      exact RpE.find g4 h
    · simp only [hb, Option.some.injEq] at h ⊢
      subst h
      exact ⟨_, rfl, g2, g3⟩

theorem Rp.mp_of {p : Nat → Prop} {μ : Nat → Nm} {M : Mem} {n : Nat} {v : Value} (h : Rp p μ M (.mp n) v) (hl : (μ n).live = true) : v = .map (some (μ n).blk) := by simpa [Rep, hl] using h.rep
theorem Rp.nomap_of {p : Nat → Prop} {μ : Nat → Nm} {M : Mem} {n : Nat} {v : Value} (h : Rp p μ M (.mp n) v) (hl : (μ n).live = false) : v = .map none := by simpa [Rep, hl] using h.rep
theorem Rp.it_of {p : Nat → Prop} {μ : Nat → Nm} {M : Mem} {n : Nat} {v : Value} (h : Rp p μ M (.it n) v) : v = .pointer (some ⟨(μ n).blk, 0, none⟩) := by simpa [Rep] using h.rep
theorem Rp.nilm_of {p : Nat → Prop} {μ : Nat → Nm} {M : Mem} {v : Value} (h : Rp p μ M (.d .nilm) v) : v = .map none := by simpa [RepD] using Rp.d_iff.1 h

theorem lookOk_rep {p : Nat → Prop} {μ : Nat → Nm} {M : Mem} {v : SV} {u : Value} {b : Bool} (ok : Bool) (h : Rp p μ M v u) : Rp p μ M (lookOk ok v b) (if ok then .tuple #[u, .bool b] else u) := by
  cases ok
  · exact h
  · exact Rp.tup_iff.2 ⟨_, rfl, Rps.cons_iff.2 ⟨_, _, rfl, h, Rps.cons_iff.2 ⟨_, _, rfl, Rp.bool_iff.2 rfl, Rps.nil_iff.2 rfl⟩⟩⟩

theorem s_look {t kt et : TypeId} {m i : Operand} {ok : Bool} {m' i' : X} {ks : List Bool} {z : SV} (ho : o.op = .lookup t m i ok) (ht : P.underlying t = some (.map kt et)) (hm : cX m = some m') (hi : cX i = some i')
    (hks : plainEq P 10000 kt = some ks) (hz : cZero P et = some z) (he : sop E H k own (.look ks (aggOf P kt) z m' i' ok) = some e) : Sound P o E H k e := by
  obtain ⟨z', hz1, hz2⟩ := cZero_rep hz
  simp only [sop] at he
  split at he <;> first | (cases he; done) | skip
  · rename_i key h1 h2
    split at he <;> first | (cases he; done) | skip
    rename_i hko
    injection he with he
    subst he
    refine ⟨OT.pure fun p μ M a w hk hS => ⟨if ok then .tuple #[z', .bool false] else z', ?_, lookOk_rep ok hz2⟩, sub_nil⟩
    have e1 := (hk.get (by simp [ho, Op.operands]) hm h1).nilm_of
    obtain ⟨kv, _⟩ := keyOk_rep hks hko (hk.get (by simp [ho, Op.operands]) hi h2)
    have hf := findKey_run hks kv w (es := []) (r := none) (by simp [findV])
    simp [execOp, ho, Instr.lookup, run_underlying ht, e1, kv.check hks, hf, hz1]
  · rename_i n key h1 h2
    split at he <;> first | (cases he; done) | skip
    · rename_i es c hH
      split at he <;> first | (cases he; done) | skip
      rename_i hko
      split at he <;> first | (cases he; done) | skip
      rename_i r hf
      injection he with he
      subst he
      refine ⟨OT.pure fun p μ M a w hk hS => ?_, sub_one hH⟩
      obtain ⟨_, ⟨h0, ens, hb, hre⟩, _⟩ := hS.one
      have e1 := (hk.get (by simp [ho, Op.operands]) hm h1).mp_of h0
      obtain ⟨kv, kc⟩ := keyOk_rep hks hko (hk.get (by simp [ho, Op.operands]) hi h2)
      obtain ⟨hv, hj⟩ := findS_V hks kc hre hf
      have hfk := findKey_run hks kv w hv
      cases r with
      | none =>
        refine ⟨if ok then .tuple #[z', .bool false] else z', ?_, lookOk_rep ok hz2⟩
        simp [execOp, ho, Instr.lookup, run_underlying ht, e1, MapKept.run_getObj_map hb, kv.check hks, hfk, hz1]
      | some j =>
        obtain ⟨_, q, en, hq, hen, _, _, _, hval⟩ := hj j rfl
        simp only [Nat.sub_zero] at hq hen
        simp only [Option.map_some, hen, Option.getD_some] at hfk
        refine ⟨if ok then .tuple #[en.val, .bool true] else en.val, ?_, lookOk_rep ok (by simpa [lookS, hq] using hval)⟩
        simp [execOp, ho, Instr.lookup, run_underlying ht, e1, MapKept.run_getObj_map hb, kv.check hks, hfk]
    · rename_i hH
      split at he <;> first | (cases he; done) | skip
      rename_i hko
      injection he with he
      subst he
      refine ⟨OT.pure fun p μ M a w hk hS => ⟨if ok then .tuple #[z', .bool false] else z', ?_, lookOk_rep ok hz2⟩, sub_one hH⟩
      have e1 := (hk.get (by simp [ho, Op.operands]) hm h1).nomap_of hS.one.2.1
      obtain ⟨kv, _⟩ := keyOk_rep hks hko (hk.get (by simp [ho, Op.operands]) hi h2)
      have hf := findKey_run hks kv w (es := []) (r := none) (by simp [findV])
      simp [execOp, ho, Instr.lookup, run_underlying ht, e1, kv.check hks, hf, hz1]
theorem s_mlen {c : Call} {t kt et : TypeId} {x : Operand} {y : X} (ho : o.op = .call c) (hcal : c.callee = .builtin .len) (ha : c.args.toList = [x]) (hat : c.argTypes.toList = [t]) (ht : P.underlying t = some (.map kt et))
    (hx : cX x = some y) (he : sop E H k own (.mlen y) = some e) : Sound P o E H k e := by
  have ha' : c.args = #[x] := by cases hh : c.args; simp [hh] at ha; simp [ha]
  have hat' : c.argTypes = #[t] := by cases hh : c.argTypes; simp [hh] at hat; simp [hat]
  have hin : x ∈ o.op.operands := by simp [ho, Op.operands, Call.operands, hcal, ha']
  simp only [sop] at he
  split at he <;> first | (cases he; done) | skip
  · rename_i h1
    injection he with he
    subst he
    refine ⟨OT.pure fun p μ M a w hk hS => ⟨.int .i64 0, ?_, Rp.int_iff.2 rfl⟩, sub_nil⟩
    have e1 := (hk.get hin hx h1).nilm_of
    simp [execOp, ho, resolve, hcal, ha', hat', invoke, builtin, e1, Builtin.len_, run_underlying ht, goInt]
  · rename_i n h1
    split at he <;> first | (cases he; done) | skip
    · rename_i es c' hH
      injection he with he
      subst he
      refine ⟨OT.pure fun p μ M a w hk hS => ?_, sub_one hH⟩
      obtain ⟨_, ⟨h0, ens, hb, hre⟩, _⟩ := hS.one
      have e1 := (hk.get hin hx h1).mp_of h0
      refine ⟨.int .i64 es.length, ?_, Rp.int_iff.2 rfl⟩
      have := hre.length
      simp at this
      simp [execOp, ho, resolve, hcal, ha', hat', invoke, builtin, e1, Builtin.len_, run_underlying ht, goInt, MapKept.run_getObj_map hb, this]
    · rename_i hH
      injection he with he
      subst he
      refine ⟨OT.pure fun p μ M a w hk hS => ⟨.int .i64 0, ?_, Rp.int_iff.2 rfl⟩, sub_one hH⟩
      have e1 := (hk.get hin hx h1).nomap_of hS.one.2.1
      simp [execOp, ho, resolve, hcal, ha', hat', invoke, builtin, e1, Builtin.len_, run_underlying ht, goInt]

theorem heap_put {w : World} {b : Nat} {x : Obj} (o : Obj) (hb : w.heap[b]? = some x) : ({ w with heap := w.heap.setIfInBounds b o } : World).heap[b]? = some o ∧ ∀ c, c ≠ b → ({ w with heap := w.heap.setIfInBounds b o } : World).heap[c]? = w.heap[c]? := by
  have hlt := (Array.getElem?_eq_some_iff.1 hb).1
  refine ⟨by simp [Array.getElem?_setIfInBounds, hlt], fun c hc => ?_⟩
  simp only [Array.getElem?_setIfInBounds]
  rw [if_neg (fun h : b = c => hc h.symm)]

theorem s_mset {t kt et : TypeId} {m i v : Operand} {m' i' v' : X} {ks : List Bool} (ho : o.op = .mapUpdate t m i v ∨ o.op = .insert t m i v) (ht : P.underlying t = some (.map kt et)) (hm : cX m = some m') (hi : cX i = some i') (hv : cX v = some v')
    (hks : plainEq P 10000 kt = some ks) (he : sop E H k own (.mset ks (aggOf P kt) m' i' v') = some e) : Sound P o E H k e := by
  have hin : m ∈ o.op.operands ∧ i ∈ o.op.operands ∧ v ∈ o.op.operands := by rcases ho with ho | ho <;> simp [ho, Op.operands]
  simp only [sop] at he
  split at he <;> first | (cases he; done) | skip
  rename_i n key s h1 h2 h3
  split at he <;> first | (cases he; done) | skip
  rename_i es c hH
  split at he <;> first | (cases he; done) | skip
  rename_i hko
  split at he <;> first | (cases he; done) | skip
  rename_i r hf
  injection he with he
  subst he
  refine ⟨OT.write fun p μ M a w hk hp hob => ?_, sub_one hH⟩
  obtain ⟨h0, ens, hb, hre⟩ := hob
  have e1 := (hk.get hin.1 hm h1).mp_of h0
  have r2 := hk.get hin.2.1 hi h2
  have r3 := hk.get hin.2.2 hv h3
  obtain ⟨kv, kc⟩ := keyOk_rep hks hko r2
  obtain ⟨hfv, hj⟩ := findS_V hks kc hre hf
  have hfk := findKey_run hks kv w hfv
  cases r with
  | none =>
    obtain ⟨g1, g2⟩ := heap_put (.map (ens.push { key := a.eval i, val := a.eval v, born := c }) (c + 1)) hb
    refine ⟨undef, _, .inr ⟨?_, rfl⟩, Rp.any, ⟨h0, ens.push { key := a.eval i, val := a.eval v, born := c }, g1, ?_⟩, fun b hb => g2 b (hb h0), by simp, rfl, ⟨rfl, Nat.le_refl _⟩, rfl⟩
    · rcases ho with ho | ho <;> simp [execOp, ho, Instr.mapUpdate, run_underlying ht, e1, MapKept.run_getObj_map hb, kv.check hks, hfk, MapKept.run_setObj_map _ hb]
    · simp only [Array.toList_push]
      exact RpE.append (en := { key := a.eval i, val := a.eval v, born := c }) rfl r2 r3 hre
  | some j =>
    obtain ⟨_, q, en, hq, hen, hkv, hcs, hkr, hval⟩ := hj j rfl
    simp only [Nat.sub_zero] at hq hen
    have hsame := kv.same hkv hcs
    simp only [Option.map_some, hen, Option.getD_some] at hfk
    have hen' : ens[j]? = some en := by simpa using hen
    obtain ⟨g1, g2⟩ := heap_put (.map (ens.modify j fun e => { e with key := a.eval i, val := a.eval v }) c) hb
    refine ⟨undef, _, .inr ⟨?_, rfl⟩, Rp.any, ⟨h0, ens.modify j fun e => { e with key := a.eval i, val := a.eval v }, g1, ?_⟩, fun b hb => g2 b (hb h0), by simp, rfl, ⟨rfl, Nat.le_refl _⟩, rfl⟩
    · have hst : (Instr.keyThatStays en.key (a.eval i)).run P w = .ok (a.eval i) w := by rw [← hsame]; exact kv.stays w
      rcases ho with ho | ho <;> simp [execOp, ho, Instr.mapUpdate, run_underlying ht, e1, MapKept.run_getObj_map hb, kv.check hks, hfk, hen', hst, MapKept.run_setObj_map _ hb]
    · have : (ens.modify j fun e => { e with key := a.eval i, val := a.eval v }).toList = ens.toList.modify j fun e => { e with val := a.eval v } := by
        rw [Array.toList_modify]
        apply List.ext_getElem?
        intro m
        simp only [List.getElem?_modify]
        by_cases hmj : j = m
        · subst hmj
          simp [hen', hsame]
        · simp [hmj]
      rw [this]
      exact RpE.modify r3 j hre

theorem s_mdel {c : Call} {t kt et t' : TypeId} {m i : Operand} {m' i' : X} {ks : List Bool} (ho : o.op = .call c) (hcal : c.callee = .builtin .delete) (ha : c.args.toList = [m, i]) (hat : c.argTypes.toList = [t, t']) (ht : P.underlying t = some (.map kt et)) (hm : cX m = some m') (hi : cX i = some i')
    (hks : plainEq P 10000 kt = some ks) (he : sop E H k own (.mdel ks (aggOf P kt) m' i') = some e) : Sound P o E H k e := by
  have ha' : c.args = #[m, i] := by cases hh : c.args; simp [hh] at ha; simp [ha]
  have hat' : c.argTypes = #[t, t'] := by cases hh : c.argTypes; simp [hh] at hat; simp [hat]
  have hin1 : m ∈ o.op.operands := by simp [ho, Op.operands, Call.operands, hcal, ha']
  have hin2 : i ∈ o.op.operands := by simp [ho, Op.operands, Call.operands, hcal, ha']
  simp only [sop] at he
  split at he <;> first | (cases he; done) | skip
  · rename_i key h1 h2
    split at he <;> first | (cases he; done) | skip
    rename_i hko
    injection he with he
    subst he
    refine ⟨OT.pure fun p μ M a w hk hS => ⟨.tuple #[], ?_, Rp.any⟩, sub_nil⟩
    have e1 := (hk.get hin1 hm h1).nilm_of
    obtain ⟨kv, _⟩ := keyOk_rep hks hko (hk.get hin2 hi h2)
    simp [execOp, ho, resolve, hcal, ha', hat', invoke, builtin, Builtin.delete_, run_underlying ht, e1, kv.check hks]
  · rename_i n key h1 h2
    split at he <;> first | (cases he; done) | skip
    · rename_i es cl hH
      split at he <;> first | (cases he; done) | skip
      rename_i hko
      split at he <;> first | (cases he; done) | skip
      rename_i r hf
      injection he with he
      subst he
      refine ⟨OT.write fun p μ M a w hk hp hob => ?_, sub_one hH⟩
      obtain ⟨h0, ens, hb, hre⟩ := hob
      have e1 := (hk.get hin1 hm h1).mp_of h0
      obtain ⟨kv, kc⟩ := keyOk_rep hks hko (hk.get hin2 hi h2)
      obtain ⟨hfv, hj⟩ := findS_V hks kc hre hf
      have hfk := findKey_run hks kv w hfv
      cases r with
      | none =>
        obtain ⟨g1, g2⟩ := heap_put (.map ens cl) hb
        refine ⟨.tuple #[], _, .inl ?_, Rp.any, ⟨h0, ens, g1, hre⟩, fun b hb => g2 b (hb h0), by simp, rfl, ⟨rfl, Nat.le_refl _⟩, rfl⟩
        simp [execOp, ho, resolve, hcal, ha', hat', invoke, builtin, Builtin.delete_, run_underlying ht, e1, MapKept.run_getObj_map hb, kv.check hks, hfk, MapKept.run_setObj_map _ hb]
      | some j =>
        obtain ⟨g1, g2⟩ := heap_put (.map (ens.eraseIdxIfInBounds j) cl) hb
        refine ⟨.tuple #[], _, .inl ?_, Rp.any, ⟨h0, ens.eraseIdxIfInBounds j, g1, ?_⟩, fun b hb => g2 b (hb h0), by simp, rfl, ⟨rfl, Nat.le_refl _⟩, rfl⟩
        · simp [execOp, ho, resolve, hcal, ha', hat', invoke, builtin, Builtin.delete_, run_underlying ht, e1, MapKept.run_getObj_map hb, kv.check hks, hfk, MapKept.run_setObj_map _ hb]
        · have : (ens.eraseIdxIfInBounds j).toList = ens.toList.eraseIdx j := by
            unfold Array.eraseIdxIfInBounds
            split
            · simp
            · rw [List.eraseIdx_of_length_le]
              simp; omega
          rw [this]
          exact RpE.erase j hre
    · rename_i hH
      split at he <;> first | (cases he; done) | skip
      rename_i hko
      injection he with he
      subst he
      refine ⟨OT.pure fun p μ M a w hk hS => ⟨.tuple #[], ?_, Rp.any⟩, sub_one hH⟩
      have e1 := (hk.get hin1 hm h1).nomap_of hS.one.2.1
      obtain ⟨kv, _⟩ := keyOk_rep hks hko (hk.get hin2 hi h2)
      simp [execOp, ho, resolve, hcal, ha', hat', invoke, builtin, Builtin.delete_, run_underlying ht, e1, kv.check hks]

/-- An operation that makes one object, and looks at another one. -/
theorem OT.makeAt {n : Nat} {ob0 ob : Ob} {v : SV} (h : ∀ (p : Nat → Prop) (μ : Nat → Nm) (M : Mem) (a : Act) (w : World), Known E o.op.operands p μ M a → p n → ObRep p μ M w (μ n) ob0 → MemOk M w →
    ∃ u ro cap, (execOp a.eval o).run P w = .ok (.value u) (w.alloc ro) ∧
      ∀ (p' : Nat → Prop) (μ' : Nat → Nm), (∀ n, p n → p' n) → (∀ n, p n → μ' n = μ n) → p' k → μ' k = ⟨w.heap.size, cap, true⟩ → ObRep p' μ' M (w.alloc ro) ⟨w.heap.size, cap, true⟩ ob ∧ Rp p' μ' M v u) :
    OT P o E [(n, ob0)] (fun n => k ≤ n ∧ n < k + 1) v [(n, ob0), (k, ob)] := by
  intro rd p μ M a w K Q hnew hkn hS hK
  obtain ⟨hp, hob0, hM0⟩ := hS.one
  obtain ⟨u, ro, cap, hr, hu⟩ := h p μ M a w hkn hp hob0 hS.mem
  have hk : ¬ p k := hnew k ⟨Nat.le_refl _, by omega⟩
  have hnk : n ≠ k := fun e => hk (e ▸ hp)
  have hlt := fun l => hob0.lt l
  obtain ⟨h1, h2⟩ := hu (fun n => p n ∨ (k ≤ n ∧ n < k + 1)) (upN μ k ⟨w.heap.size, cap, true⟩) (fun n h => .inl h) (upN_p hk) (.inr ⟨Nat.le_refl _, by omega⟩) (upN_same _ _ _)
  have hlk : ∀ m, lk [(n, ob0), (k, ob)] m = if m = n then some ob0 else if m = k then some ob else none := by
    intro m
    rw [lk_cons, lk_one]
  refine wp_value hr (hK u (upN μ k ⟨w.heap.size, cap, true⟩) M (w.alloc ro) h2 ⟨mem_alloc ro hS.mem, fun m ob' hm => ?_, fun m m' hm hm' lm lm' e => ?_⟩ ⟨fun n hn => ?_, Mem.le_refl M, fun b hb _ => ⟨heap_old w ro hb, fun _ => rfl⟩, by simp, fun m hm => ?_, rfl, ⟨rfl, Nat.le_refl _⟩, rfl⟩)
  · rw [hlk] at hm
    split at hm
    · rename_i e
      subst e
      simp at hm; subst hm
      rw [upN_other _ _ _ hnk]
      exact ⟨.inl hp, hob0.more (fun _ h => .inl h) (upN_p hk) (Mem.le_refl M) (fun l => heap_old w ro (hlt l)), hM0⟩
    · split at hm
      · rename_i e
        subst e
        simp at hm; subst hm
        rw [upN_same]
        exact ⟨.inr ⟨Nat.le_refl _, by omega⟩, h1, fun _ => mem_lt hS.mem (Nat.le_refl _)⟩
      · cases hm
  · rw [hlk] at hm hm'
    by_cases a1 : m = n <;> by_cases a2 : m' = n
    · omega
    · by_cases a3 : m' = k
      · subst a1; subst a3
        rw [upN_other _ _ _ hnk] at e lm
        rw [upN_same] at e
        have := hlt lm
        simp at e; omega
      · simp [a2, a3] at hm'
    · by_cases a3 : m = k
      · subst a2; subst a3
        rw [upN_other _ _ _ hnk] at e lm'
        rw [upN_same] at e
        have := hlt lm'
        simp at e; omega
      · simp [a1, a3] at hm
    · by_cases a3 : m = k <;> by_cases a4 : m' = k
      · omega
      · simp [a2, a4] at hm'
      · simp [a1, a3] at hm
      · simp [a1, a3] at hm
  · exact upN_other _ _ _ (by omega)
  · rw [hlk] at hm
    by_cases a1 : m = n
    · subst a1
      exact .inr ⟨fun h => hk (by have : m = k := by omega
                                  exact this ▸ hp), by simp [lk_one]⟩
    · by_cases a2 : m = k
      · subst a2
        exact .inl ⟨⟨Nat.le_refl _, by omega⟩, fun _ => .inl (by rw [upN_same]; exact Nat.le_refl _)⟩
      · simp [a1, a2] at hm

theorem Rp.it_mk {p : Nat → Prop} {μ : Nat → Nm} {M : Mem} {n : Nat} (hp : p n) : Rp p μ M (.it n) (.pointer (some ⟨(μ n).blk, 0, none⟩)) := fun μ' h => by
  simp [Rep, h n hp]

theorem s_mrange {t kt et : TypeId} {m : Operand} {m' : X} (ho : o.op = .range t m) (ht : P.underlying t = some (.map kt et)) (hm : cX m = some m') (he : sop E H k own (.mrange m') = some e) : Sound P o E H k e := by
  simp only [sop] at he
  split at he <;> first | (cases he; done) | skip
  · rename_i h1
    injection he with he
    subst he
    refine ⟨OT.make fun p μ M a w hk hM => ?_, sub_nil⟩
    have e1 := (hk.get (by simp [ho, Op.operands]) hm h1).nilm_of
    refine ⟨.pointer (some ⟨w.heap.size, 0, none⟩), .mapIter none 0 #[] 0, 0, ?_, fun p' μ' hp hμ hpk hk' => ⟨⟨rfl, (fun n h => by cases h), heap_new w (.mapIter none 0 #[] 0)⟩, ?_⟩⟩
    · simp [execOp, ho, Instr.range, run_underlying ht, e1, run_newObj]
    · have := Rp.it_mk (μ := μ') (M := M) hpk
      rwa [hk'] at this
  · rename_i n h1
    split at he <;> first | (cases he; done) | skip
    · rename_i es c hH
      injection he with he
      subst he
      refine ⟨OT.makeAt fun p μ M a w hk hpn hob hM => ?_, sub_one hH⟩
      obtain ⟨h0, ens, hb, hre⟩ := hob
      have e1 := (hk.get (by simp [ho, Op.operands]) hm h1).mp_of h0
      refine ⟨.pointer (some ⟨w.heap.size, 0, none⟩), .mapIter (some (μ n).blk) c #[] c, 0, ?_, fun p' μ' hp hμ hpk hk' => ⟨⟨rfl, (fun n' h => by cases h; exact hp _ hpn), ?_⟩, ?_⟩⟩
      · simp [execOp, ho, Instr.range, run_underlying ht, e1, MapKept.run_getObj_map hb, run_newObj]
      · have := heap_new w (.mapIter (some (μ n).blk) c #[] c)
        simpa [hμ n hpn] using this
      · have := Rp.it_mk (μ := μ') (M := M) hpk
        rwa [hk'] at this
    · rename_i hH
      injection he with he
      subst he
      refine ⟨OT.makeAt fun p μ M a w hk hpn hob hM => ?_, sub_one hH⟩
      have e1 := (hk.get (by simp [ho, Op.operands]) hm h1).nomap_of hob
      refine ⟨.pointer (some ⟨w.heap.size, 0, none⟩), .mapIter none 0 #[] 0, 0, ?_, fun p' μ' hp hμ hpk hk' => ⟨⟨rfl, (fun n h => by cases h), heap_new w (.mapIter none 0 #[] 0)⟩, ?_⟩⟩
      · simp [execOp, ho, Instr.range, run_underlying ht, e1, run_newObj]
      · have := Rp.it_mk (μ := μ') (M := M) hpk
        rwa [hk'] at this

theorem s_mentry {x : Operand} {x' : X} (ho : o.op = .entry x) (hx : cX x = some x') (he : sop E H k own (.mentry x') = some e) (hob : e.ob) : Sound P o E H k e := by
  simp only [sop] at he
  split at he <;> first | (cases he; done) | skip
  rename_i n h1
  split at he <;> first | (cases he; done) | skip
  rename_i m since seen st hH
  split at he <;> first | (cases he; done) | skip
  rename_i es c hH2
  split at he <;> first | (cases he; done) | skip
  rename_i stamp hst
  split at he <;> first | (cases he; done) | skip
  rename_i en hen
  injection he with he
  subst he
  obtain ⟨rfl, hnm⟩ := hob
  refine ⟨OT.pure fun p μ M a w hk hS => ?_, ?_⟩
  · obtain ⟨_, hb, _⟩ := hS.obs n (.iter (some m) since seen c) (by simp [lk_cons])
    obtain ⟨_, hb2, _⟩ := hS.obs m (.map es c) (by rw [lk_cons, if_neg (fun h => hnm h.symm), lk_one, if_pos rfl])
    obtain ⟨_, _, hb⟩ := hb
    obtain ⟨_, ens, hb2, hre⟩ := hb2
    have e1 := (hk.get (by simp [ho, Op.operands]) hx h1).it_of
    obtain ⟨en', hf, g1, g2⟩ := hre.find hen
    have hf' : ens.find? (fun x => x.born == stamp) = some en' := by rw [← Array.find?_toList]; exact hf
    have hbk : seen.toArray.back? = some stamp := by simpa using hst
    refine ⟨.tuple #[en'.key, en'.val], ?_, Rp.tup_iff.2 ⟨_, rfl, Rps.cons_iff.2 ⟨_, _, rfl, g1, Rps.cons_iff.2 ⟨_, _, rfl, g2, Rps.nil_iff.2 rfl⟩⟩⟩⟩
    simp only [Option.map_some] at hb
    have hg : (getObj (μ n).blk).run P w = .ok (.mapIter (some (μ m).blk) since seen.toArray c) w := by simp [getObj, Sem.run, hb]
    simp [execOp, ho, Instr.entry, e1, hg, hbk, MapKept.run_getObj_map hb2, hf']
  · intro q ob hq
    rw [lk_cons, lk_one] at hq
    split at hq
    · rename_i e; subst e; simp at hq; subst hq; exact hH
    · split at hq
      · rename_i e; subst e; simp at hq; subst hq; exact hH2
      · cases hq
end
end Go.Sl

/-
  The machine does what 'sop' says: a map's entry that is written in place; rows cleared.
-/
set_option linter.unusedSimpArgs false
set_option linter.unusedSectionVars false
set_option linter.unusedVariables false
namespace Go.Sl
open Go.RowKit

section
variable {P : Program} {o : Oper} {E : Nat → Option SV} {H : Nat → Option Ob} {k : Nat} {own : Bool} {e : Eff}

theorem RpE.get {p : Nat → Prop} {μ : Nat → Nm} {M : Mem} : ∀ {es : List (Nat × SV × SV)} {ens : List MapEntry} (i : Nat), RpE p μ M es ens →
    (es[i]? = none ∧ ens[i]? = none) ∨ ∃ e en, es[i]? = some e ∧ ens[i]? = some en ∧ en.born = e.1 ∧ Rp p μ M e.2.1 en.key ∧ Rp p μ M e.2.2 en.val
  | [], ens, i, h => by
    have h : ens = [] := h
    subst h; exact .inl ⟨by simp, by simp⟩
  | (b, k, v) :: r, ens, i, h => by
    obtain ⟨en, ens', rfl, h1, h2, h3, h4⟩ := h
    cases i with
    | zero => exact .inr ⟨_, en, rfl, rfl, h1, h2, h3⟩
    | succ i => simpa using RpE.get i h4
theorem RpE.findIdx {p : Nat → Prop} {μ : Nat → Nm} {M : Mem} {b : Int} : ∀ {es : List (Nat × SV × SV)} {ens : List MapEntry}, RpE p μ M es ens → ens.findIdx? (fun e => (e.born : Int) == b) = es.findIdx? (fun e => (e.1 : Int) == b)
  | [], ens, h => by
    have h : ens = [] := h
    subst h; rfl
  | (t, k, v) :: r, ens, h => by
    obtain ⟨en, ens', rfl, h1, _, _, h4⟩ := h
    simp only [List.findIdx?_cons, h1, RpE.findIdx h4]
theorem s_mentr {t kt et : TypeId} {m i : Operand} {m' i' : X} {ks : List Bool} {z : SV} (ho : o.op = .mapEntry t m i) (ht : P.underlying t = some (.map kt et)) (hm : cX m = some m') (hi : cX i = some i')
    (hks : plainEq P 10000 kt = some ks) (hz : cZero P et = some z) (he : sop E H k own (.mentr ks (aggOf P kt) z m' i') = some e) : Sound P o E H k e := by
  have hin : m ∈ o.op.operands ∧ i ∈ o.op.operands := by simp [ho, Op.operands]
  simp only [sop] at he
  split at he <;> first | (cases he; done) | skip
  rename_i n key h1 h2
  split at he <;> first | (cases he; done) | skip
  rename_i es c hH
  split at he <;> first | (cases he; done) | skip
  rename_i hko
  split at he <;> first | (cases he; done) | skip
  rename_i r hf
  injection he with he
  subst he
  refine ⟨OT.write fun p μ M a w hk hp hob => ?_, sub_one hH⟩
  obtain ⟨h0, ens, hb, hre⟩ := hob
  have e1 := (hk.get hin.1 hm h1).mp_of h0
  have r2 := hk.get hin.2 hi h2
  obtain ⟨kv, kc⟩ := keyOk_rep hks hko r2
  obtain ⟨hfv, hj⟩ := findS_V hks kc hre hf
  have hfk := findKey_run hks kv w hfv
  obtain ⟨zv, hzv, hzr⟩ := cZero_rep hz
  cases r with
  | none =>
    obtain ⟨g1, g2⟩ := heap_put (.map (ens.push { key := a.eval i, val := zv, born := c }) (c + 1)) hb
    refine ⟨.tuple #[zv, .int .i64 c], _, .inl ?_, Rp.tup_iff.2 ⟨_, rfl, Rps.cons_iff.2 ⟨zv, _, rfl, hzr, Rps.cons_iff.2 ⟨_, [], rfl, Rp.int_iff.2 rfl, Rps.nil_iff.2 rfl⟩⟩⟩, ⟨h0, ens.push { key := a.eval i, val := zv, born := c }, g1, ?_⟩, fun b hb => g2 b (hb h0), by simp, rfl, ⟨rfl, Nat.le_refl _⟩, rfl⟩
    · simp [execOp, ho, Instr.mapEntry, run_underlying ht, e1, MapKept.run_getObj_map hb, kv.check hks, hfk, hzv, MapKept.run_setObj_map _ hb, goInt]
    · simp only [Array.toList_push]
      exact RpE.append (en := { key := a.eval i, val := zv, born := c }) rfl r2 hzr hre
  | some j =>
    obtain ⟨_, q, en, hq, hen, hkv, hcs, hkr, hval⟩ := hj j rfl
    simp only [Nat.sub_zero] at hq hen
    have hsame := kv.same hkv hcs
    simp only [Option.map_some, hen, Option.getD_some] at hfk
    have hen' : ens[j]? = some en := by simpa using hen
    have hmod : ens.modify j (fun e => { e with key := a.eval i }) = ens := by
      apply Array.ext_getElem?
      intro m
      rw [Array.getElem?_modify]
      by_cases hmj : j = m
      · subst hmj
        simp [hen', hsame]
      · simp [hmj]
    obtain ⟨g1, g2⟩ := heap_put (.map ens c) hb
    have hborn : en.born = q.1 := by
      rcases RpE.get j hre with ⟨x1, x2⟩ | ⟨e', en', x1, x2, x3, _⟩
      · rw [hq] at x1; cases x1
      · rw [hq] at x1; rw [hen] at x2
        injection x1 with x1; injection x2 with x2
        rw [x1, x2]; exact x3
    refine ⟨.tuple #[en.val, .int .i64 en.born], _, .inl ?_, ?_, ⟨h0, ens, g1, hre⟩, fun b hb => g2 b (hb h0), by simp, rfl, ⟨rfl, Nat.le_refl _⟩, rfl⟩
    · have hst : (Instr.keyThatStays en.key (a.eval i)).run P w = .ok (a.eval i) w := by rw [← hsame]; exact kv.stays w
      simp [execOp, ho, Instr.mapEntry, run_underlying ht, e1, MapKept.run_getObj_map hb, kv.check hks, hfk, hen', hst, MapKept.run_setObj_map _ hb, goInt, hmod]
    · refine Rp.tup_iff.2 ⟨_, rfl, Rps.cons_iff.2 ⟨en.val, _, rfl, ?_, Rps.cons_iff.2 ⟨_, [], rfl, Rp.int_iff.2 ?_, Rps.nil_iff.2 rfl⟩⟩⟩
      · simp only [lookS, hq]; exact hval
      · simp only [mentT, hq, hborn]
theorem s_mstor {t : TypeId} {m s x : Operand} {m' s' x' : X} (ho : o.op = .entryStore t m s x) (hm : cX m = some m') (hs : cX s = some s') (hx : cX x = some x') (he : sop E H k own (.mstor m' s' x') = some e) : Sound P o E H k e := by
  have hin : m ∈ o.op.operands ∧ s ∈ o.op.operands ∧ x ∈ o.op.operands := by simp [ho, Op.operands]
  simp only [sop] at he
  split at he <;> first | (cases he; done) | skip
  rename_i n kb b v h1 h2 h3
  split at he <;> first | (cases he; done) | skip
  rename_i es c hH
  split at he <;> first | (cases he; done) | skip
  rename_i j hj
  injection he with he
  subst he
  refine ⟨OT.write fun p μ M a w hk hp hob => ?_, sub_one hH⟩
  obtain ⟨h0, ens, hb, hre⟩ := hob
  have e1 := (hk.get hin.1 hm h1).mp_of h0
  have e2 := Rp.int_iff.1 (hk.get hin.2.1 hs h2)
  have r3 := hk.get hin.2.2 hx h3
  have hfi : ens.findIdx? (fun e => (e.born : Int) == b) = some j := by
    have h2 : ∀ (q : Array MapEntry) (f : MapEntry → Bool), q.findIdx? f = q.toList.findIdx? f := fun q f => by cases q; simp
    rw [h2, RpE.findIdx hre]; exact hj
  obtain ⟨g1, g2⟩ := heap_put (.map (ens.modify j fun e => { e with val := a.eval x }) c) hb
  refine ⟨undef, _, .inr ⟨?_, rfl⟩, Rp.any, ⟨h0, ens.modify j fun e => { e with val := a.eval x }, g1, ?_⟩, fun b hb => g2 b (hb h0), by simp, rfl, ⟨rfl, Nat.le_refl _⟩, rfl⟩
  · simp [execOp, ho, Instr.entryStore, e1, e2, MapKept.run_getObj_map hb, hfi, MapKept.run_setObj_map _ hb, asInt, asIntOf]
  · rw [Array.toList_modify]
    exact RpE.modify r3 j hre

theorem s_clr {c : Call} {t el : TypeId} {x : Operand} {x' : X} {ti : TypeInfo} {z : List SV} (ho : o.op = .call c) (hcal : c.callee = .builtin .clear) (ha : c.args.toList = [x]) (hat : c.argTypes.toList = [t]) (ht : P.underlying t = some (.slice el))
    (hi : P.info? el = some ti) (hz : zCells P el = some z) (hsz : z.length = ti.size ∧ 0 < ti.size) (hx : cX x = some x') (he : sop E H k own (.clr ti.size z x') = some e) (hob : e.ob) : Sound P o E H k e := by
  have ha' : c.args = #[x] := by cases hh : c.args; simp [hh] at ha; simp [ha]
  have hat' : c.argTypes = #[t] := by cases hh : c.argTypes; simp [hh] at hat; simp [hat]
  have hin : x ∈ o.op.operands := by simp [ho, Op.operands, Call.operands, hcal, ha']
  simp only [sop] at he
  split at he <;> first | (cases he; done) | skip
  rename_i n off len h1
  split at he <;> first | (cases he; done) | skip
  rename_i el' z' l cs hH
  injection he with he
  subst he
  obtain ⟨b1, b2⟩ := hob
  refine ⟨OT.write fun p μ M a w hk hp hob => ?_, sub_one hH⟩
  have hpos : 0 < len * ti.size := Nat.mul_pos b1 hsz.2
  rcases hob with ⟨_, _, rfl⟩ | hob
  · simp at b2; omega
  obtain ⟨h0, vs, hb, hl1, hl2, hl3, hl4, hr⟩ := hob
  obtain ⟨A, cp, e1, e2, e3⟩ := (by simpa only [Rep] using (hk.get hin hx h1).rep : ∃ A c, a.eval x = .slice (some A) len c ∧ len ≤ c ∧ (len ≠ 0 → A = ⟨(μ n).blk, off, none⟩))
  have e3 := e3 (by omega)
  subst e3
  obtain ⟨v, hv, hrv, hzone⟩ := zCells_rep hz (p := p) (μ := μ) (M := M)
  have hvs : v.cells.size = ti.size := by have := hrv.length; simp at this; omega
  have hm := made_rep hrv len (len * ti.size) (by rw [hsz.1])
  have hle : l * z' ≤ vs.size := by rw [hl4]; exact Nat.mul_le_mul_right z' hl2
  have hzl : ((Array.range (len * ti.size)).map (v.cells[· % v.cells.size]!)).toList = (Builtin.zeroCells v.cells len).toList := by
    unfold Builtin.zeroCells; rw [hvs]
  have hlen : (Builtin.zeroCells v.cells len).toList.length = len * ti.size := by rw [← hzl]; simp
  rw [hzl] at hm
  have hone : ∀ u ∈ (Builtin.zeroCells v.cells len).toList, u.oneCell' = true := by
    refine Rps.ones ?_ hm
    rw [List.all_eq_true] at hzone ⊢
    intro y hy
    rw [List.mem_flatten] at hy
    obtain ⟨q, hq, hy⟩ := hy
    rw [List.eq_of_mem_replicate hq] at hy
    exact hzone y hy
  obtain ⟨w', hr', q1, q2, q3, q4, q5, q6⟩ := run_storeCells (P := P) (Builtin.zeroCells v.cells len).toList vs w off 0 hb (by rw [hlen]; omega) hone
  have hlr : ((List.replicate len z).flatten).length = len * ti.size := by rw [hm.length.symm, hlen]
  refine ⟨.tuple #[], w', .inl ?_, Rp.any, .inr ⟨h0, _, q1, ?_, hl2, hl3, ?_, ?_⟩, fun b hb => q2 b (hb h0), q3, q4, q5, q6⟩
  · obtain ⟨len', rfl⟩ : ∃ m, len = m + 1 := ⟨len - 1, by omega⟩
    simp [execOp, ho, resolve, hcal, ha', hat', invoke, builtin, Builtin.clear_, run_underlying ht, e1, hv, hr']
  · rw [spl_eq (by omega)]
    simp only [List.length_append, List.length_take, List.length_drop, hlr]
    omega
  · simp only [splV, List.size_toArray, List.length_append, List.length_take, List.length_drop, Array.length_toList, Nat.add_zero] at hlen ⊢
    omega
  · have := Rps.spl (o := off) hr hm (by omega)
    rw [← splV_take _ _ _ _ (by omega) (by simpa using hle)] at this
    simpa using this
/-- An operation that writes one object, and looks at another one. -/
theorem OT.write2 {k n m : Nat} {ob ob' om : Ob} {v : SV} (hnm : n ≠ m) (h : ∀ (p : Nat → Prop) (μ : Nat → Nm) (M : Mem) (a : Act) (w : World), Known E o.op.operands p μ M a → p n → p m → ObRep p μ M w (μ n) ob → ObRep p μ M w (μ m) om →
    ∃ u w', ((execOp a.eval o).run P w = .ok (.value u) w' ∨ ((execOp a.eval o).run P w = .ok .skip w' ∧ u = undef)) ∧ Rp p μ M v u ∧ ObRep p μ M w' (μ n) ob' ∧
      (∀ b, ((μ n).live = true → b ≠ (μ n).blk) → w'.heap[b]? = w.heap[b]?) ∧ w'.heap.size = w.heap.size ∧ w'.os = w.os ∧ Tape w w' ∧ w'.output = w.output) :
    OT P o E [(n, ob), (m, om)] (fun q => k ≤ q ∧ q < k + 0) v [(n, ob'), (m, om)] := by
  intro rd p μ M a w K Q hnew hkn hS hK
  have hlk : ∀ (o1 : Ob) q, lk [(n, o1), (m, om)] q = if q = n then some o1 else if q = m then some om else none := fun o1 q => by rw [lk_cons, lk_one]
  obtain ⟨hp, hob, hmn⟩ := hS.obs n ob (by rw [hlk, if_pos rfl])
  obtain ⟨hpm, hom, hmm⟩ := hS.obs m om (by rw [hlk, if_neg (Ne.symm hnm), if_pos rfl])
  have hne : (μ n).live = true → (μ m).live = true → (μ n).blk ≠ (μ m).blk := fun l1 l2 e => hnm (hS.inj n m (by rw [hlk, if_pos rfl]; simp) (by rw [hlk, if_neg (Ne.symm hnm), if_pos rfl]; simp) l1 l2 e)
  obtain ⟨u, w', hr, hu, hob', hother, hsz, h1, h2, h3⟩ := h p μ M a w hkn hp hpm hob hom
  have hpk : ∀ m, p m → (fun m => p m ∨ (k ≤ m ∧ m < k + 0)) m := fun m hm => .inl hm
  have key : K (a.put o.dst u) w' := by
    refine hK u μ M w' (hu.more hpk (fun _ _ => rfl) (Mem.le_refl M)) ⟨⟨fun b i x hm => ?_, hS.mem.glob⟩, fun q ob'' hm => ?_, fun q q' hm hm' lm lm' e => ?_⟩
      ⟨fun _ _ => rfl, Mem.le_refl M, fun b hb hf => ⟨hother b fun l e => hf n (by rw [hlk, if_pos rfl]; simp) l e.symm, fun _ => rfl⟩, by omega, fun q hm => ?_, h1, h2, h3⟩
    · have hb : (μ n).live = true → b ≠ (μ n).blk := fun l e => by rw [e, hmn l] at hm; cases hm
      rw [← hS.mem b i x hm]
      unfold World.cell?
      rw [hother b hb]
    · rw [hlk] at hm
      split at hm
      · rename_i e
        subst e
        simp at hm
        subst hm
        exact ⟨.inl hp, hob'.more hpk (fun _ _ => rfl) (Mem.le_refl M) fun _ => rfl, hmn⟩
      · split at hm
        · rename_i e
          subst e
          simp at hm
          subst hm
          exact ⟨.inl hpm, hom.more hpk (fun _ _ => rfl) (Mem.le_refl M) fun l => hother _ fun l' e => hne l' l e.symm, hmm⟩
        · cases hm
    · refine hS.inj q q' ?_ ?_ lm lm' e
      · rw [hlk] at hm ⊢
        split at hm
        · rename_i e; rw [if_pos e]; simp
        · rename_i e; rw [if_neg e]; exact hm
      · rw [hlk] at hm' ⊢
        split at hm'
        · rename_i e; rw [if_pos e]; simp
        · rename_i e; rw [if_neg e]; exact hm'
    · refine .inr ⟨by omega, ?_⟩
      rw [hlk] at hm ⊢
      split at hm
      · rename_i e; rw [if_pos e]; simp
      · rename_i e; rw [if_neg e]; exact hm
  rcases hr with hr | ⟨hr, rfl⟩
  · exact wp_value hr key
  · exact wp_none hr key

theorem s_copy {c : Call} {t el t' : TypeId} {x y : Operand} {x' y' : X} {ti : TypeInfo} (ho : o.op = .call c) (hcal : c.callee = .builtin .copy) (ha : c.args.toList = [x, y]) (hat : c.argTypes.toList = [t, t']) (ht : P.underlying t = some (.slice el))
    (hi : P.info? el = some ti) (hx : cX x = some x') (hy : cX y = some y') (he : sop E H k own (.copy el ti.size x' y') = some e) (hob : e.ob) : Sound P o E H k e := by
  have ha' : c.args = #[x, y] := by cases hh : c.args; simp [hh] at ha; simp [ha]
  have hat' : c.argTypes = #[t, t'] := by cases hh : c.argTypes; simp [hh] at hat; simp [hat]
  have hin : x ∈ o.op.operands ∧ y ∈ o.op.operands := by simp [ho, Op.operands, Call.operands, hcal, ha']
  simp only [sop] at he
  split at he <;> first | (cases he; done) | skip
  rename_i n off len m off' len' h1 h2
  split at he <;> first | (cases he; done) | skip
  rename_i tb cs tb' cs' hH hH'
  split at he <;> first | (cases he; done) | skip
  rename_i hone
  injection he with he
  subst he
  obtain ⟨b0, b1, b2, b3, b4⟩ := hob
  refine ⟨OT.write2 b0 fun p μ M a w hk hp hpm hob hom => ?_, fun q ob hq => ?_⟩
  · obtain ⟨h0, vs, hb, hr⟩ := hob
    obtain ⟨h0', vs', hb', hr'⟩ := hom
    obtain ⟨A, cp, e1, e2, e3⟩ := (by simpa only [Rep] using (hk.get hin.1 hx h1).rep : ∃ A c, a.eval x = .slice (some A) len c ∧ len ≤ c ∧ (len ≠ 0 → A = ⟨(μ n).blk, off, none⟩))
    have e3 := e3 (by omega)
    subst e3
    obtain ⟨A, cp', f1, f2, f3⟩ := (by simpa only [Rep] using (hk.get hin.2 hy h2).rep : ∃ A c, a.eval y = .slice (some A) len' c ∧ len' ≤ c ∧ (len' ≠ 0 → A = ⟨(μ m).blk, off', none⟩))
    have f3 := f3 (by omega)
    subst f3
    subst b4
    let us : List Value := (vs'.toList.drop off').take (len * ti.size)
    have hru : Rps p μ M ((cs'.drop off').take (len * ti.size)) us := Rps.take _ (Rps.drop _ hr')
    have hul : us.length = len * ti.size := by rw [hru.length]; simp; omega
    have hone' : ∀ u ∈ us, u.oneCell' = true := Rps.ones (by
      rw [List.all_eq_true] at hone ⊢
      intro z hz
      exact hone z (List.mem_of_mem_drop (List.mem_of_mem_take hz))) hru
    have hvl : vs.size = cs.length := by have := hr.length; simpa using this
    have hf := run_firstCells_some (P := P) w ti.size len ⟨(μ m).blk, off', none⟩ len cp' us hul (fun j u hj => by
      rw [addr_add, cell_of hb']
      simp only [us, List.getElem?_take, List.getElem?_drop] at hj
      split at hj
      · simpa using hj
      · cases hj)
    obtain ⟨w', hr'', q1, q2, q3, q4, q5, q6⟩ := run_storeCells (P := P) us vs w off 0 hb (by rw [hul]; omega) hone'
    refine ⟨.int .i64 (len : Nat), w', .inl ?_, Rp.int_iff.2 rfl, ⟨h0, _, q1, ?_⟩, fun b hb => q2 b (hb h0), q3, q4, q5, q6⟩
    · simp [execOp, ho, resolve, hcal, ha', hat', invoke, builtin, Builtin.copy_, run_underlying ht, e1, f1, Builtin.lenOf, sizeOf, typeInfo, hi, hf, hr'', goInt]
    · have := Rps.spl (o := off) hr hru (by simp; omega)
      simpa using this
  · rw [lk_cons, lk_one] at hq
    split at hq
    · rename_i e; subst e; rw [← hq]; exact hH
    · split at hq
      · rename_i e; subst e; rw [← hq]; exact hH'
      · cases hq
end
end Go.Sl

/-
  The machine does what 'sop' says: all operations.
-/
set_option linter.unusedSimpArgs false
set_option linter.unusedSectionVars false
set_option linter.unusedVariables false
namespace Go.Sl
open Go.RowKit

section
variable {P : Program} {o : Oper} {E : Nat → Option SV} {H : Nat → Option Ob} {k : Nat} {own : Bool} {e : Eff}

theorem sop_sound {so : SO} (hc : cO P o.op = some so) (he : sop E H k own so = some e) (hob : e.ob) : Sound P o E H k e := by
  cases hop : o.op <;> rw [hop] at hc <;> simp only [cO] at hc <;> try (cases hc; done)
  case move x =>
    obtain ⟨y, hy, rfl⟩ := Option.map_eq_some_iff.1 hc
    exact s_mv (.inl hop) hy he
  case assign x =>
    obtain ⟨y, hy, rfl⟩ := Option.map_eq_some_iff.1 hc
    exact s_mv (.inr hop) hy he
  case pick c x y =>
    split at hc <;> first | (cases hc; done) | skip
    rename_i h1 h2 h3
    injection hc with hc; subst hc
    exact s_pick hop h1 h2 h3 he
  case alloc t =>
    obtain ⟨z, hz, rfl⟩ := Option.map_eq_some_iff.1 hc
    exact s_alloc hop hz he
  case box t x =>
    obtain ⟨y, hy, rfl⟩ := Option.map_eq_some_iff.1 hc
    exact s_box hop hy he
  case build t parts =>
    split at hc <;> first | (cases hc; done) | skip
    · rename_i fs z ht hz
      split at hc <;> first | (cases hc; done) | skip
      rename_i hfs
      obtain ⟨qs, hq, rfl⟩ := Option.map_eq_some_iff.1 hc
      exact s_bldS hop ht hz hfs hq he hob
    · rename_i n el z ht hz
      split at hc <;> first | (cases hc; done) | skip
      rename_i j hj
      obtain ⟨qs, hq, rfl⟩ := Option.map_eq_some_iff.1 hc
      exact s_bldA hop ht hz hj hq he hob
  case buildSlice t len parts =>
    split at hc <;> first | (cases hc; done) | skip
    rename_i el ht
    split at hc <;> first | (cases hc; done) | skip
    rename_i j z hj hz
    split at hc <;> first | (cases hc; done) | skip
    rename_i hsz
    obtain ⟨qs, hq, rfl⟩ := Option.map_eq_some_iff.1 hc
    exact s_bsl hop ht hj hz hsz hq he hob
  case load t x =>
    split at hc <;> first | (cases hc; done) | skip
    rename_i y sz h1 h2
    injection hc with hc; subst hc
    exact s_load hop h1 h2 he hob
  case store t x v =>
    split at hc <;> first | (cases hc; done) | skip
    rename_i h1 h2 h3
    injection hc with hc; subst hc
    exact s_store hop h3 h1 h2 he hob
  case nilCheck x =>
    obtain ⟨y, hy, rfl⟩ := Option.map_eq_some_iff.1 hc
    exact s_nilc hop hy he
  case binOp op t x y t' =>
    split at hc
    · rename_i hq
      split at hc
      · split at hc <;> first | (cases hc; done) | skip
        rename_i h1 h2
        injection hc with hc; subst hc
        exact s_bin hop h1 h2 he hob
      · rename_i ht
        split at hc <;> first | (cases hc; done) | skip
        rename_i h1 h2
        injection hc with hc; subst hc
        exact s_eqb hop hq ht h1 h2 he
      · rename_i fs ht
        split at hc <;> first | (cases hc; done) | skip
        rename_i h1 h2 h3
        split at hc <;> first | (cases hc; done) | skip
        rename_i hg
        injection hc with hc; subst hc
        exact s_eqv hop hq (.inl ⟨_, ht⟩) h3 (by simpa using hg) h1 h2 he
      · rename_i n el ht
        split at hc <;> first | (cases hc; done) | skip
        rename_i h1 h2 h3
        split at hc <;> first | (cases hc; done) | skip
        rename_i hg
        injection hc with hc; subst hc
        exact s_eqv hop hq (.inr ⟨_, _, ht⟩) h3 (by simpa using hg) h1 h2 he
      · split at hc <;> first | (cases hc; done) | skip
        rename_i h1 h2
        injection hc with hc; subst hc
        exact s_eqnil hop hq h1 h2 he hob
    · split at hc <;> first | (cases hc; done) | skip
      rename_i h1 h2
      injection hc with hc; subst hc
      exact s_bin hop h1 h2 he hob
  case unOp op t x =>
    cases op <;> simp only at hc <;> try (cases hc; done)
    · obtain ⟨y, hy, rfl⟩ := Option.map_eq_some_iff.1 hc
      exact s_neg hop hy he
    · obtain ⟨y, hy, rfl⟩ := Option.map_eq_some_iff.1 hc
      exact s_not hop hy he
  case convert s d x =>
    split at hc <;> first | (cases hc; done) | skip
    rename_i h1 h2 h3
    injection hc with hc; subst hc
    exact s_conv hop h1 h2 h3 he
  case makeFunc f a c =>
    split at hc <;> first | (cases hc; done) | skip
    rename_i h1 h2
    injection hc with hc; subst hc
    exact s_mkf hop h1 h2 he
  case makeMap t r =>
    cases r <;> simp only at hc <;> try (cases hc; done)
    injection hc with hc; subst hc
    exact s_mkm hop he
  case makeSlice t l c =>
    split at hc <;> first | (cases hc; done) | skip
    rename_i el l' c' ht hl hc'
    split at hc <;> first | (cases hc; done) | skip
    rename_i i z hi hz
    split at hc <;> first | (cases hc; done) | skip
    rename_i hsz
    injection hc with hc; subst hc
    exact s_mks hop ht hi hz hsz hl hc' he hob
  case slice t x lo hi mx =>
    cases mx with
    | some m =>
      cases lo <;> cases hi <;> simp only at hc <;> try (cases hc; done)
      rename_i h
      split at hc <;> first | (cases hc; done) | skip
      rename_i el x' h' m' ht hx hh hm
      split at hc <;> first | (cases hc; done) | skip
      rename_i j hj
      injection hc with hc; subst hc
      exact s_slc3 hop ht hj hx hh hm he hob
    | none =>
    simp only at hc
    split at hc <;> first | (cases hc; done) | skip
    · rename_i el x' lo' hi' ht hx hl hh
      split at hc <;> first | (cases hc; done) | skip
      rename_i j hj
      injection hc with hc; subst hc
      exact s_slc hop ht hj hx hl hh he hob
    · rename_i nn el x' lo' hi' ht hx hl hh
      split at hc <;> first | (cases hc; done) | skip
      rename_i j hj
      injection hc with hc; subst hc
      exact s_slcA hop ht hj hx hl hh he hob
  case fieldAddr s x f =>
    split at hc <;> first | (cases hc; done) | skip
    rename_i fs x' hs hx
    split at hc <;> first | (cases hc; done) | skip
    rename_i fl hf
    split at hc <;> first | (cases hc; done) | skip
    rename_i i hi
    split at hc <;> first | (cases hc; done) | skip
    rename_i hi0
    injection hc with hc; subst hc
    exact s_fld hop hs hf hi hi0 hx he
  case field t x f =>
    split at hc <;> first | (cases hc; done) | skip
    rename_i fs x' hs hx
    split at hc <;> first | (cases hc; done) | skip
    rename_i fl hf
    split at hc <;> first | (cases hc; done) | skip
    rename_i sz hz
    injection hc with hc; subst hc
    exact s_field hop hs hf hz hx he hob
  case indexAddr t x i =>
    split at hc <;> first | (cases hc; done) | skip
    · rename_i n el x' i' ht hx hi
      split at hc <;> first | (cases hc; done) | skip
      rename_i j hj
      injection hc with hc; subst hc
      exact s_idxA hop ht hj hx hi he hob
    · rename_i el x' i' ht hx hi
      split at hc <;> first | (cases hc; done) | skip
      rename_i j hj
      injection hc with hc; subst hc
      exact s_idxS hop ht hj hx hi he hob
  case index t x i =>
    split at hc <;> first | (cases hc; done) | skip
    · rename_i n el x' i' ht hx hi
      split at hc <;> first | (cases hc; done) | skip
      rename_i j sz hj hz
      split at hc <;> first | (cases hc; done) | skip
      rename_i hzz
      injection hc with hc; subst hc
      exact s_index hop ht hj hz (by cases sz <;> simp_all [szFits]) hx hi he hob
    · rename_i x' i' ht hx hi
      injection hc with hc; subst hc
      exact s_idxT hop ht hx hi he hob
  case extract x i =>
    obtain ⟨y, hy, rfl⟩ := Option.map_eq_some_iff.1 hc
    exact s_ext hop hy he
  case lookup t m i ok =>
    split at hc <;> first | (cases hc; done) | skip
    rename_i kt et m' i' ht hm hi
    split at hc <;> first | (cases hc; done) | skip
    rename_i ks z hks hz
    injection hc with hc; subst hc
    exact s_look hop ht hm hi hks hz he
  case mapUpdate t m i v =>
    split at hc <;> first | (cases hc; done) | skip
    rename_i kt et m' i' v' ht hm hi hv
    split at hc <;> first | (cases hc; done) | skip
    rename_i ks hks
    injection hc with hc; subst hc
    exact s_mset (.inl hop) ht hm hi hv hks he
  case insert t m i v =>
    split at hc <;> first | (cases hc; done) | skip
    rename_i kt et m' i' v' ht hm hi hv
    split at hc <;> first | (cases hc; done) | skip
    rename_i ks hks
    injection hc with hc; subst hc
    exact s_mset (.inr hop) ht hm hi hv hks he
  case mapEntry t m i =>
    split at hc <;> first | (cases hc; done) | skip
    rename_i kt et m' i' ht hm hi
    split at hc <;> first | (cases hc; done) | skip
    rename_i ks z hks hz
    injection hc with hc; subst hc
    exact s_mentr hop ht hm hi hks hz he
  case entryStore t m s x =>
    split at hc <;> first | (cases hc; done) | skip
    rename_i m' s' x' hm hs hx
    injection hc with hc; subst hc
    exact s_mstor hop hm hs hx he
  case range t m =>
    split at hc <;> first | (cases hc; done) | skip
    rename_i kt et m' ht hm
    injection hc with hc; subst hc
    exact s_mrange hop ht hm he
  case next it s =>
    split at hc
    · cases hc
    · obtain ⟨y, hy, rfl⟩ := Option.map_eq_some_iff.1 hc
      simp [sop] at he
  case entry it =>
    obtain ⟨y, hy, rfl⟩ := Option.map_eq_some_iff.1 hc
    exact s_mentry hop hy he hob
  case call c =>
    split at hc <;> first | (cases hc; done) | skip
    · rename_i x t hcal ha hat
      split at hc <;> first | (cases hc; done) | skip
      · rename_i el x' ht hx
        injection hc with hc; subst hc
        exact s_len hop hcal ha hat ht hx he
      · rename_i kt et x' ht hx
        injection hc with hc; subst hc
        exact s_mlen hop hcal ha hat ht hx he
      · rename_i x' ht hx
        injection hc with hc; subst hc
        exact s_lens hop hcal ha hat ht hx he
    · rename_i x t hcal ha hat
      split at hc <;> first | (cases hc; done) | skip
      rename_i el x' ht hx
      split at hc <;> first | (cases hc; done) | skip
      rename_i i z hi hz
      split at hc <;> first | (cases hc; done) | skip
      rename_i hsz
      injection hc with hc; subst hc
      exact s_clr hop hcal ha hat ht hi hz hsz hx he hob
    · rename_i x y t t' hcal ha hat
      split at hc <;> first | (cases hc; done) | skip
      rename_i el x' y' ht hx hy
      split at hc <;> first | (cases hc; done) | skip
      rename_i i hi
      injection hc with hc; subst hc
      exact s_copy hop hcal ha hat ht hi hx hy he hob
    · rename_i m i t t' hcal ha hat
      split at hc <;> first | (cases hc; done) | skip
      rename_i kt et m' i' ht hm hi
      split at hc <;> first | (cases hc; done) | skip
      rename_i ks hks
      injection hc with hc; subst hc
      exact s_mdel hop hcal ha hat ht hm hi hks he
    · rename_i x y t t' hcal ha hat
      split at hc <;> first | (cases hc; done) | skip
      rename_i htt
      subst htt
      split at hc <;> first | (cases hc; done) | skip
      rename_i el x' y' ht hx hy
      split at hc <;> first | (cases hc; done) | skip
      rename_i i z hi hz
      split at hc <;> first | (cases hc; done) | skip
      rename_i hzl
      injection hc with hc; subst hc
      exact s_app hop hcal ha hat ht hi hz hzl hx hy he hob
    · split at hc <;> first | (cases hc; done) | skip
      injection hc with hc; subst hc
      simp [sop] at he
    · rename_i x y hcal ha
      split at hc <;> first | (cases hc; done) | skip
      rename_i hx hy
      injection hc with hc; subst hc
      exact s_mx hop hcal ha hx hy he
    · rename_i x y hcal ha
      split at hc <;> first | (cases hc; done) | skip
      rename_i hx hy
      injection hc with hc; subst hc
      exact s_mn hop hcal ha hx hy he

/-- Operations that change no object. -/
def roOf : SO → Bool
  | .alloc .. | .box .. | .store .. | .bsl .. | .app .. | .mkm | .mks .. | .mset .. | .mdel .. | .mrange .. | .mnext .. | .copy .. | .mentr .. | .mstor .. | .clr .. | .call .. => false
  | _ => true
end
end Go.Sl
