/-
  Vectors: the plain laws of merged, met, above, covered, put.
-/
import Derived.Test.YtdnjkeeiopcipaaSl21
set_option linter.unusedSectionVars false
set_option linter.unusedVariables false
set_option linter.unusedSimpArgs false
namespace Go.Sl

theorem Vec.covers_merge (a b : Vec) (d : Dt) : (Vec.zip max a b).covers d = (a.covers d || b.covers d) := by
  by_cases h : d.may = true
  · have hr : d.r < 8 := by simp [Dt.may] at h; exact h.1
    simp only [Vec.covers, h, Vec.zip_get _ _ _ hr, Bool.true_and]
    rw [Bool.eq_iff_iff]; simp; omega
  · simp [Vec.covers, h]
theorem Vec.covers_meet (a b : Vec) (d : Dt) : (Vec.zip min a b).covers d = (a.covers d && b.covers d) := by
  by_cases h : d.may = true
  · have hr : d.r < 8 := by simp [Dt.may] at h; exact h.1
    simp only [Vec.covers, h, Vec.zip_get _ _ _ hr, Bool.true_and]
    rw [Bool.eq_iff_iff]; simp; omega
  · simp [Vec.covers, h]
theorem Vec.covers_above {a b : Vec} (h : a.above b = true) (d : Dt) (hb : b.covers d = true) : a.covers d = true := by
  have h' := Vec.above_iff.1 h
  simp only [Vec.covers, Bool.and_eq_true, decide_eq_true_eq] at *
  have hr : d.r < 8 := by have := hb.1; simp [Dt.may] at this; exact this.1
  exact ⟨hb.1, Nat.le_trans hb.2 (h' _ hr)⟩
theorem Vec.next_ok {v : Vec} {r : Nat} (h : (v.next r).2 = 0) : r < 8 ∧ v.get r ≠ 4294967295 ∧ (v.next r).1 = ⟨r, v.get r + 1⟩ := by
  unfold Vec.next at h ⊢
  by_cases h1 : 8 ≤ r
  · simp [h1] at h
  · by_cases h2 : v.get r = 4294967295
    · simp [h1, h2] at h
    · simp [h1, h2]; omega
theorem Vec.put_next {v : Vec} {r : Nat} (hr : r < 8) : v.put ⟨r, v.get r + 1⟩ = (v.set r (v.get r + 1), 0) := by
  simp [Vec.put, Dt.may, hr]
theorem Vec.covers_not_next {v : Vec} {r : Nat} (hr : r < 8) : v.covers ⟨r, v.get r + 1⟩ = false := by
  simp [Vec.covers, Dt.may, hr]
theorem Vec.covers_put {v : Vec} {r : Nat} (hr : r < 8) (d : Dt) : (v.set r (v.get r + 1)).covers d = (decide (d = ⟨r, v.get r + 1⟩) || v.covers d) := by
  by_cases h : d.may = true
  · have h8 : d.r < 8 := by simp [Dt.may] at h; exact h.1
    simp only [Vec.covers, h, Vec.set_get _ _ _ h8, Bool.true_and]
    obtain ⟨dr, dn⟩ := d
    rw [Bool.eq_iff_iff]
    by_cases e : dr = r
    · subst e; simp; omega
    · simp [e]
  · have : decide (d = ⟨r, v.get r + 1⟩) = false := by
      simp only [decide_eq_false_iff_not]; intro e; subst e; simp [Dt.may, hr] at h
    simp [Vec.covers, h, this]
theorem Vec.covers_put_next {v : Vec} {r : Nat} (hr : r < 8) : (v.set r (v.get r + 1)).covers ⟨r, v.get r + 1⟩ = true := by simp [Vec.covers_put hr]
theorem Vec.above_put (v : Vec) {r : Nat} (hr : r < 8) : (v.set r (v.get r + 1)).above v = true :=
  Vec.above_iff.2 fun q hq => by rw [Vec.set_get _ _ _ hq]; split <;> simp_all
theorem Vec.count_put (v : Vec) {r : Nat} (hr : r < 8) : (v.set r (v.get r + 1)).count = v.count + 1 := by
  match r, hr with
  | 0, _ => simp [Vec.count, Vec.set, Vec.of, Vec.get]; omega
  | 1, _ => simp [Vec.count, Vec.set, Vec.of, Vec.get]; omega
  | 2, _ => simp [Vec.count, Vec.set, Vec.of, Vec.get]; omega
  | 3, _ => simp [Vec.count, Vec.set, Vec.of, Vec.get]; omega
  | 4, _ => simp [Vec.count, Vec.set, Vec.of, Vec.get]; omega
  | 5, _ => simp [Vec.count, Vec.set, Vec.of, Vec.get]; omega
  | 6, _ => simp [Vec.count, Vec.set, Vec.of, Vec.get]; omega
  | 7, _ => simp [Vec.count, Vec.set, Vec.of, Vec.get]; omega
theorem Vec.merge_comm (a b : Vec) : Vec.zip max b a = Vec.zip max a b := Vec.ext' fun r hr => by rw [Vec.zip_get _ _ _ hr, Vec.zip_get _ _ _ hr]; omega
theorem Vec.meet_comm (a b : Vec) : Vec.zip min b a = Vec.zip min a b := Vec.ext' fun r hr => by rw [Vec.zip_get _ _ _ hr, Vec.zip_get _ _ _ hr]; omega
theorem Vec.merge_above (a b : Vec) : (Vec.zip max a b).above a = true := Vec.above_iff.2 fun r hr => by rw [Vec.zip_get _ _ _ hr]; omega
theorem Vec.merge_above' (a b : Vec) : (Vec.zip max a b).above b = true := Vec.above_iff.2 fun r hr => by rw [Vec.zip_get _ _ _ hr]; omega
theorem Vec.meet_below (a b : Vec) : a.above (Vec.zip min a b) = true := Vec.above_iff.2 fun r hr => by rw [Vec.zip_get _ _ _ hr]; omega
theorem Vec.meet_below' (a b : Vec) : b.above (Vec.zip min a b) = true := Vec.above_iff.2 fun r hr => by rw [Vec.zip_get _ _ _ hr]; omega
theorem Vec.absorb (a b : Vec) : Vec.zip max a (Vec.zip min a b) = a := Vec.ext' fun r hr => by rw [Vec.zip_get _ _ _ hr, Vec.zip_get _ _ _ hr]; omega
theorem Vec.absorb' (a b : Vec) : Vec.zip min a (Vec.zip max a b) = a := Vec.ext' fun r hr => by rw [Vec.zip_get _ _ _ hr, Vec.zip_get _ _ _ hr]; omega
theorem Vec.merge_least {a b c : Vec} (h1 : c.above a = true) (h2 : c.above b = true) : c.above (Vec.zip max a b) = true := by
  rw [Vec.above_iff] at *
  intro r hr; rw [Vec.zip_get _ _ _ hr]; have := h1 r hr; have := h2 r hr; omega
theorem Vec.meet_great {a b c : Vec} (h1 : a.above c = true) (h2 : b.above c = true) : (Vec.zip min a b).above c = true := by
  rw [Vec.above_iff] at *
  intro r hr; rw [Vec.zip_get _ _ _ hr]; have := h1 r hr; have := h2 r hr; omega
theorem Vec.merge_assoc (a b c : Vec) : Vec.zip max a (Vec.zip max b c) = Vec.zip max (Vec.zip max a b) c := Vec.ext' fun r hr => by
  rw [Vec.zip_get _ _ _ hr, Vec.zip_get _ _ _ hr, Vec.zip_get _ _ _ hr, Vec.zip_get _ _ _ hr]; omega
theorem Vec.all3 (op : Nat → Nat → Nat) (a b c : Vec) : Vec.all op [a, b, c] = Vec.zip op (Vec.zip op a b) c := rfl

/-! ### dots put onto a vector, one by one -/
/-- Each dot of the list is the next one of what the vector has become. -/
def Runs (a b : Vec) : Vec → List Dt → Vec → Prop
  | v, [], w => v = w
  | v, d :: l, w => d.r < 8 ∧ d.n = v.get d.r + 1 ∧ a.get d.r < d.n ∧ d.n ≤ b.get d.r ∧ Runs a b (v.set d.r d.n) l w
theorem Runs.append {a b : Vec} : ∀ {l m : List Dt} {u v w : Vec}, Runs a b u l v → Runs a b v m w → Runs a b u (l ++ m) w
  | [], m, u, v, w, h1, h2 => by simp only [Runs] at h1; subst h1; exact h2
  | d :: l, m, u, v, w, h1, h2 => by
    simp only [Runs, List.cons_append] at h1 ⊢
    exact ⟨h1.1, h1.2.1, h1.2.2.1, h1.2.2.2.1, Runs.append h1.2.2.2.2 h2⟩
theorem rangeD_cons (r x n : Nat) : rangeD r x (n + 1) = ⟨r, x⟩ :: rangeD r (x + 1) n := by
  simp only [rangeD, List.range_succ_eq_map, List.map_cons, List.map_map, Nat.add_zero, List.cons.injEq, true_and]
  apply List.map_congr_left
  intro i _
  simp; omega
theorem Vec.set_set (v : Vec) (i x y : Nat) : (v.set i x).set i y = v.set i y := Vec.ext' fun r hr => by
  simp only [Vec.set_get _ _ _ hr]; split <;> rfl
theorem Runs.range {a b : Vec} {r : Nat} (hr : r < 8) : ∀ (n : Nat) (v : Vec), a.get r ≤ v.get r → v.get r + n ≤ b.get r → Runs a b v (rangeD r (v.get r + 1) n) (if n = 0 then v else v.set r (v.get r + n))
  | 0, v, _, _ => by simp [rangeD_zero, Runs]
  | n + 1, v, h1, h2 => by
    rw [rangeD_cons]
    simp only [Runs]
    refine ⟨hr, trivial, by omega, by omega, ?_⟩
    have hg : (v.set r (v.get r + 1)).get r = v.get r + 1 := by rw [Vec.set_get _ _ _ hr]; simp
    have ih := Runs.range (a := a) (b := b) hr n (v.set r (v.get r + 1)) (by omega) (by omega)
    rw [hg] at ih
    have e : (if n = 0 then v.set r (v.get r + 1) else (v.set r (v.get r + 1)).set r (v.get r + 1 + n)) = (if n + 1 = 0 then v else v.set r (v.get r + (n + 1))) := by
      by_cases h : n = 0
      · subst h; simp
      · simp only [h, if_false, Vec.set_set, Nat.succ_ne_zero]; congr 1; omega
    rw [e] at ih
    exact ih
theorem Runs.lackTo (a b : Vec) : ∀ i, i ≤ 8 → Runs a b a (Go.Sl.lackTo a b i) (Vec.upto i (Vec.zip max a b) a)
  | 0, _ => by simp only [Go.Sl.lackTo, Runs, Vec.upto_zero]
  | i + 1, hi => by
    rw [lackTo_succ]
    have hi' : i < 8 := by omega
    have hg : (Vec.upto i (Vec.zip max a b) a).get i = a.get i := Vec.upto_here _ _ hi'
    have h2 := Runs.range (a := a) (b := b) hi' (b.get i - a.get i) (Vec.upto i (Vec.zip max a b) a) (by omega)
    by_cases hc : b.get i ≤ a.get i
    · rw [show b.get i - a.get i = 0 by omega, rangeD_zero, List.append_nil]
      have : Vec.upto (i + 1) (Vec.zip max a b) a = Vec.upto i (Vec.zip max a b) a := Vec.ext' fun r hr => by
        simp only [Vec.upto_get _ _ _ hr]
        by_cases e : r = i
        · subst e; simp [Vec.zip_get _ _ _ hr]; omega
        · by_cases e2 : r < i
          · simp [e2, show r < i + 1 by omega]
          · simp [e2, show ¬ r < i + 1 by omega]
      rw [this]
      exact Runs.lackTo a b i (by omega)
    · have h2 := h2 (by omega)
      rw [if_neg (by omega), hg] at h2
      have : (Vec.upto i (Vec.zip max a b) a).set i (a.get i + (b.get i - a.get i)) = Vec.upto (i + 1) (Vec.zip max a b) a := Vec.ext' fun r hr => by
        simp only [Vec.upto_get _ _ _ hr, Vec.set_get _ _ _ hr]
        by_cases e : r = i
        · subst e; simp [Vec.zip_get _ _ _ hr]; omega
        · by_cases e2 : r < i
          · simp [e, e2, show r < i + 1 by omega]
          · simp [e, e2, show ¬ r < i + 1 by omega]
      rw [this] at h2
      exact (Runs.lackTo a b i (by omega)).append h2
theorem Runs.all (a b : Vec) : Runs a b a (Go.Sl.lackTo a b 8) (Vec.zip max a b) := by
  have := Runs.lackTo a b 8 (Nat.le_refl _)
  rwa [Vec.upto_all] at this
/-- What the vector is behind the first i of them. -/
def puts (v : Vec) : List Dt → Vec
  | [] => v
  | d :: l => puts (v.set d.r d.n) l
theorem puts_append (v : Vec) : ∀ (l m : List Dt), puts v (l ++ m) = puts (puts v l) m := by
  intro l
  induction l generalizing v with
  | nil => intro m; rfl
  | cons d l ih => intro m; exact ih _ m
theorem Runs.puts_eq {a b : Vec} : ∀ {l : List Dt} {v w : Vec}, Runs a b v l w → puts v l = w
  | [], v, w, h => h
  | d :: l, v, w, h => Runs.puts_eq (l := l) h.2.2.2.2
theorem Runs.at {a b : Vec} : ∀ {l : List Dt} {v w : Vec}, Runs a b v l w → ∀ {i : Nat} {d : Dt}, l[i]? = some d → d.r < 8 ∧ d.n = (puts v (l.take i)).get d.r + 1 ∧ a.get d.r < d.n ∧ d.n ≤ b.get d.r
  | [], v, w, h, i, d, hi => by simp at hi
  | x :: l, v, w, h, 0, d, hi => by
    simp at hi; subst hi
    exact ⟨h.1, by simpa [puts] using h.2.1, h.2.2.1, h.2.2.2.1⟩
  | x :: l, v, w, h, i + 1, d, hi => by
    have := Runs.at (l := l) h.2.2.2.2 (i := i) (d := d) (by simpa using hi)
    simpa [puts] using this
theorem puts_wf : ∀ {l : List Dt} {v : Vec}, v.wf → (∀ d ∈ l, d.n < 4294967296) → (puts v l).wf
  | [], v, h, _ => h
  | d :: l, v, h, hl => puts_wf (l := l) (Vec.set_wf h (hl d (by simp))) fun x hx => hl x (by simp [hx])

/-! ### what an argument reads as -/
theorem fit_int {P : Program} {d : Nat} {t : TypeId} {k : IntKind} {ds : List DV} (ht : P.underlying t = some (.int k)) (h : Fit P (d + 1) t ds) : ∃ n, ds = [.int k n] ∧ (Lit.int k n).wf = true := by
  rw [Fit, ht] at h
  exact h
theorem wf_u32 {n : Int} (h : (Lit.int .u32 n).wf = true) : ∃ m : Nat, n = (m : Int) ∧ m < 4294967296 := by
  simp [Lit.wf, IntKind.min, IntKind.max, IntKind.signed, IntKind.bits] at h
  exact ⟨n.toNat, by omega, by omega⟩
theorem wf_u64 {n : Int} (h : (Lit.int .u64 n).wf = true) : ∃ m : Nat, n = (m : Int) ∧ m < 18446744073709551616 := by
  simp [Lit.wf, IntKind.min, IntKind.max, IntKind.signed, IntKind.bits] at h
  exact ⟨n.toNat, by omega, by omega⟩
theorem wf_u8 {n : Int} (h : (Lit.int .u8 n).wf = true) : ∃ m : Nat, n = (m : Int) ∧ m < 256 := by
  simp [Lit.wf, IntKind.min, IntKind.max, IntKind.signed, IntKind.bits] at h
  exact ⟨n.toNat, by omega, by omega⟩
theorem wf_i64 {n : Int} (h : (Lit.int .i64 n).wf = true) : -9223372036854775808 ≤ n ∧ n < 9223372036854775808 := by
  simp [Lit.wf, IntKind.min, IntKind.max, IntKind.signed, IntKind.bits] at h
  omega
theorem fit_u32 {P : Program} {d : Nat} {t : TypeId} {ds : List DV} (ht : P.underlying t = some (.int .u32)) (h : Fit P (d + 1) t ds) : ∃ m : Nat, m < 4294967296 ∧ ds = [.int .u32 m] := by
  obtain ⟨n, rfl, hw⟩ := fit_int ht h
  obtain ⟨m, rfl, hm⟩ := wf_u32 hw
  exact ⟨m, hm, rfl⟩
theorem fit_u64 {P : Program} {d : Nat} {t : TypeId} {ds : List DV} (ht : P.underlying t = some (.int .u64)) (h : Fit P (d + 1) t ds) : ∃ m : Nat, m < 18446744073709551616 ∧ ds = [.int .u64 m] := by
  obtain ⟨n, rfl, hw⟩ := fit_int ht h
  obtain ⟨m, rfl, hm⟩ := wf_u64 hw
  exact ⟨m, hm, rfl⟩
theorem fit_u8 {P : Program} {d : Nat} {t : TypeId} {ds : List DV} (ht : P.underlying t = some (.int .u8)) (h : Fit P (d + 1) t ds) : ∃ m : Nat, m < 256 ∧ ds = [.int .u8 m] := by
  obtain ⟨n, rfl, hw⟩ := fit_int ht h
  obtain ⟨m, rfl, hm⟩ := wf_u8 hw
  exact ⟨m, hm, rfl⟩
theorem fit_i64 {P : Program} {d : Nat} {t : TypeId} {ds : List DV} (ht : P.underlying t = some (.int .i64)) (h : Fit P (d + 1) t ds) : ∃ n : Int, (-9223372036854775808 ≤ n ∧ n < 9223372036854775808) ∧ ds = [.int .i64 n] := by
  obtain ⟨n, rfl, hw⟩ := fit_int ht h
  exact ⟨n, wf_i64 hw, rfl⟩
theorem fit_bool {P : Program} {d : Nat} {t : TypeId} {ds : List DV} (ht : P.underlying t = some .bool) (h : Fit P (d + 1) t ds) : ∃ b : Bool, ds = [.bool b] := by
  rw [Fit, ht] at h
  exact h
theorem one_at {ds : List DV} {o : Nat} {x : DV} (h : (ds.drop o).take 1 = [x]) : ds[o]? = some x := by
  have := congrArg (·[0]?) h
  simpa [List.getElem?_take] using this
theorem fit_vec {P : Program} {d : Nat} {t e : TypeId} {ds : List DV} (ht : P.underlying t = some (.array 8 e)) (he : P.underlying e = some (.int .u32)) (hc : P.cellsOf t = 8) (hce : P.cellsOf e = 1) (h : Fit P (d + 2) t ds) : ∃ v : Vec, v.wf ∧ ds = v.ds := by
  rw [Fit, ht] at h
  dsimp only at h
  obtain ⟨hl, hi⟩ := h
  rw [hc] at hl
  rw [hce] at hi
  have key : ∀ i, i < 8 → ∃ m : Nat, m < 4294967296 ∧ ds[i]? = some (.int .u32 m) := fun i hlt => by
    obtain ⟨m, hm, e1⟩ := fit_u32 (d := d) he (hi i hlt)
    exact ⟨m, hm, one_at (by simpa using e1)⟩
  obtain ⟨m0, h0, e0⟩ := key 0 (by omega)
  obtain ⟨m1, h1, e1⟩ := key 1 (by omega)
  obtain ⟨m2, h2, e2⟩ := key 2 (by omega)
  obtain ⟨m3, h3, e3⟩ := key 3 (by omega)
  obtain ⟨m4, h4, e4⟩ := key 4 (by omega)
  obtain ⟨m5, h5, e5⟩ := key 5 (by omega)
  obtain ⟨m6, h6, e6⟩ := key 6 (by omega)
  obtain ⟨m7, h7, e7⟩ := key 7 (by omega)
  refine ⟨⟨m0, m1, m2, m3, m4, m5, m6, m7⟩, fun r hr => ?_, List.ext_getElem? fun i => ?_⟩
  · match r, hr with
    | 0, _ => exact h0
    | 1, _ => exact h1
    | 2, _ => exact h2
    | 3, _ => exact h3
    | 4, _ => exact h4
    | 5, _ => exact h5
    | 6, _ => exact h6
    | 7, _ => exact h7
  · match i with
    | 0 => rw [e0]; rfl
    | 1 => rw [e1]; rfl
    | 2 => rw [e2]; rfl
    | 3 => rw [e3]; rfl
    | 4 => rw [e4]; rfl
    | 5 => rw [e5]; rfl
    | 6 => rw [e6]; rfl
    | 7 => rw [e7]; rfl
    | i + 8 => rw [List.getElem?_eq_none (by omega), List.getElem?_eq_none (by simp [Vec.ds])]
/-- A part of a struct's cells. -/
theorem fit_field {P : Program} {d : Nat} {t : TypeId} {fs : Array Field} {ds : List DV} (ht : P.underlying t = some (.struct fs)) (h : Fit P (d + 1) t ds) (i : Nat) (f : Field) (hf : fs[i]? = some f) :
    Fit P d f.type ((ds.drop f.offset).take (P.cellsOf f.type)) := by
  rw [Fit, ht] at h
  dsimp only at h
  exact h.2 f (by simpa using Array.mem_of_getElem? hf)
theorem fit_len {P : Program} {d : Nat} {t : TypeId} {fs : Array Field} {ds : List DV} (ht : P.underlying t = some (.struct fs)) (h : Fit P (d + 1) t ds) : ds.length = P.cellsOf t := by
  rw [Fit, ht] at h
  dsimp only at h
  exact h.1
theorem fit_dot {P : Program} {d : Nat} {t : TypeId} {fs : Array Field} {fR fN : Field} {ds : List DV} (ht : P.underlying t = some (.struct fs)) (h0 : fs[0]? = some fR) (h1 : fs[1]? = some fN) (o0 : fR.offset = 0) (o1 : fN.offset = 1)
    (t0 : P.underlying fR.type = some (.int .u8)) (t1 : P.underlying fN.type = some (.int .u32)) (hc : P.cellsOf t = 2) (c0 : P.cellsOf fR.type = 1) (c1 : P.cellsOf fN.type = 1) (h : Fit P (d + 2) t ds) : ∃ x : Dt, x.wf ∧ ds = x.ds := by
  have f0 := fit_field ht h 0 fR h0
  have f1 := fit_field ht h 1 fN h1
  have hl := fit_len ht h
  rw [hc] at hl
  rw [o0, c0] at f0
  rw [o1, c1] at f1
  obtain ⟨a, ha, ea⟩ := fit_u8 t0 f0
  obtain ⟨b, hb, eb⟩ := fit_u32 t1 f1
  have ea := one_at ea
  have eb := one_at eb
  refine ⟨⟨a, b⟩, ⟨ha, hb⟩, List.ext_getElem? fun i => ?_⟩
  match i with
  | 0 => rw [ea]; rfl
  | 1 => rw [eb]; rfl
  | i + 2 => rw [List.getElem?_eq_none (by omega), List.getElem?_eq_none (by simp)]
/-- A slice of things of sz cells each. -/
theorem fit_slice {P : Program} {d : Nat} {t e : TypeId} {ds : List DV} {α : Type} (f : α → List DV) (ok : α → Prop) (ht : P.underlying t = some (.slice e)) (hp : ∀ ds, Fit P d e ds → ∃ x, ok x ∧ ds = f x)
    (h : Fit P (d + 1) t ds) : (ds = [.nils]) ∨ ∃ l : List α, (∀ x ∈ l, ok x) ∧ l.length ≤ 9223372036854775807 ∧ ds = [.sl l.length (l.flatMap f)] := by
  rw [Fit, ht] at h
  dsimp only at h
  rcases h with h | ⟨n, cs, rfl, hn, hl, hi⟩
  · exact .inl h
  · refine .inr ?_
    have key : ∀ k, k ≤ n → ∃ l : List α, (∀ x ∈ l, ok x) ∧ l.length = k ∧ cs.take (k * P.cellsOf e) = l.flatMap f := by
      intro k
      induction k with
      | zero => intro _; exact ⟨[], by simp, rfl, by simp⟩
      | succ k ih =>
        intro hk
        obtain ⟨l, a1, a2, a3⟩ := ih (by omega)
        obtain ⟨x, b1, b2⟩ := hp _ (hi k hk)
        refine ⟨l ++ [x], fun y hy => ?_, by simp [a2], ?_⟩
        · rcases List.mem_append.1 hy with h | h
          · exact a1 y h
          · simp at h; subst h; exact b1
        · rw [Nat.succ_mul, List.take_add, a3, b2]; simp
    obtain ⟨l, a1, a2, a3⟩ := key n (Nat.le_refl _)
    rw [List.take_of_length_le (by omega)] at a3
    exact ⟨l, a1, by omega, by rw [a2, a3]⟩
end Go.Sl
