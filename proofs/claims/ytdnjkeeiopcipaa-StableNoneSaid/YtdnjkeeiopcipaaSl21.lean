/-
  Vectors and dots: what the functions compute, in plain Lean.
-/
import Derived.Test.YtdnjkeeiopcipaaSl20
set_option linter.unusedSectionVars false
set_option linter.unusedVariables false
set_option linter.unusedSimpArgs false
namespace Go.Sl

def Vec.covers (v : Vec) (d : Dt) : Bool := d.may && decide (d.n ≤ v.get d.r)
def Vec.above (a b : Vec) : Bool := (List.range 8).all fun r => decide (b.get r ≤ a.get r)
theorem Vec.above_iff {a b : Vec} : a.above b = true ↔ ∀ r, r < 8 → b.get r ≤ a.get r := by simp [Vec.above]
theorem Vec.zip_get (f : Nat → Nat → Nat) (a b : Vec) {r : Nat} (h : r < 8) : (Vec.zip f a b).get r = f (a.get r) (b.get r) := by simp [Vec.zip, Vec.get_of _ h]
theorem Vec.above_merge (a b : Vec) : decide (Vec.zip max a b = a) = a.above b := by
  rw [Bool.eq_iff_iff, decide_eq_true_eq, Vec.above_iff]
  constructor
  · intro h r hr
    have := Vec.zip_get max a b hr
    rw [h] at this
    omega
  · intro h
    exact Vec.ext' fun r hr => by rw [Vec.zip_get _ _ _ hr]; have := h r hr; omega
def Vec.count (v : Vec) : Nat := v.a0 + v.a1 + v.a2 + v.a3 + v.a4 + v.a5 + v.a6 + v.a7
/-- The first i numbers' sum. -/
def Vec.sum (v : Vec) : Nat → Nat
  | 0 => 0
  | i + 1 => Vec.sum v i + v.get i
theorem Vec.sum_all (v : Vec) : v.sum 8 = v.count := by simp [Vec.sum, Vec.count, Vec.get]
theorem Vec.sum_le (v : Vec) (h : v.wf) : ∀ i, i ≤ 8 → v.sum i ≤ i * 4294967295
  | 0, _ => by simp [Vec.sum]
  | i + 1, hi => by
    have h1 := Vec.sum_le v h i (by omega)
    have h2 := h i (by omega)
    simp only [Vec.sum]
    omega
theorem Vec.zero_wf : Vec.zero.wf := fun r _ => by rw [Vec.zero_get]; omega
theorem Vec.zip_wf {f : Nat → Nat → Nat} {a b : Vec} (hf : ∀ x y, x < 4294967296 → y < 4294967296 → f x y < 4294967296) (ha : a.wf) (hb : b.wf) : (Vec.zip f a b).wf := fun r hr => by
  rw [Vec.zip_get _ _ _ hr]; exact hf _ _ (ha r hr) (hb r hr)
theorem Vec.set_wf {a : Vec} {i x : Nat} (ha : a.wf) (hx : x < 4294967296) : (a.set i x).wf := fun r hr => by
  simp only [Vec.set, Vec.get_of _ hr]; split; exact hx; exact ha r hr
theorem Vec.set_get (a : Vec) (i x : Nat) {r : Nat} (h : r < 8) : (a.set i x).get r = if r = i then x else a.get r := by simp [Vec.set, Vec.get_of _ h]

/-- The next dot: it, and an error's number. -/
def Vec.next (v : Vec) (r : Nat) : Dt × Nat := if 8 ≤ r then (Dt.zero, 2) else if v.get r = 4294967295 then (Dt.zero, 6) else (⟨r, v.get r + 1⟩, 0)
def Vec.put (v : Vec) (d : Dt) : Vec × Nat := if d.may = false then (Vec.zero, 2) else if d.n ≠ v.get d.r + 1 then (Vec.zero, 9) else (v.set d.r d.n, 0)

theorem wrap_u32 (n : Nat) (h : n < 4294967296) : IntKind.u32.wrap (n : Int) = n := by
  simp [IntKind.wrap, IntKind.bits, IntKind.signed]; omega
theorem wrap_u64 (n : Nat) (h : n < 18446744073709551616) : IntKind.u64.wrap (n : Int) = n := by
  simp [IntKind.wrap, IntKind.bits, IntKind.signed]; omega
theorem wrap_u8 (n : Nat) (h : n < 256) : IntKind.u8.wrap (n : Int) = n := by
  simp [IntKind.wrap, IntKind.bits, IntKind.signed]; omega
theorem cast_succ (n : Nat) : (n : Int) + 1 = ((n + 1 : Nat) : Int) := rfl

theorem Vec.row0 (a b c d e f g h : SV) (r : List SV) (v : Vec) : spl (a :: b :: c :: d :: e :: f :: g :: h :: r) 0 v.cells = v.cells ++ r := rfl
theorem Vec.row8 (u v : Vec) (r : List SV) : spl (u.cells ++ r) 8 v.cells = u.cells ++ spl r 0 v.cells := rfl
theorem Vec.row16 (u v : Vec) (r : List SV) : spl (u.cells ++ r) 16 v.cells = u.cells ++ spl r 8 v.cells := rfl
theorem Vec.row24 (u v : Vec) (r : List SV) : spl (u.cells ++ r) 24 v.cells = u.cells ++ spl r 16 v.cells := rfl
theorem Vec.datas_app (u : Vec) (r : List SV) : datas (u.cells ++ r) = match datas r with | some x => some (u.ds ++ x) | none => none := by
  cases h : datas r <;> simp [Vec.cells, datas, h, Vec.ds]
theorem Vec.datas_one (u : Vec) : datas u.cells = some u.ds := rfl
theorem Dt.row0 (a b : SV) (r : List SV) (v : Dt) : spl (a :: b :: r) 0 v.cells = v.cells ++ r := rfl
theorem Dt.row2 (u v : Dt) (r : List SV) : spl (u.cells ++ r) 2 v.cells = u.cells ++ spl r 0 v.cells := rfl
theorem Dt.datas_app (u : Dt) (r : List SV) : datas (u.cells ++ r) = match datas r with | some x => some (u.ds ++ x) | none => none := by
  cases h : datas r <;> simp [Dt.cells, datas, h, Dt.ds]
theorem Dt.datas_one (u : Dt) : datas u.cells = some u.ds := rfl
theorem one_map (l : List DV) : (l.map SV.d).all SV.isOne = true := by simp [SV.isOne]

theorem wrap_u32_sub (a b : Nat) (h : b ≤ a) (ha : a < 4294967296) : IntKind.u32.wrap ((a : Int) - b) = ((a - b : Nat) : Int) := by
  rw [show (a : Int) - b = ((a - b : Nat) : Int) by omega]; exact wrap_u32 _ (by omega)
theorem wrap_u32_add (a b : Nat) (h : a + b < 4294967296) : IntKind.u32.wrap ((a : Int) + b) = ((a + b : Nat) : Int) := wrap_u32 (a + b) h
theorem wrap_u32_succ (a : Nat) (h : a + 1 < 4294967296) : IntKind.u32.wrap ((a : Int) + 1) = ((a + 1 : Nat) : Int) := wrap_u32 (a + 1) h
theorem wrap_u64_add (a b : Nat) (h : a + b < 18446744073709551616) : IntKind.u64.wrap ((a : Int) + b) = ((a + b : Nat) : Int) := wrap_u64 (a + b) h
theorem wrap_u64_sub (a b : Nat) (h : b ≤ a) (ha : a < 18446744073709551616) : IntKind.u64.wrap ((a : Int) - b) = ((a - b : Nat) : Int) := by
  rw [show (a : Int) - b = ((a - b : Nat) : Int) by omega]; exact wrap_u64 _ (by omega)
/-- A replica's dots, c of them, from the a-th on. -/
def rangeD (r a c : Nat) : List Dt := (List.range c).map fun i => ⟨r, a + i⟩
@[simp] theorem rangeD_len (r a c : Nat) : (rangeD r a c).length = c := by simp [rangeD]
theorem rangeD_succ (r a c : Nat) : rangeD r a (c + 1) = rangeD r a c ++ [⟨r, a + c⟩] := by simp [rangeD, List.range_succ]
def dotRange (r a b : Nat) : List Dt × Nat := if Dt.may ⟨r, a⟩ = false then ([], 2) else if b < a then ([], 0) else if 65536 ≤ b - a then ([], 3) else (rangeD r a (b - a + 1), 0)

theorem SV.rens_append (ρ : Nat → Nat) : ∀ (a b : List SV), SV.rens ρ (a ++ b) = SV.rens ρ a ++ SV.rens ρ b
  | [], b => rfl
  | x :: a, b => by simp [SV.rens, SV.rens_append ρ a b]
theorem SV.oks_append (q : Nat → Bool) : ∀ (a b : List SV), SV.oks q (a ++ b) = (SV.oks q a && SV.oks q b)
  | [], b => rfl
  | x :: a, b => by simp [SV.oks, SV.oks_append q a b, Bool.and_assoc]

/-- A row that is nil as long as nothing is in it. -/
def rowS (n len : Nat) : SV := if len = 0 then .d .nils else .gs n len
def rowH (n e sz len : Nat) (cs : List SV) : Hp := if len = 0 then [] else [(n, .arr e sz len cs)]
theorem rowS_pos {n len : Nat} (h : len ≠ 0) : rowS n len = .gs n len := by simp [rowS, h]
theorem rowH_pos {n e sz len : Nat} {cs : List SV} (h : len ≠ 0) : rowH n e sz len cs = [(n, .arr e sz len cs)] := by simp [rowH, h]
theorem rowS_zero {n len : Nat} (h : len = 0) : rowS n len = .d .nils := by simp [rowS, h]
theorem rowH_zero {n e sz len : Nat} {cs : List SV} (h : len = 0) : rowH n e sz len cs = [] := by simp [rowH, h]
def lackTo (a b : Vec) : Nat → List Dt
  | 0 => []
  | i + 1 => lackTo a b i ++ if b.get i ≤ a.get i then [] else rangeD i (a.get i + 1) (b.get i - a.get i)
def Vec.more (a b : Vec) : Nat := (Vec.zip max a b).count - a.count
def Vec.lacks (a b : Vec) : List Dt × Nat := if 65536 < a.more b then ([], 3) else (lackTo a b 8, 0)
def Vec.moreTo (a b : Vec) : Nat → Nat
  | 0 => 0
  | i + 1 => Vec.moreTo a b i + (b.get i - a.get i)
theorem Vec.sum_merge (a b : Vec) : ∀ i, i ≤ 8 → (Vec.zip max a b).sum i = a.sum i + a.moreTo b i
  | 0, _ => rfl
  | i + 1, h => by
    have h1 := Vec.sum_merge a b i (by omega)
    simp only [Vec.sum, Vec.moreTo, h1, Vec.zip_get max a b (show i < 8 by omega)]
    omega
theorem Vec.count_merge' (a b : Vec) : (Vec.zip max a b).count = a.count + a.moreTo b 8 := by
  rw [← Vec.sum_all, ← Vec.sum_all, Vec.sum_merge a b 8 (by omega)]
theorem Vec.count_merge (a b : Vec) : a.count ≤ (Vec.zip max a b).count := by rw [Vec.count_merge']; omega
theorem Vec.more_eq (a b : Vec) : a.more b = a.moreTo b 8 := by rw [Vec.more, Vec.count_merge']; omega
theorem Vec.moreTo_mono (a b : Vec) {i j : Nat} (h : i ≤ j) : a.moreTo b i ≤ a.moreTo b j := by
  induction h with
  | refl => exact Nat.le_refl _
  | step _ ih => simp only [Vec.moreTo]; omega
theorem Vec.more_at (a b : Vec) {r : Nat} (h : r < 8) : b.get r - a.get r ≤ a.more b := by
  have := a.moreTo_mono b (show r + 1 ≤ 8 from h)
  rw [Vec.more_eq]
  rw [show a.moreTo b (r + 1) = a.moreTo b r + (b.get r - a.get r) from rfl] at this
  omega
theorem Vec.count_lt (v : Vec) (h : v.wf) : v.count ≤ 34359738360 := by
  rw [← Vec.sum_all]; have := v.sum_le h 8 (by omega); omega
theorem max_lt {x y n : Nat} (h : x < n) (h' : y < n) : max x y < n := by omega
theorem min_lt {x y n : Nat} (h : x < n) (h' : y < n) : min x y < n := by omega
/-- The numbers up to the i-th one. -/
theorem lackTo_len (a b : Vec) : ∀ i, (lackTo a b i).length = a.moreTo b i
  | 0 => rfl
  | i + 1 => by
    have h1 := lackTo_len a b i
    simp only [lackTo, List.length_append, Vec.moreTo, h1]
    split
    · simp; omega
    · rw [rangeD_len]
theorem lackTo_le (a b : Vec) {i : Nat} (h : i ≤ 8) : (lackTo a b i).length ≤ a.more b := by rw [lackTo_len, Vec.more_eq]; exact a.moreTo_mono b h

theorem vec_cell {l : List Vec} {i r : Nat} {x : Vec} (h : l[i]? = some x) (hr : r < 8) : (List.map SV.d (l.flatMap Vec.ds))[i * 8 + r]? = some (u32 (x.get r)) := by
  rw [List.getElem?_map, flat_get Vec.ds 8 (fun _ => rfl) l i r x h hr, x.ds_get hr]
  rfl
theorem ext_rows {α : Type} {l m : List α} (hl : l.length = m.length) (h : ∀ j, j < l.length → l[j]? = m[j]?) : l = m := by
  apply List.ext_getElem?
  intro j
  by_cases hj : j < l.length
  · exact h j hj
  · rw [List.getElem?_eq_none (by omega), List.getElem?_eq_none (by omega)]
theorem Vec.zip_max_zero (x : Vec) : Vec.zip max Vec.zero x = x := Vec.ext' fun r hr => by rw [Vec.zip_get _ _ _ hr, Vec.zero_get]; omega
theorem Vec.zip_min_self (x : Vec) : Vec.zip min x x = x := Vec.ext' fun r hr => by rw [Vec.zip_get _ _ _ hr]; omega
theorem Vec.all_max (l : List Vec) : Vec.all max l = l.foldl (Vec.zip max) Vec.zero := by
  cases l with
  | nil => rfl
  | cons x l => simp [Vec.all, Vec.zip_max_zero]
theorem Vec.all_min (x : Vec) (l : List Vec) : Vec.all min (x :: l) = (x :: l).foldl (Vec.zip min) x := by simp [Vec.all, Vec.zip_min_self]
theorem foldl_snoc {α β : Type} (f : α → β → α) (z : α) (l : List β) (x : β) : (l ++ [x]).foldl f z = f (l.foldl f z) x := by simp
theorem Vec.upto_zip_succ (f : Nat → Nat → Nat) (a x : Vec) {i : Nat} (h : i < 8) : (Vec.upto i (Vec.zip f a x) a).set i (f (a.get i) (x.get i)) = Vec.upto (i + 1) (Vec.zip f a x) a := by
  rw [← Vec.upto_succ _ _ h, Vec.zip_get _ _ _ h]
theorem Vec.upto_get (a b : Vec) (i : Nat) {r : Nat} (h : r < 8) : (Vec.upto i a b).get r = if r < i then a.get r else b.get r := by simp [Vec.upto, Vec.get_of _ h]
theorem Vec.upto_here (a b : Vec) {i : Nat} (h : i < 8) : (Vec.upto i a b).get i = b.get i := by simp [Vec.upto_get _ _ _ h]

theorem rangeD_zero (r a : Nat) : rangeD r a 0 = [] := rfl
theorem lackTo_succ (a b : Vec) (i : Nat) : lackTo a b (i + 1) = lackTo a b i ++ rangeD i (a.get i + 1) (b.get i - a.get i) := by
  simp only [lackTo]
  split
  · rw [show b.get i - a.get i = 0 by omega, rangeD_zero]
  · rfl
def topAt (l : List Vec) (i : Nat) : Bool := match l[i]? with
  | some v => (List.range l.length).all fun k => match l[k]? with
    | some w => !(w.above v && (decide (w ≠ v) || decide (k < i)))
    | none => true
  | none => false
/-- The first i vectors' tops. -/
def topsTo (l : List Vec) : Nat → List Vec
  | 0 => []
  | i + 1 => topsTo l i ++ match l[i]? with
    | some v => if topAt l i then [v] else []
    | none => []
def Vec.tops (l : List Vec) : List Vec := topsTo l l.length
theorem topAt_iff {l : List Vec} {i : Nat} {v : Vec} (h : l[i]? = some v) : topAt l i = true ↔ ∀ (k : Nat) (w : Vec), l[k]? = some w → w.above v = true → w = v ∧ i ≤ k := by
  simp only [topAt, h, List.all_eq_true, List.mem_range]
  constructor
  · intro hh k w hk ha
    have := hh k (lt_of_get hk)
    simp only [hk, ha, Bool.true_and, Bool.not_eq_true', Bool.or_eq_false_iff, decide_eq_false_iff_not, ne_eq, Decidable.not_not, Nat.not_lt] at this
    exact this
  · intro hh k hk
    obtain ⟨w, hw⟩ := get_of_lt hk
    simp only [hw]
    cases ha : w.above v with
    | false => rfl
    | true =>
      obtain ⟨h1, h2⟩ := hh k w hw ha
      simp [h1]; omega
theorem topsTo_le (l : List Vec) : ∀ i, (topsTo l i).length ≤ i
  | 0 => by simp [topsTo]
  | i + 1 => by
    have := topsTo_le l i
    simp only [topsTo, List.length_append]
    split
    · split <;> simp <;> omega
    · simp; omega

def idxF {α : Type} (p : α → Bool) : List α → Nat → Int
  | [], _ => -1
  | x :: l, i => if p x then (i : Int) else idxF p l (i + 1)
theorem idxF_hit {α : Type} (p : α → Bool) : ∀ (l : List α) (k i : Nat) (x : α), l[i]? = some x → p x = true → (∀ (j : Nat) (y : α), j < i → l[j]? = some y → p y = false) → idxF p l k = ((k + i : Nat) : Int)
  | [], k, i, x, h, _, _ => by simp at h
  | y :: l, k, 0, x, h, hp, _ => by simp at h; subst h; simp [idxF, hp]
  | y :: l, k, i + 1, x, h, hp, hs => by
    have h0 := hs 0 y (by omega) rfl
    have := idxF_hit p l (k + 1) i x (by simpa using h) hp fun j z hj hz => hs (j + 1) z (by omega) (by simpa using hz)
    simp only [idxF, h0, Bool.false_eq_true, if_false, this]
    congr 1; omega
theorem idxF_none {α : Type} (p : α → Bool) : ∀ (l : List α) (k : Nat), (∀ (j : Nat) (y : α), l[j]? = some y → p y = false) → idxF p l k = -1
  | [], k, _ => rfl
  | y :: l, k, hs => by
    have h0 := hs 0 y rfl
    simp only [idxF, h0, Bool.false_eq_true, if_false]
    exact idxF_none p l (k + 1) fun j z hz => hs (j + 1) z (by simpa using hz)
theorem idxF_any {α : Type} (p : α → Bool) : ∀ (l : List α) (k : Nat), decide (idxF p l k ≥ 0) = l.any p
  | [], k => rfl
  | y :: l, k => by
    simp only [idxF, List.any_cons]
    by_cases hp : p y = true
    · simp [hp]
    · have hp : p y = false := by simpa using hp
      simpa [hp] using idxF_any p l (k + 1)

/-- The tops so far, as a map. -/
def topE (out : List Vec) : List (Nat × SV × SV) := out.zipIdx.map fun x => (x.2, .agg x.1.cells, .d (.int .i64 1))
theorem topE_snoc (out : List Vec) (v : Vec) : topE (out ++ [v]) = topE out ++ [(out.length, .agg v.cells, .d (.int .i64 1))] := by simp [topE, List.zipIdx_append]
abbrev vks : List Bool := [true, true, true, true, true, true, true, true]
theorem key_vec (v : Vec) : keyOk vks true (.agg v.cells) = true := by simp [keyOk, isAggS, SV.cells, Vec.eqb8]
theorem find_vec (v : Vec) : ∀ (es : List (Vec × Nat)) (i : Nat), findS vks true (.agg v.cells) (es.map fun x => (x.2, SV.agg x.1.cells, SV.d (.int .i64 1))) i = some ((es.findIdx? fun x => decide (v = x.1)).map (i + ·))
  | [], i => rfl
  | e :: es, i => by
    simp only [List.map_cons, findS, key_vec, if_true, SV.cells, Vec.eqb8, List.findIdx?_cons]
    by_cases h : v = e.1
    · simp [h]
    · simp only [h, decide_false, find_vec v es (i + 1), Bool.false_eq_true, if_false, Option.map_map]
      congr 1
      congr 1
      funext j
      simp
      omega
theorem find_no {out : List Vec} {v : Vec} (h : v ∉ out) : findS vks true (.agg v.cells) (topE out) 0 = some none := by
  unfold topE
  rw [find_vec]
  have : out.zipIdx.findIdx? (fun x => decide (v = x.1)) = none := by
    rw [List.findIdx?_eq_none_iff]
    intro x hx
    have := List.fst_mem_of_mem_zipIdx hx
    simp
    intro e; subst e; exact h this
  rw [this]; rfl
theorem find_yes {out : List Vec} {v : Vec} (h : v ∈ out) : ∃ j b k, findS vks true (.agg v.cells) (topE out) 0 = some (some j) ∧ (topE out)[j]? = some (b, k, .d (.int .i64 1)) := by
  unfold topE
  rw [find_vec]
  cases hf : out.zipIdx.findIdx? (fun x => decide (v = x.1)) with
  | none =>
    rw [List.findIdx?_eq_none_iff] at hf
    obtain ⟨i, hi⟩ := List.mem_iff_getElem?.1 h
    have := hf (v, i) (List.mem_zipIdx_iff_getElem?.2 hi)
    simp at this
  | some j =>
    have hlt := (List.findIdx?_eq_some_iff_getElem.1 hf).1
    exact ⟨j, _, _, by simp, by rw [List.getElem?_map, List.getElem?_eq_getElem hlt, Option.map_some]⟩

/-- Is nothing else above? -/
def topV (l : List Vec) (v : Vec) : Bool := !(l.any fun w => decide (w ≠ v) && w.above v)
theorem topV_iff {l : List Vec} {v : Vec} : topV l v = true ↔ ∀ (k : Nat) (w : Vec), l[k]? = some w → w.above v = true → w = v := by
  simp only [topV, Bool.not_eq_true', List.any_eq_false]
  constructor
  · intro h k w hk ha
    have := h w (List.mem_of_getElem? hk)
    simp [ha] at this
    exact this
  · intro h w hw
    obtain ⟨k, hk⟩ := List.mem_iff_getElem?.1 hw
    simp
    intro hne
    cases ha : w.above v with
    | false => rfl
    | true => exact absurd (h k w hk ha) hne
theorem Vec.above_refl (v : Vec) : v.above v = true := Vec.above_iff.2 fun _ _ => Nat.le_refl _
theorem mem_topsTo {l : List Vec} {v : Vec} : ∀ {i : Nat}, i ≤ l.length → (v ∈ topsTo l i ↔ topV l v = true ∧ ∃ k, k < i ∧ l[k]? = some v)
  | 0, _ => by simp [topsTo]
  | i + 1, hi => by
    have ih := mem_topsTo (l := l) (v := v) (i := i) (by omega)
    obtain ⟨x, hx⟩ := get_of_lt (show i < l.length by omega)
    simp only [topsTo, hx, List.mem_append, ih]
    constructor
    · rintro (⟨h1, k, h2, h3⟩ | h)
      · exact ⟨h1, k, by omega, h3⟩
      · split at h
        · rename_i ht
          simp at h; subst h
          exact ⟨topV_iff.2 fun k w hk ha => ((topAt_iff hx).1 ht k w hk ha).1, i, by omega, hx⟩
        · simp at h
    · rintro ⟨h1, k, h2, h3⟩
      by_cases hp : ∃ k, k < i ∧ l[k]? = some v
      · exact .inl ⟨h1, hp⟩
      · right
        have hk : k = i := by
          by_cases e : k = i
          · exact e
          · exact absurd ⟨k, by omega, h3⟩ hp
        subst hk
        rw [hx] at h3
        simp at h3; subst h3
        have : topAt l k = true := (topAt_iff hx).2 fun k' w hk' ha => by
          have e := topV_iff.1 h1 k' w hk' ha
          subst e
          refine ⟨rfl, ?_⟩
          apply Nat.le_of_not_lt
          intro hlt
          exact hp ⟨k', hlt, hk'⟩
        simp [this]
theorem topAt_eq {l : List Vec} {i : Nat} {v : Vec} (h : l[i]? = some v) : topAt l i = (topV l v && decide (v ∉ topsTo l i)) := by
  have hi := lt_of_get h
  rw [Bool.eq_iff_iff, topAt_iff h, Bool.and_eq_true, decide_eq_true_eq, mem_topsTo (by omega)]
  constructor
  · intro hh
    refine ⟨topV_iff.2 fun k w hk ha => (hh k w hk ha).1, ?_⟩
    rintro ⟨_, k, hk, hkv⟩
    have := (hh k v hkv (Vec.above_refl v)).2
    omega
  · rintro ⟨h1, h2⟩ k w hk ha
    have e := topV_iff.1 h1 k w hk ha
    subst e
    refine ⟨rfl, Nat.le_of_not_lt fun hlt => h2 ⟨h1, k, hlt, hk⟩⟩

theorem topE_ren (ρ : Nat → Nat) (out : List Vec) : (topE out).map (fun e => (e.1, SV.ren ρ e.2.1, SV.ren ρ e.2.2)) = topE out := by
  simp [topE, SV.ren, Vec.cells_ren]
theorem topE_ok (q : Nat → Bool) (out : List Vec) : ∀ (a : Nat) (b c : SV), (a, b, c) ∈ topE out → SV.ok q b = true ∧ SV.ok q c = true := by
  intro a b c h
  simp only [topE, List.mem_map] at h
  obtain ⟨x, _, hx⟩ := h
  injection hx with h1 hx
  injection hx with h2 h3
  subst h2; subst h3
  exact ⟨by simp [SV.ok], rfl⟩

/-- Is none of the first n against the i-th one? -/
def topTo (l : List Vec) (i : Nat) (v : Vec) (n : Nat) : Bool := (List.range n).all fun k => match l[k]? with
  | some w => !(w.above v && (decide (w ≠ v) || decide (k < i)))
  | none => true
theorem topTo_succ {l : List Vec} {i n : Nat} {v w : Vec} (h : l[n]? = some w) : topTo l i v (n + 1) = (topTo l i v n && !(w.above v && (decide (w ≠ v) || decide (n < i)))) := by
  simp [topTo, List.range_succ, h]
theorem topTo_all {l : List Vec} {i : Nat} {v : Vec} (h : l[i]? = some v) : topTo l i v l.length = topAt l i := by
  simp only [topAt, h, topTo]
def Vec.v3 (a b c : Nat) : Vec := ⟨a, b, c, 0, 0, 0, 0, 0⟩

theorem Vec.v3_bld (a b c : Nat) : spl (spl (spl Vec.zero.cells 0 [.d (.int .u32 (a : Int))]) 1 [.d (.int .u32 (b : Int))]) 2 [.d (.int .u32 (c : Int))] = (Vec.v3 a b c).cells := rfl

theorem bq_ft : (false == true) = false := rfl
theorem bq_tf : (true == false) = false := rfl
end Go.Sl
