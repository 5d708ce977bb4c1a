/-
  From a law's contract to its row: what arguments read as, as shadow data.
-/
import Derived.Test.YtgjgfamgbhlmfaaU6
import Derived.ProofKit
import Derived.OpenShut
import Derived.Carry
import Derived.ShutString
set_option linter.unusedSimpArgs false
set_option linter.unusedSectionVars false
set_option linter.unusedVariables false
namespace Go.Sl
open Go.RowKit Go.ChangeShapes Go.WideShapes

/-- How many cells stand in a field's row, one field behind the other from o on. -/
def layF (P : Program) : Nat → List Field → Option Nat
  | o, [] => some o
  | o, f :: fs => if f.offset = o then layF P (o + P.cellsOf f.type) fs else none

/-- Data of a type, cell by cell. -/
def Fit (P : Program) : Nat → TypeId → List DV → Prop
  | 0, _, _ => False
  | d + 1, t, ds => match P.underlying t with
    | some .bool => ∃ b, ds = [.bool b]
    | some (.int k) => ∃ n, ds = [.int k n] ∧ (Lit.int k n).wf = true
    | some (.struct fs) => ds.length = P.cellsOf t ∧ ∀ f ∈ fs.toList, Fit P d f.type ((ds.drop f.offset).take (P.cellsOf f.type))
    | some (.array n e) => ds.length = P.cellsOf t ∧ ∀ i, i < n → Fit P d e ((ds.drop (i * P.cellsOf e)).take (P.cellsOf e))
    | some (.slice e) => ds = [.nils] ∨ ∃ n cs, ds = [.sl n cs] ∧ n ≤ 9223372036854775807 ∧ cs.length = n * P.cellsOf e ∧ ∀ i, i < n → Fit P d e ((cs.drop (i * P.cellsOf e)).take (P.cellsOf e))
    | _ => False

/-- The types that 'Fit' speaks of, to the bottom; structs and arrays laid without holes. -/
def fitTy (P : Program) : Nat → TypeId → Bool
  | 0, _ => false
  | d + 1, t => match P.underlying t with
    | some .bool => P.cellsOf t == 1
    | some (.int _) => P.cellsOf t == 1
    | some (.struct fs) => (layF P 0 fs.toList == some (P.cellsOf t)) && fs.toList.all fun f => fitTy P d f.type
    | some (.array n e) => (P.cellsOf t == n * P.cellsOf e) && fitTy P d e
    | some (.slice e) => (P.cellsOf t == 1) && fitTy P d e && decide (0 < P.cellsOf e) && decide (0 < P.bytesOf e)
    | _ => false

def memOf (w : World) : Mem := fun b o => w.cell? ⟨b, o, none⟩

/-- Cells and what they are, one by one. -/
def Cells (M : Mem) : List Value → List DV → Prop
  | [], [] => True
  | v :: vs, d :: ds => RepD M d v ∧ Cells M vs ds
  | _, _ => False
theorem Cells.length {M : Mem} : ∀ {vs : List Value} {ds : List DV}, Cells M vs ds → vs.length = ds.length
  | [], [], _ => rfl
  | v :: vs, d :: ds, h => by simp only [Cells] at h; simp [h.2.length]
  | [], d :: ds, h => by simp [Cells] at h
  | v :: vs, [], h => by simp [Cells] at h
theorem Cells.append {M : Mem} : ∀ {vs us : List Value} {ds es : List DV}, Cells M vs ds → Cells M us es → Cells M (vs ++ us) (ds ++ es)
  | [], us, [], es, _, h => by simpa using h
  | v :: vs, us, d :: ds, es, h, k => by simp only [Cells] at h; simp only [List.cons_append, Cells]; exact ⟨h.1, h.2.append k⟩
  | [], us, d :: ds, es, h, _ => by simp [Cells] at h
  | v :: vs, us, [], es, h, _ => by simp [Cells] at h
theorem Cells.rps {M : Mem} {p : Nat → Prop} {μ : Nat → Nm} : ∀ {vs : List Value} {ds : List DV}, Cells M vs ds → Rps p μ M (ds.map .d) vs
  | [], [], _ => Rps.nil_iff.2 rfl
  | v :: vs, d :: ds, h => by simp only [Cells] at h; exact Rps.cons_iff.2 ⟨v, vs, rfl, Rp.d_iff.2 h.1, h.2.rps⟩
  | [], d :: ds, h => by simp [Cells] at h
  | v :: vs, [], h => by simp [Cells] at h
theorem Cells.repR {w : World} {b : Nat} : ∀ {vs : List Value} {ds : List DV} (q : Nat), Cells (memOf w) vs ds → (∀ (i : Nat) (v : Value), vs[i]? = some v → w.cell? ⟨b, q + i, none⟩ = some v) → RepR (memOf w) b q ds
  | [], [], q, _, _ => by simp [RepR]
  | v :: vs, d :: ds, q, h, hc => by
    simp only [Cells] at h
    simp only [RepR]
    refine ⟨⟨v, by simpa [memOf] using hc 0 v rfl, h.1⟩, Cells.repR (q + 1) h.2 fun i u hi => ?_⟩
    have := hc (i + 1) u (by simpa using hi)
    rwa [show q + (i + 1) = q + 1 + i by omega] at this
  | [], d :: ds, q, h, _ => by simp [Cells] at h
  | v :: vs, [], q, h, _ => by simp [Cells] at h

section
variable {H : Type} {enc : TypeId × Value → H} {P : Program} {w : World} {sp : Nat → Bool} {held : Bool}

theorem fitTy_len : ∀ {d : Nat} {t : TypeId} {ds : List DV}, fitTy P d t = true → Fit P d t ds → ds.length = P.cellsOf t
  | 0, t, ds, h, _ => by simp [fitTy] at h
  | d + 1, t, ds, h, hf => by
    simp only [fitTy] at h
    simp only [Fit] at hf
    split at h
    · rename_i hu; rw [hu] at hf; obtain ⟨b, rfl⟩ := hf; simp at h; simp [h]
    · rename_i hu; rw [hu] at hf; obtain ⟨b, rfl, _⟩ := hf; simp at h; simp [h]
    · rename_i hu; rw [hu] at hf; exact hf.1
    · rename_i hu; rw [hu] at hf; exact hf.1
    · rename_i hu; rw [hu] at hf
      simp at h
      rcases hf with rfl | ⟨n, cs, rfl, _⟩ <;> simp [h.1.1.1]
    · cases h

theorem layF_le : ∀ {fs : List Field} {o n : Nat}, layF P o fs = some n → o ≤ n
  | [], o, n, h => by simp [layF] at h; omega
  | f :: fs, o, n, h => by
    simp only [layF] at h
    split at h
    · have := layF_le h; omega
    · cases h

mutual
/-- No row is longer than that. -/
def DV.small (B : Nat) : DV → Prop
  | .sl n cs => n ≤ B ∧ smallR B cs
  | _ => True
def smallR (B : Nat) : List DV → Prop
  | [] => True
  | c :: cs => c.small B ∧ smallR B cs
end
theorem smallR.append {B : Nat} : ∀ {cs ds : List DV}, smallR B cs → smallR B ds → smallR B (cs ++ ds)
  | [], _, _, h => h
  | _ :: _, _, h, k => by
    simp only [List.cons_append, smallR] at h ⊢
    exact ⟨h.1, h.2.append k⟩
theorem smallR_iff {B : Nat} : ∀ {cs : List DV}, smallR B cs ↔ ∀ c, c ∈ cs → c.small B
  | [] => by simp [smallR]
  | c :: cs => by simp [smallR, smallR_iff (cs := cs)]
/-- What was read of a value, and all that stands in it, weighs at most B. -/
def Wei (P : Program) (B : Nat) (t : TypeId) (y : DataW H) : Prop := ∀ n, n ∈ y.weights P t → n ≤ B
/-- What was read of a value keeps its rows short. -/
def Sm (P : Program) (t : TypeId) (ds : List DV) (y : DataW H) : Prop := ∀ (B : Nat), Wei P B t y → smallR B ds
theorem weightsAll_mem {P : Program} {e : TypeId} {n : Nat} : ∀ {xs : List (DataW H)} {x : DataW H}, x ∈ xs → n ∈ x.weights P e → n ∈ DataW.weightsAll P e xs
  | [], _, h, _ => by cases h
  | y :: ys, x, h, hn => by
    simp only [DataW.weightsAll, List.mem_append]
    rcases List.mem_cons.1 h with rfl | h
    · exact .inl hn
    · exact .inr (weightsAll_mem h hn)
theorem weightsEach_mem {P : Program} {n : Nat} : ∀ {ts : List TypeId} {xs : List (DataW H)} {j : Nat} {t : TypeId} {x : DataW H}, ts[j]? = some t → xs[j]? = some x → n ∈ x.weights P t → n ∈ DataW.weightsEach P ts xs
  | t0 :: ts, x0 :: xs, 0, t, x, ht, hx, hn => by
    simp at ht hx; subst ht; subst hx
    simp only [DataW.weightsEach, List.mem_append]; exact .inl hn
  | t0 :: ts, x0 :: xs, j + 1, t, x, ht, hx, hn => by
    simp at ht hx
    simp only [DataW.weightsEach, List.mem_append]; exact .inr (weightsEach_mem ht hx hn)
  | [], _, _, _, _, ht, _, _ => by simp at ht
  | _ :: _, [], _, _, _, _, hx, _ => by simp at hx
theorem Wei.slice {P : Program} {B : Nat} {t e : TypeId} {es sp : List (DataW H)} (hu : P.underlying t = some (.slice e)) (h : Wei P B t (.slice es sp)) : (0 < P.bytesOf e → es.length ≤ B) ∧ ∀ x, x ∈ es → Wei P B e x := by
  constructor
  · intro hp
    have := h ((es.length + sp.length) * P.bytesOf e) (by simp [DataW.weights, hu])
    have h2 : es.length * 1 ≤ (es.length + sp.length) * P.bytesOf e := Nat.mul_le_mul (by omega) hp
    omega
  · intro x hx n hn
    exact h n (by simp only [DataW.weights, hu, List.mem_cons, List.mem_append]; exact .inr (.inl (weightsAll_mem hx hn)))
theorem Wei.struct {P : Program} {B : Nat} {t : TypeId} {fs : Array Field} {xs : List (DataW H)} (hu : P.underlying t = some (.struct fs)) (h : Wei P B t (.agg xs)) {i : Nat} {f : Field} {x : DataW H} (hf : fs.toList[i]? = some f) (hx : xs[i]? = some x) : Wei P B f.type x := fun n hn =>
  h n (by simp only [DataW.weights, hu]; exact weightsEach_mem (j := i) (by rw [List.getElem?_map, hf]; rfl) hx hn)
theorem Wei.array {P : Program} {B : Nat} {t e : TypeId} {k : Nat} {xs : List (DataW H)} (hu : P.underlying t = some (.array k e)) (h : Wei P B t (.agg xs)) {x : DataW H} (hx : x ∈ xs) : Wei P B e x := fun n hn =>
  h n (by simp only [DataW.weights, hu]; exact weightsAll_mem hx hn)
/-- Fields one behind the other. -/
theorem fields_fit (d fuel : Nat) (cs : List Value) (Q : Field → DataW H → Prop) (part : ∀ f : Field, fitTy P d f.type = true → ∀ x, DataW.trod enc P w 0 sp held fuel f.type ((cs.drop f.offset).take (P.cellsOf f.type)) = some x →
      ∃ ds, Fit P d f.type ds ∧ Cells (memOf w) ((cs.drop f.offset).take (P.cellsOf f.type)) ds ∧ Sm P f.type ds x.1) :
    ∀ (fs : List Field) (o n : Nat), layF P o fs = some n → n ≤ cs.length → (∀ f ∈ fs, fitTy P d f.type = true ∧ ∃ x, DataW.trod enc P w 0 sp held fuel f.type ((cs.drop f.offset).take (P.cellsOf f.type)) = some x ∧ Q f x.1) →
      ∃ ds, ds.length = n - o ∧ Cells (memOf w) ((cs.drop o).take (n - o)) ds ∧ (∀ f ∈ fs, o ≤ f.offset ∧ Fit P d f.type ((ds.drop (f.offset - o)).take (P.cellsOf f.type))) ∧ ∀ (B : Nat), (∀ f x, Q f x → Wei P B f.type x) → smallR B ds
  | [], o, n, h, _, _ => by
    simp [layF] at h
    subst h
    exact ⟨[], by simp, by simp [Cells], by simp, fun _ _ => trivial⟩
  | f :: fs, o, n, h, hn, hf => by
    simp only [layF] at h
    split at h <;> first | (cases h; done) | skip
    rename_i ho
    have hle := layF_le h
    obtain ⟨ds2, l2, c2, f2, s2⟩ := fields_fit d fuel cs Q part fs _ n h hn fun g hg => hf g (by simp [hg])
    obtain ⟨x1, hx1, hq1⟩ := (hf f (by simp)).2
    obtain ⟨ds1, f1, c1, s1⟩ := part f (hf f (by simp)).1 x1 hx1
    have l1 := fitTy_len (hf f (by simp)).1 f1
    refine ⟨ds1 ++ ds2, by simp [l1, l2]; omega, ?_, ?_, fun B hq => (s1 B (hq _ _ hq1)).append (s2 B hq)⟩
    · have := c1.append c2
      rw [ho] at this
      have e : (cs.drop o).take (n - o) = (cs.drop o).take (P.cellsOf f.type) ++ (cs.drop (o + P.cellsOf f.type)).take (n - (o + P.cellsOf f.type)) := by
        rw [← List.drop_drop, show n - o = P.cellsOf f.type + (n - (o + P.cellsOf f.type)) by omega, List.take_add]
      rw [e]; exact this
    · intro g hg
      rcases List.mem_cons.1 hg with rfl | hg
      · refine ⟨by omega, ?_⟩
        rw [show g.offset - o = 0 by omega, List.drop_zero, List.take_left' l1]
        exact f1
      · obtain ⟨q1, q2⟩ := f2 g hg
        refine ⟨by omega, ?_⟩
        rw [List.drop_append, List.drop_eq_nil_of_le (by omega), List.nil_append, l1, show g.offset - o - P.cellsOf f.type = g.offset - (o + P.cellsOf f.type) by omega]
        exact q2

/-- Elements one behind the other. -/
theorem elems_fit (d : Nat) (e : TypeId) (he : fitTy P d e = true) (cell : Nat → List Value) (Q : DataW H → Prop) : ∀ (n k : Nat), (∀ i, i < n → ∃ ds, Fit P d e ds ∧ Cells (memOf w) (cell (k + i)) ds ∧ ∃ x, Q x ∧ Sm P e ds x) →
    ∃ ds, ds.length = n * P.cellsOf e ∧ Cells (memOf w) ((List.range' k n).flatMap cell) ds ∧ (∀ i, i < n → Fit P d e ((ds.drop (i * P.cellsOf e)).take (P.cellsOf e))) ∧ ∀ (B : Nat), (∀ x, Q x → Wei P B e x) → smallR B ds
  | 0, k, _ => ⟨[], by simp, by simp [Cells], by omega, fun _ _ => trivial⟩
  | n + 1, k, h => by
    obtain ⟨ds1, f1, c1, x1, hq1, s1⟩ := h 0 (by omega)
    have l1 := fitTy_len he f1
    obtain ⟨ds2, l2, c2, f2, s2⟩ := elems_fit d e he cell Q n (k + 1) fun i hi => by
      have := h (i + 1) (by omega)
      rwa [show k + (i + 1) = k + 1 + i by omega] at this
    refine ⟨ds1 ++ ds2, by simp [l1, l2, Nat.add_mul]; omega, ?_, fun i hi => ?_, fun B hq => (s1 B (hq _ hq1)).append (s2 B hq)⟩
    · rw [List.range'_succ, List.flatMap_cons]
      exact c1.append c2
    · cases i with
      | zero => simp [List.take_left' l1]; exact f1
      | succ i =>
        rw [Nat.add_mul, Nat.one_mul, Nat.add_comm, ← List.drop_drop, List.drop_left' l1]
        exact f2 i (by omega)

theorem cells_get {b o n : Nat} {base : Nat} {cs : List Value} (h : w.cells? base ⟨b, o, none⟩ n = some cs) : cs.length = n ∧ ∀ (i : Nat) (v : Value), cs[i]? = some v → w.cell? ⟨b, o + i, none⟩ = some v := by
  obtain ⟨_, h1, h2⟩ := World.cells?_some h
  refine ⟨h1, fun i v hi => ?_⟩
  have hlt : i < n := by
    have := (List.getElem?_eq_some_iff.1 hi).1; omega
  have := h2 i hlt
  rw [addr_add] at this
  rw [this]; exact hi

theorem trod_fit : ∀ (d fuel : Nat) (t : TypeId) (cs : List Value) (x : DataW H × List MemPlace), fitTy P d t = true → DataW.trod enc P w 0 sp held fuel t cs = some x → ∃ ds, Fit P d t ds ∧ Cells (memOf w) cs ds ∧ Sm P t ds x.1 := by
  intro d
  induction d with
  | zero => intro fuel t cs x h; simp [fitTy] at h
  | succ d ih =>
    intro fuel t cs x h hx
    simp only [fitTy] at h
    simp only [Fit]
    split at h
    · rename_i hu
      (try rw [hu])
      obtain ⟨b, rfl, _⟩ := DataW.trod_bool hu hx
      exact ⟨[.bool b], ⟨b, rfl⟩, by simp [Cells, RepD], fun _ _ => by simp [smallR, DV.small]⟩
    · rename_i k hu
      (try rw [hu])
      obtain ⟨n, rfl, _, hw⟩ := DataW.trod_int hu hx
      exact ⟨[.int k n], ⟨n, rfl, hw⟩, by simp [Cells, RepD], fun _ _ => by simp [smallR, DV.small]⟩
    · rename_i fs hu
      (try rw [hu])
      simp only [Bool.and_eq_true, beq_iff_eq, List.all_eq_true] at h
      obtain ⟨xs, n, hn, hxe, hl, hxl, hf⟩ := DataW.trod_struct hu hx
      obtain ⟨ds, l1, c1, f1, s1⟩ := fields_fit d n cs (fun f x => ∃ i, fs.toList[i]? = some f ∧ (xs.map (·.1))[i]? = some x) (fun f hft y hy => ih n f.type _ y hft hy) fs.toList 0 (P.cellsOf t) h.1 (by omega) fun f hf' => by
        refine ⟨h.2 f hf', ?_⟩
        obtain ⟨i, hi, e⟩ := List.getElem_of_mem hf'
        have hfi : fs[i]? = some f := by
          have hi' : i < fs.size := by simpa using hi
          rw [Array.getElem?_eq_getElem hi']; simpa using e
        have := hf i f hfi
        have hix : i < xs.length := by rw [hxl]; simpa using hi
        exact ⟨_, this.trans (List.getElem?_eq_getElem hix), i, by rw [Array.getElem?_toList]; exact hfi, by rw [List.getElem?_map, List.getElem?_eq_getElem hix]; rfl⟩
      refine ⟨ds, ⟨by simpa using l1, fun f hf' => by simpa using (f1 f hf').2⟩, ?_, fun B hq => s1 B fun f x ⟨i, h1, h2⟩ => Wei.struct hu (by rw [hxe] at hq; exact hq) h1 h2⟩
      rw [List.drop_zero, Nat.sub_zero, List.take_of_length_le (by omega)] at c1
      exact c1
    · rename_i n e hu
      (try rw [hu])
      simp only [Bool.and_eq_true, beq_iff_eq] at h
      obtain ⟨xs, m, hm, hxe, hl, hxl, hf⟩ := DataW.trod_array hu hx
      obtain ⟨ds, l1, c1, f1, s1⟩ := elems_fit d e h.2 (fun i => (cs.drop (i * P.cellsOf e)).take (P.cellsOf e)) (fun x => x ∈ xs.map (·.1)) n 0 fun i hi => by
        have := hf i hi
        have hix : i < xs.length := by omega
        rw [Nat.zero_add]
        obtain ⟨ds, a1, a2, a3⟩ := ih m e _ _ h.2 (this.trans (List.getElem?_eq_getElem hix))
        exact ⟨ds, a1, a2, _, List.mem_map.2 ⟨_, List.getElem_mem hix, rfl⟩, a3⟩
      have hfl : ∀ (n k : Nat) (cs : List Value), (k + n) * P.cellsOf e ≤ cs.length → (List.range' k n).flatMap (fun i => (cs.drop (i * P.cellsOf e)).take (P.cellsOf e)) = (cs.drop (k * P.cellsOf e)).take (n * P.cellsOf e) := by
        intro n
        induction n with
        | zero => intro k cs _; simp
        | succ n ihn =>
          intro k cs hk
          rw [List.range'_succ, List.flatMap_cons, ihn (k + 1) cs (by rwa [show k + 1 + n = k + (n + 1) by omega])]
          rw [show (n + 1) * P.cellsOf e = P.cellsOf e + n * P.cellsOf e by rw [Nat.add_mul]; omega, List.take_add, List.drop_drop]
          rw [show k * P.cellsOf e + P.cellsOf e = (k + 1) * P.cellsOf e by rw [Nat.add_mul]; omega]
      refine ⟨ds, ⟨by rw [l1, h.1], f1⟩, ?_, fun B hq => s1 B fun x hx' => Wei.array hu (by rw [hxe] at hq; exact hq) hx'⟩
      rw [hfl n 0 cs (by rw [hl, h.1]; simp)] at c1
      rw [Nat.zero_mul, List.drop_zero, List.take_of_length_le (by rw [hl, h.1]; exact Nat.le_refl _)] at c1
      exact c1
    · rename_i e hu
      (try rw [hu])
      simp only [Bool.and_eq_true, beq_iff_eq, decide_eq_true_eq] at h
      rcases DataW.trod_slice hu hx with ⟨rfl, _⟩ | ⟨a, len, cap, elems, rest, n, hn, rfl, hxe, _, hlc, hcm, hel, hf, _⟩
      · exact ⟨[.nils], .inl rfl, by simp [Cells, RepD], fun _ _ => by simp [smallR, DV.small]⟩
      · have hspot : 0 < len → a.spot = none := by
          intro hpos
          have := hf 0 hpos
          rw [show elems[0]? = some (elems[0]'(by omega)) from List.getElem?_eq_getElem (by omega)] at this
          obtain ⟨c0, h0, _⟩ := Option.bind_eq_some_iff.1 this
          obtain ⟨_, h1, h2⟩ := World.cells?_some h0
          have h3 := h2 0 h.1.2
          simp only [Nat.zero_mul] at h3
          have e0 : (a.add 0).add 0 = a := by simp [Addr.add]
          rw [e0] at h3
          have hsome : c0[0]? = some (c0[0]'(by omega)) := List.getElem?_eq_getElem (by omega)
          rw [hsome] at h3
          unfold World.cell? at h3
          split at h3
          · split at h3
            · cases h3
            · rename_i hs; simpa using hs
          · cases h3
        have hA : 0 < len → a = ⟨a.block, a.off, none⟩ := fun hpos => by
          have := hspot hpos
          obtain ⟨b, o, s⟩ := a
          simp at this
          subst this; rfl
        have hcell : ∀ i, i < len → ∃ c, w.cells? 0 (a.add (i * P.cellsOf e)) (P.cellsOf e) = some c ∧ ∃ ds, Fit P d e ds ∧ Cells (memOf w) c ds ∧ ∃ x, x ∈ elems.map (·.1) ∧ Sm P e ds x := by
          intro i hi
          have := hf i hi
          rw [List.getElem?_eq_getElem (show i < elems.length by omega)] at this
          obtain ⟨c, h0, h1⟩ := Option.bind_eq_some_iff.1 this
          obtain ⟨ds, a1, a2, a3⟩ := ih n e c _ h.1.1.2 h1
          exact ⟨c, h0, ds, a1, a2, _, List.mem_map.2 ⟨_, List.getElem_mem (by omega), rfl⟩, a3⟩
        let cell : Nat → List Value := fun i => ((w.cells? 0 (a.add (i * P.cellsOf e)) (P.cellsOf e)).getD [])
        have hcl : ∀ i, i < len → w.cells? 0 (a.add (i * P.cellsOf e)) (P.cellsOf e) = some (cell i) := fun i hi => by
          obtain ⟨c, h0, _⟩ := hcell i hi
          simp only [cell]; rw [h0]; rfl
        obtain ⟨ds, l1, c1, f1, s1⟩ := elems_fit d e h.1.1.2 cell (fun x => x ∈ elems.map (·.1)) len 0 fun i hi => by
          obtain ⟨c, h0, h1⟩ := hcell i hi
          rw [Nat.zero_add]
          simp only [cell]; rw [h0]; exact h1
        refine ⟨[.sl len ds], .inr ⟨len, ds, rfl, by unfold maxLen at hcm; omega, l1, f1⟩, ?_, fun B hq => ?_⟩
        rotate_left
        · rw [hxe] at hq
          simp only [smallR, DV.small, and_true]
          obtain ⟨g1, g2⟩ := Wei.slice hu hq
          have := g1 h.2
          rw [List.length_map, hel] at this
          exact ⟨this, s1 B fun x hx' => g2 x hx'⟩
        simp only [Cells, RepD, and_true]
        refine ⟨some a, cap, rfl, hlc, fun h0 => ?_, fun hpos => ⟨a.block, a.off, by rw [← hA hpos], ?_⟩⟩
        · subst h0; simp at l1; exact l1
        · refine Cells.repR a.off c1 fun i v hi => ?_
          have key : ∀ (n k i : Nat) (v : Value), k + n ≤ len → ((List.range' k n).flatMap cell)[i]? = some v → w.cell? ⟨a.block, a.off + k * P.cellsOf e + i, none⟩ = some v := by
            intro n
            induction n with
            | zero => intro k i v _ h; simp at h
            | succ n ihn =>
              intro k i v hk hv
              rw [List.range'_succ, List.flatMap_cons] at hv
              have hck := hcl k (by omega)
              rw [hA (by omega), addr_add] at hck
              obtain ⟨g1, g2⟩ := cells_get hck
              by_cases hlt : i < (cell k).length
              · rw [List.getElem?_append_left hlt] at hv
                exact g2 i v hv
              · rw [List.getElem?_append_right (by omega), g1] at hv
                have := ihn (k + 1) (i - P.cellsOf e) v (by omega) hv
                rwa [show a.off + (k + 1) * P.cellsOf e + (i - P.cellsOf e) = a.off + k * P.cellsOf e + i by rw [Nat.add_mul]; omega] at this
          have := key len 0 i v (by omega) hi
          simpa using this
    · cases h

/-- An argument's value, of its cells. -/
def argSV (P : Program) (t : TypeId) (ds : List DV) : SV :=
  match tySz P t with
  | some (some _) => .agg (ds.map .d)
  | _ => .d (ds.headD .nilp)

def FitAll (P : Program) (d : Nat) : List TypeId → List (List DV) → Prop
  | [], [] => True
  | t :: ts, x :: xs => Fit P d t x ∧ FitAll P d ts xs
  | _, _ => False
def argSVs (P : Program) : List TypeId → List (List DV) → List SV
  | t :: ts, x :: xs => argSV P t x :: argSVs P ts xs
  | _, _ => []


def FitTys (P : Program) (d : Nat) (ts : List TypeId) : Bool := ts.all fun t => fitTy P d t && (P.readableRec t && decide (t < P.types.size))

theorem arg_rep {t : TypeId} {v : Value} {d : Nat} {x : DataW H} {ps : List MemPlace} {r : Reach} {b0 : Nat} (hf : fitTy P d t = true) (hv : Value.okWide P w r b0 t v) (h : DataW.Trod enc P w 0 sp held t v x ps) (p : Nat → Prop) (μ : Nat → Nm) :
    ∃ ds, Fit P d t ds ∧ Rp p μ (memOf w) (argSV P t ds) v ∧ Sm P t ds x := by
  obtain ⟨fuel, hx⟩ := h
  obtain ⟨ds, h1, h2, h3⟩ := trod_fit d fuel t _ _ hf hx
  refine ⟨ds, h1, ?_, h3⟩
  have hinfo : ∃ i, P.info? t = some i := by
    cases hi : P.info? t with
    | some i => exact ⟨i, rfl⟩
    | none =>
      exfalso
      cases d with
      | zero => simp [fitTy] at hf
      | succ d => simp [fitTy, Program.underlying, hi] at hf
  obtain ⟨i, hi⟩ := hinfo
  have one : ∀ (hs : tySz P t = some none) (hvc : v.cells.toList = [v]), Rp p μ (memOf w) (argSV P t ds) v := by
    intro hs hvc
    rw [hvc] at h2
    match ds, h2 with
    | [y], h2 =>
      simp only [Cells] at h2
      simp only [argSV, hs, List.headD_cons]
      exact Rp.d_iff.2 h2.1
    | [], h2 => simp [Cells] at h2
    | y :: z :: r, h2 => simp [Cells] at h2
  have agg : ∀ (n : Nat) (hs : tySz P t = some (some n)) (cs : Array Value) (hvc : v = .agg cs), Rp p μ (memOf w) (argSV P t ds) v := by
    intro n hs cs hvc
    subst hvc
    simp only [argSV, hs]
    exact Rp.agg_iff.2 ⟨cs, rfl, Cells.rps h2⟩
  cases d with
  | zero => simp [fitTy] at hf
  | succ d =>
    simp only [fitTy] at hf
    split at hf
    · rename_i hu
      obtain ⟨b, rfl⟩ := okWide_bool hu hv
      exact one (by simp [tySz, hu, hi]) rfl
    · rename_i hu
      obtain ⟨b, rfl⟩ := okWide_int hu hv
      exact one (by simp [tySz, hu, hi]) rfl
    · rename_i fs hu
      obtain ⟨cs, rfl, _⟩ := okWide_struct hu hv
      exact agg i.size (by simp [tySz, hu, hi]) cs rfl
    · rename_i n e hu
      unfold Value.okWide at hv
      rw [hu] at hv
      obtain ⟨cs, rfl, _⟩ := hv
      exact agg i.size (by simp [tySz, hu, hi]) cs rfl
    · rename_i e hu
      obtain ⟨a, len, cap, rfl⟩ := okWide_slice hu hv
      exact one (by simp [tySz, hu, hi]) rfl
    · cases hf

theorem args_rep {d : Nat} {r : Reach} {b0 : Nat} (p : Nat → Prop) (μ : Nat → Nm) : ∀ (ts : List TypeId) (vs : List Value) (xs : List (DataW H)) (ps : List MemPlace), FitTys P d ts = true → DataW.TrodAll enc P w 0 sp held ts vs xs ps →
    (∀ (j : Nat) t v, ts[j]? = some t → vs[j]? = some v → Value.okWide P w r b0 t v) → ∃ dss, FitAll P d ts dss ∧ Rps p μ (memOf w) (argSVs P ts dss) vs ∧ xs.length = ts.length ∧ ∀ (B : Nat), (∀ n, n ∈ DataW.weightsEach P ts xs → n ≤ B) → ∀ ds, ds ∈ dss → smallR B ds
  | [], vs, xs, ps, _, h, _ => by
    obtain ⟨rfl, rfl, _⟩ := trodAll_nil h
    exact ⟨[], trivial, Rps.nil_iff.2 rfl, rfl, fun _ _ _ h => by cases h⟩
  | t :: ts, vs, xs, ps, hf, h, hv => by
    obtain ⟨v, vs', x, xs', p1, p2, rfl, rfl, rfl, h1, h2⟩ := trodAll_cons h
    simp only [FitTys, List.all_cons, Bool.and_eq_true] at hf
    obtain ⟨ds, a1, a2, a3⟩ := arg_rep (P := P) hf.1.1 (hv 0 t v rfl rfl) h1 p μ
    obtain ⟨dss, b1, b2, b3, b4⟩ := args_rep p μ ts vs' xs' p2 (by simpa [FitTys] using hf.2) h2 fun j t' v' ht hv' => hv (j + 1) t' v' (by simpa using ht) (by simpa using hv')
    refine ⟨ds :: dss, ⟨a1, b1⟩, Rps.cons_iff.2 ⟨v, vs', rfl, a2, b2⟩, by simp [b3], fun B hq ds' hd => ?_⟩
    rcases List.mem_cons.1 hd with rfl | hd
    · exact a3 B fun n hn => hq n (by simp only [DataW.weightsEach, List.mem_append]; exact .inl hn)
    · exact b4 B (fun n hn => hq n (by simp only [DataW.weightsEach, List.mem_append]; exact .inr hn)) ds' hd

theorem trodAll_stays {d : Nat} (hl : laidOutB P = true) {W W' : World} {sp' : Nat → Bool} : ∀ (ts : List TypeId) (vs : List Value) (xs : List (DataW H)) (ps : List MemPlace), FitTys P d ts = true → DataW.TrodAll enc P W 0 (fun _ => true) true ts vs xs ps →
    (∀ x ∈ ps, W.sameAt W' x) → (∀ x ∈ ps, sp' x.block = true) → DataW.TrodAll enc P W' 0 sp' true ts vs xs ps
  | [], vs, xs, ps, _, h, _, _ => by
    obtain ⟨rfl, rfl, rfl⟩ := trodAll_nil h
    exact trodAll_mk0
  | t :: ts, vs, xs, ps, hf, h, hs, hp => by
    obtain ⟨v, vs', x, xs', p1, p2, rfl, rfl, rfl, h1, h2⟩ := trodAll_cons h
    simp only [FitTys, List.all_cons, Bool.and_eq_true, decide_eq_true_eq] at hf
    exact trodAll_cons_mk (WideElems.Trod_stays hl hf.1.2.1 hf.1.2.2 h1 (fun q hq => hs q (by simp [hq])) (fun q hq => hp q (by simp [hq])))
      (trodAll_stays hl ts vs' xs' p2 (by simpa [FitTys] using hf.2) h2 (fun q hq => hs q (by simp [hq])) (fun q hq => hp q (by simp [hq])))

/-- The row's last step, of a world of which only 'Below' is known. -/
theorem post_of_below {f : Func} {s : ChangeSpec} {apart fresh handsOn again : Bool} {W W' : World} {args : Array Value} {v : Value} {ds gs : List (DataW H)} {before pa pv : List MemPlace}
    (hW : DataW.Whole enc P f.params.toList s.vars apart W args.toList ds gs before)
    (hres : ∀ (b : Nat) (sp : Nat → Bool) (hd : Bool), DataW.TrodAll enc P W' b sp hd f.resultTypes.toList (v.resultList f.resultTypes.size) (s.fn H (ds ++ gs)).results [])
    (hargs : ∀ sp : Nat → Bool, (∀ p ∈ before, sp p.block = true) → DataW.TrodAll enc P W' 0 sp true f.params.toList args.toList (s.fn H (ds ++ gs)).args pa)
    (hvars : ∀ sp : Nat → Bool, (∀ p ∈ before, sp p.block = true) → DataW.TrodVars enc P W' sp s.vars (s.fn H (ds ++ gs)).vars pv)
    (hps : before = pa ++ pv) (hb : Below W.heap.size W W')
    (hok : ∀ (j : Nat) (t : TypeId) (r : Value), f.resultTypes[j]? = some t → (v.resultList f.resultTypes.size)[j]? = some r → Value.okWide P W' .any 0 t r) :
    s.post enc P f apart fresh handsOn again W args v W' := by
  have hlt : ∀ p ∈ before, p.block < W.heap.size := fun p hp => hW.lt p hp
  have hold : ∀ p ∈ before, (fun b => decide (b < W.heap.size)) p.block = true := fun p hp => by simpa using hlt p hp
  refine ⟨ds, gs, before, [], pa, pv, hW, hres _ _ _, hargs _ hold, hvars _ hold, World.keptBut_mono (fun p hp => ⟨hp, ?_⟩) (hb.frame (· ∈ before)), fun _ => ?_⟩
  · rw [hps, List.mem_append] at hp
    exact Or.inr hp
  · obtain ⟨_, _, _, _, _, hz, hn⟩ := hW
    refine ⟨hok, _, _, ([] ++ pa) ++ pv, ⟨[] ++ pa, pv, trodAll_append (hargs _ (fun _ _ => rfl)) (hres _ _ _), hvars _ (fun _ _ => rfl), rfl, ?_, ?_⟩, ?_⟩
    · intro b off hp
      have hin : MemPlace.cell b off ∈ before := by rw [hps]; simpa using hp
      rw [hb.frozen (hlt _ hin)]
      exact hz b off hin
    · intro ha
      have := hn ha
      rw [hps] at this
      simpa using this
    · intro p hp _
      rw [hps]
      simpa using hp

/-- A LAW: its contract, by what its arguments read as. -/
theorem law_calls {f : FuncId} {fn : Func} {spec : ChangeSpec} {tb : TypeId} (d : Nat) (hl : laidOutB P = true) (hts : FitTys P d fn.params.toList = true) (hres : fn.resultTypes = #[tb]) (htb : P.underlying tb = some .bool) (hvars : spec.vars = [])
    (hspec : ∀ ds : List (DataW H), ds.length = fn.params.toList.length → (spec.fn H ds).results = [.lit (.bool true)] ∧ (spec.fn H ds).args = ds ∧ (spec.fn H ds).vars = [])
    (B : Nat)
    (hlaw : ∀ dss, FitAll P d fn.params.toList dss → (∀ ds, ds ∈ dss → smallR B ds) → SB P f (argSVs P fn.params.toList dss) [] 0 0 fun r F => r = bl true)
    (W : World) (base : Nat) (args : Array Value) (ds gs : List (DataW H)) (before : List MemPlace)
    (hval : ∀ (j : Nat) t v, fn.params[j]? = some t → args[j]? = some v → Value.okWide P W .any base t v)
    (hW : DataW.Whole enc P fn.params.toList spec.vars false W args.toList ds gs before) (hG : GlobOk (memOf W)) (hB : ∀ n, n ∈ DataW.weightsEach P fn.params.toList ds → n ≤ B) :
    Calls P f args W fun e W' => ∃ v, e = .returned v ∧ spec.post enc P fn false true false false W args v W' := by
  have hW' := hW
  obtain ⟨p, q, hA, hV, rfl, hfz, hnd⟩ := hW
  rw [hvars] at hV
  obtain ⟨rfl, rfl⟩ := trodVars_none hV
  obtain ⟨dss, h1, h2, h3, h4⟩ := args_rep (P := P) (d := d) (fun n => n < 0) (fun _ => ⟨0, 0, true⟩) fn.params.toList args.toList ds p hts hA fun j t v ht hv => hval j t v (by simpa using ht) (by simpa using hv)
  refine ((hlaw dss h1 (h4 B hB)).2.2.2 (fun _ => ⟨0, 0, true⟩) (memOf W) W args h2 ⟨⟨fun b o v h => h, hG⟩, fun n ob h => by simp [lk_nil] at h, fun n m h => by simp [lk_nil] at h⟩).mono ?_
  rintro e W' ⟨r, F', μ', M', u, rfl, rfl, _, _, hr, _, hE⟩
  have hu : u = .bool true := by simpa [Rep, RepD] using hr
  subst hu
  have hb : Below W.heap.size W W' := ⟨hE.os, hE.tape.1, hE.output, hE.size, fun b hb => (hE.frame b hb fun n hn => by simp [lk_nil] at hn).1⟩
  obtain ⟨s1, s2, s3⟩ := hspec (ds ++ []) (by simpa using h3)
  refine ⟨_, rfl, post_of_below (pa := p) (pv := []) hW' (fun b sp hd => ?_) (fun sp hsp => ?_) (fun sp hsp => ?_) rfl hb ?_⟩
  · rw [s1, hres]
    exact trodAll_cons_mk (shut_bool htb _) trodAll_mk0
  · rw [s2]
    simp only [List.append_nil] at hsp ⊢
    exact trodAll_stays hl _ _ _ _ hts hA (fun x hx => hb.same (hW'.lt x (by simpa using hx))) hsp
  · rw [hvars, s3]
    rfl
  · exact ok_one hres rfl (okWide_bool_mk htb _)
end
end Go.Sl

/-
  Rows that nobody writes any more; contracts at the caller's names; nil rows as empty ones.
-/
set_option linter.unusedSectionVars false
set_option linter.unusedVariables false
set_option linter.unusedSimpArgs false
namespace Go.Sl
open Go.RowKit

/-! ### a row becomes a value -/
mutual
def SV.frz (n len : Nat) (ds : List DV) : SV → SV
  | .gs m l => if m = n then (if l = len then .d (.sl len ds) else .any) else .gs m l
  | .agg cs => .agg (SV.frzs n len ds cs)
  | .tup cs => .tup (SV.frzs n len ds cs)
  | s => s
def SV.frzs (n len : Nat) (ds : List DV) : List SV → List SV
  | [] => []
  | c :: cs => c.frz n len ds :: SV.frzs n len ds cs
end
def frzE (n len : Nat) (ds : List DV) (env : List (Nat × SV)) : List (Nat × SV) := env.map fun x => (x.1, x.2.frz n len ds)

theorem lookup_frz (n len : Nat) (ds : List DV) : ∀ (env : List (Nat × SV)) (t : Nat), (frzE n len ds env).lookup t = (env.lookup t).map (SV.frz n len ds)
  | [], t => rfl
  | (q, s) :: env, t => by
    simp only [frzE, List.map_cons, List.lookup]
    cases t == q
    · exact lookup_frz n len ds env t
    · rfl

mutual
theorem SV.frz_rep {p : Nat → Prop} {μ : Nat → Nm} {M : Mem} {n len : Nat} {ds : List DV} (hg : ∀ v, Rp p μ M (.gs n len) v → Rp p μ M (.d (.sl len ds)) v) : ∀ (s : SV) (v : Value), Rp p μ M s v → Rp p μ M (s.frz n len ds) v
  | .gs m l, v, h => by
    simp only [SV.frz]
    split
    · rename_i e; subst e
      split
      · rename_i e; subst e
        exact hg v h
      · exact Rp.any
    · exact h
  | .agg cs, v, h => by
    obtain ⟨vs, e, h1⟩ := Rp.agg_iff.1 h
    simp only [SV.frz]
    exact Rp.agg_iff.2 ⟨vs, e, SV.frzs_rep hg cs _ h1⟩
  | .tup cs, v, h => by
    obtain ⟨vs, e, h1⟩ := Rp.tup_iff.1 h
    simp only [SV.frz]
    exact Rp.tup_iff.2 ⟨vs, e, SV.frzs_rep hg cs _ h1⟩
  | .d _, v, h => h
  | .ptr _ _, v, h => h
  | .vp _ _, v, h => h
  | .bs _ _ _, v, h => h
  | .mp _, v, h => h
  | .it _, v, h => h
  | .yl _, v, h => h
  | .fn _ _ _, v, h => h
  | .any, v, h => h
theorem SV.frzs_rep {p : Nat → Prop} {μ : Nat → Nm} {M : Mem} {n len : Nat} {ds : List DV} (hg : ∀ v, Rp p μ M (.gs n len) v → Rp p μ M (.d (.sl len ds)) v) : ∀ (s : List SV) (v : List Value), Rps p μ M s v → Rps p μ M (SV.frzs n len ds s) v
  | [], v, h => h
  | c :: cs, v, h => by
    obtain ⟨u, us, e, h1, h2⟩ := Rps.cons_iff.1 h
    simp only [SV.frzs]
    exact Rps.cons_iff.2 ⟨u, us, e, SV.frz_rep hg c u h1, SV.frzs_rep hg cs us h2⟩
end

theorem Rps.d_get {p : Nat → Prop} {μ : Nat → Nm} {M : Mem} {ds : List DV} {vs : List Value} (h : Rps p μ M (ds.map .d) vs) {i : Nat} {x : DV} (hi : ds[i]? = some x) : ∃ u, vs[i]? = some u ∧ RepD M x u := by
  obtain ⟨u, hu, hr⟩ := h.get (i := i) (c := .d x) (by simp [hi])
  exact ⟨u, hu, Rp.d_iff.1 hr⟩

section
variable {P : Program} {N k0 : Nat} {st : St} {Q : Exit → St → Prop}

theorem StA.freeze {μ0 : Nat → Nm} {M0 : Mem} {w0 : World} {c0 : Nat → Option Ob} {a : Act} {w : World} (n : Nat) {e sz len : Nat} {cs : List SV} {ds : List DV} (hn : lk st.hp n = some (.arr e sz len cs)) (hcs : cs = ds.map .d)
    (h : StA N μ0 M0 w0 c0 k0 st a w) : StA N μ0 M0 w0 c0 k0 ⟨frzE n len ds st.env, hdel st.hp n, st.k⟩ a w := by
  subst hcs
  obtain ⟨hk0, hdf, hsz, μ, M, hsl, hS, hE⟩ := h
  obtain ⟨hpn, hob, hMn⟩ := hS.obs n _ hn
  rcases hob with ⟨hdead, hl0, hds⟩ | ⟨hlive, vs, hb, hl1, hl2, hl3, hl4, hr⟩
  · have hd0 : ds = [] := by simpa using hds
    subst hd0; subst hl0
    have hg : ∀ v, Rp (· < st.k) μ M (.gs n 0) v → Rp (· < st.k) μ M (.d (.sl 0 [])) v := fun v hv => by
      refine Rp.d_iff.2 ?_
      simp only [RepD]
      obtain ⟨h, _⟩ | ⟨_, _, A, e1⟩ := hv.gs_of
      · rw [hdead] at h; cases h
      · exact ⟨A, 0, e1, Nat.le_refl _, fun _ => trivial, fun h => absurd h (Nat.lt_irrefl _)⟩
    have hsub : ∀ m ob, lk (hdel st.hp n) m = some ob → lk st.hp m = some ob := fun m ob hm => by
      rw [lk_hdel] at hm
      split at hm
      · cases hm
      · exact hm
    refine ⟨hk0, hdf, hsz, μ, M, fun t s hs => ?_, hS.sub hsub, hE.fewer fun m hm => ?_⟩
    · rw [lookup_frz] at hs
      obtain ⟨s', hs', rfl⟩ := Option.map_eq_some_iff.1 hs
      exact SV.frz_rep hg s' _ (hsl t s' hs')
    · obtain ⟨o1, ho1⟩ := Option.ne_none_iff_exists'.1 hm
      rw [hsub m o1 ho1]; simp
  have hMn := hMn hlive
  have hlen : ds.length = len * sz := by simpa using hl1
  let M' : Mem := fun b o => if b = (μ n).blk then (if o < len * sz then vs[o]? else none) else M b o
  have hne : ∀ b, b ≠ (μ n).blk → ∀ o, M' b o = M b o := fun b hb o => by simp [M', hb]
  have hle : Mem.le M M' := fun b o v hv => by
    have : b ≠ (μ n).blk := fun e => by rw [e, hMn] at hv; cases hv
    rw [hne b this]; exact hv
  have hoth : ∀ m, lk st.hp m ≠ none → m ≠ n → (μ m).live = true → (μ m).blk ≠ (μ n).blk := fun m hm hmn lm e => hmn (hS.inj m n hm (by rw [hn]; simp) lm hlive e)
  have hsub : ∀ m ob, lk (hdel st.hp n) m = some ob → lk st.hp m = some ob ∧ m ≠ n := fun m ob hm => by
    rw [lk_hdel] at hm
    split at hm
    · cases hm
    · rename_i e; exact ⟨hm, e⟩
  have hg : ∀ v, Rp (· < st.k) μ M' (.gs n len) v → Rp (· < st.k) μ M' (.d (.sl len ds)) v := fun v hv => by
    obtain ⟨_, e1⟩ | ⟨h, _⟩ := hv.gs_of
    rotate_left
    · rw [hlive] at h; cases h
    refine Rp.d_iff.2 ?_
    simp only [RepD]
    refine ⟨_, _, e1, hl2, fun h0 => ?_, fun _ => ⟨_, _, rfl, RepR.mk fun i c hi => ?_⟩⟩
    · subst h0
      simp at hlen
      exact hlen
    · obtain ⟨u, hu, hru⟩ := hr.d_get hi
      have hil : i < len * sz := by rw [← hlen]; exact (List.getElem?_eq_some_iff.1 hi).1
      refine ⟨u, ?_, RepD.mono hle _ _ hru⟩
      rw [List.getElem?_take_of_lt hil] at hu
      simp only [M', if_true, Nat.zero_add, hil]
      simpa using hu
  refine ⟨hk0, hdf, hsz, μ, M', fun t s hs => ?_, ⟨⟨fun b o v hv => ?_, hS.mem.glob.le hle⟩, fun m ob hm => ?_, fun m m' hm hm' lm lm' e => ?_⟩, ⟨hE.old, Mem.le_trans hE.mem hle, fun b hb0 hf => ?_, hE.size, fun m hm => ?_, hE.os, hE.tape, hE.output⟩⟩
  · rw [lookup_frz] at hs
    obtain ⟨s', hs', rfl⟩ := Option.map_eq_some_iff.1 hs
    exact SV.frz_rep hg s' _ ((hsl t s' hs').more (fun _ h => h) (fun _ _ => rfl) hle)
  · by_cases hbn : b = (μ n).blk
    · subst hbn
      simp only [M', if_true] at hv
      split at hv
      · rw [cell_of hb]; exact hv
      · cases hv
    · rw [hne b hbn] at hv
      exact hS.mem b o v hv
  · obtain ⟨hm1, hmn⟩ := hsub m ob hm
    obtain ⟨a1, a2, a3⟩ := hS.obs m ob hm1
    refine ⟨a1, a2.more (fun _ h => h) (fun _ _ => rfl) hle fun _ => rfl, fun lm o => ?_⟩
    rw [hne _ (hoth m (by rw [hm1]; simp) hmn lm)]
    exact a3 lm o
  · obtain ⟨o1, ho1⟩ := Option.ne_none_iff_exists'.1 hm
    obtain ⟨o2, ho2⟩ := Option.ne_none_iff_exists'.1 hm'
    exact hS.inj m m' (by rw [(hsub m o1 ho1).1]; simp) (by rw [(hsub m' o2 ho2).1]; simp) lm lm' e
  · have hbn : b ≠ (μ n).blk := fun e => by
      rcases hE.names n (by rw [hn]; simp) with ⟨_, hh⟩ | ⟨h, h'⟩
      · rcases hh hlive with h | ⟨m, hm, lm, e'⟩
        · omega
        · exact hf m hm lm (e'.trans e.symm)
      · rw [hE.old n h] at e hlive
        exact hf n h' hlive e.symm
    obtain ⟨f1, f2⟩ := hE.frame b hb0 hf
    exact ⟨f1, fun o => by rw [hne b hbn]; exact f2 o⟩
  · obtain ⟨o1, ho1⟩ := Option.ne_none_iff_exists'.1 hm
    exact hE.names m (by rw [(hsub m o1 ho1).1]; simp)

/-- A row that is not written any more is a value. -/
theorem SW.freeze {s : SCo} (n : Nat) {e sz len : Nat} {cs : List SV} (ds : List DV) (hn : lk st.hp n = some (.arr e sz len cs)) (hcs : cs = ds.map .d) (h : SW P N k0 s ⟨frzE n len ds st.env, hdel st.hp n, st.k⟩ Q) : SW P N k0 s st Q :=
  fun c hc rd hrf μ0 M0 w0 c0 a w hSt => h c hc rd hrf μ0 M0 w0 c0 a w (hSt.freeze n hn hcs)

/-- A slot that is nil is a row of one's own, with nothing in it. -/
theorem StA.nilrow {μ0 : Nat → Nm} {M0 : Mem} {w0 : World} {c0 : Nat → Option Ob} {a : Act} {w : World} (t : Nat) (e sz : Nat) (ht : st.env.lookup t = some (.d .nils)) (h : StA N μ0 M0 w0 c0 k0 st a w) :
    StA N μ0 M0 w0 c0 k0 ⟨(t, .gs st.k 0) :: st.env, (st.k, .arr e sz 0 []) :: st.hp, st.k + 1⟩ a w := by
  obtain ⟨hk0, hdf, hsz, μ, M, hsl, hS, hE⟩ := h
  have hmu := upN_p (μ := μ) (m := ⟨0, 0, false⟩) (p := (· < st.k)) (k := st.k) (Nat.lt_irrefl _)
  have hup : ∀ n, n < st.k → n < st.k + 1 := fun n h => by omega
  have hlt : ∀ n ob, lk st.hp n = some ob → n < st.k := fun n ob h => (hS.obs n ob h).1
  refine ⟨by show k0 ≤ st.k + 1; omega, hdf, hsz, upN μ st.k ⟨0, 0, false⟩, M, fun u s hs => ?_, ⟨hS.mem, fun n ob hn => ?_, fun n m hn hm ln lm e => ?_⟩, ⟨fun n hn => ?_, hE.mem, hE.frame, hE.size, fun n hn => ?_, hE.os, hE.tape, hE.output⟩⟩
  · rw [lookup_upd] at hs
    split at hs
    · rename_i e1
      subst e1
      injection hs with hs
      subst hs
      have h1 := (hsl t _ ht).rep
      simp only [Rep, RepD] at h1
      intro ν hν
      simp only [Rep]
      rw [hν st.k (Nat.lt_succ_self _), upN_same]
      exact .inr ⟨rfl, trivial, none, h1⟩
    · exact (hsl u s hs).more hup hmu (Mem.le_refl M)
  · rw [lk_cons] at hn
    split at hn
    · rename_i e1
      subst e1
      injection hn with hn
      subst hn
      rw [upN_same]
      exact ⟨Nat.lt_succ_self _, .inl ⟨rfl, rfl, rfl⟩, fun h => by cases h⟩
    · obtain ⟨a1, a2, a3⟩ := hS.obs n ob hn
      rw [hmu n a1]
      exact ⟨hup n a1, a2.more hup hmu (Mem.le_refl M) fun _ => rfl, a3⟩
  · rw [lk_cons] at hn hm
    by_cases e1 : n = st.k
    · subst e1; rw [upN_same] at ln; cases ln
    · by_cases e2 : m = st.k
      · subst e2; rw [upN_same] at lm; cases lm
      · rw [if_neg e1] at hn
        rw [if_neg e2] at hm
        obtain ⟨o1, ho1⟩ := Option.ne_none_iff_exists'.1 hn
        obtain ⟨o2, ho2⟩ := Option.ne_none_iff_exists'.1 hm
        rw [hmu n (hlt n o1 ho1)] at e ln
        rw [hmu m (hlt m o2 ho2)] at e lm
        exact hS.inj n m hn hm ln lm e
  · simp only at hn
    by_cases e1 : n = st.k
    · subst e1; omega
    · rw [upN_other _ _ _ e1]; exact hE.old n (by omega)
  · rw [lk_cons] at hn
    by_cases e1 : n = st.k
    · subst e1
      rw [upN_same]
      exact .inl ⟨⟨by omega, Nat.lt_succ_self _⟩, fun h => by cases h⟩
    · rw [if_neg e1] at hn
      obtain ⟨o1, ho1⟩ := Option.ne_none_iff_exists'.1 hn
      rw [hmu n (hlt n o1 ho1)]
      rcases hE.names n hn with ⟨b1, b2⟩ | ⟨b1, b2⟩
      · exact .inl ⟨⟨b1.1, by have := b1.2; show n < st.k + 1; omega⟩, b2⟩
      · refine .inr ⟨fun h => ?_, b2⟩
        have : n < st.k := hlt n o1 ho1
        exact b1 ⟨h.1, this⟩
theorem SW.nilrow {s : SCo} (t : Nat) (e sz : Nat) (ht : st.env.lookup t = some (.d .nils)) (h : SW P N k0 s ⟨(t, .gs st.k 0) :: st.env, (st.k, .arr e sz 0 []) :: st.hp, st.k + 1⟩ Q) : SW P N k0 s st Q :=
  fun c hc rd hrf μ0 M0 w0 c0 a w hSt => h c hc rd hrf μ0 M0 w0 c0 a w (hSt.nilrow t e sz ht)

/-- nil is an empty row. -/
theorem RepD.nils_sl {M : Mem} {v : Value} (h : RepD M .nils v) : RepD M (.sl 0 []) v := by
  simp only [RepD] at h ⊢
  exact ⟨none, 0, h, Nat.le_refl _, fun _ => trivial, fun h => absurd h (Nat.lt_irrefl _)⟩

/-- Arguments that say more. -/
theorem SC.args {f : FuncId} {args args' : List SV} {F : Hp} {k nk : Nat} {Q : SV → Hp → Prop} (ha : ∀ (p : Nat → Prop) μ M vs, Rps p μ M args' vs → Rps p μ M args vs) (h : SC P f args F k nk Q) : SC P f args' F k nk Q :=
  ⟨h.1, fun p μ M w vals h1 h2 h3 => h.2 p μ M w vals h1 (ha p μ M _ h2) h3⟩
end

/-! ### contracts at the caller's names -/
theorem SV.rens_none {ρ : Nat → Nat} : ∀ {l : List SV}, SV.oks (fun n => decide (n < 0)) l = true → SV.rens ρ l = l
  | [], _ => rfl
  | c :: cs, h => by
    simp only [SV.oks, Bool.and_eq_true] at h
    simp only [SV.rens, SV.none_both c h.1, SV.rens_none h.2]

def atN (ns : List Nat) (k : Nat) (i : Nat) : Nat := match ns[i]? with
  | some n => n
  | none => i - ns.length + k

theorem mem_lk : ∀ {h : Hp} {n : Nat} {ob : Ob}, (n, ob) ∈ h → ∃ ob', lk h n = some ob'
  | [], n, ob, h => by simp at h
  | (m, o) :: h, n, ob, hm => by
    rw [lk_cons]
    by_cases e : n = m
    · exact ⟨o, by simp [e]⟩
    · rw [if_neg e]
      rcases List.mem_cons.1 hm with h1 | h1
      · injection h1 with h1 _; exact absurd h1 e
      · exact mem_lk h1

theorem SB.atL {P : Program} {f : FuncId} {args : List SV} {F F' : Hp} {nk : Nat} {r : SV} (ns : List Nat) (h : SB P f args F ns.length nk fun r' F1 => r' = r ∧ F1 = F') (hd : ns.Nodup) (hF : ∀ i, i < ns.length → lk F i ≠ none) (k : Nat) :
    SCd P f (SV.rens (atN ns k) args) (F.ren (atN ns k)) k nk (r.ren (atN ns k)) (F'.ren (atN ns k)) := by
  have hlt : ∀ i, i < ns.length → ns[i]? = some (atN ns k i) := fun i hi => by simp [atN, hi]
  have := SB.at h (atN ns k) k (fun n m hn hm e => ?_) (fun n hn p μ M w vals _ hS => ?_) (fun i hi => ?_)
  · refine this.mono ?_
    rintro r' F1 ⟨r0, F0, ⟨rfl, rfl⟩, rfl, rfl⟩
    exact ⟨rfl, rfl⟩
  · have h1 := hlt n hn
    have h2 := hlt m hm
    rw [e] at h1
    exact (List.getElem?_inj hn hd).1 (h1.trans h2.symm)
  · obtain ⟨ob, ho⟩ := Option.ne_none_iff_exists'.1 (hF n hn)
    have hm : (atN ns k n, ob.ren (atN ns k)) ∈ F.ren (atN ns k) := List.mem_map.2 ⟨(n, ob), lk_mem ho, rfl⟩
    obtain ⟨ob', ho'⟩ := mem_lk hm
    exact (hS.obs _ _ ho').1
  · simp [atN]; omega

theorem SB.new {P : Program} {f : FuncId} {args : List SV} {F' : Hp} {nk : Nat} {r : SV} (h : SB P f args [] 0 nk fun r' F1 => r' = r ∧ F1 = F') (k : Nat) :
    SCd P f args [] k nk (r.ren (atN [] k)) (F'.ren (atN [] k)) := by
  have := SB.atL [] h (by simp) (fun i hi => absurd hi (Nat.not_lt_zero i)) k
  rwa [SV.rens_none h.2.1] at this

@[simp] theorem HSub_nil (h : Hp) : HSub [] h ↔ True := ⟨fun _ => trivial, fun _ => HSub.nil h⟩
@[simp] theorem HSub_one (h : Hp) (n : Nat) (ob : Ob) : HSub [(n, ob)] h ↔ lk h n = some ob := by
  refine ⟨fun hs => hs n ob (by simp [lk_one]), fun hs m ob' hm => ?_⟩
  rw [lk_one] at hm
  split at hm
  · rename_i e; subst e; simp at hm; subst hm; exact hs
  · cases hm

def Vec.zero : Vec := ⟨0, 0, 0, 0, 0, 0, 0, 0⟩
theorem Vec.zero_cells : [SV.d (.int .u32 0), .d (.int .u32 0), .d (.int .u32 0), .d (.int .u32 0), .d (.int .u32 0), .d (.int .u32 0), .d (.int .u32 0), .d (.int .u32 0)] = Vec.zero.cells := rfl
@[simp] theorem Vec.take_all (v : Vec) : v.cells.take 8 = v.cells := rfl
theorem Vec.spl_all (u v : Vec) : spl u.cells 0 v.cells = v.cells := rfl
theorem Vec.spl_set (v : Vec) {i : Nat} (h : i < 8) (x : Nat) : spl v.cells i [.d (.int .u32 (x : Int))] = (v.set i x).cells := Vec.cells_set v h x
attribute [simp] Vec.cells_len Vec.ds_len Vec.cells_ok Vec.map_ds
theorem Vec.cells_ren (v : Vec) (ρ : Nat → Nat) : SV.rens ρ v.cells = v.cells := rfl
theorem Vec.zero_get (r : Nat) : Vec.zero.get r = 0 := by
  match r with
  | 0 | 1 | 2 | 3 | 4 | 5 | 6 | 7 | _ + 8 => rfl
def Vec.zip (f : Nat → Nat → Nat) (a b : Vec) : Vec := Vec.of fun r => f (a.get r) (b.get r)
/-- The first i numbers of one, the others of another one. -/
def Vec.upto (i : Nat) (a b : Vec) : Vec := Vec.of fun r => if r < i then a.get r else b.get r
theorem Vec.upto_zero (a b : Vec) : Vec.upto 0 a b = b := Vec.ext' fun r hr => by simp [Vec.upto, Vec.get_of _ hr]
theorem Vec.upto_all (a b : Vec) : Vec.upto 8 a b = a := Vec.ext' fun r hr => by simp [Vec.upto, Vec.get_of _ hr, hr]
theorem Vec.upto_succ (a b : Vec) {i : Nat} (h : i < 8) : (Vec.upto i a b).set i (a.get i) = Vec.upto (i + 1) a b := Vec.ext' fun r hr => by
  simp only [Vec.set, Vec.upto, Vec.get_of _ hr]
  by_cases e : r = i
  · subst e; simp
  · by_cases e2 : r < i
    · simp [e, e2, show r < i + 1 by omega]
    · simp [e, e2, show ¬ r < i + 1 by omega]

theorem vec_at {l : List Vec} {i : Nat} {x : Vec} (h : l[i]? = some x) : List.take 8 (List.drop (i * 8) (List.map SV.d (l.flatMap Vec.ds))) = x.cells := by
  rw [← List.map_drop, ← List.map_take, flat_take Vec.ds 8 (fun _ => rfl) l i x h]
  rfl
@[simp] theorem vecs_len (l : List Vec) : (l.flatMap Vec.ds).length = l.length * 8 := flat_length Vec.ds 8 (fun _ => rfl) l
def Vec.all (op : Nat → Nat → Nat) : List Vec → Vec
  | [] => Vec.zero
  | x :: r => r.foldl (Vec.zip op) x
theorem Vec.all_snoc (op : Nat → Nat → Nat) (l : List Vec) (x : Vec) : Vec.all op (l ++ [x]) = if l.length = 0 then x else Vec.zip op (Vec.all op l) x := by
  cases l with
  | nil => rfl
  | cons y l => simp [Vec.all, List.foldl_append]
theorem take_snoc {α : Type} {l : List α} {i : Nat} {x : α} (h : l[i]? = some x) : l.take (i + 1) = l.take i ++ [x] := by
  rw [List.take_add_one, h]; rfl
theorem lt_of_get {α : Type} {l : List α} {i : Nat} {x : α} (h : l[i]? = some x) : i < l.length := (List.getElem?_eq_some_iff.1 h).1
theorem get_of_lt {α : Type} {l : List α} {i : Nat} (h : i < l.length) : ∃ x, l[i]? = some x := ⟨_, List.getElem?_eq_getElem h⟩
/-- A row of vectors. -/
abbrev vecs (l : List Vec) : SV := .d (.sl l.length (l.flatMap Vec.ds))

theorem Vec.eqb8 (a b : Vec) : csqS [true, true, true, true, true, true, true, true] a.cells b.cells = some (decide (a = b)) := Vec.eqb a b
structure Dt where
  (r n : Nat)
  deriving DecidableEq
def Dt.ds (d : Dt) : List DV := [.int .u8 d.r, .int .u32 d.n]
def Dt.cells (d : Dt) : List SV := [u8 d.r, u32 d.n]
theorem Dt.map_ds (d : Dt) : d.ds.map .d = d.cells := rfl
@[simp] theorem Dt.ds_len (d : Dt) : d.ds.length = 2 := rfl
@[simp] theorem Dt.cells_len (d : Dt) : d.cells.length = 2 := rfl
@[simp] theorem Dt.cells_ok (d : Dt) (q : Nat → Bool) : SV.oks q d.cells = true := rfl
theorem Dt.cells_ren (d : Dt) (ρ : Nat → Nat) : SV.rens ρ d.cells = d.cells := rfl
@[simp] theorem Dt.take_all (d : Dt) : d.cells.take 2 = d.cells := rfl
theorem Dt.get0 (d : Dt) : d.cells[0]? = some (u8 d.r) := rfl
theorem Dt.get1 (d : Dt) : d.cells[1]? = some (u32 d.n) := rfl
theorem Dt.spl_all (c d : Dt) : spl c.cells 0 d.cells = d.cells := rfl
theorem Dt.zero_cells : [SV.d (.int .u8 0), .d (.int .u32 0)] = (Dt.mk 0 0).cells := rfl
theorem Dt.bld (c : Dt) (a b : Nat) : spl (spl c.cells 0 [.d (.int .u8 (a : Int))]) 1 [.d (.int .u32 (b : Int))] = (Dt.mk a b).cells := rfl
@[simp] theorem spl_one_len (cs : List SV) (o : Nat) (c : SV) : (spl cs o [c]).length = cs.length := by simp [spl]
theorem spl_one (cs : List SV) (o : Nat) (c : SV) : spl cs o [c] = cs.set o c := rfl
theorem Dt.cells_one (d : Dt) : d.cells.all SV.isOne = true := rfl
theorem Dt.eqb (a b : Dt) : csqS [true, true] a.cells b.cells = some (decide (a = b)) := by
  have h : csqS [true, true] a.cells b.cells = some (((a.r : Int) == b.r) && (((a.n : Int) == b.n) && true)) := by simp [csqS, cqS, Dt.cells]
  rw [h]
  congr 1
  obtain ⟨a0, a1⟩ := a
  obtain ⟨b0, b1⟩ := b
  rw [Bool.eq_iff_iff]
  simp
  omega
abbrev Dt.zero : Dt := ⟨0, 0⟩
def Dt.may (d : Dt) : Bool := decide (d.r < 8) && decide (0 < d.n)
def Dt.wf (d : Dt) : Prop := d.r < 256 ∧ d.n < 4294967296
abbrev dots (l : List Dt) : SV := .d (.sl l.length (l.flatMap Dt.ds))
@[simp] theorem dots_len (l : List Dt) : (l.flatMap Dt.ds).length = l.length * 2 := flat_length Dt.ds 2 (fun _ => rfl) l
theorem dot_at {l : List Dt} {i : Nat} {x : Dt} (h : l[i]? = some x) : List.take 2 (List.drop (i * 2) (List.map SV.d (l.flatMap Dt.ds))) = x.cells := by
  rw [← List.map_drop, ← List.map_take, flat_take Dt.ds 2 (fun _ => rfl) l i x h]
  rfl
section
variable {P : Program} {N k0 : Nat} {st : St} {Q : Exit → St → Prop}
/-- A slot's value, said otherwise. -/
theorem SW.slot {c : SCo} (t : Nat) {s : SV} (s' : SV) (hl : st.env.lookup t = some s) (hs : ∀ (p : Nat → Prop) μ M v, Rp p μ M s v → Rp p μ M s' v) (h : SW P N k0 c ⟨(t, s') :: st.env, st.hp, st.k⟩ Q) : SW P N k0 c st Q := by
  refine fun cc hc rd hrf μ0 M0 w0 c0 a w hSt => h cc hc rd hrf μ0 M0 w0 c0 a w ?_
  obtain ⟨hk0, hdf, hsz, μ, M, hsl, hS, hE⟩ := hSt
  refine ⟨hk0, hdf, hsz, μ, M, fun q x hq => ?_, hS, hE⟩
  simp only [List.lookup] at hq
  split at hq
  · rename_i e
    have e : q = t := by simpa using e
    injection hq with hq
    subst e; subst hq
    exact hs _ _ _ _ (hsl q s hl)
  · exact hsl q x hq
theorem nils_sl (p : Nat → Prop) (μ : Nat → Nm) (M : Mem) (v : Value) (h : Rp p μ M (.d .nils) v) : Rp p μ M (.d (.sl 0 [])) v := Rp.d_iff.2 (Rp.d_iff.1 h).nils_sl
theorem SW.nils {c : SCo} (t : Nat) (hl : st.env.lookup t = some (.d .nils)) (h : SW P N k0 c ⟨(t, .d (.sl 0 [])) :: st.env, st.hp, st.k⟩ Q) : SW P N k0 c st Q := SW.slot t _ hl nils_sl h
end
end Go.Sl

/-
  Words for code in the small form; what is checked of a function's code.
-/
set_option linter.unusedVariables false
set_option linter.unusedSimpArgs false
set_option linter.unusedSectionVars false
namespace Go.Sl
namespace Co
def M (d s : Nat) : SI := ⟨some d, .mv (.t s), none⟩
def G (d s g : Nat) (b : Bool) : SI := ⟨some d, .mv (.t s), some (g, b)⟩
def J (d : Nat) (o : SO) : SI := ⟨some d, o, none⟩
def H (d : Nat) (o : SO) (g : Nat) (b : Bool) : SI := ⟨some d, o, some (g, b)⟩
def N (o : SO) : SI := ⟨none, o, none⟩
def F (l : List SI) (n : Nat) : SCo := .reg l (fullB n) false
def C (f : FuncId) : X := .k (.fn (.func f) [] [])
def Z (n : Int) : X := .k (.d (.int .i64 n))
def B (b : Bool) : X := .k (.d (.bool b))
def b8 (n : Int) : SV := .d (.int .u8 n)
def b32 (n : Int) : SV := .d (.int .u32 n)
def b64 (n : Int) : SV := .d (.int .u64 n)
def i6 (n : Int) : SV := .d (.int .i64 n)
def z8 : List SV := [.d (.int .u32 0), .d (.int .u32 0), .d (.int .u32 0), .d (.int .u32 0), .d (.int .u32 0), .d (.int .u32 0), .d (.int .u32 0), .d (.int .u32 0)]
def z29 : List SV := [.d (.int .u8 0), .d (.int .u32 0), .d (.int .u32 0), .d (.int .u32 0), .d (.int .u32 0), .d (.int .u32 0), .d (.int .u32 0), .d (.int .u32 0), .d (.int .u32 0), .d (.int .u32 0), .d (.int .u64 0), .d (.int .u32 0), .d (.int .u8 0), .d (.int .u32 0), .d (.int .u8 0), .d (.int .u8 0), .d (.int .u32 0), .d (.int .u32 0), .d (.int .u8 0), .d (.int .u8 0), .d (.int .u64 0), .d (.int .u8 0), .d (.int .u32 0), .d (.int .u8 0), .d (.int .u32 0), .d (.int .u32 0), .d (.int .u32 0), .d (.int .u32 0), .d .nils]
end Co
/-- How a function of that code is entered. -/
def En (P : Program) (f : FuncId) (N : Nat) (s : SCo) (rv : List RV) : Prop :=
  ∀ {args : List SV} {F : Hp} {k nk : Nat} {Q : SV → Hp → Prop} (_ : SV.oks (fun n => decide (n < k)) args = true) (_ : F.ok (fun n => decide (n < k)) = true) (_ : args.length ≤ N)
    (_ : SW P N k s ⟨argE 0 args, F, k⟩ fun e st' => match e with | .normal => Fin k nk rv Q st' | .ret => Fin k nk rv Q st' | _ => False), SB P f args F k nk Q
theorem En.mk {P : Program} {f N : Nat} {fn : Func} {c : Code} {s : SCo} {rv : List RV} (hf : P.funcs[f]? = some fn) (hN : fn.ntmps = N) (hb : fn.body = some c) (hc : cK P fn.ntmps c = some s) (hr : cRV P fn.results.toList = some rv) (ha : Callable P f = true) : En P f N s rv := by
  subst hN
  intro args F k nk Q h1 h2 h3 h
  exact SB.of_body hf hb hc hr ha h1 h2 h3 h
end Go.Sl

/-
  Vectors and dots: what the functions compute, in plain Lean.
-/
set_option linter.unusedSectionVars false
set_option linter.unusedVariables false
set_option linter.unusedSimpArgs false
namespace Go.Sl

def Vec.covers (v : Vec) (d : Dt) : Bool := d.may && decide (d.n ≤ v.get d.r)
def Vec.above (a b : Vec) : Bool := (List.range 8).all fun r => decide (b.get r ≤ a.get r)
theorem Vec.above_iff {a b : Vec} : a.above b = true ↔ ∀ r, r < 8 → b.get r ≤ a.get r := by simp [Vec.above]
theorem Vec.zip_get (f : Nat → Nat → Nat) (a b : Vec) {r : Nat} (h : r < 8) : (Vec.zip f a b).get r = f (a.get r) (b.get r) := by simp [Vec.zip, Vec.get_of _ h]
theorem Vec.above_merge (a b : Vec) : decide (Vec.zip max a b = a) = a.above b := by
  rw [Bool.eq_iff_iff, decide_eq_true_eq, Vec.above_iff]
  constructor
  · intro h r hr
    have := Vec.zip_get max a b hr
    rw [h] at this
    omega
  · intro h
    exact Vec.ext' fun r hr => by rw [Vec.zip_get _ _ _ hr]; have := h r hr; omega
def Vec.count (v : Vec) : Nat := v.a0 + v.a1 + v.a2 + v.a3 + v.a4 + v.a5 + v.a6 + v.a7
/-- The first i numbers' sum. -/
def Vec.sum (v : Vec) : Nat → Nat
  | 0 => 0
  | i + 1 => Vec.sum v i + v.get i
theorem Vec.sum_all (v : Vec) : v.sum 8 = v.count := by simp [Vec.sum, Vec.count, Vec.get]
theorem Vec.sum_le (v : Vec) (h : v.wf) : ∀ i, i ≤ 8 → v.sum i ≤ i * 4294967295
  | 0, _ => by simp [Vec.sum]
  | i + 1, hi => by
    have h1 := Vec.sum_le v h i (by omega)
    have h2 := h i (by omega)
    simp only [Vec.sum]
    omega
theorem Vec.zero_wf : Vec.zero.wf := fun r _ => by rw [Vec.zero_get]; omega
theorem Vec.zip_wf {f : Nat → Nat → Nat} {a b : Vec} (hf : ∀ x y, x < 4294967296 → y < 4294967296 → f x y < 4294967296) (ha : a.wf) (hb : b.wf) : (Vec.zip f a b).wf := fun r hr => by
  rw [Vec.zip_get _ _ _ hr]; exact hf _ _ (ha r hr) (hb r hr)
theorem Vec.set_wf {a : Vec} {i x : Nat} (ha : a.wf) (hx : x < 4294967296) : (a.set i x).wf := fun r hr => by
  simp only [Vec.set, Vec.get_of _ hr]; split; exact hx; exact ha r hr
theorem Vec.set_get (a : Vec) (i x : Nat) {r : Nat} (h : r < 8) : (a.set i x).get r = if r = i then x else a.get r := by simp [Vec.set, Vec.get_of _ h]

/-- The next dot: it, and an error's number. -/
def Vec.next (v : Vec) (r : Nat) : Dt × Nat := if 8 ≤ r then (Dt.zero, 2) else if v.get r = 4294967295 then (Dt.zero, 6) else (⟨r, v.get r + 1⟩, 0)
def Vec.put (v : Vec) (d : Dt) : Vec × Nat := if d.may = false then (Vec.zero, 2) else if d.n ≠ v.get d.r + 1 then (Vec.zero, 9) else (v.set d.r d.n, 0)

theorem wrap_u32 (n : Nat) (h : n < 4294967296) : IntKind.u32.wrap (n : Int) = n := by
  simp [IntKind.wrap, IntKind.bits, IntKind.signed]; omega
theorem wrap_u64 (n : Nat) (h : n < 18446744073709551616) : IntKind.u64.wrap (n : Int) = n := by
  simp [IntKind.wrap, IntKind.bits, IntKind.signed]; omega
theorem wrap_u8 (n : Nat) (h : n < 256) : IntKind.u8.wrap (n : Int) = n := by
  simp [IntKind.wrap, IntKind.bits, IntKind.signed]; omega
theorem cast_succ (n : Nat) : (n : Int) + 1 = ((n + 1 : Nat) : Int) := rfl

theorem Vec.row0 (a b c d e f g h : SV) (r : List SV) (v : Vec) : spl (a :: b :: c :: d :: e :: f :: g :: h :: r) 0 v.cells = v.cells ++ r := rfl
theorem Vec.row8 (u v : Vec) (r : List SV) : spl (u.cells ++ r) 8 v.cells = u.cells ++ spl r 0 v.cells := rfl
theorem Vec.row16 (u v : Vec) (r : List SV) : spl (u.cells ++ r) 16 v.cells = u.cells ++ spl r 8 v.cells := rfl
theorem Vec.row24 (u v : Vec) (r : List SV) : spl (u.cells ++ r) 24 v.cells = u.cells ++ spl r 16 v.cells := rfl
theorem Vec.datas_app (u : Vec) (r : List SV) : datas (u.cells ++ r) = match datas r with | some x => some (u.ds ++ x) | none => none := by
  cases h : datas r <;> simp [Vec.cells, datas, h, Vec.ds]
theorem Vec.datas_one (u : Vec) : datas u.cells = some u.ds := rfl
theorem Dt.row0 (a b : SV) (r : List SV) (v : Dt) : spl (a :: b :: r) 0 v.cells = v.cells ++ r := rfl
theorem Dt.row2 (u v : Dt) (r : List SV) : spl (u.cells ++ r) 2 v.cells = u.cells ++ spl r 0 v.cells := rfl
theorem Dt.datas_app (u : Dt) (r : List SV) : datas (u.cells ++ r) = match datas r with | some x => some (u.ds ++ x) | none => none := by
  cases h : datas r <;> simp [Dt.cells, datas, h, Dt.ds]
theorem Dt.datas_one (u : Dt) : datas u.cells = some u.ds := rfl
theorem one_map (l : List DV) : (l.map SV.d).all SV.isOne = true := by simp [SV.isOne]

theorem wrap_u32_sub (a b : Nat) (h : b ≤ a) (ha : a < 4294967296) : IntKind.u32.wrap ((a : Int) - b) = ((a - b : Nat) : Int) := by
  rw [show (a : Int) - b = ((a - b : Nat) : Int) by omega]; exact wrap_u32 _ (by omega)
theorem wrap_u32_add (a b : Nat) (h : a + b < 4294967296) : IntKind.u32.wrap ((a : Int) + b) = ((a + b : Nat) : Int) := wrap_u32 (a + b) h
theorem wrap_u32_succ (a : Nat) (h : a + 1 < 4294967296) : IntKind.u32.wrap ((a : Int) + 1) = ((a + 1 : Nat) : Int) := wrap_u32 (a + 1) h
theorem wrap_u64_add (a b : Nat) (h : a + b < 18446744073709551616) : IntKind.u64.wrap ((a : Int) + b) = ((a + b : Nat) : Int) := wrap_u64 (a + b) h
theorem wrap_u64_sub (a b : Nat) (h : b ≤ a) (ha : a < 18446744073709551616) : IntKind.u64.wrap ((a : Int) - b) = ((a - b : Nat) : Int) := by
  rw [show (a : Int) - b = ((a - b : Nat) : Int) by omega]; exact wrap_u64 _ (by omega)
/-- A replica's dots, c of them, from the a-th on. -/
def rangeD (r a c : Nat) : List Dt := (List.range c).map fun i => ⟨r, a + i⟩
@[simp] theorem rangeD_len (r a c : Nat) : (rangeD r a c).length = c := by simp [rangeD]
theorem rangeD_succ (r a c : Nat) : rangeD r a (c + 1) = rangeD r a c ++ [⟨r, a + c⟩] := by simp [rangeD, List.range_succ]
def dotRange (r a b : Nat) : List Dt × Nat := if Dt.may ⟨r, a⟩ = false then ([], 2) else if b < a then ([], 0) else if 65536 ≤ b - a then ([], 3) else (rangeD r a (b - a + 1), 0)

theorem SV.rens_append (ρ : Nat → Nat) : ∀ (a b : List SV), SV.rens ρ (a ++ b) = SV.rens ρ a ++ SV.rens ρ b
  | [], b => rfl
  | x :: a, b => by simp [SV.rens, SV.rens_append ρ a b]
theorem SV.oks_append (q : Nat → Bool) : ∀ (a b : List SV), SV.oks q (a ++ b) = (SV.oks q a && SV.oks q b)
  | [], b => rfl
  | x :: a, b => by simp [SV.oks, SV.oks_append q a b, Bool.and_assoc]

/-- A row that is nil as long as nothing is in it. -/
def rowS (n len : Nat) : SV := if len = 0 then .d .nils else .gs n len
def rowH (n e sz len : Nat) (cs : List SV) : Hp := if len = 0 then [] else [(n, .arr e sz len cs)]
theorem rowS_pos {n len : Nat} (h : len ≠ 0) : rowS n len = .gs n len := by simp [rowS, h]
theorem rowH_pos {n e sz len : Nat} {cs : List SV} (h : len ≠ 0) : rowH n e sz len cs = [(n, .arr e sz len cs)] := by simp [rowH, h]
theorem rowS_zero {n len : Nat} (h : len = 0) : rowS n len = .d .nils := by simp [rowS, h]
theorem rowH_zero {n e sz len : Nat} {cs : List SV} (h : len = 0) : rowH n e sz len cs = [] := by simp [rowH, h]
def lackTo (a b : Vec) : Nat → List Dt
  | 0 => []
  | i + 1 => lackTo a b i ++ if b.get i ≤ a.get i then [] else rangeD i (a.get i + 1) (b.get i - a.get i)
def Vec.more (a b : Vec) : Nat := (Vec.zip max a b).count - a.count
def Vec.lacks (a b : Vec) : List Dt × Nat := if 65536 < a.more b then ([], 3) else (lackTo a b 8, 0)
def Vec.moreTo (a b : Vec) : Nat → Nat
  | 0 => 0
  | i + 1 => Vec.moreTo a b i + (b.get i - a.get i)
theorem Vec.sum_merge (a b : Vec) : ∀ i, i ≤ 8 → (Vec.zip max a b).sum i = a.sum i + a.moreTo b i
  | 0, _ => rfl
  | i + 1, h => by
    have h1 := Vec.sum_merge a b i (by omega)
    simp only [Vec.sum, Vec.moreTo, h1, Vec.zip_get max a b (show i < 8 by omega)]
    omega
theorem Vec.count_merge' (a b : Vec) : (Vec.zip max a b).count = a.count + a.moreTo b 8 := by
  rw [← Vec.sum_all, ← Vec.sum_all, Vec.sum_merge a b 8 (by omega)]
theorem Vec.count_merge (a b : Vec) : a.count ≤ (Vec.zip max a b).count := by rw [Vec.count_merge']; omega
theorem Vec.more_eq (a b : Vec) : a.more b = a.moreTo b 8 := by rw [Vec.more, Vec.count_merge']; omega
theorem Vec.moreTo_mono (a b : Vec) {i j : Nat} (h : i ≤ j) : a.moreTo b i ≤ a.moreTo b j := by
  induction h with
  | refl => exact Nat.le_refl _
  | step _ ih => simp only [Vec.moreTo]; omega
theorem Vec.more_at (a b : Vec) {r : Nat} (h : r < 8) : b.get r - a.get r ≤ a.more b := by
  have := a.moreTo_mono b (show r + 1 ≤ 8 from h)
  rw [Vec.more_eq]
  rw [show a.moreTo b (r + 1) = a.moreTo b r + (b.get r - a.get r) from rfl] at this
  omega
theorem Vec.count_lt (v : Vec) (h : v.wf) : v.count ≤ 34359738360 := by
  rw [← Vec.sum_all]; have := v.sum_le h 8 (by omega); omega
theorem max_lt {x y n : Nat} (h : x < n) (h' : y < n) : max x y < n := by omega
theorem min_lt {x y n : Nat} (h : x < n) (h' : y < n) : min x y < n := by omega
/-- The numbers up to the i-th one. -/
theorem lackTo_len (a b : Vec) : ∀ i, (lackTo a b i).length = a.moreTo b i
  | 0 => rfl
  | i + 1 => by
    have h1 := lackTo_len a b i
    simp only [lackTo, List.length_append, Vec.moreTo, h1]
    split
    · simp; omega
    · rw [rangeD_len]
theorem lackTo_le (a b : Vec) {i : Nat} (h : i ≤ 8) : (lackTo a b i).length ≤ a.more b := by rw [lackTo_len, Vec.more_eq]; exact a.moreTo_mono b h

theorem vec_cell {l : List Vec} {i r : Nat} {x : Vec} (h : l[i]? = some x) (hr : r < 8) : (List.map SV.d (l.flatMap Vec.ds))[i * 8 + r]? = some (u32 (x.get r)) := by
  rw [List.getElem?_map, flat_get Vec.ds 8 (fun _ => rfl) l i r x h hr, x.ds_get hr]
  rfl
theorem ext_rows {α : Type} {l m : List α} (hl : l.length = m.length) (h : ∀ j, j < l.length → l[j]? = m[j]?) : l = m := by
  apply List.ext_getElem?
  intro j
  by_cases hj : j < l.length
  · exact h j hj
  · rw [List.getElem?_eq_none (by omega), List.getElem?_eq_none (by omega)]
theorem Vec.zip_max_zero (x : Vec) : Vec.zip max Vec.zero x = x := Vec.ext' fun r hr => by rw [Vec.zip_get _ _ _ hr, Vec.zero_get]; omega
theorem Vec.zip_min_self (x : Vec) : Vec.zip min x x = x := Vec.ext' fun r hr => by rw [Vec.zip_get _ _ _ hr]; omega
theorem Vec.all_max (l : List Vec) : Vec.all max l = l.foldl (Vec.zip max) Vec.zero := by
  cases l with
  | nil => rfl
  | cons x l => simp [Vec.all, Vec.zip_max_zero]
theorem Vec.all_min (x : Vec) (l : List Vec) : Vec.all min (x :: l) = (x :: l).foldl (Vec.zip min) x := by simp [Vec.all, Vec.zip_min_self]
theorem foldl_snoc {α β : Type} (f : α → β → α) (z : α) (l : List β) (x : β) : (l ++ [x]).foldl f z = f (l.foldl f z) x := by simp
theorem Vec.upto_zip_succ (f : Nat → Nat → Nat) (a x : Vec) {i : Nat} (h : i < 8) : (Vec.upto i (Vec.zip f a x) a).set i (f (a.get i) (x.get i)) = Vec.upto (i + 1) (Vec.zip f a x) a := by
  rw [← Vec.upto_succ _ _ h, Vec.zip_get _ _ _ h]
theorem Vec.upto_get (a b : Vec) (i : Nat) {r : Nat} (h : r < 8) : (Vec.upto i a b).get r = if r < i then a.get r else b.get r := by simp [Vec.upto, Vec.get_of _ h]
theorem Vec.upto_here (a b : Vec) {i : Nat} (h : i < 8) : (Vec.upto i a b).get i = b.get i := by simp [Vec.upto_get _ _ _ h]

theorem rangeD_zero (r a : Nat) : rangeD r a 0 = [] := rfl
theorem lackTo_succ (a b : Vec) (i : Nat) : lackTo a b (i + 1) = lackTo a b i ++ rangeD i (a.get i + 1) (b.get i - a.get i) := by
  simp only [lackTo]
  split
  · rw [show b.get i - a.get i = 0 by omega, rangeD_zero]
  · rfl
def topAt (l : List Vec) (i : Nat) : Bool := match l[i]? with
  | some v => (List.range l.length).all fun k => match l[k]? with
    | some w => !(w.above v && (decide (w ≠ v) || decide (k < i)))
    | none => true
  | none => false
/-- The first i vectors' tops. -/
def topsTo (l : List Vec) : Nat → List Vec
  | 0 => []
  | i + 1 => topsTo l i ++ match l[i]? with
    | some v => if topAt l i then [v] else []
    | none => []
def Vec.tops (l : List Vec) : List Vec := topsTo l l.length
theorem topAt_iff {l : List Vec} {i : Nat} {v : Vec} (h : l[i]? = some v) : topAt l i = true ↔ ∀ (k : Nat) (w : Vec), l[k]? = some w → w.above v = true → w = v ∧ i ≤ k := by
  simp only [topAt, h, List.all_eq_true, List.mem_range]
  constructor
  · intro hh k w hk ha
    have := hh k (lt_of_get hk)
    simp only [hk, ha, Bool.true_and, Bool.not_eq_true', Bool.or_eq_false_iff, decide_eq_false_iff_not, ne_eq, Decidable.not_not, Nat.not_lt] at this
    exact this
  · intro hh k hk
    obtain ⟨w, hw⟩ := get_of_lt hk
    simp only [hw]
    cases ha : w.above v with
    | false => rfl
    | true =>
      obtain ⟨h1, h2⟩ := hh k w hw ha
      simp [h1]; omega
theorem topsTo_le (l : List Vec) : ∀ i, (topsTo l i).length ≤ i
  | 0 => by simp [topsTo]
  | i + 1 => by
    have := topsTo_le l i
    simp only [topsTo, List.length_append]
    split
    · split <;> simp <;> omega
    · simp; omega

def idxF {α : Type} (p : α → Bool) : List α → Nat → Int
  | [], _ => -1
  | x :: l, i => if p x then (i : Int) else idxF p l (i + 1)
theorem idxF_hit {α : Type} (p : α → Bool) : ∀ (l : List α) (k i : Nat) (x : α), l[i]? = some x → p x = true → (∀ (j : Nat) (y : α), j < i → l[j]? = some y → p y = false) → idxF p l k = ((k + i : Nat) : Int)
  | [], k, i, x, h, _, _ => by simp at h
  | y :: l, k, 0, x, h, hp, _ => by simp at h; subst h; simp [idxF, hp]
  | y :: l, k, i + 1, x, h, hp, hs => by
    have h0 := hs 0 y (by omega) rfl
    have := idxF_hit p l (k + 1) i x (by simpa using h) hp fun j z hj hz => hs (j + 1) z (by omega) (by simpa using hz)
    simp only [idxF, h0, Bool.false_eq_true, if_false, this]
    congr 1; omega
theorem idxF_none {α : Type} (p : α → Bool) : ∀ (l : List α) (k : Nat), (∀ (j : Nat) (y : α), l[j]? = some y → p y = false) → idxF p l k = -1
  | [], k, _ => rfl
  | y :: l, k, hs => by
    have h0 := hs 0 y rfl
    simp only [idxF, h0, Bool.false_eq_true, if_false]
    exact idxF_none p l (k + 1) fun j z hz => hs (j + 1) z (by simpa using hz)
theorem idxF_any {α : Type} (p : α → Bool) : ∀ (l : List α) (k : Nat), decide (idxF p l k ≥ 0) = l.any p
  | [], k => rfl
  | y :: l, k => by
    simp only [idxF, List.any_cons]
    by_cases hp : p y = true
    · simp [hp]
    · have hp : p y = false := by simpa using hp
      simpa [hp] using idxF_any p l (k + 1)

/-- The tops so far, as a map. -/
def topE (out : List Vec) : List (Nat × SV × SV) := out.zipIdx.map fun x => (x.2, .agg x.1.cells, .d (.int .i64 1))
theorem topE_snoc (out : List Vec) (v : Vec) : topE (out ++ [v]) = topE out ++ [(out.length, .agg v.cells, .d (.int .i64 1))] := by simp [topE, List.zipIdx_append]
abbrev vks : List Bool := [true, true, true, true, true, true, true, true]
theorem key_vec (v : Vec) : keyOk vks true (.agg v.cells) = true := by simp [keyOk, isAggS, SV.cells, Vec.eqb8]
theorem find_vec (v : Vec) : ∀ (es : List (Vec × Nat)) (i : Nat), findS vks true (.agg v.cells) (es.map fun x => (x.2, SV.agg x.1.cells, SV.d (.int .i64 1))) i = some ((es.findIdx? fun x => decide (v = x.1)).map (i + ·))
  | [], i => rfl
  | e :: es, i => by
    simp only [List.map_cons, findS, key_vec, if_true, SV.cells, Vec.eqb8, List.findIdx?_cons]
    by_cases h : v = e.1
    · simp [h]
    · simp only [h, decide_false, find_vec v es (i + 1), Bool.false_eq_true, if_false, Option.map_map]
      congr 1
      congr 1
      funext j
      simp
      omega
theorem find_no {out : List Vec} {v : Vec} (h : v ∉ out) : findS vks true (.agg v.cells) (topE out) 0 = some none := by
  unfold topE
  rw [find_vec]
  have : out.zipIdx.findIdx? (fun x => decide (v = x.1)) = none := by
    rw [List.findIdx?_eq_none_iff]
    intro x hx
    have := List.fst_mem_of_mem_zipIdx hx
    simp
    intro e; subst e; exact h this
  rw [this]; rfl
theorem find_yes {out : List Vec} {v : Vec} (h : v ∈ out) : ∃ j b k, findS vks true (.agg v.cells) (topE out) 0 = some (some j) ∧ (topE out)[j]? = some (b, k, .d (.int .i64 1)) := by
  unfold topE
  rw [find_vec]
  cases hf : out.zipIdx.findIdx? (fun x => decide (v = x.1)) with
  | none =>
    rw [List.findIdx?_eq_none_iff] at hf
    obtain ⟨i, hi⟩ := List.mem_iff_getElem?.1 h
    have := hf (v, i) (List.mem_zipIdx_iff_getElem?.2 hi)
    simp at this
  | some j =>
    have hlt := (List.findIdx?_eq_some_iff_getElem.1 hf).1
    exact ⟨j, _, _, by simp, by rw [List.getElem?_map, List.getElem?_eq_getElem hlt, Option.map_some]⟩

/-- Is nothing else above? -/
def topV (l : List Vec) (v : Vec) : Bool := !(l.any fun w => decide (w ≠ v) && w.above v)
theorem topV_iff {l : List Vec} {v : Vec} : topV l v = true ↔ ∀ (k : Nat) (w : Vec), l[k]? = some w → w.above v = true → w = v := by
  simp only [topV, Bool.not_eq_true', List.any_eq_false]
  constructor
  · intro h k w hk ha
    have := h w (List.mem_of_getElem? hk)
    simp [ha] at this
    exact this
  · intro h w hw
    obtain ⟨k, hk⟩ := List.mem_iff_getElem?.1 hw
    simp
    intro hne
    cases ha : w.above v with
    | false => rfl
    | true => exact absurd (h k w hk ha) hne
theorem Vec.above_refl (v : Vec) : v.above v = true := Vec.above_iff.2 fun _ _ => Nat.le_refl _
theorem mem_topsTo {l : List Vec} {v : Vec} : ∀ {i : Nat}, i ≤ l.length → (v ∈ topsTo l i ↔ topV l v = true ∧ ∃ k, k < i ∧ l[k]? = some v)
  | 0, _ => by simp [topsTo]
  | i + 1, hi => by
    have ih := mem_topsTo (l := l) (v := v) (i := i) (by omega)
    obtain ⟨x, hx⟩ := get_of_lt (show i < l.length by omega)
    simp only [topsTo, hx, List.mem_append, ih]
    constructor
    · rintro (⟨h1, k, h2, h3⟩ | h)
      · exact ⟨h1, k, by omega, h3⟩
      · split at h
        · rename_i ht
          simp at h; subst h
          exact ⟨topV_iff.2 fun k w hk ha => ((topAt_iff hx).1 ht k w hk ha).1, i, by omega, hx⟩
        · simp at h
    · rintro ⟨h1, k, h2, h3⟩
      by_cases hp : ∃ k, k < i ∧ l[k]? = some v
      · exact .inl ⟨h1, hp⟩
      · right
        have hk : k = i := by
          by_cases e : k = i
          · exact e
          · exact absurd ⟨k, by omega, h3⟩ hp
        subst hk
        rw [hx] at h3
        simp at h3; subst h3
        have : topAt l k = true := (topAt_iff hx).2 fun k' w hk' ha => by
          have e := topV_iff.1 h1 k' w hk' ha
          subst e
          refine ⟨rfl, ?_⟩
          apply Nat.le_of_not_lt
          intro hlt
          exact hp ⟨k', hlt, hk'⟩
        simp [this]
theorem topAt_eq {l : List Vec} {i : Nat} {v : Vec} (h : l[i]? = some v) : topAt l i = (topV l v && decide (v ∉ topsTo l i)) := by
  have hi := lt_of_get h
  rw [Bool.eq_iff_iff, topAt_iff h, Bool.and_eq_true, decide_eq_true_eq, mem_topsTo (by omega)]
  constructor
  · intro hh
    refine ⟨topV_iff.2 fun k w hk ha => (hh k w hk ha).1, ?_⟩
    rintro ⟨_, k, hk, hkv⟩
    have := (hh k v hkv (Vec.above_refl v)).2
    omega
  · rintro ⟨h1, h2⟩ k w hk ha
    have e := topV_iff.1 h1 k w hk ha
    subst e
    refine ⟨rfl, Nat.le_of_not_lt fun hlt => h2 ⟨h1, k, hlt, hk⟩⟩

theorem topE_ren (ρ : Nat → Nat) (out : List Vec) : (topE out).map (fun e => (e.1, SV.ren ρ e.2.1, SV.ren ρ e.2.2)) = topE out := by
  simp [topE, SV.ren, Vec.cells_ren]
theorem topE_ok (q : Nat → Bool) (out : List Vec) : ∀ (a : Nat) (b c : SV), (a, b, c) ∈ topE out → SV.ok q b = true ∧ SV.ok q c = true := by
  intro a b c h
  simp only [topE, List.mem_map] at h
  obtain ⟨x, _, hx⟩ := h
  injection hx with h1 hx
  injection hx with h2 h3
  subst h2; subst h3
  exact ⟨by simp [SV.ok], rfl⟩

/-- Is none of the first n against the i-th one? -/
def topTo (l : List Vec) (i : Nat) (v : Vec) (n : Nat) : Bool := (List.range n).all fun k => match l[k]? with
  | some w => !(w.above v && (decide (w ≠ v) || decide (k < i)))
  | none => true
theorem topTo_succ {l : List Vec} {i n : Nat} {v w : Vec} (h : l[n]? = some w) : topTo l i v (n + 1) = (topTo l i v n && !(w.above v && (decide (w ≠ v) || decide (n < i)))) := by
  simp [topTo, List.range_succ, h]
theorem topTo_all {l : List Vec} {i : Nat} {v : Vec} (h : l[i]? = some v) : topTo l i v l.length = topAt l i := by
  simp only [topAt, h, topTo]
def Vec.v3 (a b c : Nat) : Vec := ⟨a, b, c, 0, 0, 0, 0, 0⟩

theorem Vec.v3_bld (a b c : Nat) : spl (spl (spl Vec.zero.cells 0 [.d (.int .u32 (a : Int))]) 1 [.d (.int .u32 (b : Int))]) 2 [.d (.int .u32 (c : Int))] = (Vec.v3 a b c).cells := rfl

theorem bq_ft : (false == true) = false := rfl
theorem bq_tf : (true == false) = false := rfl
end Go.Sl
