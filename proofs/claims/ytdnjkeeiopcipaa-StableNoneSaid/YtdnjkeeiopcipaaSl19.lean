/-
  From a law's contract to its row: what arguments read as, as shadow data.
-/
import Derived.Test.YtdnjkeeiopcipaaSl18
import Derived.ProofKit
import Derived.OpenShut
import Derived.Carry
import Derived.ShutString
set_option linter.unusedSimpArgs false
set_option linter.unusedSectionVars false
set_option linter.unusedVariables false
namespace Go.Sl
open Go.RowKit Go.ChangeShapes Go.WideShapes

/-- How many cells stand in a field's row, one field behind the other from o on. -/
def layF (P : Program) : Nat → List Field → Option Nat
  | o, [] => some o
  | o, f :: fs => if f.offset = o then layF P (o + P.cellsOf f.type) fs else none

/-- Data of a type, cell by cell. -/
def Fit (P : Program) : Nat → TypeId → List DV → Prop
  | 0, _, _ => False
  | d + 1, t, ds => match P.underlying t with
    | some .bool => ∃ b, ds = [.bool b]
    | some (.int k) => ∃ n, ds = [.int k n] ∧ (Lit.int k n).wf = true
    | some (.struct fs) => ds.length = P.cellsOf t ∧ ∀ f ∈ fs.toList, Fit P d f.type ((ds.drop f.offset).take (P.cellsOf f.type))
    | some (.array n e) => ds.length = P.cellsOf t ∧ ∀ i, i < n → Fit P d e ((ds.drop (i * P.cellsOf e)).take (P.cellsOf e))
    | some (.slice e) => ds = [.nils] ∨ ∃ n cs, ds = [.sl n cs] ∧ n ≤ 9223372036854775807 ∧ cs.length = n * P.cellsOf e ∧ ∀ i, i < n → Fit P d e ((cs.drop (i * P.cellsOf e)).take (P.cellsOf e))
    | _ => False

/-- The types that 'Fit' speaks of, to the bottom; structs and arrays laid without holes. -/
def fitTy (P : Program) : Nat → TypeId → Bool
  | 0, _ => false
  | d + 1, t => match P.underlying t with
    | some .bool => P.cellsOf t == 1
    | some (.int _) => P.cellsOf t == 1
    | some (.struct fs) => (layF P 0 fs.toList == some (P.cellsOf t)) && fs.toList.all fun f => fitTy P d f.type
    | some (.array n e) => (P.cellsOf t == n * P.cellsOf e) && fitTy P d e
    | some (.slice e) => (P.cellsOf t == 1) && fitTy P d e && decide (0 < P.cellsOf e)
    | _ => false

def memOf (w : World) : Mem := fun b o => w.cell? ⟨b, o, none⟩

/-- Cells and what they are, one by one. -/
def Cells (M : Mem) : List Value → List DV → Prop
  | [], [] => True
  | v :: vs, d :: ds => RepD M d v ∧ Cells M vs ds
  | _, _ => False
theorem Cells.length {M : Mem} : ∀ {vs : List Value} {ds : List DV}, Cells M vs ds → vs.length = ds.length
  | [], [], _ => rfl
  | v :: vs, d :: ds, h => by simp only [Cells] at h; simp [h.2.length]
  | [], d :: ds, h => by simp [Cells] at h
  | v :: vs, [], h => by simp [Cells] at h
theorem Cells.append {M : Mem} : ∀ {vs us : List Value} {ds es : List DV}, Cells M vs ds → Cells M us es → Cells M (vs ++ us) (ds ++ es)
  | [], us, [], es, _, h => by simpa using h
  | v :: vs, us, d :: ds, es, h, k => by simp only [Cells] at h; simp only [List.cons_append, Cells]; exact ⟨h.1, h.2.append k⟩
  | [], us, d :: ds, es, h, _ => by simp [Cells] at h
  | v :: vs, us, [], es, h, _ => by simp [Cells] at h
theorem Cells.rps {M : Mem} {p : Nat → Prop} {μ : Nat → Nm} : ∀ {vs : List Value} {ds : List DV}, Cells M vs ds → Rps p μ M (ds.map .d) vs
  | [], [], _ => Rps.nil_iff.2 rfl
  | v :: vs, d :: ds, h => by simp only [Cells] at h; exact Rps.cons_iff.2 ⟨v, vs, rfl, Rp.d_iff.2 h.1, h.2.rps⟩
  | [], d :: ds, h => by simp [Cells] at h
  | v :: vs, [], h => by simp [Cells] at h
theorem Cells.repR {w : World} {b : Nat} : ∀ {vs : List Value} {ds : List DV} (q : Nat), Cells (memOf w) vs ds → (∀ (i : Nat) (v : Value), vs[i]? = some v → w.cell? ⟨b, q + i, none⟩ = some v) → RepR (memOf w) b q ds
  | [], [], q, _, _ => by simp [RepR]
  | v :: vs, d :: ds, q, h, hc => by
    simp only [Cells] at h
    simp only [RepR]
    refine ⟨⟨v, by simpa [memOf] using hc 0 v rfl, h.1⟩, Cells.repR (q + 1) h.2 fun i u hi => ?_⟩
    have := hc (i + 1) u (by simpa using hi)
    rwa [show q + (i + 1) = q + 1 + i by omega] at this
  | [], d :: ds, q, h, _ => by simp [Cells] at h
  | v :: vs, [], q, h, _ => by simp [Cells] at h

section
variable {H : Type} {enc : TypeId × Value → H} {P : Program} {w : World} {sp : Nat → Bool} {held : Bool}

theorem fitTy_len : ∀ {d : Nat} {t : TypeId} {ds : List DV}, fitTy P d t = true → Fit P d t ds → ds.length = P.cellsOf t
  | 0, t, ds, h, _ => by simp [fitTy] at h
  | d + 1, t, ds, h, hf => by
    simp only [fitTy] at h
    simp only [Fit] at hf
    split at h
    · rename_i hu; rw [hu] at hf; obtain ⟨b, rfl⟩ := hf; simp at h; simp [h]
    · rename_i hu; rw [hu] at hf; obtain ⟨b, rfl, _⟩ := hf; simp at h; simp [h]
    · rename_i hu; rw [hu] at hf; exact hf.1
    · rename_i hu; rw [hu] at hf; exact hf.1
    · rename_i hu; rw [hu] at hf
      simp at h
      rcases hf with rfl | ⟨n, cs, rfl, _⟩ <;> simp [h.1.1]
    · cases h

theorem layF_le : ∀ {fs : List Field} {o n : Nat}, layF P o fs = some n → o ≤ n
  | [], o, n, h => by simp [layF] at h; omega
  | f :: fs, o, n, h => by
    simp only [layF] at h
    split at h
    · have := layF_le h; omega
    · cases h

/-- Fields one behind the other. -/
theorem fields_fit (d fuel : Nat) (cs : List Value) (part : ∀ f : Field, fitTy P d f.type = true → (∃ x, DataW.trod enc P w 0 sp held fuel f.type ((cs.drop f.offset).take (P.cellsOf f.type)) = some x) →
      ∃ ds, Fit P d f.type ds ∧ Cells (memOf w) ((cs.drop f.offset).take (P.cellsOf f.type)) ds) :
    ∀ (fs : List Field) (o n : Nat), layF P o fs = some n → n ≤ cs.length → (∀ f ∈ fs, fitTy P d f.type = true ∧ ∃ x, DataW.trod enc P w 0 sp held fuel f.type ((cs.drop f.offset).take (P.cellsOf f.type)) = some x) →
      ∃ ds, ds.length = n - o ∧ Cells (memOf w) ((cs.drop o).take (n - o)) ds ∧ ∀ f ∈ fs, o ≤ f.offset ∧ Fit P d f.type ((ds.drop (f.offset - o)).take (P.cellsOf f.type))
  | [], o, n, h, _, _ => by
    simp [layF] at h
    subst h
    exact ⟨[], by simp, by simp [Cells], by simp⟩
  | f :: fs, o, n, h, hn, hf => by
    simp only [layF] at h
    split at h <;> first | (cases h; done) | skip
    rename_i ho
    have hle := layF_le h
    obtain ⟨ds2, l2, c2, f2⟩ := fields_fit d fuel cs part fs _ n h hn fun g hg => hf g (by simp [hg])
    obtain ⟨ds1, f1, c1⟩ := part f (hf f (by simp)).1 (hf f (by simp)).2
    have l1 := fitTy_len (hf f (by simp)).1 f1
    refine ⟨ds1 ++ ds2, by simp [l1, l2]; omega, ?_, ?_⟩
    · have := c1.append c2
      rw [ho] at this
      have e : (cs.drop o).take (n - o) = (cs.drop o).take (P.cellsOf f.type) ++ (cs.drop (o + P.cellsOf f.type)).take (n - (o + P.cellsOf f.type)) := by
        rw [← List.drop_drop, show n - o = P.cellsOf f.type + (n - (o + P.cellsOf f.type)) by omega, List.take_add]
      rw [e]; exact this
    · intro g hg
      rcases List.mem_cons.1 hg with rfl | hg
      · refine ⟨by omega, ?_⟩
        rw [show g.offset - o = 0 by omega, List.drop_zero, List.take_left' l1]
        exact f1
      · obtain ⟨q1, q2⟩ := f2 g hg
        refine ⟨by omega, ?_⟩
        rw [List.drop_append, List.drop_eq_nil_of_le (by omega), List.nil_append, l1, show g.offset - o - P.cellsOf f.type = g.offset - (o + P.cellsOf f.type) by omega]
        exact q2

/-- Elements one behind the other. -/
theorem elems_fit (d : Nat) (e : TypeId) (he : fitTy P d e = true) (cell : Nat → List Value) : ∀ (n k : Nat), (∀ i, i < n → ∃ ds, Fit P d e ds ∧ Cells (memOf w) (cell (k + i)) ds) →
    ∃ ds, ds.length = n * P.cellsOf e ∧ Cells (memOf w) ((List.range' k n).flatMap cell) ds ∧ ∀ i, i < n → Fit P d e ((ds.drop (i * P.cellsOf e)).take (P.cellsOf e))
  | 0, k, _ => ⟨[], by simp, by simp [Cells], by omega⟩
  | n + 1, k, h => by
    obtain ⟨ds1, f1, c1⟩ := h 0 (by omega)
    have l1 := fitTy_len he f1
    obtain ⟨ds2, l2, c2, f2⟩ := elems_fit d e he cell n (k + 1) fun i hi => by
      have := h (i + 1) (by omega)
      rwa [show k + (i + 1) = k + 1 + i by omega] at this
    refine ⟨ds1 ++ ds2, by simp [l1, l2, Nat.add_mul]; omega, ?_, fun i hi => ?_⟩
    · rw [List.range'_succ, List.flatMap_cons]
      exact c1.append c2
    · cases i with
      | zero => simp [List.take_left' l1]; exact f1
      | succ i =>
        rw [Nat.add_mul, Nat.one_mul, Nat.add_comm, ← List.drop_drop, List.drop_left' l1]
        exact f2 i (by omega)

theorem cells_get {b o n : Nat} {base : Nat} {cs : List Value} (h : w.cells? base ⟨b, o, none⟩ n = some cs) : cs.length = n ∧ ∀ (i : Nat) (v : Value), cs[i]? = some v → w.cell? ⟨b, o + i, none⟩ = some v := by
  obtain ⟨_, h1, h2⟩ := World.cells?_some h
  refine ⟨h1, fun i v hi => ?_⟩
  have hlt : i < n := by
    have := (List.getElem?_eq_some_iff.1 hi).1; omega
  have := h2 i hlt
  rw [addr_add] at this
  rw [this]; exact hi

theorem trod_fit : ∀ (d fuel : Nat) (t : TypeId) (cs : List Value) (x : DataW H × List MemPlace), fitTy P d t = true → DataW.trod enc P w 0 sp held fuel t cs = some x → ∃ ds, Fit P d t ds ∧ Cells (memOf w) cs ds := by
  intro d
  induction d with
  | zero => intro fuel t cs x h; simp [fitTy] at h
  | succ d ih =>
    intro fuel t cs x h hx
    simp only [fitTy] at h
    simp only [Fit]
    split at h
    · rename_i hu
      (try rw [hu])
      obtain ⟨b, rfl, _⟩ := DataW.trod_bool hu hx
      exact ⟨[.bool b], ⟨b, rfl⟩, by simp [Cells, RepD]⟩
    · rename_i k hu
      (try rw [hu])
      obtain ⟨n, rfl, _, hw⟩ := DataW.trod_int hu hx
      exact ⟨[.int k n], ⟨n, rfl, hw⟩, by simp [Cells, RepD]⟩
    · rename_i fs hu
      (try rw [hu])
      simp only [Bool.and_eq_true, beq_iff_eq, List.all_eq_true] at h
      obtain ⟨xs, n, hn, _, hl, hxl, hf⟩ := DataW.trod_struct hu hx
      obtain ⟨ds, l1, c1, f1⟩ := fields_fit d n cs (fun f hft ⟨y, hy⟩ => ih n f.type _ y hft hy) fs.toList 0 (P.cellsOf t) h.1 (by omega) fun f hf' => by
        refine ⟨h.2 f hf', ?_⟩
        obtain ⟨i, hi, e⟩ := List.getElem_of_mem hf'
        have hfi : fs[i]? = some f := by
          have hi' : i < fs.size := by simpa using hi
          rw [Array.getElem?_eq_getElem hi']; simpa using e
        have := hf i f hfi
        have hix : i < xs.length := by rw [hxl]; simpa using hi
        exact ⟨_, this.trans (List.getElem?_eq_getElem hix)⟩
      refine ⟨ds, ⟨by simpa using l1, fun f hf' => by simpa using (f1 f hf').2⟩, ?_⟩
      rw [List.drop_zero, Nat.sub_zero, List.take_of_length_le (by omega)] at c1
      exact c1
    · rename_i n e hu
      (try rw [hu])
      simp only [Bool.and_eq_true, beq_iff_eq] at h
      obtain ⟨xs, m, hm, _, hl, hxl, hf⟩ := DataW.trod_array hu hx
      obtain ⟨ds, l1, c1, f1⟩ := elems_fit d e h.2 (fun i => (cs.drop (i * P.cellsOf e)).take (P.cellsOf e)) n 0 fun i hi => by
        have := hf i hi
        have hix : i < xs.length := by omega
        rw [Nat.zero_add]
        exact ih m e _ _ h.2 (this.trans (List.getElem?_eq_getElem hix))
      have hfl : ∀ (n k : Nat) (cs : List Value), (k + n) * P.cellsOf e ≤ cs.length → (List.range' k n).flatMap (fun i => (cs.drop (i * P.cellsOf e)).take (P.cellsOf e)) = (cs.drop (k * P.cellsOf e)).take (n * P.cellsOf e) := by
        intro n
        induction n with
        | zero => intro k cs _; simp
        | succ n ihn =>
          intro k cs hk
          rw [List.range'_succ, List.flatMap_cons, ihn (k + 1) cs (by rwa [show k + 1 + n = k + (n + 1) by omega])]
          rw [show (n + 1) * P.cellsOf e = P.cellsOf e + n * P.cellsOf e by rw [Nat.add_mul]; omega, List.take_add, List.drop_drop]
          rw [show k * P.cellsOf e + P.cellsOf e = (k + 1) * P.cellsOf e by rw [Nat.add_mul]; omega]
      refine ⟨ds, ⟨by rw [l1, h.1], f1⟩, ?_⟩
      rw [hfl n 0 cs (by rw [hl, h.1]; simp)] at c1
      rw [Nat.zero_mul, List.drop_zero, List.take_of_length_le (by rw [hl, h.1]; exact Nat.le_refl _)] at c1
      exact c1
    · rename_i e hu
      (try rw [hu])
      simp only [Bool.and_eq_true, beq_iff_eq, decide_eq_true_eq] at h
      rcases DataW.trod_slice hu hx with ⟨rfl, _⟩ | ⟨a, len, cap, elems, rest, n, hn, rfl, _, _, hlc, hcm, hel, hf, _⟩
      · exact ⟨[.nils], .inl rfl, by simp [Cells, RepD]⟩
      · have hspot : 0 < len → a.spot = none := by
          intro hpos
          have := hf 0 hpos
          rw [show elems[0]? = some (elems[0]'(by omega)) from List.getElem?_eq_getElem (by omega)] at this
          obtain ⟨c0, h0, _⟩ := Option.bind_eq_some_iff.1 this
          obtain ⟨_, h1, h2⟩ := World.cells?_some h0
          have h3 := h2 0 h.2
          simp only [Nat.zero_mul] at h3
          have e0 : (a.add 0).add 0 = a := by simp [Addr.add]
          rw [e0] at h3
          have hsome : c0[0]? = some (c0[0]'(by omega)) := List.getElem?_eq_getElem (by omega)
          rw [hsome] at h3
          unfold World.cell? at h3
          split at h3
          · split at h3
            · cases h3
            · rename_i hs; simpa using hs
          · cases h3
        have hA : 0 < len → a = ⟨a.block, a.off, none⟩ := fun hpos => by
          have := hspot hpos
          obtain ⟨b, o, s⟩ := a
          simp at this
          subst this; rfl
        have hcell : ∀ i, i < len → ∃ c, w.cells? 0 (a.add (i * P.cellsOf e)) (P.cellsOf e) = some c ∧ ∃ ds, Fit P d e ds ∧ Cells (memOf w) c ds := by
          intro i hi
          have := hf i hi
          rw [List.getElem?_eq_getElem (show i < elems.length by omega)] at this
          obtain ⟨c, h0, h1⟩ := Option.bind_eq_some_iff.1 this
          exact ⟨c, h0, ih n e c _ h.1.2 h1⟩
        let cell : Nat → List Value := fun i => ((w.cells? 0 (a.add (i * P.cellsOf e)) (P.cellsOf e)).getD [])
        have hcl : ∀ i, i < len → w.cells? 0 (a.add (i * P.cellsOf e)) (P.cellsOf e) = some (cell i) := fun i hi => by
          obtain ⟨c, h0, _⟩ := hcell i hi
          simp only [cell]; rw [h0]; rfl
        obtain ⟨ds, l1, c1, f1⟩ := elems_fit d e h.1.2 cell len 0 fun i hi => by
          obtain ⟨c, h0, h1⟩ := hcell i hi
          rw [Nat.zero_add]
          simp only [cell]; rw [h0]; exact h1
        refine ⟨[.sl len ds], .inr ⟨len, ds, rfl, by unfold maxLen at hcm; omega, l1, f1⟩, ?_⟩
        simp only [Cells, RepD, and_true]
        refine ⟨some a, cap, rfl, hlc, fun h0 => ?_, fun hpos => ⟨a.block, a.off, by rw [← hA hpos], ?_⟩⟩
        · subst h0; simp at l1; exact l1
        · refine Cells.repR a.off c1 fun i v hi => ?_
          have key : ∀ (n k i : Nat) (v : Value), k + n ≤ len → ((List.range' k n).flatMap cell)[i]? = some v → w.cell? ⟨a.block, a.off + k * P.cellsOf e + i, none⟩ = some v := by
            intro n
            induction n with
            | zero => intro k i v _ h; simp at h
            | succ n ihn =>
              intro k i v hk hv
              rw [List.range'_succ, List.flatMap_cons] at hv
              have hck := hcl k (by omega)
              rw [hA (by omega), addr_add] at hck
              obtain ⟨g1, g2⟩ := cells_get hck
              by_cases hlt : i < (cell k).length
              · rw [List.getElem?_append_left hlt] at hv
                exact g2 i v hv
              · rw [List.getElem?_append_right (by omega), g1] at hv
                have := ihn (k + 1) (i - P.cellsOf e) v (by omega) hv
                rwa [show a.off + (k + 1) * P.cellsOf e + (i - P.cellsOf e) = a.off + k * P.cellsOf e + i by rw [Nat.add_mul]; omega] at this
          have := key len 0 i v (by omega) hi
          simpa using this
    · cases h

/-- An argument's value, of its cells. -/
def argSV (P : Program) (t : TypeId) (ds : List DV) : SV :=
  match tySz P t with
  | some (some _) => .agg (ds.map .d)
  | _ => .d (ds.headD .nilp)

def FitAll (P : Program) (d : Nat) : List TypeId → List (List DV) → Prop
  | [], [] => True
  | t :: ts, x :: xs => Fit P d t x ∧ FitAll P d ts xs
  | _, _ => False
def argSVs (P : Program) : List TypeId → List (List DV) → List SV
  | t :: ts, x :: xs => argSV P t x :: argSVs P ts xs
  | _, _ => []


def FitTys (P : Program) (d : Nat) (ts : List TypeId) : Bool := ts.all fun t => fitTy P d t && (P.readableRec t && decide (t < P.types.size))

theorem arg_rep {t : TypeId} {v : Value} {d : Nat} {x : DataW H} {ps : List MemPlace} {r : Reach} {b0 : Nat} (hf : fitTy P d t = true) (hv : Value.okWide P w r b0 t v) (h : DataW.Trod enc P w 0 sp held t v x ps) (p : Nat → Prop) (μ : Nat → Nm) :
    ∃ ds, Fit P d t ds ∧ Rp p μ (memOf w) (argSV P t ds) v := by
  obtain ⟨fuel, hx⟩ := h
  obtain ⟨ds, h1, h2⟩ := trod_fit d fuel t _ _ hf hx
  refine ⟨ds, h1, ?_⟩
  have hinfo : ∃ i, P.info? t = some i := by
    cases hi : P.info? t with
    | some i => exact ⟨i, rfl⟩
    | none =>
      exfalso
      cases d with
      | zero => simp [fitTy] at hf
      | succ d => simp [fitTy, Program.underlying, hi] at hf
  obtain ⟨i, hi⟩ := hinfo
  have one : ∀ (hs : tySz P t = some none) (hvc : v.cells.toList = [v]), Rp p μ (memOf w) (argSV P t ds) v := by
    intro hs hvc
    rw [hvc] at h2
    match ds, h2 with
    | [y], h2 =>
      simp only [Cells] at h2
      simp only [argSV, hs, List.headD_cons]
      exact Rp.d_iff.2 h2.1
    | [], h2 => simp [Cells] at h2
    | y :: z :: r, h2 => simp [Cells] at h2
  have agg : ∀ (n : Nat) (hs : tySz P t = some (some n)) (cs : Array Value) (hvc : v = .agg cs), Rp p μ (memOf w) (argSV P t ds) v := by
    intro n hs cs hvc
    subst hvc
    simp only [argSV, hs]
    exact Rp.agg_iff.2 ⟨cs, rfl, Cells.rps h2⟩
  cases d with
  | zero => simp [fitTy] at hf
  | succ d =>
    simp only [fitTy] at hf
    split at hf
    · rename_i hu
      obtain ⟨b, rfl⟩ := okWide_bool hu hv
      exact one (by simp [tySz, hu, hi]) rfl
    · rename_i hu
      obtain ⟨b, rfl⟩ := okWide_int hu hv
      exact one (by simp [tySz, hu, hi]) rfl
    · rename_i fs hu
      obtain ⟨cs, rfl, _⟩ := okWide_struct hu hv
      exact agg i.size (by simp [tySz, hu, hi]) cs rfl
    · rename_i n e hu
      unfold Value.okWide at hv
      rw [hu] at hv
      obtain ⟨cs, rfl, _⟩ := hv
      exact agg i.size (by simp [tySz, hu, hi]) cs rfl
    · rename_i e hu
      obtain ⟨a, len, cap, rfl⟩ := okWide_slice hu hv
      exact one (by simp [tySz, hu, hi]) rfl
    · cases hf

theorem args_rep {d : Nat} {r : Reach} {b0 : Nat} (p : Nat → Prop) (μ : Nat → Nm) : ∀ (ts : List TypeId) (vs : List Value) (xs : List (DataW H)) (ps : List MemPlace), FitTys P d ts = true → DataW.TrodAll enc P w 0 sp held ts vs xs ps →
    (∀ (j : Nat) t v, ts[j]? = some t → vs[j]? = some v → Value.okWide P w r b0 t v) → ∃ dss, FitAll P d ts dss ∧ Rps p μ (memOf w) (argSVs P ts dss) vs ∧ xs.length = ts.length
  | [], vs, xs, ps, _, h, _ => by
    obtain ⟨rfl, rfl, _⟩ := trodAll_nil h
    exact ⟨[], trivial, Rps.nil_iff.2 rfl, rfl⟩
  | t :: ts, vs, xs, ps, hf, h, hv => by
    obtain ⟨v, vs', x, xs', p1, p2, rfl, rfl, rfl, h1, h2⟩ := trodAll_cons h
    simp only [FitTys, List.all_cons, Bool.and_eq_true] at hf
    obtain ⟨ds, a1, a2⟩ := arg_rep (P := P) hf.1.1 (hv 0 t v rfl rfl) h1 p μ
    obtain ⟨dss, b1, b2, b3⟩ := args_rep p μ ts vs' xs' p2 (by simpa [FitTys] using hf.2) h2 fun j t' v' ht hv' => hv (j + 1) t' v' (by simpa using ht) (by simpa using hv')
    exact ⟨ds :: dss, ⟨a1, b1⟩, Rps.cons_iff.2 ⟨v, vs', rfl, a2, b2⟩, by simp [b3]⟩

theorem trodAll_stays {d : Nat} (hl : laidOutB P = true) {W W' : World} {sp' : Nat → Bool} : ∀ (ts : List TypeId) (vs : List Value) (xs : List (DataW H)) (ps : List MemPlace), FitTys P d ts = true → DataW.TrodAll enc P W 0 (fun _ => true) true ts vs xs ps →
    (∀ x ∈ ps, W.sameAt W' x) → (∀ x ∈ ps, sp' x.block = true) → DataW.TrodAll enc P W' 0 sp' true ts vs xs ps
  | [], vs, xs, ps, _, h, _, _ => by
    obtain ⟨rfl, rfl, rfl⟩ := trodAll_nil h
    exact trodAll_mk0
  | t :: ts, vs, xs, ps, hf, h, hs, hp => by
    obtain ⟨v, vs', x, xs', p1, p2, rfl, rfl, rfl, h1, h2⟩ := trodAll_cons h
    simp only [FitTys, List.all_cons, Bool.and_eq_true, decide_eq_true_eq] at hf
    exact trodAll_cons_mk (WideElems.Trod_stays hl hf.1.2.1 hf.1.2.2 h1 (fun q hq => hs q (by simp [hq])) (fun q hq => hp q (by simp [hq])))
      (trodAll_stays hl ts vs' xs' p2 (by simpa [FitTys] using hf.2) h2 (fun q hq => hs q (by simp [hq])) (fun q hq => hp q (by simp [hq])))

/-- The row's last step, of a world of which only 'Below' is known. -/
theorem post_of_below {f : Func} {s : ChangeSpec} {apart fresh handsOn again : Bool} {W W' : World} {args : Array Value} {v : Value} {ds gs : List (DataW H)} {before pa pv : List MemPlace}
    (hW : DataW.Whole enc P f.params.toList s.vars apart W args.toList ds gs before)
    (hres : ∀ (b : Nat) (sp : Nat → Bool) (hd : Bool), DataW.TrodAll enc P W' b sp hd f.resultTypes.toList (v.resultList f.resultTypes.size) (s.fn H (ds ++ gs)).results [])
    (hargs : ∀ sp : Nat → Bool, (∀ p ∈ before, sp p.block = true) → DataW.TrodAll enc P W' 0 sp true f.params.toList args.toList (s.fn H (ds ++ gs)).args pa)
    (hvars : ∀ sp : Nat → Bool, (∀ p ∈ before, sp p.block = true) → DataW.TrodVars enc P W' sp s.vars (s.fn H (ds ++ gs)).vars pv)
    (hps : before = pa ++ pv) (hb : Below W.heap.size W W')
    (hok : ∀ (j : Nat) (t : TypeId) (r : Value), f.resultTypes[j]? = some t → (v.resultList f.resultTypes.size)[j]? = some r → Value.okWide P W' .any 0 t r) :
    s.post enc P f apart fresh handsOn again W args v W' := by
  have hlt : ∀ p ∈ before, p.block < W.heap.size := fun p hp => hW.lt p hp
  have hold : ∀ p ∈ before, (fun b => decide (b < W.heap.size)) p.block = true := fun p hp => by simpa using hlt p hp
  refine ⟨ds, gs, before, [], pa, pv, hW, hres _ _ _, hargs _ hold, hvars _ hold, World.keptBut_mono (fun p hp => ⟨hp, ?_⟩) (hb.frame (· ∈ before)), fun _ => ?_⟩
  · rw [hps, List.mem_append] at hp
    exact Or.inr hp
  · obtain ⟨_, _, _, _, _, hz, hn⟩ := hW
    refine ⟨hok, _, _, ([] ++ pa) ++ pv, ⟨[] ++ pa, pv, trodAll_append (hargs _ (fun _ _ => rfl)) (hres _ _ _), hvars _ (fun _ _ => rfl), rfl, ?_, ?_⟩, ?_⟩
    · intro b off hp
      have hin : MemPlace.cell b off ∈ before := by rw [hps]; simpa using hp
      rw [hb.frozen (hlt _ hin)]
      exact hz b off hin
    · intro ha
      have := hn ha
      rw [hps] at this
      simpa using this
    · intro p hp _
      rw [hps]
      simpa using hp

/-- A LAW: its contract, by what its arguments read as. -/
theorem law_calls {f : FuncId} {fn : Func} {spec : ChangeSpec} {tb : TypeId} (d : Nat) (hl : laidOutB P = true) (hts : FitTys P d fn.params.toList = true) (hres : fn.resultTypes = #[tb]) (htb : P.underlying tb = some .bool) (hvars : spec.vars = [])
    (hspec : ∀ ds : List (DataW H), ds.length = fn.params.toList.length → (spec.fn H ds).results = [.lit (.bool true)] ∧ (spec.fn H ds).args = ds ∧ (spec.fn H ds).vars = [])
    (hlaw : ∀ dss, FitAll P d fn.params.toList dss → SB P f (argSVs P fn.params.toList dss) [] 0 0 fun r F => r = bl true)
    (W : World) (base : Nat) (args : Array Value) (ds gs : List (DataW H)) (before : List MemPlace)
    (hval : ∀ (j : Nat) t v, fn.params[j]? = some t → args[j]? = some v → Value.okWide P W .any base t v)
    (hW : DataW.Whole enc P fn.params.toList spec.vars false W args.toList ds gs before) :
    Calls P f args W fun e W' => ∃ v, e = .returned v ∧ spec.post enc P fn false true false false W args v W' := by
  have hW' := hW
  obtain ⟨p, q, hA, hV, rfl, hfz, hnd⟩ := hW
  rw [hvars] at hV
  obtain ⟨rfl, rfl⟩ := trodVars_none hV
  obtain ⟨dss, h1, h2, h3⟩ := args_rep (P := P) (d := d) (fun n => n < 0) (fun _ => ⟨0, 0, true⟩) fn.params.toList args.toList ds p hts hA fun j t v ht hv => hval j t v (by simpa using ht) (by simpa using hv)
  refine ((hlaw dss h1).2.2.2 (fun _ => ⟨0, 0, true⟩) (memOf W) W args h2 ⟨fun b o v h => h, fun n ob h => by simp [lk_nil] at h, fun n m h => by simp [lk_nil] at h⟩).mono ?_
  rintro e W' ⟨r, F', μ', M', u, rfl, rfl, _, _, hr, _, hE⟩
  have hu : u = .bool true := by simpa [Rep, RepD] using hr
  subst hu
  have hb : Below W.heap.size W W' := ⟨hE.os, hE.tape.1, hE.output, hE.size, fun b hb => (hE.frame b hb fun n hn => by simp [lk_nil] at hn).1⟩
  obtain ⟨s1, s2, s3⟩ := hspec (ds ++ []) (by simpa using h3)
  refine ⟨_, rfl, post_of_below (pa := p) (pv := []) hW' (fun b sp hd => ?_) (fun sp hsp => ?_) (fun sp hsp => ?_) rfl hb ?_⟩
  · rw [s1, hres]
    exact trodAll_cons_mk (shut_bool htb _) trodAll_mk0
  · rw [s2]
    simp only [List.append_nil] at hsp ⊢
    exact trodAll_stays hl _ _ _ _ hts hA (fun x hx => hb.same (hW'.lt x (by simpa using hx))) hsp
  · rw [hvars, s3]
    rfl
  · exact ok_one hres rfl (okWide_bool_mk htb _)
end
end Go.Sl
