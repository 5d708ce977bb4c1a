/-
  Sorting a row by a function: the kit's contract of slices.SortFunc as one of this logic.
-/
import Derived.Test.YtgjgfamgbhlmfaaUK
import Derived.Shelf.SlSortCmp.NoneTotal
set_option linter.unusedVariables false
set_option linter.unusedSimpArgs false
set_option linter.unusedSectionVars false
namespace Go.Sl
open Go.RowKit Go.Sort Go.Proofs Go.Shelf
variable {P : Program}

/-- An element of a row: its cells, what they are. -/
structure Elem {A : Type} (ds : A → List DV) (M : Mem) where
  cells : List Value
  mod : A
  rep : Rps (fun _ => False) (fun _ => ⟨0, 0, true⟩) M ((ds mod).map .d) cells

theorem Rps.dAny {p : Nat → Prop} {μ : Nat → Nm} {M : Mem} {xs : List DV} {vs : List Value} (h : Rps p μ M (xs.map .d) vs) (p' : Nat → Prop) (μ' : Nat → Nm) : Rps p' μ' M (xs.map .d) vs := by
  induction xs generalizing vs with
  | nil => exact Rps.nil_iff.2 (Rps.nil_iff.1 h)
  | cons x xs ih =>
    obtain ⟨u, us, e, h1, h2⟩ := Rps.cons_iff.1 h
    exact Rps.cons_iff.2 ⟨u, us, e, Rp.d_iff.2 (Rp.d_iff.1 h1), ih h2⟩

theorem rows_elems {A : Type} (ds : A → List DV) {p : Nat → Prop} {μ : Nat → Nm} {M : Mem} : ∀ (l : List A) (us : List Value), Rps p μ M ((l.flatMap ds).map .d) us →
    ∃ es : List (Elem ds M), es.map (·.mod) = l ∧ es.flatMap (·.cells) = us
  | [], us, h => ⟨[], rfl, by simpa using (Rps.nil_iff.1 h).symm⟩
  | x :: l, us, h => by
    have h1 : Rps p μ M ((ds x).map .d) (us.take (ds x).length) := by simpa using Rps.take (ds x).length h
    have h2 : Rps p μ M ((l.flatMap ds).map .d) (us.drop (ds x).length) := by simpa using Rps.drop (ds x).length h
    obtain ⟨es, e1, e2⟩ := rows_elems ds l _ h2
    exact ⟨⟨us.take (ds x).length, x, h1.dAny _ _⟩ :: es, by simp [e1], by simp [e2]⟩
theorem elems_rows {A : Type} (ds : A → List DV) {p : Nat → Prop} {μ : Nat → Nm} {M : Mem} : ∀ (es : List (Elem ds M)), Rps p μ M (((es.map (·.mod)).flatMap ds).map .d) (es.flatMap (·.cells))
  | [] => Rps.nil_iff.2 rfl
  | x :: es => by
    have := Rps.append (x.rep.dAny p μ) (elems_rows ds es)
    simpa using this

theorem flatK_list {A : Type} {ds : A → List DV} {M : Mem} [Inhabited (Elem ds M)] {k : Nat} (hk : ∀ x : Elem ds M, x.cells.length = k) (es : List (Elem ds M)) : (flatK (fun x : Elem ds M => x.cells) k es.toArray).toList = es.flatMap (·.cells) := by
  have hl := flat_length (fun x : Elem ds M => x.cells) k hk es
  apply List.ext_getElem?
  intro t
  by_cases ht : t < es.length * k
  · have hk0 : 0 < k := by rcases Nat.eq_zero_or_pos k with h | h; · subst h; simp at ht
                           · exact h
    have hi : t / k < es.length := Nat.div_lt_of_lt_mul (by rwa [Nat.mul_comm] at ht)
    have e1 := flat_get (fun x : Elem ds M => x.cells) k hk es (t / k) (t % k) es[t / k] (List.getElem?_eq_getElem hi) (Nat.mod_lt _ hk0)
    have e2 : t / k * k + t % k = t := by rw [Nat.mul_comm]; exact Nat.div_add_mod t k
    rw [e2] at e1
    rw [e1]
    have e3 := get_flatK (fun x : Elem ds M => x.cells) k es.toArray t (by simpa using ht)
    have e4 : t < (flatK (fun x : Elem ds M => x.cells) k es.toArray).size := by simpa using ht
    have hc : t % k < es[t / k].cells.length := by rw [hk]; exact Nat.mod_lt _ hk0
    rw [getElem!_pos _ t e4] at e3
    rw [Array.getElem?_toList, Array.getElem?_eq_getElem e4, e3]
    simp [hi, hc]
  · rw [List.getElem?_eq_none (by simpa using ht), List.getElem?_eq_none (by rw [hl]; omega)]

/-- From a world, as one leaves it who looks at no object. -/
theorem Ev.grown {new : Nat → Prop} {μ μ' : Nat → Nm} {M M' : Mem} {w w' : World} {c' : Nat → Option Ob} (h : Ev (lk []) new μ M w c' μ' M' w') : ∃ q os, w' = grow (w.drewN q) os := by
  refine ⟨w'.drawn - w.drawn, w'.heap.extract w.heap.size w'.heap.size, ?_⟩
  have hh : w'.heap = w.heap ++ w'.heap.extract w.heap.size w'.heap.size := by
    apply Array.ext_getElem?
    intro i
    rw [Array.getElem?_append]
    split
    · rename_i hi
      exact (h.frame i hi fun n hn => by simp [lk_nil] at hn).1
    · rename_i hi
      rw [Array.getElem?_extract]
      have := h.size
      split
      · rw [show w.heap.size + (i - w.heap.size) = i by omega]
      · rename_i hj
        rw [Array.getElem?_eq_none (by omega)]
  have h1 := h.os
  have h2 := h.tape
  have h3 := h.output
  have hd : w'.drawn = w.drawn + (w'.drawn - w.drawn) := by have := h2.2; omega
  obtain ⟨a, b, c, d, e⟩ := w'
  obtain ⟨a', b', c', d', e'⟩ := w
  simp only [grow, World.drewN]
  simp only at hh h1 h2 h3 hd
  replace h2 := h2.1
  simp only at h2
  subst h1; subst h2; subst h3
  rw [← hd, ← hh]

theorem SC.sortFunc {ρ : Ren} {A : Type} (L : SlLaysF0.n6 P ρ) (sz : Nat) (aE : ∀ w, (isAgg (ρ.t 24)).run P w = .ok true w) (zE : ∀ w, (Go.sizeOf (ρ.t 24)).run P w = .ok sz w) (hcall : Callable P (ρ.f 6) = true)
    (ds : A → List DV) (hds : ∀ x, (ds x).length = sz) (cf : A → A → Int) (hO : SWO (ltOf cf)) (g : Nat) (capv : List SV) (hg : Callable P g = true)
    (hcmp : ∀ (x y : A) (k : Nat), SCd P g ([.agg ((ds x).map .d), .agg ((ds y).map .d)] ++ capv) [] k 0 (.d (.int .i64 (cf x y))) []) (n e : Nat) (l : List A) (hl : l.length < 4611686018427387904) (k : Nat) :
    SC P (ρ.f 6) [.gs n l.length, .fn (.func g) [] capv] [(n, .arr e sz l.length ((l.flatMap ds).map .d))] k 0
      (fun r F' => r = .tup [] ∧ ∃ l' : List A, l'.Perm l ∧ l'.Pairwise (fun a b => ltOf cf b a = false) ∧ F' = [(n, .arr e sz l.length ((l'.flatMap ds).map .d))]) := by
  refine ⟨hcall, fun p μ M w vals hp hr hS => ?_⟩
  obtain ⟨u1, us, e1, r1, r2⟩ := Rps.cons_iff.1 hr
  obtain ⟨u2, us2, e2, r3, r4⟩ := Rps.cons_iff.1 r2
  have e3 := Rps.nil_iff.1 r4
  subst e3; subst e2
  obtain ⟨fs, cs, rfl, ra, rc⟩ := Rp.fn_iff.1 r3
  have ra' := Rps.nil_iff.1 ra
  have hvals : vals = #[u1, .func (.func g) fs cs] := by cases vals; simpa using e1
  have has : fs = #[] := by cases fs; simpa using ra'
  subst has; subst hvals
  obtain ⟨hpn, hob, hMn⟩ := hS.obs n (.arr e sz l.length ((l.flatMap ds).map .d)) (by simp [lk_one])
  by_cases h0 : l = []
  · subst h0
    have hsl : ∃ A cap, u1 = .slice A 0 cap := by
      rcases r1.gs_of with ⟨_, rfl⟩ | ⟨_, _, A, rfl⟩ <;> exact ⟨_, _, rfl⟩
    obtain ⟨A', cap, rfl⟩ := hsl
    refine (AnyF.slices_SortFunc_none L A' cap (.func (.func g) #[] cs) w).mono ?_
    rintro e w' ⟨rfl, rfl⟩
    exact ⟨.tup [], _, μ, M, .tuple #[], rfl, ⟨rfl, [], List.Perm.refl _, List.Pairwise.nil, rfl⟩, Rp.tup_iff.2 ⟨#[], rfl, Rps.nil_iff.2 rfl⟩, hS.more fun n h => .inl h, Ev.refl _ _ _ _ _ fun n _ h => by omega⟩
  · have hpos : 0 < l.length := by cases l with
      | nil => exact absurd rfl h0
      | cons x l => simp
    rcases hob with ⟨_, hz, _⟩ | ⟨hlive, vs, hb, q1, q2, q3, q4, hrow⟩
    · omega
    have hMn := hMn hlive
    obtain ⟨_, rfl⟩ : (μ n).live = true ∧ u1 = .slice (some ⟨(μ n).blk, 0, none⟩) l.length (μ n).cap := by
      rcases r1.gs_of with h | ⟨h, _⟩
      · exact h
      · rw [hlive] at h; cases h
    obtain ⟨es, m1, m2⟩ := rows_elems ds l _ hrow
    have hlen : es.length = l.length := by rw [← m1]; simp
    have hk : ∀ x : Elem ds M, x.cells.length = sz := fun x => by
      have := x.rep.length
      rw [this]; simp [hds]
    have : Inhabited (Elem ds M) := ⟨es[0]'(by omega)⟩
    have hone : ∀ x : Elem ds M, ∀ v ∈ x.cells, v.oneCell' = true := fun x => Rps.ones (by simp [SV.isOne]) x.rep
    have hblk : (μ n).blk < w.heap.size := (Array.getElem?_eq_some_iff.1 hb).1
    have hfl := flatK_list (k := sz) hk es
    have hcut : sz * l.length ≤ vs.size := by rw [q4, Nat.mul_comm]; exact Nat.mul_le_mul_right _ q2
    have hH : HoldsK (fun x : Elem ds M => x.cells) sz w (μ n).blk 0 es.toArray := by
      intro j hj
      have hj' : j < l.length * sz := by simpa [hlen] using hj
      have hgot : (flatK (fun x : Elem ds M => x.cells) sz es.toArray)[j]! = vs[j]! := by
        have hv : j < vs.size := by rw [Nat.mul_comm] at hcut; omega
        rw [getElem!_pos _ j hj, getElem!_pos vs j hv]
        have := congrArg (fun l => l[j]?) (hfl.trans m2)
        simp only [Array.getElem?_toList, List.getElem?_take, hj', if_true, Array.getElem?_eq_getElem hj, Array.getElem?_eq_getElem hv] at this
        exact Option.some.inj this
      have hv : j < vs.size := by rw [Nat.mul_comm] at hcut; omega
      refine ⟨?_, ?_⟩
      · rw [Nat.zero_add, cell_of hb, hgot, getElem!_pos vs j hv, Array.getElem?_eq_getElem hv]; rfl
      · simp [World.frozen?, hb]
    have hmem : ∀ (q : Nat) (os : Array Obj) (dk : Array (Elem ds M)) (b o : Nat) (v : Value), M b o = some v → (sortWorldK (fun x : Elem ds M => x.cells) sz w (μ n).blk 0 q dk os).cell? ⟨b, o, none⟩ = some v := by
      intro q os dk b o v hv
      have hbn : b ≠ (μ n).blk := fun e => by rw [e, hMn] at hv; cases hv
      have hc := hS.mem b o v hv
      have hlt := World.block_lt_of_cell? w ⟨b, o, none⟩ hc
      unfold sortWorldK
      have hsz : (putRowK (fun x : Elem ds M => x.cells) sz (Sort.ahead w q) (μ n).blk 0 dk).heap.size = w.heap.size := by
        unfold putRowK putRow mapBlock
        simp [Sort.ahead]
      rw [cell?_grow _ _ _ (by show b < _; rw [hsz]; exact hlt), cell?_putRowK_other _ _ _ _ _ _ _ hbn]
      exact hc
    have hC : CmpLays P g cs (fun x : Elem ds M => x.cells) sz (fun x y => cf x.mod y.mod) (μ n).blk 0 es.toArray.size w := by
      intro q os dk hdk x y
      have hargs : Rps p μ M ([.agg ((ds x.mod).map .d), .agg ((ds y.mod).map .d)] ++ capv) (#[.agg x.cells.toArray, .agg y.cells.toArray] ++ cs : Array Value).toList := by
        have a1 : Rp p μ M (.agg ((ds x.mod).map .d)) (.agg x.cells.toArray) := Rp.agg_iff.2 ⟨_, rfl, by simpa using x.rep.dAny p μ⟩
        have a2 : Rp p μ M (.agg ((ds y.mod).map .d)) (.agg y.cells.toArray) := Rp.agg_iff.2 ⟨_, rfl, by simpa using y.rep.dAny p μ⟩
        have := Rps.append (Rps.cons_iff.2 ⟨_, _, rfl, a1, Rps.cons_iff.2 ⟨_, _, rfl, a2, Rps.nil_iff.2 rfl⟩⟩) rc
        simpa using this
      refine ((hcmp x.mod y.mod k).2 p μ M (sortWorldK (fun x : Elem ds M => x.cells) sz w (μ n).blk 0 q dk os) _ (fun n hn => by omega) hargs ⟨⟨fun b o v hv => hmem q os dk b o v hv, hS.mem.glob⟩, fun n ob hn => by simp [lk_nil] at hn, fun n m hn => by simp [lk_nil] at hn⟩).mono ?_
      rintro e w' ⟨r, F', μ', M', u, rfl, ⟨rfl, rfl⟩, hr', _, hE⟩
      refine ⟨?_, hE.grown⟩
      rw [Rp.int_iff.1 hr']
    have hO' : SWO (ltOf fun x y : Elem ds M => cf x.mod y.mod) := ⟨fun x => hO.irrefl x.mod, fun x y z h1 h2 => hO.trans x.mod y.mod z.mod h1 h2, fun x y z h1 h2 => hO.ntrans x.mod y.mod z.mod h1 h2⟩
    have hsort := AnyQ.slices_SortFunc L sz aE zE (fun x : Elem ds M => x.cells) hk hone (fun x y => cf x.mod y.mod) hO' g cs (μ n).blk 0 (μ n).cap es.toArray w (fun args w => run_callFunc hg args) hC hH hblk (by simpa [hlen] using hl)
    rw [show es.toArray.size = l.length by simp [hlen]] at hsort
    refine hsort.mono ?_
    rintro e' w' ⟨rfl, d', q, os, hperm, hsorted, rfl⟩
    obtain ⟨p1, _, p3⟩ := hperm
    have hd' : d'.size = l.length := by rw [p1]; simp [hlen]
    have p3 : d'.toList.Perm es := by
      have ea : d'.extract 0 l.length = d' := by rw [← hd']; simp
      have eb : es.toArray.extract 0 l.length = es.toArray := by rw [← hlen]; simp
      rw [ea, eb] at p3
      simpa using p3
    have hfl' := flatK_list (k := sz) hk d'.toList
    rw [Array.toArray_toList] at hfl'
    have hFs : (flatK (fun x : Elem ds M => x.cells) sz d').size = l.length * sz := by simp [hd']
    let vs' : Array Value := putCells id 0 (flatK (fun x : Elem ds M => x.cells) sz d') vs
    have hvs' : vs'.size = vs.size := by simp [vs', putCells]
    have hput : (putRowK (fun x : Elem ds M => x.cells) sz (Sort.ahead w q) (μ n).blk 0 d').heap[(μ n).blk]? = some (.cells vs' e (0, 0)) := by
      unfold putRowK putRow mapBlock
      simp only [Sort.ahead, Array.getElem?_modify, if_true, hb, Option.map_some, onCells, vs']
    have hsz : (putRowK (fun x : Elem ds M => x.cells) sz (Sort.ahead w q) (μ n).blk 0 d').heap.size = w.heap.size := by
      unfold putRowK putRow mapBlock
      simp [Sort.ahead]
    have hother : ∀ b, b < w.heap.size → b ≠ (μ n).blk → (sortWorldK (fun x : Elem ds M => x.cells) sz w (μ n).blk 0 q d' os).heap[b]? = w.heap[b]? := by
      intro b hbl hbn
      unfold sortWorldK
      rw [heap_grow_old _ _ (by rw [hsz]; exact hbl)]
      unfold putRowK putRow mapBlock
      simp only [Sort.ahead, Array.getElem?_modify, if_neg (Ne.symm hbn)]
    have hnew : (sortWorldK (fun x : Elem ds M => x.cells) sz w (μ n).blk 0 q d' os).heap[(μ n).blk]? = some (.cells vs' e (0, 0)) := by
      unfold sortWorldK
      rw [heap_grow_old _ _ (by rw [hsz]; exact hblk)]
      exact hput
    have htake : vs'.toList.take (l.length * sz) = d'.toList.flatMap (·.cells) := by
      rw [← hfl']
      apply List.ext_getElem?
      intro t
      rw [List.getElem?_take]
      by_cases ht : t < l.length * sz
      · have h1 : t < vs.size := by rw [Nat.mul_comm] at hcut; omega
        have h2 : t < (flatK (fun x : Elem ds M => x.cells) sz d').size := by rw [hFs]; exact ht
        rw [if_pos ht, Array.getElem?_toList, Array.getElem?_toList, Array.getElem?_eq_getElem h2]
        simp only [vs', putCells, Array.getElem?_mapIdx, Array.getElem?_eq_getElem h1, Option.map_some, Nat.zero_le, true_and, Nat.zero_add, Nat.sub_zero, id]
        rw [if_pos h2, getElem!_pos _ t h2]
      · rw [if_neg ht, Array.getElem?_toList, Array.getElem?_eq_none (by rw [hFs]; omega)]
    refine ⟨.tup [], [(n, .arr e sz l.length (((d'.toList.map (·.mod)).flatMap ds).map .d))], μ, M, .tuple #[], rfl, ⟨rfl, d'.toList.map (·.mod), ?_, ?_, rfl⟩, Rp.tup_iff.2 ⟨#[], rfl, Rps.nil_iff.2 rfl⟩, ⟨⟨fun b o v hv => hmem q os d' b o v hv, hS.mem.glob⟩, fun m ob hm => ?_, fun m m' hm hm' _ _ _ => ?_⟩, ⟨fun _ _ => rfl, Mem.le_refl _, fun b hbl hf => ⟨hother b hbl fun ee => hf n (by simp [lk_one]) hlive ee.symm, fun _ => rfl⟩, ?_, fun m hm => ?_, rfl, ⟨rfl, ?_⟩, rfl⟩⟩
    · rw [← m1]; exact p3.map _
    · rw [List.pairwise_map, List.pairwise_iff_getElem]
      intro i j hi hj hij
      have := hsorted i j (Nat.zero_le _) hij (by rw [← hd']; simpa using hj)
      rwa [getElem!_pos d' j (by simpa using hj), getElem!_pos d' i (by simpa using hi)] at this
    · rw [lk_one] at hm
      split at hm
      · rename_i ee; subst ee
        injection hm with hm; subst hm
        refine ⟨.inl hpn, .inr ⟨hlive, vs', hnew, ?_, q2, q3, by rw [hvs']; exact q4, ?_⟩, fun _ => hMn⟩
        · have := flat_length ds sz hds (d'.toList.map (·.mod))
          simp only [List.length_map, Array.length_toList] at this ⊢
          rw [this, hd']
        · rw [htake]
          exact (elems_rows ds d'.toList)
      · cases hm
    · rw [lk_one] at hm hm'
      split at hm <;> split at hm' <;> first | omega | simp at hm hm'
    · unfold sortWorldK
      rw [size_grow, hsz]; omega
    · rw [lk_one] at hm
      split at hm
      · rename_i ee; subst ee
        exact .inr ⟨by omega, by simp [lk_one]⟩
      · simp at hm
    · show w.drawn ≤ w.drawn + q
      omega
end Go.Sl
