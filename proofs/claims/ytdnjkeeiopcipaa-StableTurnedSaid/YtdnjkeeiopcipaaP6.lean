/-
  Sorting a row by a function: the kit's contract of slices.SortFunc as one of this logic.
-/
import Derived.Test.YtdnjkeeiopcipaaP5
import Derived.Shelf.SlSortCmp.NoneTotal
import Derived.Test.YtdnjkeeiopcipaaP4
set_option linter.unusedVariables false
set_option linter.unusedSimpArgs false
set_option linter.unusedSectionVars false
namespace Go.Sl
open Go.RowKit Go.Sort Go.Proofs Go.Shelf
variable {P : Program}

/-- An element of a row: its cells, what they are. -/
structure Elem {A : Type} (ds : A → List DV) (M : Mem) where
  cells : List Value
  mod : A
  rep : Rps (fun _ => False) (fun _ => ⟨0, 0, true⟩) M ((ds mod).map .d) cells

theorem Rps.dAny {p : Nat → Prop} {μ : Nat → Nm} {M : Mem} {xs : List DV} {vs : List Value} (h : Rps p μ M (xs.map .d) vs) (p' : Nat → Prop) (μ' : Nat → Nm) : Rps p' μ' M (xs.map .d) vs := by
  induction xs generalizing vs with
  | nil => exact Rps.nil_iff.2 (Rps.nil_iff.1 h)
  | cons x xs ih =>
    obtain ⟨u, us, e, h1, h2⟩ := Rps.cons_iff.1 h
    exact Rps.cons_iff.2 ⟨u, us, e, Rp.d_iff.2 (Rp.d_iff.1 h1), ih h2⟩

theorem rows_elems {A : Type} (ds : A → List DV) {p : Nat → Prop} {μ : Nat → Nm} {M : Mem} : ∀ (l : List A) (us : List Value), Rps p μ M ((l.flatMap ds).map .d) us →
    ∃ es : List (Elem ds M), es.map (·.mod) = l ∧ es.flatMap (·.cells) = us
  | [], us, h => ⟨[], rfl, by simpa using (Rps.nil_iff.1 h).symm⟩
  | x :: l, us, h => by
    have h1 : Rps p μ M ((ds x).map .d) (us.take (ds x).length) := by simpa using Rps.take (ds x).length h
    have h2 : Rps p μ M ((l.flatMap ds).map .d) (us.drop (ds x).length) := by simpa using Rps.drop (ds x).length h
    obtain ⟨es, e1, e2⟩ := rows_elems ds l _ h2
    exact ⟨⟨us.take (ds x).length, x, h1.dAny _ _⟩ :: es, by simp [e1], by simp [e2]⟩
theorem elems_rows {A : Type} (ds : A → List DV) {p : Nat → Prop} {μ : Nat → Nm} {M : Mem} : ∀ (es : List (Elem ds M)), Rps p μ M (((es.map (·.mod)).flatMap ds).map .d) (es.flatMap (·.cells))
  | [] => Rps.nil_iff.2 rfl
  | x :: es => by
    have := Rps.append (x.rep.dAny p μ) (elems_rows ds es)
    simpa using this

theorem flatK_list {A : Type} {ds : A → List DV} {M : Mem} [Inhabited (Elem ds M)] {k : Nat} (hk : ∀ x : Elem ds M, x.cells.length = k) (es : List (Elem ds M)) : (flatK (fun x : Elem ds M => x.cells) k es.toArray).toList = es.flatMap (·.cells) := by
  have hl := flat_length (fun x : Elem ds M => x.cells) k hk es
  apply List.ext_getElem?
  intro t
  by_cases ht : t < es.length * k
  · have hk0 : 0 < k := by rcases Nat.eq_zero_or_pos k with h | h; · subst h; simp at ht
                           · exact h
    have hi : t / k < es.length := Nat.div_lt_of_lt_mul (by rwa [Nat.mul_comm] at ht)
    have e1 := flat_get (fun x : Elem ds M => x.cells) k hk es (t / k) (t % k) es[t / k] (List.getElem?_eq_getElem hi) (Nat.mod_lt _ hk0)
    have e2 : t / k * k + t % k = t := by rw [Nat.mul_comm]; exact Nat.div_add_mod t k
    rw [e2] at e1
    rw [e1]
    have e3 := get_flatK (fun x : Elem ds M => x.cells) k es.toArray t (by simpa using ht)
    have e4 : t < (flatK (fun x : Elem ds M => x.cells) k es.toArray).size := by simpa using ht
    have hc : t % k < es[t / k].cells.length := by rw [hk]; exact Nat.mod_lt _ hk0
    rw [getElem!_pos _ t e4] at e3
    rw [Array.getElem?_toList, Array.getElem?_eq_getElem e4, e3]
    simp [hi, hc]
  · rw [List.getElem?_eq_none (by simpa using ht), List.getElem?_eq_none (by rw [hl]; omega)]

/-- From a world, as one leaves it who looks at no object. -/
theorem Ev.grown {new : Nat → Prop} {μ μ' : Nat → Nm} {M M' : Mem} {w w' : World} {c' : Nat → Option Ob} (h : Ev (lk []) new μ M w c' μ' M' w') : ∃ q os, w' = grow (w.drewN q) os := by
  refine ⟨w'.drawn - w.drawn, w'.heap.extract w.heap.size w'.heap.size, ?_⟩
  have hh : w'.heap = w.heap ++ w'.heap.extract w.heap.size w'.heap.size := by
    apply Array.ext_getElem?
    intro i
    rw [Array.getElem?_append]
    split
    · rename_i hi
      exact (h.frame i hi fun n hn => by simp [lk_nil] at hn).1
    · rename_i hi
      rw [Array.getElem?_extract]
      have := h.size
      split
      · rw [show w.heap.size + (i - w.heap.size) = i by omega]
      · rename_i hj
        rw [Array.getElem?_eq_none (by omega)]
  have h1 := h.os
  have h2 := h.tape
  have h3 := h.output
  have hd : w'.drawn = w.drawn + (w'.drawn - w.drawn) := by have := h2.2; omega
  obtain ⟨a, b, c, d, e⟩ := w'
  obtain ⟨a', b', c', d', e'⟩ := w
  simp only [grow, World.drewN]
  simp only at hh h1 h2 h3 hd
  replace h2 := h2.1
  simp only at h2
  subst h1; subst h2; subst h3
  rw [← hd, ← hh]

theorem SC.sortFunc {ρ : Ren} {A : Type} (L : SlLaysF0.n6 P ρ) (sz : Nat) (aE : ∀ w, (isAgg (ρ.t 24)).run P w = .ok true w) (zE : ∀ w, (Go.sizeOf (ρ.t 24)).run P w = .ok sz w) (hcall : Callable P (ρ.f 6) = true)
    (ds : A → List DV) (hds : ∀ x, (ds x).length = sz) (cf : A → A → Int) (hO : SWO (ltOf cf)) (g : Nat) (capv : List SV) (hg : Callable P g = true)
    (hcmp : ∀ (x y : A) (k : Nat), SCd P g ([.agg ((ds x).map .d), .agg ((ds y).map .d)] ++ capv) [] k 0 (.d (.int .i64 (cf x y))) []) (n e : Nat) (l : List A) (hl : l.length < 4611686018427387904) (k : Nat) :
    SC P (ρ.f 6) [.gs n l.length, .fn (.func g) [] capv] [(n, .arr e sz l.length ((l.flatMap ds).map .d))] k 0
      (fun r F' => r = .tup [] ∧ ∃ l' : List A, l'.Perm l ∧ l'.Pairwise (fun a b => ltOf cf b a = false) ∧ F' = [(n, .arr e sz l.length ((l'.flatMap ds).map .d))]) := by
  refine ⟨hcall, fun p μ M w vals hp hr hS => ?_⟩
  obtain ⟨u1, us, e1, r1, r2⟩ := Rps.cons_iff.1 hr
  obtain ⟨u2, us2, e2, r3, r4⟩ := Rps.cons_iff.1 r2
  have e3 := Rps.nil_iff.1 r4
  subst e3; subst e2
  obtain ⟨fs, cs, rfl, ra, rc⟩ := Rp.fn_iff.1 r3
  have ra' := Rps.nil_iff.1 ra
  have hvals : vals = #[u1, .func (.func g) fs cs] := by cases vals; simpa using e1
  have has : fs = #[] := by cases fs; simpa using ra'
  subst has; subst hvals
  obtain ⟨hpn, hob, hMn⟩ := hS.obs n (.arr e sz l.length ((l.flatMap ds).map .d)) (by simp [lk_one])
  by_cases h0 : l = []
  · subst h0
    have hsl : ∃ A cap, u1 = .slice A 0 cap := by
      rcases r1.gs_of with ⟨_, rfl⟩ | ⟨_, _, A, rfl⟩ <;> exact ⟨_, _, rfl⟩
    obtain ⟨A', cap, rfl⟩ := hsl
    refine (AnyF.slices_SortFunc_none L A' cap (.func (.func g) #[] cs) w).mono ?_
    rintro e w' ⟨rfl, rfl⟩
    exact ⟨.tup [], _, μ, M, .tuple #[], rfl, ⟨rfl, [], List.Perm.refl _, List.Pairwise.nil, rfl⟩, Rp.tup_iff.2 ⟨#[], rfl, Rps.nil_iff.2 rfl⟩, hS.more fun n h => .inl h, Ev.refl _ _ _ _ _ fun n _ h => by omega⟩
  · have hpos : 0 < l.length := by cases l with
      | nil => exact absurd rfl h0
      | cons x l => simp
    rcases hob with ⟨_, hz, _⟩ | ⟨hlive, vs, hb, q1, q2, q3, q4, hrow⟩
    · omega
    have hMn := hMn hlive
    obtain ⟨_, rfl⟩ : (μ n).live = true ∧ u1 = .slice (some ⟨(μ n).blk, 0, none⟩) l.length (μ n).cap := by
      rcases r1.gs_of with h | ⟨h, _⟩
      · exact h
      · rw [hlive] at h; cases h
    obtain ⟨es, m1, m2⟩ := rows_elems ds l _ hrow
    have hlen : es.length = l.length := by rw [← m1]; simp
    have hk : ∀ x : Elem ds M, x.cells.length = sz := fun x => by
      have := x.rep.length
      rw [this]; simp [hds]
    have : Inhabited (Elem ds M) := ⟨es[0]'(by omega)⟩
    have hone : ∀ x : Elem ds M, ∀ v ∈ x.cells, v.oneCell' = true := fun x => Rps.ones (by simp [SV.isOne]) x.rep
    have hblk : (μ n).blk < w.heap.size := (Array.getElem?_eq_some_iff.1 hb).1
    have hfl := flatK_list (k := sz) hk es
    have hcut : sz * l.length ≤ vs.size := by rw [q4, Nat.mul_comm]; exact Nat.mul_le_mul_right _ q2
    have hH : HoldsK (fun x : Elem ds M => x.cells) sz w (μ n).blk 0 es.toArray := by
      intro j hj
      have hj' : j < l.length * sz := by simpa [hlen] using hj
      have hgot : (flatK (fun x : Elem ds M => x.cells) sz es.toArray)[j]! = vs[j]! := by
        have hv : j < vs.size := by rw [Nat.mul_comm] at hcut; omega
        rw [getElem!_pos _ j hj, getElem!_pos vs j hv]
        have := congrArg (fun l => l[j]?) (hfl.trans m2)
        simp only [Array.getElem?_toList, List.getElem?_take, hj', if_true, Array.getElem?_eq_getElem hj, Array.getElem?_eq_getElem hv] at this
        exact Option.some.inj this
      have hv : j < vs.size := by rw [Nat.mul_comm] at hcut; omega
      refine ⟨?_, ?_⟩
      · rw [Nat.zero_add, cell_of hb, hgot, getElem!_pos vs j hv, Array.getElem?_eq_getElem hv]; rfl
      · simp [World.frozen?, hb]
    have hmem : ∀ (q : Nat) (os : Array Obj) (dk : Array (Elem ds M)) (b o : Nat) (v : Value), M b o = some v → (sortWorldK (fun x : Elem ds M => x.cells) sz w (μ n).blk 0 q dk os).cell? ⟨b, o, none⟩ = some v := by
      intro q os dk b o v hv
      have hbn : b ≠ (μ n).blk := fun e => by rw [e, hMn] at hv; cases hv
      have hc := hS.mem b o v hv
      have hlt := World.block_lt_of_cell? w ⟨b, o, none⟩ hc
      unfold sortWorldK
      have hsz : (putRowK (fun x : Elem ds M => x.cells) sz (Sort.ahead w q) (μ n).blk 0 dk).heap.size = w.heap.size := by
        unfold putRowK putRow mapBlock
        simp [Sort.ahead]
      rw [cell?_grow _ _ _ (by show b < _; rw [hsz]; exact hlt), cell?_putRowK_other _ _ _ _ _ _ _ hbn]
      exact hc
    have hC : CmpLays P g cs (fun x : Elem ds M => x.cells) sz (fun x y => cf x.mod y.mod) (μ n).blk 0 es.toArray.size w := by
      intro q os dk hdk x y
      have hargs : Rps p μ M ([.agg ((ds x.mod).map .d), .agg ((ds y.mod).map .d)] ++ capv) (#[.agg x.cells.toArray, .agg y.cells.toArray] ++ cs : Array Value).toList := by
        have a1 : Rp p μ M (.agg ((ds x.mod).map .d)) (.agg x.cells.toArray) := Rp.agg_iff.2 ⟨_, rfl, by simpa using x.rep.dAny p μ⟩
        have a2 : Rp p μ M (.agg ((ds y.mod).map .d)) (.agg y.cells.toArray) := Rp.agg_iff.2 ⟨_, rfl, by simpa using y.rep.dAny p μ⟩
        have := Rps.append (Rps.cons_iff.2 ⟨_, _, rfl, a1, Rps.cons_iff.2 ⟨_, _, rfl, a2, Rps.nil_iff.2 rfl⟩⟩) rc
        simpa using this
      refine ((hcmp x.mod y.mod k).2 p μ M (sortWorldK (fun x : Elem ds M => x.cells) sz w (μ n).blk 0 q dk os) _ (fun n hn => by omega) hargs ⟨fun b o v hv => hmem q os dk b o v hv, fun n ob hn => by simp [lk_nil] at hn, fun n m hn => by simp [lk_nil] at hn⟩).mono ?_
      rintro e w' ⟨r, F', μ', M', u, rfl, ⟨rfl, rfl⟩, hr', _, hE⟩
      refine ⟨?_, hE.grown⟩
      rw [Rp.int_iff.1 hr']
    have hO' : SWO (ltOf fun x y : Elem ds M => cf x.mod y.mod) := ⟨fun x => hO.irrefl x.mod, fun x y z h1 h2 => hO.trans x.mod y.mod z.mod h1 h2, fun x y z h1 h2 => hO.ntrans x.mod y.mod z.mod h1 h2⟩
    have hsort := AnyQ.slices_SortFunc L sz aE zE (fun x : Elem ds M => x.cells) hk hone (fun x y => cf x.mod y.mod) hO' g cs (μ n).blk 0 (μ n).cap es.toArray w (fun args w => run_callFunc hg args) hC hH hblk (by simpa [hlen] using hl)
    rw [show es.toArray.size = l.length by simp [hlen]] at hsort
    refine hsort.mono ?_
    rintro e' w' ⟨rfl, d', q, os, hperm, hsorted, rfl⟩
    obtain ⟨p1, _, p3⟩ := hperm
    have hd' : d'.size = l.length := by rw [p1]; simp [hlen]
    have p3 : d'.toList.Perm es := by
      have ea : d'.extract 0 l.length = d' := by rw [← hd']; simp
      have eb : es.toArray.extract 0 l.length = es.toArray := by rw [← hlen]; simp
      rw [ea, eb] at p3
      simpa using p3
    have hfl' := flatK_list (k := sz) hk d'.toList
    rw [Array.toArray_toList] at hfl'
    have hFs : (flatK (fun x : Elem ds M => x.cells) sz d').size = l.length * sz := by simp [hd']
    let vs' : Array Value := putCells id 0 (flatK (fun x : Elem ds M => x.cells) sz d') vs
    have hvs' : vs'.size = vs.size := by simp [vs', putCells]
    have hput : (putRowK (fun x : Elem ds M => x.cells) sz (Sort.ahead w q) (μ n).blk 0 d').heap[(μ n).blk]? = some (.cells vs' e (0, 0)) := by
      unfold putRowK putRow mapBlock
      simp only [Sort.ahead, Array.getElem?_modify, if_true, hb, Option.map_some, onCells, vs']
    have hsz : (putRowK (fun x : Elem ds M => x.cells) sz (Sort.ahead w q) (μ n).blk 0 d').heap.size = w.heap.size := by
      unfold putRowK putRow mapBlock
      simp [Sort.ahead]
    have hother : ∀ b, b < w.heap.size → b ≠ (μ n).blk → (sortWorldK (fun x : Elem ds M => x.cells) sz w (μ n).blk 0 q d' os).heap[b]? = w.heap[b]? := by
      intro b hbl hbn
      unfold sortWorldK
      rw [heap_grow_old _ _ (by rw [hsz]; exact hbl)]
      unfold putRowK putRow mapBlock
      simp only [Sort.ahead, Array.getElem?_modify, if_neg (Ne.symm hbn)]
    have hnew : (sortWorldK (fun x : Elem ds M => x.cells) sz w (μ n).blk 0 q d' os).heap[(μ n).blk]? = some (.cells vs' e (0, 0)) := by
      unfold sortWorldK
      rw [heap_grow_old _ _ (by rw [hsz]; exact hblk)]
      exact hput
    have htake : vs'.toList.take (l.length * sz) = d'.toList.flatMap (·.cells) := by
      rw [← hfl']
      apply List.ext_getElem?
      intro t
      rw [List.getElem?_take]
      by_cases ht : t < l.length * sz
      · have h1 : t < vs.size := by rw [Nat.mul_comm] at hcut; omega
        have h2 : t < (flatK (fun x : Elem ds M => x.cells) sz d').size := by rw [hFs]; exact ht
        rw [if_pos ht, Array.getElem?_toList, Array.getElem?_toList, Array.getElem?_eq_getElem h2]
        simp only [vs', putCells, Array.getElem?_mapIdx, Array.getElem?_eq_getElem h1, Option.map_some, Nat.zero_le, true_and, Nat.zero_add, Nat.sub_zero, id]
        rw [if_pos h2, getElem!_pos _ t h2]
      · rw [if_neg ht, Array.getElem?_toList, Array.getElem?_eq_none (by rw [hFs]; omega)]
    refine ⟨.tup [], [(n, .arr e sz l.length (((d'.toList.map (·.mod)).flatMap ds).map .d))], μ, M, .tuple #[], rfl, ⟨rfl, d'.toList.map (·.mod), ?_, ?_, rfl⟩, Rp.tup_iff.2 ⟨#[], rfl, Rps.nil_iff.2 rfl⟩, ⟨fun b o v hv => hmem q os d' b o v hv, fun m ob hm => ?_, fun m m' hm hm' _ _ _ => ?_⟩, ⟨fun _ _ => rfl, Mem.le_refl _, fun b hbl hf => ⟨hother b hbl fun ee => hf n (by simp [lk_one]) hlive ee.symm, fun _ => rfl⟩, ?_, fun m hm => ?_, rfl, ⟨rfl, ?_⟩, rfl⟩⟩
    · rw [← m1]; exact p3.map _
    · rw [List.pairwise_map, List.pairwise_iff_getElem]
      intro i j hi hj hij
      have := hsorted i j (Nat.zero_le _) hij (by rw [← hd']; simpa using hj)
      rwa [getElem!_pos d' j (by simpa using hj), getElem!_pos d' i (by simpa using hi)] at this
    · rw [lk_one] at hm
      split at hm
      · rename_i ee; subst ee
        injection hm with hm; subst hm
        refine ⟨.inl hpn, .inr ⟨hlive, vs', hnew, ?_, q2, q3, by rw [hvs']; exact q4, ?_⟩, fun _ => hMn⟩
        · have := flat_length ds sz hds (d'.toList.map (·.mod))
          simp only [List.length_map, Array.length_toList] at this ⊢
          rw [this, hd']
        · rw [htake]
          exact (elems_rows ds d'.toList)
      · cases hm
    · rw [lk_one] at hm hm'
      split at hm <;> split at hm' <;> first | omega | simp at hm hm'
    · unfold sortWorldK
      rw [size_grow, hsz]; omega
    · rw [lk_one] at hm
      split at hm
      · rename_i ee; subst ee
        exact .inr ⟨by omega, by simp [lk_one]⟩
      · simp at hm
    · show w.drawn ≤ w.drawn + q
      omega
end Go.Sl

/-
  A box's cell that holds no map: a map of one's own that is nil.
-/
set_option linter.unusedVariables false
set_option linter.unusedSimpArgs false
set_option linter.unusedSectionVars false
namespace Go.Sl
open Go.RowKit
/-- Ties first, names last: for names that are not numerals. -/
def noConf2 (bs : List Nat) (ts : List (Bool × List Nat)) : Bool :=
  all2 ts.length fun i j => i == j || (ts.getD i (true, [])).1 || ordB bs i j || ordB bs j i || !((ts.getD i (true, [])).2.any fun n => (ts.getD j (true, [])).2.contains n)
theorem conf_of {f : Bool} {bs : List Nat} {ts : List (Bool × List Nat)} (h : (!f || noConf2 bs ts) = true) : (!f || noConf bs ts) = true := by
  rw [← h]
  congr 1
  unfold noConf noConf2
  congr 1
  funext i j
  generalize (i == j) = a
  generalize (ts.getD i (true, [])).1 = b
  generalize ordB bs i j = c
  generalize ordB bs j i = d
  generalize List.any _ _ = e
  cases a <;> cases b <;> cases c <;> cases d <;> cases e <;> rfl
section
variable {P : Program} {N k0 : Nat} {st : St} {Q : Exit → St → Prop}

theorem Rp.set_at {p : Nat → Prop} {μ : Nat → Nm} {M : Mem} {cs : List SV} {vs : List Value} {c : SV} (i : Nat) (h : Rps p μ M cs vs) (hc : ∀ u, vs[i]? = some u → Rp p μ M c u) (hi : i < cs.length) : Rps p μ M (cs.set i c) vs := by
  obtain ⟨c0, h0⟩ := get_of_lt hi
  obtain ⟨u, hu, _⟩ := h.get h0
  have := h.set i (hc u hu)
  rwa [show vs.set i u = vs by
    apply List.ext_getElem?
    intro j
    rw [List.getElem?_set]
    split
    · rename_i e; subst e
      rw [hu]; simp [(List.getElem?_eq_some_iff.1 hu).1]
    · rfl] at this

theorem StA.nilmap {μ0 : Nat → Nm} {M0 : Mem} {w0 : World} {c0 : Nat → Option Ob} {a : Act} {w : World} (b i : Nat) {t : TypeId} {cs : List SV} (hb : lk st.hp b = some (.box t cs)) (hi : cs[i]? = some (.d .nilm)) (h : StA N μ0 M0 w0 c0 k0 st a w) :
    StA N μ0 M0 w0 c0 k0 ⟨st.env, (st.k, .nomap) :: hset st.hp b (.box t (cs.set i (.mp st.k))), st.k + 1⟩ a w := by
  obtain ⟨hk0, hdf, hsz, μ, M, hsl, hS, hE⟩ := h
  have hmu := upN_p (μ := μ) (m := ⟨0, 0, false⟩) (p := (· < st.k)) (k := st.k) (Nat.lt_irrefl _)
  have hup : ∀ n, n < st.k → n < st.k + 1 := fun n h => by omega
  have hlt : ∀ n ob, lk st.hp n = some ob → n < st.k := fun n ob h => (hS.obs n ob h).1
  have hpres : ∀ n, n ≠ st.k → lk ((st.k, .nomap) :: hset st.hp b (.box t (cs.set i (.mp st.k)))) n ≠ none → lk st.hp n ≠ none := fun n e1 hn => by
    rw [lk_cons, if_neg e1, lk_hset] at hn
    split at hn
    · rename_i e; subst e; rw [hb]; simp
    · exact hn
  refine ⟨by show k0 ≤ st.k + 1; omega, hdf, hsz, upN μ st.k ⟨0, 0, false⟩, M, fun u s hs => (hsl u s hs).more hup hmu (Mem.le_refl M), ⟨hS.mem, fun n ob hn => ?_, fun n m hn hm ln lm e => ?_⟩, ⟨fun n hn => ?_, hE.mem, hE.frame, hE.size, fun n hn => ?_, hE.os, hE.tape, hE.output⟩⟩
  · replace hn : lk ((st.k, .nomap) :: hset st.hp b (.box t (cs.set i (.mp st.k)))) n = some ob := hn
    rw [lk_cons] at hn
    split at hn
    · rename_i e1
      subst e1
      injection hn with hn
      subst hn
      rw [upN_same]
      exact ⟨Nat.lt_succ_self _, rfl, fun h => by cases h⟩
    · rw [lk_hset] at hn
      split at hn
      · rename_i e1 e2
        subst e2
        injection hn with hn
        subst hn
        obtain ⟨a1, a2, a3⟩ := hS.obs n _ hb
        rw [hmu n a1]
        refine ⟨hup n a1, ?_, a3⟩
        obtain ⟨l1, vs, v1, v2⟩ := a2
        refine ⟨l1, vs, v1, ?_⟩
        refine Rp.set_at i (v2.more hup hmu (Mem.le_refl M)) (fun u hu => ?_) (List.getElem?_eq_some_iff.1 hi).1
        obtain ⟨u', hu', hr⟩ := v2.get hi
        have : u = u' := by rw [hu'] at hu; exact (Option.some.inj hu).symm
        subst this
        have h1 := Rp.nilm_of hr
        intro ν hν
        simp only [Rep]
        rw [hν st.k (Nat.lt_succ_self _), upN_same]
        exact .inr ⟨rfl, h1⟩
      · obtain ⟨a1, a2, a3⟩ := hS.obs n ob hn
        rw [hmu n a1]
        exact ⟨hup n a1, a2.more hup hmu (Mem.le_refl M) fun _ => rfl, a3⟩
  · by_cases e1 : n = st.k
    · subst e1; rw [upN_same] at ln; cases ln
    · by_cases e2 : m = st.k
      · subst e2; rw [upN_same] at lm; cases lm
      · have hn := hpres n e1 hn
        have hm := hpres m e2 hm
        obtain ⟨o1, ho1⟩ := Option.ne_none_iff_exists'.1 hn
        obtain ⟨o2, ho2⟩ := Option.ne_none_iff_exists'.1 hm
        rw [hmu n (hlt n o1 ho1)] at e ln
        rw [hmu m (hlt m o2 ho2)] at e lm
        exact hS.inj n m hn hm ln lm e
  · simp only at hn
    by_cases e1 : n = st.k
    · subst e1; omega
    · rw [upN_other _ _ _ e1]; exact hE.old n (by omega)
  · by_cases e1 : n = st.k
    · subst e1
      rw [upN_same]
      exact .inl ⟨⟨by omega, Nat.lt_succ_self _⟩, fun h => by cases h⟩
    · have hn := hpres n e1 hn
      obtain ⟨o1, ho1⟩ := Option.ne_none_iff_exists'.1 hn
      rw [hmu n (hlt n o1 ho1)]
      rcases hE.names n hn with ⟨b1, b2⟩ | ⟨b1, b2⟩
      · exact .inl ⟨⟨b1.1, by have := b1.2; show n < st.k + 1; omega⟩, b2⟩
      · refine .inr ⟨fun h => ?_, b2⟩
        have : n < st.k := hlt n o1 ho1
        exact b1 ⟨h.1, this⟩
/-- A box's cell that holds no map is a map of one's own that is nil. -/
theorem SW.nilmap {s : SCo} (b i : Nat) {t : TypeId} {cs : List SV} (hb : lk st.hp b = some (.box t cs)) (hi : cs[i]? = some (.d .nilm)) (h : SW P N k0 s ⟨st.env, (st.k, .nomap) :: hset st.hp b (.box t (cs.set i (.mp st.k))), st.k + 1⟩ Q) : SW P N k0 s st Q :=
  fun c hc rd hrf μ0 M0 w0 c0 a w hSt => h c hc rd hrf μ0 M0 w0 c0 a w (hSt.nilmap b i hb hi)
end
end Go.Sl

/-
  A part of a box, lent as a row to a function that only reads it.
-/
set_option linter.unusedVariables false
set_option linter.unusedSimpArgs false
set_option linter.unusedSectionVars false
namespace Go.Sl
open Go.RowKit
variable {P : Program}

/-- A value that names no memory. -/
def SV.Plain (v : SV) : Prop := ∀ (p p' : Nat → Prop) (μ μ' : Nat → Nm) (M M' : Mem) (u : Value), Rp p μ M v u → Rp p' μ' M' v u
theorem SV.plain_u32 (n : Nat) : SV.Plain (u32 n) := fun p p' μ μ' M M' u h => by
  unfold u32 at h ⊢
  rw [Rp.int_iff] at h ⊢; exact h
theorem SV.plains {p p' : Nat → Prop} {μ μ' : Nat → Nm} {M M' : Mem} : ∀ {cs : List SV} {l : List Value}, (∀ c, c ∈ cs → SV.Plain c) → Rps p μ M cs l → Rps p' μ' M' cs l
  | [], l, _, hr => Rps.nil_iff.2 (Rps.nil_iff.1 hr)
  | c :: cs, l, h, hr => by
    obtain ⟨u, us, rfl, h1, h2⟩ := Rps.cons_iff.1 hr
    exact Rps.cons_iff.2 ⟨u, us, rfl, h c (by simp) p p' μ μ' M M' u h1, SV.plains (fun c hc => h c (by simp [hc])) h2⟩
theorem SV.plain_agg {cs : List SV} (h : ∀ c, c ∈ cs → SV.Plain c) : SV.Plain (.agg cs) := fun p p' μ μ' M M' u hu => by
  obtain ⟨vs, rfl, hr⟩ := Rp.agg_iff.1 hu
  exact Rp.agg_iff.2 ⟨vs, rfl, SV.plains h hr⟩
theorem Vec.plain (v : Vec) : SV.Plain (.agg v.cells) := SV.plain_agg fun c hc => by
  simp only [Vec.cells, List.mem_cons, List.not_mem_nil, or_false] at hc
  rcases hc with rfl | rfl | rfl | rfl | rfl | rfl | rfl | rfl <;> exact SV.plain_u32 _

theorem repR_mk {M : Mem} {b : Nat} : ∀ (o : Nat) (ds : List DV), (∀ i x, ds[i]? = some x → ∃ u, M b (o + i) = some u ∧ RepD M x u) → RepR M b o ds
  | _, [], _ => by simp [RepR]
  | o, x :: ds, h => by
    simp only [RepR]
    refine ⟨by simpa using h 0 x rfl, repR_mk (o + 1) ds fun i y hy => ?_⟩
    have := h (i + 1) y (by simpa using hy)
    rwa [show o + (i + 1) = o + 1 + i by omega] at this

theorem SC.borrow {f : FuncId} {k nk m off len : Nat} {t : TypeId} {cs : List SV} {ds : List DV} {v : SV} (h : SCd P f [.d (.sl len ds)] [] k nk v []) (hv : SV.Plain v) (h0 : len ≠ 0) (hds : ∀ (i : Nat) (x : DV), ds[i]? = some x → cs[off + i]? = some (.d x)) :
    SCd P f [.bs m off len] [(m, .box t cs)] k nk v [(m, .box t cs)] := by
  refine ⟨h.1, fun p μ M w vals hp hr hS => ?_⟩
  obtain ⟨hpm, hob, hnone⟩ := hS.obs m (.box t cs) (by simp [lk_cons])
  obtain ⟨hlive, vs, hb, hcs⟩ := hob
  let M' : Mem := fun b o => if b = (μ m).blk then w.cell? ⟨b, o, none⟩ else M b o
  have hMM : Mem.le M M' := fun b o x hx => by
    show (if b = (μ m).blk then w.cell? ⟨b, o, none⟩ else M b o) = some x
    split
    · exact hS.mem b o x hx
    · exact hx
  have hr' : Rps (fun _ => False) μ M' [.d (.sl len ds)] vals.toList := by
    obtain ⟨u, us, e, h1, h2⟩ := Rps.cons_iff.1 hr
    rw [e]
    refine Rps.cons_iff.2 ⟨u, us, rfl, Rp.d_iff.2 ?_, Rps.nil_iff.2 (Rps.nil_iff.1 h2)⟩
    have h3 := h1.rep
    simp only [Rep] at h3
    obtain ⟨A, c, rfl, hle, hA⟩ := h3
    have hA := hA h0
    subst hA
    simp only [RepD]
    refine ⟨_, c, rfl, hle, fun hz => absurd hz h0, fun _ => ⟨(μ m).blk, off, rfl, repR_mk off ds fun i x hx => ?_⟩⟩
    obtain ⟨u, hu, hd⟩ := hcs.get (hds i x hx)
    refine ⟨u, ?_, RepD.mono hMM x u (Rp.d_iff.1 hd)⟩
    show (if (μ m).blk = (μ m).blk then w.cell? ⟨(μ m).blk, off + i, none⟩ else M (μ m).blk (off + i)) = some u
    rw [if_pos rfl, cell_of hb]
    simpa using hu
  have hS' : SatF (fun _ => False) μ M' (lk []) w := by
    refine ⟨fun b o x hx => ?_, fun n ob hn => by simp [lk_nil] at hn, fun n _ hn => by simp [lk_nil] at hn⟩
    have hx : (if b = (μ m).blk then w.cell? ⟨b, o, none⟩ else M b o) = some x := hx
    split at hx
    · exact hx
    · exact hS.mem b o x hx
  refine (h.2 (fun _ => False) μ M' w vals (fun _ _ h => h) hr' hS').mono ?_
  rintro e w' ⟨r, F', μ', M'', u, rfl, ⟨rfl, rfl⟩, hru, hS2, hE⟩
  have hfr : ∀ b, b < w.heap.size → w'.heap[b]? = w.heap[b]? := fun b hb => (hE.frame b hb (fun n hn => by simp [lk_nil] at hn)).1
  refine ⟨r, [(m, .box t cs)], μ, M, u, rfl, ⟨rfl, rfl⟩, hv _ _ _ _ _ _ u hru, ⟨fun b o x hx => hS2.mem b o x (hE.mem b o x (hMM b o x hx)), fun n ob hn => ?_, hS.inj⟩, ⟨fun _ _ => rfl, Mem.le_refl M, fun b hb _ => ⟨hfr b hb, fun _ => rfl⟩, hE.size, fun n hn => .inr ⟨fun hnew => ?_, hn⟩, hE.os, hE.tape, hE.output⟩⟩
  · obtain ⟨a1, a2, a3⟩ := hS.obs n ob hn
    have hnm : n = m ∧ ob = .box t cs := by
      rw [lk_cons] at hn
      split at hn
      · rename_i e; exact ⟨e, (Option.some.inj hn).symm⟩
      · simp [lk_nil] at hn
    obtain ⟨rfl, rfl⟩ := hnm
    refine ⟨.inl a1, ⟨hlive, vs, ?_, hcs.more (fun n h => .inl h) (fun _ _ => rfl) (Mem.le_refl M)⟩, a3⟩
    rw [hfr _ (Array.getElem?_eq_some_iff.1 hb).1]; exact hb
  · have : n = m := by
      rw [lk_cons] at hn
      split at hn
      · rename_i e; exact e
      · simp [lk_nil] at hn
    subst this
    exact hp n hnew hpm
end Go.Sl

/-
  Vectors: the plain laws of merged, met, above, covered, put.
-/
set_option linter.unusedSectionVars false
set_option linter.unusedVariables false
set_option linter.unusedSimpArgs false
namespace Go.Sl

theorem Vec.covers_merge (a b : Vec) (d : Dt) : (Vec.zip max a b).covers d = (a.covers d || b.covers d) := by
  by_cases h : d.may = true
  · have hr : d.r < 8 := by simp [Dt.may] at h; exact h.1
    simp only [Vec.covers, h, Vec.zip_get _ _ _ hr, Bool.true_and]
    rw [Bool.eq_iff_iff]; simp; omega
  · simp [Vec.covers, h]
theorem Vec.covers_meet (a b : Vec) (d : Dt) : (Vec.zip min a b).covers d = (a.covers d && b.covers d) := by
  by_cases h : d.may = true
  · have hr : d.r < 8 := by simp [Dt.may] at h; exact h.1
    simp only [Vec.covers, h, Vec.zip_get _ _ _ hr, Bool.true_and]
    rw [Bool.eq_iff_iff]; simp; omega
  · simp [Vec.covers, h]
theorem Vec.covers_above {a b : Vec} (h : a.above b = true) (d : Dt) (hb : b.covers d = true) : a.covers d = true := by
  have h' := Vec.above_iff.1 h
  simp only [Vec.covers, Bool.and_eq_true, decide_eq_true_eq] at *
  have hr : d.r < 8 := by have := hb.1; simp [Dt.may] at this; exact this.1
  exact ⟨hb.1, Nat.le_trans hb.2 (h' _ hr)⟩
theorem Vec.next_ok {v : Vec} {r : Nat} (h : (v.next r).2 = 0) : r < 8 ∧ v.get r ≠ 4294967295 ∧ (v.next r).1 = ⟨r, v.get r + 1⟩ := by
  unfold Vec.next at h ⊢
  by_cases h1 : 8 ≤ r
  · simp [h1] at h
  · by_cases h2 : v.get r = 4294967295
    · simp [h1, h2] at h
    · simp [h1, h2]; omega
theorem Vec.put_next {v : Vec} {r : Nat} (hr : r < 8) : v.put ⟨r, v.get r + 1⟩ = (v.set r (v.get r + 1), 0) := by
  simp [Vec.put, Dt.may, hr]
theorem Vec.covers_not_next {v : Vec} {r : Nat} (hr : r < 8) : v.covers ⟨r, v.get r + 1⟩ = false := by
  simp [Vec.covers, Dt.may, hr]
theorem Vec.covers_put {v : Vec} {r : Nat} (hr : r < 8) (d : Dt) : (v.set r (v.get r + 1)).covers d = (decide (d = ⟨r, v.get r + 1⟩) || v.covers d) := by
  by_cases h : d.may = true
  · have h8 : d.r < 8 := by simp [Dt.may] at h; exact h.1
    simp only [Vec.covers, h, Vec.set_get _ _ _ h8, Bool.true_and]
    obtain ⟨dr, dn⟩ := d
    rw [Bool.eq_iff_iff]
    by_cases e : dr = r
    · subst e; simp; omega
    · simp [e]
  · have : decide (d = ⟨r, v.get r + 1⟩) = false := by
      simp only [decide_eq_false_iff_not]; intro e; subst e; simp [Dt.may, hr] at h
    simp [Vec.covers, h, this]
theorem Vec.covers_put_next {v : Vec} {r : Nat} (hr : r < 8) : (v.set r (v.get r + 1)).covers ⟨r, v.get r + 1⟩ = true := by simp [Vec.covers_put hr]
theorem Vec.above_put (v : Vec) {r : Nat} (hr : r < 8) : (v.set r (v.get r + 1)).above v = true :=
  Vec.above_iff.2 fun q hq => by rw [Vec.set_get _ _ _ hq]; split <;> simp_all
theorem Vec.count_put (v : Vec) {r : Nat} (hr : r < 8) : (v.set r (v.get r + 1)).count = v.count + 1 := by
  match r, hr with
  | 0, _ => simp [Vec.count, Vec.set, Vec.of, Vec.get]; omega
  | 1, _ => simp [Vec.count, Vec.set, Vec.of, Vec.get]; omega
  | 2, _ => simp [Vec.count, Vec.set, Vec.of, Vec.get]; omega
  | 3, _ => simp [Vec.count, Vec.set, Vec.of, Vec.get]; omega
  | 4, _ => simp [Vec.count, Vec.set, Vec.of, Vec.get]; omega
  | 5, _ => simp [Vec.count, Vec.set, Vec.of, Vec.get]; omega
  | 6, _ => simp [Vec.count, Vec.set, Vec.of, Vec.get]; omega
  | 7, _ => simp [Vec.count, Vec.set, Vec.of, Vec.get]; omega
theorem Vec.merge_comm (a b : Vec) : Vec.zip max b a = Vec.zip max a b := Vec.ext' fun r hr => by rw [Vec.zip_get _ _ _ hr, Vec.zip_get _ _ _ hr]; omega
theorem Vec.meet_comm (a b : Vec) : Vec.zip min b a = Vec.zip min a b := Vec.ext' fun r hr => by rw [Vec.zip_get _ _ _ hr, Vec.zip_get _ _ _ hr]; omega
theorem Vec.merge_above (a b : Vec) : (Vec.zip max a b).above a = true := Vec.above_iff.2 fun r hr => by rw [Vec.zip_get _ _ _ hr]; omega
theorem Vec.merge_above' (a b : Vec) : (Vec.zip max a b).above b = true := Vec.above_iff.2 fun r hr => by rw [Vec.zip_get _ _ _ hr]; omega
theorem Vec.meet_below (a b : Vec) : a.above (Vec.zip min a b) = true := Vec.above_iff.2 fun r hr => by rw [Vec.zip_get _ _ _ hr]; omega
theorem Vec.meet_below' (a b : Vec) : b.above (Vec.zip min a b) = true := Vec.above_iff.2 fun r hr => by rw [Vec.zip_get _ _ _ hr]; omega
theorem Vec.absorb (a b : Vec) : Vec.zip max a (Vec.zip min a b) = a := Vec.ext' fun r hr => by rw [Vec.zip_get _ _ _ hr, Vec.zip_get _ _ _ hr]; omega
theorem Vec.absorb' (a b : Vec) : Vec.zip min a (Vec.zip max a b) = a := Vec.ext' fun r hr => by rw [Vec.zip_get _ _ _ hr, Vec.zip_get _ _ _ hr]; omega
theorem Vec.merge_least {a b c : Vec} (h1 : c.above a = true) (h2 : c.above b = true) : c.above (Vec.zip max a b) = true := by
  rw [Vec.above_iff] at *
  intro r hr; rw [Vec.zip_get _ _ _ hr]; have := h1 r hr; have := h2 r hr; omega
theorem Vec.meet_great {a b c : Vec} (h1 : a.above c = true) (h2 : b.above c = true) : (Vec.zip min a b).above c = true := by
  rw [Vec.above_iff] at *
  intro r hr; rw [Vec.zip_get _ _ _ hr]; have := h1 r hr; have := h2 r hr; omega
theorem Vec.merge_assoc (a b c : Vec) : Vec.zip max a (Vec.zip max b c) = Vec.zip max (Vec.zip max a b) c := Vec.ext' fun r hr => by
  rw [Vec.zip_get _ _ _ hr, Vec.zip_get _ _ _ hr, Vec.zip_get _ _ _ hr, Vec.zip_get _ _ _ hr]; omega
theorem Vec.all3 (op : Nat → Nat → Nat) (a b c : Vec) : Vec.all op [a, b, c] = Vec.zip op (Vec.zip op a b) c := rfl

/-! ### dots put onto a vector, one by one -/
/-- Each dot of the list is the next one of what the vector has become. -/
def Runs (a b : Vec) : Vec → List Dt → Vec → Prop
  | v, [], w => v = w
  | v, d :: l, w => d.r < 8 ∧ d.n = v.get d.r + 1 ∧ a.get d.r < d.n ∧ d.n ≤ b.get d.r ∧ Runs a b (v.set d.r d.n) l w
theorem Runs.append {a b : Vec} : ∀ {l m : List Dt} {u v w : Vec}, Runs a b u l v → Runs a b v m w → Runs a b u (l ++ m) w
  | [], m, u, v, w, h1, h2 => by simp only [Runs] at h1; subst h1; exact h2
  | d :: l, m, u, v, w, h1, h2 => by
    simp only [Runs, List.cons_append] at h1 ⊢
    exact ⟨h1.1, h1.2.1, h1.2.2.1, h1.2.2.2.1, Runs.append h1.2.2.2.2 h2⟩
theorem rangeD_cons (r x n : Nat) : rangeD r x (n + 1) = ⟨r, x⟩ :: rangeD r (x + 1) n := by
  simp only [rangeD, List.range_succ_eq_map, List.map_cons, List.map_map, Nat.add_zero, List.cons.injEq, true_and]
  apply List.map_congr_left
  intro i _
  simp; omega
theorem Vec.set_set (v : Vec) (i x y : Nat) : (v.set i x).set i y = v.set i y := Vec.ext' fun r hr => by
  simp only [Vec.set_get _ _ _ hr]; split <;> rfl
theorem Runs.range {a b : Vec} {r : Nat} (hr : r < 8) : ∀ (n : Nat) (v : Vec), a.get r ≤ v.get r → v.get r + n ≤ b.get r → Runs a b v (rangeD r (v.get r + 1) n) (if n = 0 then v else v.set r (v.get r + n))
  | 0, v, _, _ => by simp [rangeD_zero, Runs]
  | n + 1, v, h1, h2 => by
    rw [rangeD_cons]
    simp only [Runs]
    refine ⟨hr, trivial, by omega, by omega, ?_⟩
    have hg : (v.set r (v.get r + 1)).get r = v.get r + 1 := by rw [Vec.set_get _ _ _ hr]; simp
    have ih := Runs.range (a := a) (b := b) hr n (v.set r (v.get r + 1)) (by omega) (by omega)
    rw [hg] at ih
    have e : (if n = 0 then v.set r (v.get r + 1) else (v.set r (v.get r + 1)).set r (v.get r + 1 + n)) = (if n + 1 = 0 then v else v.set r (v.get r + (n + 1))) := by
      by_cases h : n = 0
      · subst h; simp
      · simp only [h, if_false, Vec.set_set, Nat.succ_ne_zero]; congr 1; omega
    rw [e] at ih
    exact ih
theorem Runs.lackTo (a b : Vec) : ∀ i, i ≤ 8 → Runs a b a (Go.Sl.lackTo a b i) (Vec.upto i (Vec.zip max a b) a)
  | 0, _ => by simp only [Go.Sl.lackTo, Runs, Vec.upto_zero]
  | i + 1, hi => by
    rw [lackTo_succ]
    have hi' : i < 8 := by omega
    have hg : (Vec.upto i (Vec.zip max a b) a).get i = a.get i := Vec.upto_here _ _ hi'
    have h2 := Runs.range (a := a) (b := b) hi' (b.get i - a.get i) (Vec.upto i (Vec.zip max a b) a) (by omega)
    by_cases hc : b.get i ≤ a.get i
    · rw [show b.get i - a.get i = 0 by omega, rangeD_zero, List.append_nil]
      have : Vec.upto (i + 1) (Vec.zip max a b) a = Vec.upto i (Vec.zip max a b) a := Vec.ext' fun r hr => by
        simp only [Vec.upto_get _ _ _ hr]
        by_cases e : r = i
        · subst e; simp [Vec.zip_get _ _ _ hr]; omega
        · by_cases e2 : r < i
          · simp [e2, show r < i + 1 by omega]
          · simp [e2, show ¬ r < i + 1 by omega]
      rw [this]
      exact Runs.lackTo a b i (by omega)
    · have h2 := h2 (by omega)
      rw [if_neg (by omega), hg] at h2
      have : (Vec.upto i (Vec.zip max a b) a).set i (a.get i + (b.get i - a.get i)) = Vec.upto (i + 1) (Vec.zip max a b) a := Vec.ext' fun r hr => by
        simp only [Vec.upto_get _ _ _ hr, Vec.set_get _ _ _ hr]
        by_cases e : r = i
        · subst e; simp [Vec.zip_get _ _ _ hr]; omega
        · by_cases e2 : r < i
          · simp [e, e2, show r < i + 1 by omega]
          · simp [e, e2, show ¬ r < i + 1 by omega]
      rw [this] at h2
      exact (Runs.lackTo a b i (by omega)).append h2
theorem Runs.all (a b : Vec) : Runs a b a (Go.Sl.lackTo a b 8) (Vec.zip max a b) := by
  have := Runs.lackTo a b 8 (Nat.le_refl _)
  rwa [Vec.upto_all] at this
/-- What the vector is behind the first i of them. -/
def puts (v : Vec) : List Dt → Vec
  | [] => v
  | d :: l => puts (v.set d.r d.n) l
theorem puts_append (v : Vec) : ∀ (l m : List Dt), puts v (l ++ m) = puts (puts v l) m := by
  intro l
  induction l generalizing v with
  | nil => intro m; rfl
  | cons d l ih => intro m; exact ih _ m
theorem Runs.puts_eq {a b : Vec} : ∀ {l : List Dt} {v w : Vec}, Runs a b v l w → puts v l = w
  | [], v, w, h => h
  | d :: l, v, w, h => Runs.puts_eq (l := l) h.2.2.2.2
theorem Runs.at {a b : Vec} : ∀ {l : List Dt} {v w : Vec}, Runs a b v l w → ∀ {i : Nat} {d : Dt}, l[i]? = some d → d.r < 8 ∧ d.n = (puts v (l.take i)).get d.r + 1 ∧ a.get d.r < d.n ∧ d.n ≤ b.get d.r
  | [], v, w, h, i, d, hi => by simp at hi
  | x :: l, v, w, h, 0, d, hi => by
    simp at hi; subst hi
    exact ⟨h.1, by simpa [puts] using h.2.1, h.2.2.1, h.2.2.2.1⟩
  | x :: l, v, w, h, i + 1, d, hi => by
    have := Runs.at (l := l) h.2.2.2.2 (i := i) (d := d) (by simpa using hi)
    simpa [puts] using this
theorem puts_wf : ∀ {l : List Dt} {v : Vec}, v.wf → (∀ d ∈ l, d.n < 4294967296) → (puts v l).wf
  | [], v, h, _ => h
  | d :: l, v, h, hl => puts_wf (l := l) (Vec.set_wf h (hl d (by simp))) fun x hx => hl x (by simp [hx])

/-! ### what an argument reads as -/
theorem fit_int {P : Program} {d : Nat} {t : TypeId} {k : IntKind} {ds : List DV} (ht : P.underlying t = some (.int k)) (h : Fit P (d + 1) t ds) : ∃ n, ds = [.int k n] ∧ (Lit.int k n).wf = true := by
  rw [Fit, ht] at h
  exact h
theorem wf_u32 {n : Int} (h : (Lit.int .u32 n).wf = true) : ∃ m : Nat, n = (m : Int) ∧ m < 4294967296 := by
  simp [Lit.wf, IntKind.min, IntKind.max, IntKind.signed, IntKind.bits] at h
  exact ⟨n.toNat, by omega, by omega⟩
theorem wf_u64 {n : Int} (h : (Lit.int .u64 n).wf = true) : ∃ m : Nat, n = (m : Int) ∧ m < 18446744073709551616 := by
  simp [Lit.wf, IntKind.min, IntKind.max, IntKind.signed, IntKind.bits] at h
  exact ⟨n.toNat, by omega, by omega⟩
theorem wf_u8 {n : Int} (h : (Lit.int .u8 n).wf = true) : ∃ m : Nat, n = (m : Int) ∧ m < 256 := by
  simp [Lit.wf, IntKind.min, IntKind.max, IntKind.signed, IntKind.bits] at h
  exact ⟨n.toNat, by omega, by omega⟩
theorem wf_i64 {n : Int} (h : (Lit.int .i64 n).wf = true) : -9223372036854775808 ≤ n ∧ n < 9223372036854775808 := by
  simp [Lit.wf, IntKind.min, IntKind.max, IntKind.signed, IntKind.bits] at h
  omega
theorem fit_u32 {P : Program} {d : Nat} {t : TypeId} {ds : List DV} (ht : P.underlying t = some (.int .u32)) (h : Fit P (d + 1) t ds) : ∃ m : Nat, m < 4294967296 ∧ ds = [.int .u32 m] := by
  obtain ⟨n, rfl, hw⟩ := fit_int ht h
  obtain ⟨m, rfl, hm⟩ := wf_u32 hw
  exact ⟨m, hm, rfl⟩
theorem fit_u64 {P : Program} {d : Nat} {t : TypeId} {ds : List DV} (ht : P.underlying t = some (.int .u64)) (h : Fit P (d + 1) t ds) : ∃ m : Nat, m < 18446744073709551616 ∧ ds = [.int .u64 m] := by
  obtain ⟨n, rfl, hw⟩ := fit_int ht h
  obtain ⟨m, rfl, hm⟩ := wf_u64 hw
  exact ⟨m, hm, rfl⟩
theorem fit_u8 {P : Program} {d : Nat} {t : TypeId} {ds : List DV} (ht : P.underlying t = some (.int .u8)) (h : Fit P (d + 1) t ds) : ∃ m : Nat, m < 256 ∧ ds = [.int .u8 m] := by
  obtain ⟨n, rfl, hw⟩ := fit_int ht h
  obtain ⟨m, rfl, hm⟩ := wf_u8 hw
  exact ⟨m, hm, rfl⟩
theorem fit_i64 {P : Program} {d : Nat} {t : TypeId} {ds : List DV} (ht : P.underlying t = some (.int .i64)) (h : Fit P (d + 1) t ds) : ∃ n : Int, (-9223372036854775808 ≤ n ∧ n < 9223372036854775808) ∧ ds = [.int .i64 n] := by
  obtain ⟨n, rfl, hw⟩ := fit_int ht h
  exact ⟨n, wf_i64 hw, rfl⟩
theorem fit_bool {P : Program} {d : Nat} {t : TypeId} {ds : List DV} (ht : P.underlying t = some .bool) (h : Fit P (d + 1) t ds) : ∃ b : Bool, ds = [.bool b] := by
  rw [Fit, ht] at h
  exact h
theorem one_at {ds : List DV} {o : Nat} {x : DV} (h : (ds.drop o).take 1 = [x]) : ds[o]? = some x := by
  have := congrArg (·[0]?) h
  simpa [List.getElem?_take] using this
theorem fit_vec {P : Program} {d : Nat} {t e : TypeId} {ds : List DV} (ht : P.underlying t = some (.array 8 e)) (he : P.underlying e = some (.int .u32)) (hc : P.cellsOf t = 8) (hce : P.cellsOf e = 1) (h : Fit P (d + 2) t ds) : ∃ v : Vec, v.wf ∧ ds = v.ds := by
  rw [Fit, ht] at h
  dsimp only at h
  obtain ⟨hl, hi⟩ := h
  rw [hc] at hl
  rw [hce] at hi
  have key : ∀ i, i < 8 → ∃ m : Nat, m < 4294967296 ∧ ds[i]? = some (.int .u32 m) := fun i hlt => by
    obtain ⟨m, hm, e1⟩ := fit_u32 (d := d) he (hi i hlt)
    exact ⟨m, hm, one_at (by simpa using e1)⟩
  obtain ⟨m0, h0, e0⟩ := key 0 (by omega)
  obtain ⟨m1, h1, e1⟩ := key 1 (by omega)
  obtain ⟨m2, h2, e2⟩ := key 2 (by omega)
  obtain ⟨m3, h3, e3⟩ := key 3 (by omega)
  obtain ⟨m4, h4, e4⟩ := key 4 (by omega)
  obtain ⟨m5, h5, e5⟩ := key 5 (by omega)
  obtain ⟨m6, h6, e6⟩ := key 6 (by omega)
  obtain ⟨m7, h7, e7⟩ := key 7 (by omega)
  refine ⟨⟨m0, m1, m2, m3, m4, m5, m6, m7⟩, fun r hr => ?_, List.ext_getElem? fun i => ?_⟩
  · match r, hr with
    | 0, _ => exact h0
    | 1, _ => exact h1
    | 2, _ => exact h2
    | 3, _ => exact h3
    | 4, _ => exact h4
    | 5, _ => exact h5
    | 6, _ => exact h6
    | 7, _ => exact h7
  · match i with
    | 0 => rw [e0]; rfl
    | 1 => rw [e1]; rfl
    | 2 => rw [e2]; rfl
    | 3 => rw [e3]; rfl
    | 4 => rw [e4]; rfl
    | 5 => rw [e5]; rfl
    | 6 => rw [e6]; rfl
    | 7 => rw [e7]; rfl
    | i + 8 => rw [List.getElem?_eq_none (by omega), List.getElem?_eq_none (by simp [Vec.ds])]
/-- A part of a struct's cells. -/
theorem fit_field {P : Program} {d : Nat} {t : TypeId} {fs : Array Field} {ds : List DV} (ht : P.underlying t = some (.struct fs)) (h : Fit P (d + 1) t ds) (i : Nat) (f : Field) (hf : fs[i]? = some f) :
    Fit P d f.type ((ds.drop f.offset).take (P.cellsOf f.type)) := by
  rw [Fit, ht] at h
  dsimp only at h
  exact h.2 f (by simpa using Array.mem_of_getElem? hf)
theorem fit_len {P : Program} {d : Nat} {t : TypeId} {fs : Array Field} {ds : List DV} (ht : P.underlying t = some (.struct fs)) (h : Fit P (d + 1) t ds) : ds.length = P.cellsOf t := by
  rw [Fit, ht] at h
  dsimp only at h
  exact h.1
theorem fit_dot {P : Program} {d : Nat} {t : TypeId} {fs : Array Field} {fR fN : Field} {ds : List DV} (ht : P.underlying t = some (.struct fs)) (h0 : fs[0]? = some fR) (h1 : fs[1]? = some fN) (o0 : fR.offset = 0) (o1 : fN.offset = 1)
    (t0 : P.underlying fR.type = some (.int .u8)) (t1 : P.underlying fN.type = some (.int .u32)) (hc : P.cellsOf t = 2) (c0 : P.cellsOf fR.type = 1) (c1 : P.cellsOf fN.type = 1) (h : Fit P (d + 2) t ds) : ∃ x : Dt, x.wf ∧ ds = x.ds := by
  have f0 := fit_field ht h 0 fR h0
  have f1 := fit_field ht h 1 fN h1
  have hl := fit_len ht h
  rw [hc] at hl
  rw [o0, c0] at f0
  rw [o1, c1] at f1
  obtain ⟨a, ha, ea⟩ := fit_u8 t0 f0
  obtain ⟨b, hb, eb⟩ := fit_u32 t1 f1
  have ea := one_at ea
  have eb := one_at eb
  refine ⟨⟨a, b⟩, ⟨ha, hb⟩, List.ext_getElem? fun i => ?_⟩
  match i with
  | 0 => rw [ea]; rfl
  | 1 => rw [eb]; rfl
  | i + 2 => rw [List.getElem?_eq_none (by omega), List.getElem?_eq_none (by simp)]
/-- A slice of things of sz cells each. -/
theorem fit_slice {P : Program} {d : Nat} {t e : TypeId} {ds : List DV} {α : Type} (f : α → List DV) (ok : α → Prop) (ht : P.underlying t = some (.slice e)) (hp : ∀ ds, Fit P d e ds → ∃ x, ok x ∧ ds = f x)
    (h : Fit P (d + 1) t ds) : (ds = [.nils]) ∨ ∃ l : List α, (∀ x ∈ l, ok x) ∧ l.length ≤ 9223372036854775807 ∧ ds = [.sl l.length (l.flatMap f)] := by
  rw [Fit, ht] at h
  dsimp only at h
  rcases h with h | ⟨n, cs, rfl, hn, hl, hi⟩
  · exact .inl h
  · refine .inr ?_
    have key : ∀ k, k ≤ n → ∃ l : List α, (∀ x ∈ l, ok x) ∧ l.length = k ∧ cs.take (k * P.cellsOf e) = l.flatMap f := by
      intro k
      induction k with
      | zero => intro _; exact ⟨[], by simp, rfl, by simp⟩
      | succ k ih =>
        intro hk
        obtain ⟨l, a1, a2, a3⟩ := ih (by omega)
        obtain ⟨x, b1, b2⟩ := hp _ (hi k hk)
        refine ⟨l ++ [x], fun y hy => ?_, by simp [a2], ?_⟩
        · rcases List.mem_append.1 hy with h | h
          · exact a1 y h
          · simp at h; subst h; exact b1
        · rw [Nat.succ_mul, List.take_add, a3, b2]; simp
    obtain ⟨l, a1, a2, a3⟩ := key n (Nat.le_refl _)
    rw [List.take_of_length_le (by omega)] at a3
    exact ⟨l, a1, by omega, by rw [a2, a3]⟩
end Go.Sl
