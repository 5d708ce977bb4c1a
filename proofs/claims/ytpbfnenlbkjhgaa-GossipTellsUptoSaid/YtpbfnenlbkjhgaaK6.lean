/-
  Sorting a row by a function: the kit's contract of slices.SortFunc as one of this logic.
-/
import Derived.Test.YtpbfnenlbkjhgaaK5
import Derived.Shelf.SlSortCmp.NoneTotal
import Derived.Test.YtpbfnenlbkjhgaaK4
set_option linter.unusedVariables false
set_option linter.unusedSimpArgs false
set_option linter.unusedSectionVars false
namespace Go.Sl
open Go.RowKit Go.Sort Go.Proofs Go.Shelf
variable {P : Program}

/-- An element of a row: its cells, what they are. -/
structure Elem {A : Type} (ds : A → List DV) (M : Mem) where
  cells : List Value
  mod : A
  rep : Rps (fun _ => False) (fun _ => ⟨0, 0, true⟩) M ((ds mod).map .d) cells

theorem Rps.dAny {p : Nat → Prop} {μ : Nat → Nm} {M : Mem} {xs : List DV} {vs : List Value} (h : Rps p μ M (xs.map .d) vs) (p' : Nat → Prop) (μ' : Nat → Nm) : Rps p' μ' M (xs.map .d) vs := by
  induction xs generalizing vs with
  | nil => exact Rps.nil_iff.2 (Rps.nil_iff.1 h)
  | cons x xs ih =>
    obtain ⟨u, us, e, h1, h2⟩ := Rps.cons_iff.1 h
    exact Rps.cons_iff.2 ⟨u, us, e, Rp.d_iff.2 (Rp.d_iff.1 h1), ih h2⟩

theorem rows_elems {A : Type} (ds : A → List DV) {p : Nat → Prop} {μ : Nat → Nm} {M : Mem} : ∀ (l : List A) (us : List Value), Rps p μ M ((l.flatMap ds).map .d) us →
    ∃ es : List (Elem ds M), es.map (·.mod) = l ∧ es.flatMap (·.cells) = us
  | [], us, h => ⟨[], rfl, by simpa using (Rps.nil_iff.1 h).symm⟩
  | x :: l, us, h => by
    have h1 : Rps p μ M ((ds x).map .d) (us.take (ds x).length) := by simpa using Rps.take (ds x).length h
    have h2 : Rps p μ M ((l.flatMap ds).map .d) (us.drop (ds x).length) := by simpa using Rps.drop (ds x).length h
    obtain ⟨es, e1, e2⟩ := rows_elems ds l _ h2
    exact ⟨⟨us.take (ds x).length, x, h1.dAny _ _⟩ :: es, by simp [e1], by simp [e2]⟩
theorem elems_rows {A : Type} (ds : A → List DV) {p : Nat → Prop} {μ : Nat → Nm} {M : Mem} : ∀ (es : List (Elem ds M)), Rps p μ M (((es.map (·.mod)).flatMap ds).map .d) (es.flatMap (·.cells))
  | [] => Rps.nil_iff.2 rfl
  | x :: es => by
    have := Rps.append (x.rep.dAny p μ) (elems_rows ds es)
    simpa using this

theorem flatK_list {A : Type} {ds : A → List DV} {M : Mem} [Inhabited (Elem ds M)] {k : Nat} (hk : ∀ x : Elem ds M, x.cells.length = k) (es : List (Elem ds M)) : (flatK (fun x : Elem ds M => x.cells) k es.toArray).toList = es.flatMap (·.cells) := by
  have hl := flat_length (fun x : Elem ds M => x.cells) k hk es
  apply List.ext_getElem?
  intro t
  by_cases ht : t < es.length * k
  · have hk0 : 0 < k := by rcases Nat.eq_zero_or_pos k with h | h; · subst h; simp at ht
                           · exact h
    have hi : t / k < es.length := Nat.div_lt_of_lt_mul (by rwa [Nat.mul_comm] at ht)
    have e1 := flat_get (fun x : Elem ds M => x.cells) k hk es (t / k) (t % k) es[t / k] (List.getElem?_eq_getElem hi) (Nat.mod_lt _ hk0)
    have e2 : t / k * k + t % k = t := by rw [Nat.mul_comm]; exact Nat.div_add_mod t k
    rw [e2] at e1
    rw [e1]
    have e3 := get_flatK (fun x : Elem ds M => x.cells) k es.toArray t (by simpa using ht)
    have e4 : t < (flatK (fun x : Elem ds M => x.cells) k es.toArray).size := by simpa using ht
    have hc : t % k < es[t / k].cells.length := by rw [hk]; exact Nat.mod_lt _ hk0
    rw [getElem!_pos _ t e4] at e3
    rw [Array.getElem?_toList, Array.getElem?_eq_getElem e4, e3]
    simp [hi, hc]
  · rw [List.getElem?_eq_none (by simpa using ht), List.getElem?_eq_none (by rw [hl]; omega)]

/-- From a world, as one leaves it who looks at no object. -/
theorem Ev.grown {new : Nat → Prop} {μ μ' : Nat → Nm} {M M' : Mem} {w w' : World} {c' : Nat → Option Ob} (h : Ev (lk []) new μ M w c' μ' M' w') : ∃ q os, w' = grow (w.drewN q) os := by
  refine ⟨w'.drawn - w.drawn, w'.heap.extract w.heap.size w'.heap.size, ?_⟩
  have hh : w'.heap = w.heap ++ w'.heap.extract w.heap.size w'.heap.size := by
    apply Array.ext_getElem?
    intro i
    rw [Array.getElem?_append]
    split
    · rename_i hi
      exact (h.frame i hi fun n hn => by simp [lk_nil] at hn).1
    · rename_i hi
      rw [Array.getElem?_extract]
      have := h.size
      split
      · rw [show w.heap.size + (i - w.heap.size) = i by omega]
      · rename_i hj
        rw [Array.getElem?_eq_none (by omega)]
  have h1 := h.os
  have h2 := h.tape
  have h3 := h.output
  have hd : w'.drawn = w.drawn + (w'.drawn - w.drawn) := by have := h2.2; omega
  obtain ⟨a, b, c, d, e⟩ := w'
  obtain ⟨a', b', c', d', e'⟩ := w
  simp only [grow, World.drewN]
  simp only at hh h1 h2 h3 hd
  replace h2 := h2.1
  simp only at h2
  subst h1; subst h2; subst h3
  rw [← hd, ← hh]

theorem SC.sortFunc {ρ : Ren} {A : Type} (L : SlLaysF0.n6 P ρ) (sz : Nat) (aE : ∀ w, (isAgg (ρ.t 24)).run P w = .ok true w) (zE : ∀ w, (Go.sizeOf (ρ.t 24)).run P w = .ok sz w) (hcall : Callable P (ρ.f 6) = true)
    (ds : A → List DV) (hds : ∀ x, (ds x).length = sz) (cf : A → A → Int) (hO : SWO (ltOf cf)) (g : Nat) (capv : List SV) (hg : Callable P g = true)
    (hcmp : ∀ (x y : A) (k : Nat), SCd P g ([.agg ((ds x).map .d), .agg ((ds y).map .d)] ++ capv) [] k 0 (.d (.int .i64 (cf x y))) []) (n e : Nat) (l : List A) (hl : l.length < 4611686018427387904) (k : Nat) :
    SC P (ρ.f 6) [.gs n l.length, .fn (.func g) [] capv] [(n, .arr e sz l.length ((l.flatMap ds).map .d))] k 0
      (fun r F' => r = .tup [] ∧ ∃ l' : List A, l'.Perm l ∧ l'.Pairwise (fun a b => ltOf cf b a = false) ∧ F' = [(n, .arr e sz l.length ((l'.flatMap ds).map .d))]) := by
  refine ⟨hcall, fun p μ M w vals hp hr hS => ?_⟩
  obtain ⟨u1, us, e1, r1, r2⟩ := Rps.cons_iff.1 hr
  obtain ⟨u2, us2, e2, r3, r4⟩ := Rps.cons_iff.1 r2
  have e3 := Rps.nil_iff.1 r4
  subst e3; subst e2
  obtain ⟨fs, cs, rfl, ra, rc⟩ := Rp.fn_iff.1 r3
  have ra' := Rps.nil_iff.1 ra
  have hvals : vals = #[u1, .func (.func g) fs cs] := by cases vals; simpa using e1
  have has : fs = #[] := by cases fs; simpa using ra'
  subst has; subst hvals
  obtain ⟨hpn, hob, hMn⟩ := hS.obs n (.arr e sz l.length ((l.flatMap ds).map .d)) (by simp [lk_one])
  by_cases h0 : l = []
  · subst h0
    have hsl : ∃ A cap, u1 = .slice A 0 cap := by
      rcases r1.gs_of with ⟨_, rfl⟩ | ⟨_, _, A, rfl⟩ <;> exact ⟨_, _, rfl⟩
    obtain ⟨A', cap, rfl⟩ := hsl
    refine (AnyF.slices_SortFunc_none L A' cap (.func (.func g) #[] cs) w).mono ?_
    rintro e w' ⟨rfl, rfl⟩
    exact ⟨.tup [], _, μ, M, .tuple #[], rfl, ⟨rfl, [], List.Perm.refl _, List.Pairwise.nil, rfl⟩, Rp.tup_iff.2 ⟨#[], rfl, Rps.nil_iff.2 rfl⟩, hS.more fun n h => .inl h, Ev.refl _ _ _ _ _ fun n _ h => by omega⟩
  · have hpos : 0 < l.length := by cases l with
      | nil => exact absurd rfl h0
      | cons x l => simp
    rcases hob with ⟨_, hz, _⟩ | ⟨hlive, vs, hb, q1, q2, q3, q4, hrow⟩
    · omega
    have hMn := hMn hlive
    obtain ⟨_, rfl⟩ : (μ n).live = true ∧ u1 = .slice (some ⟨(μ n).blk, 0, none⟩) l.length (μ n).cap := by
      rcases r1.gs_of with h | ⟨h, _⟩
      · exact h
      · rw [hlive] at h; cases h
    obtain ⟨es, m1, m2⟩ := rows_elems ds l _ hrow
    have hlen : es.length = l.length := by rw [← m1]; simp
    have hk : ∀ x : Elem ds M, x.cells.length = sz := fun x => by
      have := x.rep.length
      rw [this]; simp [hds]
    have : Inhabited (Elem ds M) := ⟨es[0]'(by omega)⟩
    have hone : ∀ x : Elem ds M, ∀ v ∈ x.cells, v.oneCell' = true := fun x => Rps.ones (by simp [SV.isOne]) x.rep
    have hblk : (μ n).blk < w.heap.size := (Array.getElem?_eq_some_iff.1 hb).1
    have hfl := flatK_list (k := sz) hk es
    have hcut : sz * l.length ≤ vs.size := by rw [q4, Nat.mul_comm]; exact Nat.mul_le_mul_right _ q2
    have hH : HoldsK (fun x : Elem ds M => x.cells) sz w (μ n).blk 0 es.toArray := by
      intro j hj
      have hj' : j < l.length * sz := by simpa [hlen] using hj
      have hgot : (flatK (fun x : Elem ds M => x.cells) sz es.toArray)[j]! = vs[j]! := by
        have hv : j < vs.size := by rw [Nat.mul_comm] at hcut; omega
        rw [getElem!_pos _ j hj, getElem!_pos vs j hv]
        have := congrArg (fun l => l[j]?) (hfl.trans m2)
        simp only [Array.getElem?_toList, List.getElem?_take, hj', if_true, Array.getElem?_eq_getElem hj, Array.getElem?_eq_getElem hv] at this
        exact Option.some.inj this
      have hv : j < vs.size := by rw [Nat.mul_comm] at hcut; omega
      refine ⟨?_, ?_⟩
      · rw [Nat.zero_add, cell_of hb, hgot, getElem!_pos vs j hv, Array.getElem?_eq_getElem hv]; rfl
      · simp [World.frozen?, hb]
    have hmem : ∀ (q : Nat) (os : Array Obj) (dk : Array (Elem ds M)) (b o : Nat) (v : Value), M b o = some v → (sortWorldK (fun x : Elem ds M => x.cells) sz w (μ n).blk 0 q dk os).cell? ⟨b, o, none⟩ = some v := by
      intro q os dk b o v hv
      have hbn : b ≠ (μ n).blk := fun e => by rw [e, hMn] at hv; cases hv
      have hc := hS.mem b o v hv
      have hlt := World.block_lt_of_cell? w ⟨b, o, none⟩ hc
      unfold sortWorldK
      have hsz : (putRowK (fun x : Elem ds M => x.cells) sz (Sort.ahead w q) (μ n).blk 0 dk).heap.size = w.heap.size := by
        unfold putRowK putRow mapBlock
        simp [Sort.ahead]
      rw [cell?_grow _ _ _ (by show b < _; rw [hsz]; exact hlt), cell?_putRowK_other _ _ _ _ _ _ _ hbn]
      exact hc
    have hC : CmpLays P g cs (fun x : Elem ds M => x.cells) sz (fun x y => cf x.mod y.mod) (μ n).blk 0 es.toArray.size w := by
      intro q os dk hdk x y
      have hargs : Rps p μ M ([.agg ((ds x.mod).map .d), .agg ((ds y.mod).map .d)] ++ capv) (#[.agg x.cells.toArray, .agg y.cells.toArray] ++ cs : Array Value).toList := by
        have a1 : Rp p μ M (.agg ((ds x.mod).map .d)) (.agg x.cells.toArray) := Rp.agg_iff.2 ⟨_, rfl, by simpa using x.rep.dAny p μ⟩
        have a2 : Rp p μ M (.agg ((ds y.mod).map .d)) (.agg y.cells.toArray) := Rp.agg_iff.2 ⟨_, rfl, by simpa using y.rep.dAny p μ⟩
        have := Rps.append (Rps.cons_iff.2 ⟨_, _, rfl, a1, Rps.cons_iff.2 ⟨_, _, rfl, a2, Rps.nil_iff.2 rfl⟩⟩) rc
        simpa using this
      refine ((hcmp x.mod y.mod k).2 p μ M (sortWorldK (fun x : Elem ds M => x.cells) sz w (μ n).blk 0 q dk os) _ (fun n hn => by omega) hargs ⟨⟨fun b o v hv => hmem q os dk b o v hv, hS.mem.glob⟩, fun n ob hn => by simp [lk_nil] at hn, fun n m hn => by simp [lk_nil] at hn⟩).mono ?_
      rintro e w' ⟨r, F', μ', M', u, rfl, ⟨rfl, rfl⟩, hr', _, hE⟩
      refine ⟨?_, hE.grown⟩
      rw [Rp.int_iff.1 hr']
    have hO' : SWO (ltOf fun x y : Elem ds M => cf x.mod y.mod) := ⟨fun x => hO.irrefl x.mod, fun x y z h1 h2 => hO.trans x.mod y.mod z.mod h1 h2, fun x y z h1 h2 => hO.ntrans x.mod y.mod z.mod h1 h2⟩
    have hsort := AnyQ.slices_SortFunc L sz aE zE (fun x : Elem ds M => x.cells) hk hone (fun x y => cf x.mod y.mod) hO' g cs (μ n).blk 0 (μ n).cap es.toArray w (fun args w => run_callFunc hg args) hC hH hblk (by simpa [hlen] using hl)
    rw [show es.toArray.size = l.length by simp [hlen]] at hsort
    refine hsort.mono ?_
    rintro e' w' ⟨rfl, d', q, os, hperm, hsorted, rfl⟩
    obtain ⟨p1, _, p3⟩ := hperm
    have hd' : d'.size = l.length := by rw [p1]; simp [hlen]
    have p3 : d'.toList.Perm es := by
      have ea : d'.extract 0 l.length = d' := by rw [← hd']; simp
      have eb : es.toArray.extract 0 l.length = es.toArray := by rw [← hlen]; simp
      rw [ea, eb] at p3
      simpa using p3
    have hfl' := flatK_list (k := sz) hk d'.toList
    rw [Array.toArray_toList] at hfl'
    have hFs : (flatK (fun x : Elem ds M => x.cells) sz d').size = l.length * sz := by simp [hd']
    let vs' : Array Value := putCells id 0 (flatK (fun x : Elem ds M => x.cells) sz d') vs
    have hvs' : vs'.size = vs.size := by simp [vs', putCells]
    have hput : (putRowK (fun x : Elem ds M => x.cells) sz (Sort.ahead w q) (μ n).blk 0 d').heap[(μ n).blk]? = some (.cells vs' e (0, 0)) := by
      unfold putRowK putRow mapBlock
      simp only [Sort.ahead, Array.getElem?_modify, if_true, hb, Option.map_some, onCells, vs']
    have hsz : (putRowK (fun x : Elem ds M => x.cells) sz (Sort.ahead w q) (μ n).blk 0 d').heap.size = w.heap.size := by
      unfold putRowK putRow mapBlock
      simp [Sort.ahead]
    have hother : ∀ b, b < w.heap.size → b ≠ (μ n).blk → (sortWorldK (fun x : Elem ds M => x.cells) sz w (μ n).blk 0 q d' os).heap[b]? = w.heap[b]? := by
      intro b hbl hbn
      unfold sortWorldK
      rw [heap_grow_old _ _ (by rw [hsz]; exact hbl)]
      unfold putRowK putRow mapBlock
      simp only [Sort.ahead, Array.getElem?_modify, if_neg (Ne.symm hbn)]
    have hnew : (sortWorldK (fun x : Elem ds M => x.cells) sz w (μ n).blk 0 q d' os).heap[(μ n).blk]? = some (.cells vs' e (0, 0)) := by
      unfold sortWorldK
      rw [heap_grow_old _ _ (by rw [hsz]; exact hblk)]
      exact hput
    have htake : vs'.toList.take (l.length * sz) = d'.toList.flatMap (·.cells) := by
      rw [← hfl']
      apply List.ext_getElem?
      intro t
      rw [List.getElem?_take]
      by_cases ht : t < l.length * sz
      · have h1 : t < vs.size := by rw [Nat.mul_comm] at hcut; omega
        have h2 : t < (flatK (fun x : Elem ds M => x.cells) sz d').size := by rw [hFs]; exact ht
        rw [if_pos ht, Array.getElem?_toList, Array.getElem?_toList, Array.getElem?_eq_getElem h2]
        simp only [vs', putCells, Array.getElem?_mapIdx, Array.getElem?_eq_getElem h1, Option.map_some, Nat.zero_le, true_and, Nat.zero_add, Nat.sub_zero, id]
        rw [if_pos h2, getElem!_pos _ t h2]
      · rw [if_neg ht, Array.getElem?_toList, Array.getElem?_eq_none (by rw [hFs]; omega)]
    refine ⟨.tup [], [(n, .arr e sz l.length (((d'.toList.map (·.mod)).flatMap ds).map .d))], μ, M, .tuple #[], rfl, ⟨rfl, d'.toList.map (·.mod), ?_, ?_, rfl⟩, Rp.tup_iff.2 ⟨#[], rfl, Rps.nil_iff.2 rfl⟩, ⟨⟨fun b o v hv => hmem q os d' b o v hv, hS.mem.glob⟩, fun m ob hm => ?_, fun m m' hm hm' _ _ _ => ?_⟩, ⟨fun _ _ => rfl, Mem.le_refl _, fun b hbl hf => ⟨hother b hbl fun ee => hf n (by simp [lk_one]) hlive ee.symm, fun _ => rfl⟩, ?_, fun m hm => ?_, rfl, ⟨rfl, ?_⟩, rfl⟩⟩
    · rw [← m1]; exact p3.map _
    · rw [List.pairwise_map, List.pairwise_iff_getElem]
      intro i j hi hj hij
      have := hsorted i j (Nat.zero_le _) hij (by rw [← hd']; simpa using hj)
      rwa [getElem!_pos d' j (by simpa using hj), getElem!_pos d' i (by simpa using hi)] at this
    · rw [lk_one] at hm
      split at hm
      · rename_i ee; subst ee
        injection hm with hm; subst hm
        refine ⟨.inl hpn, .inr ⟨hlive, vs', hnew, ?_, q2, q3, by rw [hvs']; exact q4, ?_⟩, fun _ => hMn⟩
        · have := flat_length ds sz hds (d'.toList.map (·.mod))
          simp only [List.length_map, Array.length_toList] at this ⊢
          rw [this, hd']
        · rw [htake]
          exact (elems_rows ds d'.toList)
      · cases hm
    · rw [lk_one] at hm hm'
      split at hm <;> split at hm' <;> first | omega | simp at hm hm'
    · unfold sortWorldK
      rw [size_grow, hsz]; omega
    · rw [lk_one] at hm
      split at hm
      · rename_i ee; subst ee
        exact .inr ⟨by omega, by simp [lk_one]⟩
      · simp at hm
    · show w.drawn ≤ w.drawn + q
      omega
end Go.Sl

/-
  A box's cell that holds no map: a map of one's own that is nil.
-/
set_option linter.unusedVariables false
set_option linter.unusedSimpArgs false
set_option linter.unusedSectionVars false
namespace Go.Sl
open Go.RowKit
/-- Ties first, names last: for names that are not numerals. -/
def noConf2 (bs : List Nat) (ts : List (Bool × List Nat)) : Bool :=
  all2 ts.length fun i j => i == j || (ts.getD i (true, [])).1 || ordB bs i j || ordB bs j i || !((ts.getD i (true, [])).2.any fun n => (ts.getD j (true, [])).2.contains n)
theorem conf_of {f : Bool} {bs : List Nat} {ts : List (Bool × List Nat)} (h : (!f || noConf2 bs ts) = true) : (!f || noConf bs ts) = true := by
  rw [← h]
  congr 1
  unfold noConf noConf2
  congr 1
  funext i j
  generalize (i == j) = a
  generalize (ts.getD i (true, [])).1 = b
  generalize ordB bs i j = c
  generalize ordB bs j i = d
  generalize List.any _ _ = e
  cases a <;> cases b <;> cases c <;> cases d <;> cases e <;> rfl
section
variable {P : Program} {N k0 : Nat} {st : St} {Q : Exit → St → Prop}

theorem Rp.set_at {p : Nat → Prop} {μ : Nat → Nm} {M : Mem} {cs : List SV} {vs : List Value} {c : SV} (i : Nat) (h : Rps p μ M cs vs) (hc : ∀ u, vs[i]? = some u → Rp p μ M c u) (hi : i < cs.length) : Rps p μ M (cs.set i c) vs := by
  obtain ⟨c0, h0⟩ := get_of_lt hi
  obtain ⟨u, hu, _⟩ := h.get h0
  have := h.set i (hc u hu)
  rwa [show vs.set i u = vs by
    apply List.ext_getElem?
    intro j
    rw [List.getElem?_set]
    split
    · rename_i e; subst e
      rw [hu]; simp [(List.getElem?_eq_some_iff.1 hu).1]
    · rfl] at this

theorem StA.nilmap {μ0 : Nat → Nm} {M0 : Mem} {w0 : World} {c0 : Nat → Option Ob} {a : Act} {w : World} (b i : Nat) {t : TypeId} {cs : List SV} (hb : lk st.hp b = some (.box t cs)) (hi : cs[i]? = some (.d .nilm)) (h : StA N μ0 M0 w0 c0 k0 st a w) :
    StA N μ0 M0 w0 c0 k0 ⟨st.env, (st.k, .nomap) :: hset st.hp b (.box t (cs.set i (.mp st.k))), st.k + 1⟩ a w := by
  obtain ⟨hk0, hdf, hsz, μ, M, hsl, hS, hE⟩ := h
  have hmu := upN_p (μ := μ) (m := ⟨0, 0, false⟩) (p := (· < st.k)) (k := st.k) (Nat.lt_irrefl _)
  have hup : ∀ n, n < st.k → n < st.k + 1 := fun n h => by omega
  have hlt : ∀ n ob, lk st.hp n = some ob → n < st.k := fun n ob h => (hS.obs n ob h).1
  have hpres : ∀ n, n ≠ st.k → lk ((st.k, .nomap) :: hset st.hp b (.box t (cs.set i (.mp st.k)))) n ≠ none → lk st.hp n ≠ none := fun n e1 hn => by
    rw [lk_cons, if_neg e1, lk_hset] at hn
    split at hn
    · rename_i e; subst e; rw [hb]; simp
    · exact hn
  refine ⟨by show k0 ≤ st.k + 1; omega, hdf, hsz, upN μ st.k ⟨0, 0, false⟩, M, fun u s hs => (hsl u s hs).more hup hmu (Mem.le_refl M), ⟨hS.mem, fun n ob hn => ?_, fun n m hn hm ln lm e => ?_⟩, ⟨fun n hn => ?_, hE.mem, hE.frame, hE.size, fun n hn => ?_, hE.os, hE.tape, hE.output⟩⟩
  · replace hn : lk ((st.k, .nomap) :: hset st.hp b (.box t (cs.set i (.mp st.k)))) n = some ob := hn
    rw [lk_cons] at hn
    split at hn
    · rename_i e1
      subst e1
      injection hn with hn
      subst hn
      rw [upN_same]
      exact ⟨Nat.lt_succ_self _, rfl, fun h => by cases h⟩
    · rw [lk_hset] at hn
      split at hn
      · rename_i e1 e2
        subst e2
        injection hn with hn
        subst hn
        obtain ⟨a1, a2, a3⟩ := hS.obs n _ hb
        rw [hmu n a1]
        refine ⟨hup n a1, ?_, a3⟩
        obtain ⟨l1, vs, v1, v2⟩ := a2
        refine ⟨l1, vs, v1, ?_⟩
        refine Rp.set_at i (v2.more hup hmu (Mem.le_refl M)) (fun u hu => ?_) (List.getElem?_eq_some_iff.1 hi).1
        obtain ⟨u', hu', hr⟩ := v2.get hi
        have : u = u' := by rw [hu'] at hu; exact (Option.some.inj hu).symm
        subst this
        have h1 := Rp.nilm_of hr
        intro ν hν
        simp only [Rep]
        rw [hν st.k (Nat.lt_succ_self _), upN_same]
        exact .inr ⟨rfl, h1⟩
      · obtain ⟨a1, a2, a3⟩ := hS.obs n ob hn
        rw [hmu n a1]
        exact ⟨hup n a1, a2.more hup hmu (Mem.le_refl M) fun _ => rfl, a3⟩
  · by_cases e1 : n = st.k
    · subst e1; rw [upN_same] at ln; cases ln
    · by_cases e2 : m = st.k
      · subst e2; rw [upN_same] at lm; cases lm
      · have hn := hpres n e1 hn
        have hm := hpres m e2 hm
        obtain ⟨o1, ho1⟩ := Option.ne_none_iff_exists'.1 hn
        obtain ⟨o2, ho2⟩ := Option.ne_none_iff_exists'.1 hm
        rw [hmu n (hlt n o1 ho1)] at e ln
        rw [hmu m (hlt m o2 ho2)] at e lm
        exact hS.inj n m hn hm ln lm e
  · simp only at hn
    by_cases e1 : n = st.k
    · subst e1; omega
    · rw [upN_other _ _ _ e1]; exact hE.old n (by omega)
  · by_cases e1 : n = st.k
    · subst e1
      rw [upN_same]
      exact .inl ⟨⟨by omega, Nat.lt_succ_self _⟩, fun h => by cases h⟩
    · have hn := hpres n e1 hn
      obtain ⟨o1, ho1⟩ := Option.ne_none_iff_exists'.1 hn
      rw [hmu n (hlt n o1 ho1)]
      rcases hE.names n hn with ⟨b1, b2⟩ | ⟨b1, b2⟩
      · exact .inl ⟨⟨b1.1, by have := b1.2; show n < st.k + 1; omega⟩, b2⟩
      · refine .inr ⟨fun h => ?_, b2⟩
        have : n < st.k := hlt n o1 ho1
        exact b1 ⟨h.1, this⟩
/-- A box's cell that holds no map is a map of one's own that is nil. -/
theorem SW.nilmap {s : SCo} (b i : Nat) {t : TypeId} {cs : List SV} (hb : lk st.hp b = some (.box t cs)) (hi : cs[i]? = some (.d .nilm)) (h : SW P N k0 s ⟨st.env, (st.k, .nomap) :: hset st.hp b (.box t (cs.set i (.mp st.k))), st.k + 1⟩ Q) : SW P N k0 s st Q :=
  fun c hc rd hrf μ0 M0 w0 c0 a w hSt => h c hc rd hrf μ0 M0 w0 c0 a w (hSt.nilmap b i hb hi)
end
end Go.Sl

/-
  A part of a box, lent as a row to a function that only reads it.
-/
set_option linter.unusedVariables false
set_option linter.unusedSimpArgs false
set_option linter.unusedSectionVars false
namespace Go.Sl
open Go.RowKit
variable {P : Program}

/-- A value that names no memory. -/
def SV.Plain (v : SV) : Prop := ∀ (p p' : Nat → Prop) (μ μ' : Nat → Nm) (M M' : Mem) (u : Value), Rp p μ M v u → Rp p' μ' M' v u
theorem SV.plain_u32 (n : Nat) : SV.Plain (u32 n) := fun p p' μ μ' M M' u h => by
  unfold u32 at h ⊢
  rw [Rp.int_iff] at h ⊢; exact h
theorem SV.plains {p p' : Nat → Prop} {μ μ' : Nat → Nm} {M M' : Mem} : ∀ {cs : List SV} {l : List Value}, (∀ c, c ∈ cs → SV.Plain c) → Rps p μ M cs l → Rps p' μ' M' cs l
  | [], l, _, hr => Rps.nil_iff.2 (Rps.nil_iff.1 hr)
  | c :: cs, l, h, hr => by
    obtain ⟨u, us, rfl, h1, h2⟩ := Rps.cons_iff.1 hr
    exact Rps.cons_iff.2 ⟨u, us, rfl, h c (by simp) p p' μ μ' M M' u h1, SV.plains (fun c hc => h c (by simp [hc])) h2⟩
theorem SV.plain_agg {cs : List SV} (h : ∀ c, c ∈ cs → SV.Plain c) : SV.Plain (.agg cs) := fun p p' μ μ' M M' u hu => by
  obtain ⟨vs, rfl, hr⟩ := Rp.agg_iff.1 hu
  exact Rp.agg_iff.2 ⟨vs, rfl, SV.plains h hr⟩
theorem Vec.plain (v : Vec) : SV.Plain (.agg v.cells) := SV.plain_agg fun c hc => by
  simp only [Vec.cells, List.mem_cons, List.not_mem_nil, or_false] at hc
  rcases hc with rfl | rfl | rfl | rfl | rfl | rfl | rfl | rfl <;> exact SV.plain_u32 _

theorem repR_mk {M : Mem} {b : Nat} : ∀ (o : Nat) (ds : List DV), (∀ i x, ds[i]? = some x → ∃ u, M b (o + i) = some u ∧ RepD M x u) → RepR M b o ds
  | _, [], _ => by simp [RepR]
  | o, x :: ds, h => by
    simp only [RepR]
    refine ⟨by simpa using h 0 x rfl, repR_mk (o + 1) ds fun i y hy => ?_⟩
    have := h (i + 1) y (by simpa using hy)
    rwa [show o + (i + 1) = o + 1 + i by omega] at this

theorem SC.borrow {f : FuncId} {k nk m off len : Nat} {t : TypeId} {cs : List SV} {ds : List DV} {v : SV} (h : SCd P f [.d (.sl len ds)] [] k nk v []) (hv : SV.Plain v) (h0 : len ≠ 0) (hds : ∀ (i : Nat) (x : DV), ds[i]? = some x → cs[off + i]? = some (.d x)) :
    SCd P f [.bs m off len] [(m, .box t cs)] k nk v [(m, .box t cs)] := by
  refine ⟨h.1, fun p μ M w vals hp hr hS => ?_⟩
  obtain ⟨hpm, hob, hnone⟩ := hS.obs m (.box t cs) (by simp [lk_cons])
  obtain ⟨hlive, vs, hb, hcs⟩ := hob
  let M' : Mem := fun b o => if b = (μ m).blk then w.cell? ⟨b, o, none⟩ else M b o
  have hMM : Mem.le M M' := fun b o x hx => by
    show (if b = (μ m).blk then w.cell? ⟨b, o, none⟩ else M b o) = some x
    split
    · exact hS.mem b o x hx
    · exact hx
  have hr' : Rps (fun _ => False) μ M' [.d (.sl len ds)] vals.toList := by
    obtain ⟨u, us, e, h1, h2⟩ := Rps.cons_iff.1 hr
    rw [e]
    refine Rps.cons_iff.2 ⟨u, us, rfl, Rp.d_iff.2 ?_, Rps.nil_iff.2 (Rps.nil_iff.1 h2)⟩
    have h3 := h1.rep
    simp only [Rep] at h3
    obtain ⟨A, c, rfl, hle, hA⟩ := h3
    have hA := hA h0
    subst hA
    simp only [RepD]
    refine ⟨_, c, rfl, hle, fun hz => absurd hz h0, fun _ => ⟨(μ m).blk, off, rfl, repR_mk off ds fun i x hx => ?_⟩⟩
    obtain ⟨u, hu, hd⟩ := hcs.get (hds i x hx)
    refine ⟨u, ?_, RepD.mono hMM x u (Rp.d_iff.1 hd)⟩
    show (if (μ m).blk = (μ m).blk then w.cell? ⟨(μ m).blk, off + i, none⟩ else M (μ m).blk (off + i)) = some u
    rw [if_pos rfl, cell_of hb]
    simpa using hu
  have hS' : SatF (fun _ => False) μ M' (lk []) w := by
    refine ⟨⟨fun b o x hx => ?_, hS.mem.glob.le hMM⟩, fun n ob hn => by simp [lk_nil] at hn, fun n _ hn => by simp [lk_nil] at hn⟩
    have hx : (if b = (μ m).blk then w.cell? ⟨b, o, none⟩ else M b o) = some x := hx
    split at hx
    · exact hx
    · exact hS.mem b o x hx
  refine (h.2 (fun _ => False) μ M' w vals (fun _ _ h => h) hr' hS').mono ?_
  rintro e w' ⟨r, F', μ', M'', u, rfl, ⟨rfl, rfl⟩, hru, hS2, hE⟩
  have hfr : ∀ b, b < w.heap.size → w'.heap[b]? = w.heap[b]? := fun b hb => (hE.frame b hb (fun n hn => by simp [lk_nil] at hn)).1
  refine ⟨r, [(m, .box t cs)], μ, M, u, rfl, ⟨rfl, rfl⟩, hv _ _ _ _ _ _ u hru, ⟨⟨fun b o x hx => hS2.mem b o x (hE.mem b o x (hMM b o x hx)), hS.mem.glob⟩, fun n ob hn => ?_, hS.inj⟩, ⟨fun _ _ => rfl, Mem.le_refl M, fun b hb _ => ⟨hfr b hb, fun _ => rfl⟩, hE.size, fun n hn => .inr ⟨fun hnew => ?_, hn⟩, hE.os, hE.tape, hE.output⟩⟩
  · obtain ⟨a1, a2, a3⟩ := hS.obs n ob hn
    have hnm : n = m ∧ ob = .box t cs := by
      rw [lk_cons] at hn
      split at hn
      · rename_i e; exact ⟨e, (Option.some.inj hn).symm⟩
      · simp [lk_nil] at hn
    obtain ⟨rfl, rfl⟩ := hnm
    refine ⟨.inl a1, ⟨hlive, vs, ?_, hcs.more (fun n h => .inl h) (fun _ _ => rfl) (Mem.le_refl M)⟩, a3⟩
    rw [hfr _ (Array.getElem?_eq_some_iff.1 hb).1]; exact hb
  · have : n = m := by
      rw [lk_cons] at hn
      split at hn
      · rename_i e; exact e
      · simp [lk_nil] at hn
    subst this
    exact hp n hnew hpm
end Go.Sl

/-
  Heaps: what is replaced in place; what a call leaves of a greater heap.
-/
set_option linter.unusedVariables false
set_option linter.unusedSimpArgs false
set_option linter.unusedSectionVars false
namespace Go.Sl
open Go.RowKit
theorem lk_of_nodup {h : Hp} (hn : (h.map (·.1)).Nodup) : ∀ x, x ∈ h → lk h x.1 = some x.2 := by
  induction h with
  | nil => intro x hx; cases hx
  | cons y h ih =>
    intro x hx
    rw [List.map_cons, List.nodup_cons] at hn
    obtain ⟨a, o⟩ := y
    rw [lk_cons]
    rcases List.mem_cons.1 hx with rfl | hx
    · simp
    · have : x.1 ≠ a := fun e => hn.1 (by rw [← e]; exact List.mem_map.2 ⟨x, hx, rfl⟩)
      rw [if_neg this]
      exact ih hn.2 x hx
def repl (F : Hp) (x : Nat × Ob) : Nat × Ob := match lk F x.1 with
  | some o => (x.1, o)
  | none => x
theorem hrep_map : ∀ {h : Hp} {n : Nat} {o : Ob}, (h.map (·.1)).Nodup → n ∈ h.map (·.1) → hrep h n o = h.map fun x => if x.1 = n then (n, o) else x
  | [], n, o, _, hm => by cases hm
  | (m, o') :: h, n, o, hn, hm => by
    rw [List.map_cons, List.nodup_cons] at hn
    simp only [hrep, List.map_cons]
    by_cases e : m = n
    · subst e
      simp only [if_true]
      congr 1
      symm
      conv => rhs; rw [← List.map_id h]
      refine List.map_congr_left fun x hx => ?_
      rw [if_neg fun e => hn.1 (by rw [← e]; exact List.mem_map.2 ⟨x, hx, rfl⟩)]
      rfl
    · rw [if_neg e, if_neg e, hrep_map hn.2 ((List.mem_cons.1 hm).resolve_left fun h => e h.symm)]
theorem lk_of_mem {h : Hp} {n : Nat} (hm : n ∈ h.map (·.1)) : ∃ o, lk h n = some o := by
  induction h with
  | nil => cases hm
  | cons y h ih =>
    obtain ⟨m, o⟩ := y
    rw [lk_cons]
    by_cases e : n = m
    · exact ⟨o, by rw [if_pos e]⟩
    · rw [if_neg e]
      exact ih ((List.mem_cons.1 hm).resolve_left e)
theorem repl_names (F : Hp) (x : Nat × Ob) : (repl F x).1 = x.1 := by unfold repl; split <;> rfl
theorem hsets_map {h : Hp} (hn : (h.map (·.1)).Nodup) : ∀ {F : Hp}, (F.map (·.1)).Nodup → (∀ n, n ∈ F.map (·.1) → n ∈ h.map (·.1)) → hsets h F = h.map (repl F)
  | [], _, _ => by
    simp only [hsets]
    conv => lhs; rw [← List.map_id h]
    rfl
  | (n, o) :: F, hF, hsub => by
    rw [List.map_cons, List.nodup_cons] at hF
    have ih := hsets_map hn hF.2 fun m hm => hsub m (List.mem_cons_of_mem _ hm)
    have hnames : (h.map (repl F)).map (·.1) = h.map (·.1) := by rw [List.map_map]; exact List.map_congr_left fun x _ => repl_names F x
    have hmem : n ∈ (h.map (repl F)).map (·.1) := by rw [hnames]; exact hsub n (by simp)
    simp only [hsets]
    rw [ih]
    unfold hset
    obtain ⟨o1, ho1⟩ := lk_of_mem hmem
    rw [ho1]
    dsimp only
    rw [hrep_map (by rw [hnames]; exact hn) hmem, List.map_map]
    refine List.map_congr_left fun x _ => ?_
    show (if (repl F x).1 = n then (n, o) else repl F x) = repl ((n, o) :: F) x
    rw [repl_names]
    unfold repl
    rw [lk_cons]
    by_cases e : x.1 = n
    · simp [e]
    · simp [e]
theorem map_repl {F : Hp} : ∀ {A B : Hp}, A.map (·.1) = B.map (·.1) → (∀ x, x ∈ B → lk F x.1 = some x.2) → A.map (repl F) = B
  | [], [], _, _ => rfl
  | [], _ :: _, h, _ => by simp at h
  | _ :: _, [], h, _ => by simp at h
  | a :: A, b :: B, h, hl => by
    simp only [List.map_cons, List.cons.injEq] at h ⊢
    refine ⟨?_, map_repl h.2 fun x hx => hl x (List.mem_cons_of_mem _ hx)⟩
    have := hl b (by simp)
    unfold repl
    rw [h.1, this]
theorem hdels_same {h F' : Hp} : ∀ {F : Hp}, (∀ n, n ∈ F.map (·.1) → (lk F' n).isSome = true) → hdels h F' F = h
  | [], _ => rfl
  | (n, o) :: F, hs => by
    simp only [hdels]
    rw [if_pos (hs n (by simp)), hdels_same fun m hm => hs m (List.mem_cons_of_mem _ hm)]
/-- A call that replaces what is known, behind what is ahead. -/
theorem mrg_tail {pre F F' : Hp} (he : F.map (·.1) = F'.map (·.1)) (hn : ((pre ++ F).map (·.1)).Nodup) : hsets (hdels (pre ++ F) F' F) F' = pre ++ F' := by
  have hn2 : (F'.map (·.1)).Nodup := by rw [← he]; rw [List.map_append, List.nodup_append] at hn; exact hn.2.1
  rw [hdels_same fun n h => by rw [he] at h; obtain ⟨o, ho⟩ := lk_of_mem h; rw [ho]; rfl]
  rw [hsets_map hn hn2 fun n h => by rw [List.map_append, List.mem_append, he]; exact .inr h, List.map_append, map_repl he (lk_of_nodup hn2)]
  congr 1
  conv => rhs; rw [← List.map_id pre]
  refine List.map_congr_left fun x hx => ?_
  have : lk F' x.1 = none := by
    cases hh : lk F' x.1 with
    | none => rfl
    | some o =>
      rw [List.map_append, List.nodup_append] at hn
      have h1 : x.1 ∈ F'.map (·.1) := by
        have : ∀ {h : Hp} {n : Nat} {o : Ob}, lk h n = some o → n ∈ h.map (·.1) := by
          intro h
          induction h with
          | nil => intro n o h; simp [lk_nil] at h
          | cons y h ih =>
            intro n o hl
            rw [lk_cons] at hl
            split at hl
            · rename_i e; subst e; simp
            · exact List.mem_cons_of_mem _ (ih hl)
        exact this hh
      exact absurd rfl (hn.2.2 x.1 (List.mem_map.2 ⟨x, hx, rfl⟩) x.1 (by rw [he]; exact h1))
  unfold repl
  rw [this]; rfl
theorem mrg_tail1 {n : Nat} {a b : Ob} {F F' : Hp} (he : F.map (·.1) = F'.map (·.1)) (hn : (((n, a) :: F).map (·.1)).Nodup) : hsets (hdels ((n, a) :: F) ((n, b) :: F') F) F' = (n, a) :: F' := by
  have h1 := mrg_tail (pre := [(n, a)]) he hn
  rw [hdels_same fun m hm => by rw [he] at hm; obtain ⟨o, ho⟩ := lk_of_mem hm; rw [ho]; rfl] at h1
  rw [hdels_same fun m hm => by
    rw [he] at hm
    obtain ⟨o, ho⟩ := lk_of_mem hm
    rw [lk_cons]
    split
    · rfl
    · rw [ho]; rfl]
  exact h1
theorem hmrg_self {h : Hp} : ∀ {F : Hp}, (∀ x, x ∈ F → lk h x.1 = some x.2) → hsets h F = h
  | [], _ => rfl
  | (n, o) :: F, hx => by
    simp only [hsets]
    rw [hmrg_self fun x h => hx x (List.mem_cons_of_mem _ h)]
    exact hset_same (hx (n, o) (by simp))
theorem selfX {F X : Hp} (hn : (F.map (·.1)).Nodup) (h : HSub F X) : hsets (hdels X F F) F = X := by
  rw [hdels_same fun n hn => by obtain ⟨o, ho⟩ := lk_of_mem hn; rw [ho]; rfl]
  exact hmrg_self fun x hx => h _ _ (lk_of_nodup hn x hx)
theorem lkX {H F F' : Hp} (hs : HSub F H) : lk (hsets (hdels H F' F) F') = mrg (lk H) (lk F) (lk F') := by
  have := lk_hmrg (ro := false) hs (F' := F') (fun h => by cases h)
  exact this
theorem subX {H F F' : Hp} (hs : HSub F H) : HSub F' (hsets (hdels H F' F) F') := fun n ob h => by
  rw [lkX hs, mrg_in (.inr (by rw [h]; simp)), h]
theorem outX {H F F' : Hp} (hs : HSub F H) {n : Nat} (h1 : lk F n = none) (h2 : lk F' n = none) : lk (hsets (hdels H F' F) F') n = lk H n := by
  rw [lkX hs, mrg_out h1 h2]

theorem lk_app (F G : Hp) (m : Nat) : lk (F ++ G) m = (lk F m).or (lk G m) := by
  unfold lk
  exact List.lookup_append ..
theorem sub_cons {F H : Hp} {n : Nat} {o : Ob} (hn : lk F n = none) (h : HSub F H) : HSub F ((n, o) :: H) := fun m ob hm => by
  rw [lk_cons, if_neg fun e => by rw [e, hn] at hm; cases hm]
  exact h m ob hm
theorem mem_names {h : Hp} {n : Nat} {o : Ob} (hl : lk h n = some o) : n ∈ h.map (·.1) := by
  induction h with
  | nil => simp [lk_nil] at hl
  | cons y h ih =>
    rw [lk_cons] at hl
    split at hl
    · rename_i e; subst e; simp
    · exact List.mem_cons_of_mem _ (ih hl)
theorem lk_none_of {h : Hp} {n : Nat} (hn : n ∉ h.map (·.1)) : lk h n = none := by
  cases hh : lk h n with
  | none => rfl
  | some o => exact absurd (mem_names hh) hn
theorem not_mem_of {h : Hp} {n : Nat} (hn : lk h n = none) : n ∉ h.map (·.1) := fun hm => by
  obtain ⟨o, ho⟩ := lk_of_mem hm
  rw [hn] at ho; cases ho
theorem nd_cons {H : Hp} {n : Nat} {o : Ob} (hn : lk H n = none) (h : (H.map (·.1)).Nodup) : (((n, o) :: H).map (·.1)).Nodup := by
  rw [List.map_cons, List.nodup_cons]
  exact ⟨not_mem_of hn, h⟩
theorem ok_cons {H : Hp} {n : Nat} {o : Ob} {q : Nat → Bool} (h1 : q n = true) (h2 : o.ok q = true) (h : H.ok q = true) : Hp.ok q ((n, o) :: H) = true := by
  simp only [Hp.ok, List.all_cons, Bool.and_eq_true] at h ⊢
  exact ⟨⟨h1, h2⟩, h⟩

/-- A row of one's own, cut short. -/
theorem ObRep.trim {p : Nat → Prop} {μ : Nat → Nm} {M : Mem} {w : World} {m : Nm} {e sz len : Nat} {cs : List SV} (h : ObRep p μ M w m (.arr e sz len cs)) {n : Nat} (hn : n ≤ len) : ObRep p μ M w m (.arr e sz n (cs.take (n * sz))) := by
  rcases h with ⟨h1, h2, h3⟩ | ⟨h0, vs, hb, h1, h2, h3, h4, h5⟩
  · subst h2; subst h3
    exact .inl ⟨h1, by omega, by simp⟩
  · have hle : n * sz ≤ len * sz := Nat.mul_le_mul_right sz hn
    refine .inr ⟨h0, vs, hb, ?_, by omega, h3, h4, ?_⟩
    · rw [List.length_take, h1, Nat.min_eq_left hle]
    · have := h5.take (n * sz)
      rwa [List.take_take, Nat.min_eq_left hle] at this
theorem SW.trim {P : Program} {N k0 : Nat} {s : SCo} {st : St} {Q : Exit → St → Prop} {n e sz len : Nat} {cs : List SV} (i : Nat) (hl : lk st.hp n = some (.arr e sz len cs)) (hi : i ≤ len)
    (h : SW P N k0 s ⟨st.env, hset st.hp n (.arr e sz i (cs.take (i * sz))), st.k⟩ Q) : SW P N k0 s st Q := by
  refine fun cc hc rd hrf μ0 M0 w0 c0 a w hSt => h cc hc rd hrf μ0 M0 w0 c0 a w ?_
  obtain ⟨hk0, hdf, hsz, μ, M, hsl, hS, hE⟩ := hSt
  refine ⟨hk0, hdf, hsz, μ, M, hsl, ⟨hS.mem, fun m ob hm => ?_, fun m m' h1 h2 => hS.inj m m' ?_ ?_⟩, ?_⟩
  · rw [lk_hset] at hm
    split at hm
    · rename_i e; subst e
      injection hm with hm; subst hm
      obtain ⟨a1, a2, a3⟩ := hS.obs _ _ hl
      exact ⟨a1, a2.trim hi, a3⟩
    · exact hS.obs m ob hm
  · rw [lk_hset] at h1
    split at h1
    · rename_i e; subst e; rw [hl]; simp
    · exact h1
  · rw [lk_hset] at h2
    split at h2
    · rename_i e; subst e; rw [hl]; simp
    · exact h2
  · exact hE.fewer fun m hm => by
      rw [lk_hset] at hm
      split at hm
      · rename_i e; subst e; rw [hl]; simp
      · exact hm

/-! ### a row held against nil -/
theorem cO_eqnil {P : Program} {op : Op} {neg : Bool} {kd : Nat} {x' : X} (hc : cO P op = some (.eqnil neg kd x')) : ∃ b t x y t', op = .binOp b t x y t' ∧ isEq b = true ∧ isNeq b = neg ∧ nilKd P t y = some kd ∧ cX x = some x' := by
  cases op <;> simp only [cO] at hc <;> try (cases hc; done)
  case binOp b t x y t' =>
    refine ⟨b, t, x, y, t', rfl, ?_⟩
    by_cases hq : isEq b = true
    · rw [if_pos hq] at hc
      split at hc
      · repeat' (first | contradiction | (cases hc; done) | split at hc)
      · repeat' (first | contradiction | (cases hc; done) | split at hc)
      · repeat' (first | contradiction | (cases hc; done) | split at hc)
      · repeat' (first | contradiction | (cases hc; done) | split at hc)
      · split at hc <;> first | (cases hc; done) | skip
        rename_i h1 h2
        injection hc with hc
        injection hc with e1 e2 e3
        subst e2; subst e3
        exact ⟨hq, e1, h1, h2⟩
    · rw [if_neg hq] at hc
      repeat' (first | contradiction | (cases hc; done) | split at hc)
  all_goals (repeat' (first | contradiction | (cases hc; done) | (obtain ⟨_, _, hh⟩ := Option.map_eq_some_iff.1 hc; cases hh; done) | split at hc))
/-- A frozen row held against nil: it is not nil if something is in it; else nobody knows. -/
theorem sq_eqnilS {P : Program} {o : Oper} {E : Nat → Option SV} {H : Nat → Option Ob} {k : Nat} {neg : Bool} {x' : X} {n : Nat} {cs : List DV} (hc : cO P o.op = some (.eqnil neg 3 x')) (hx : ev E x' = some (.d (.sl n cs))) :
    SoundQ P o E H k 0 [] (fun v F' => F' = [] ∧ (v = .d (.bool neg) ∨ (n = 0 ∧ v = .d (.bool !neg)))) := by
  obtain ⟨op, t, x, y, t', ho, hop, hneg, hy, hcx⟩ := cO_eqnil hc
  subst hneg
  refine ⟨sub_nil, fun rd p μ M a w K QQ hnew hk hS hK => ?_⟩
  obtain ⟨A, c, e1, e2, e3, e4⟩ := (by simpa [RepD] using Rp.d_iff.1 (hk.get (by simp [ho, Op.operands]) hcx hx) : ∃ A cp, a.eval x = .slice A n cp ∧ n ≤ cp ∧ (n = 0 → cs = []) ∧ (0 < n → ∃ b q, A = some ⟨b, q, none⟩ ∧ RepR M b q cs))
  have hty : ∃ e, P.underlying t = some (.slice e) ∧ a.eval y = .slice none 0 0 := by
    unfold nilKd at hy
    split at hy <;> first | (cases hy; done) | skip
    all_goals first
      | (injection hy with hy; cases hy; done)
      | exact ⟨_, by assumption, rfl⟩
  obtain ⟨el, hty, hyv⟩ := hty
  have h0 : ∀ d, (Op.equalIn (d + 1) t (a.eval x) (a.eval y)).run P w = .ok A.isNone w := fun d => by
    rw [e1, hyv]; cases A <;> simp [Op.equalIn, run_underlying hty]
  have h1 := h0 9999
  clear h0
  have n5 : eqGuard op t x y (a.eval x) (a.eval y) = Pure.pure () := by rw [e1]; simp [eqGuard_at_slice]
  have hb : (binOp op t (a.eval x) (a.eval y)).run P w = .ok (.bool (bif isNeq op then !A.isNone else A.isNone)) w := by
    rw [e1, hyv] at h1 ⊢
    rcases isEq_cases hop with rfl | rfl <;> simp [binOp, Op.equal, Op.maxDepth, h1, isNeq]
  have hex : (execOp a.eval o).run P w = .ok (.value (.bool (bif isNeq op then !A.isNone else A.isNone))) w := by
    simp only [execOp, ho, Sem.run_bind, n5, Sem.run_pure, Result.andThen_ok, hb]
  refine wp_value hex (hK (.d (.bool (bif isNeq op then !A.isNone else A.isNone))) [] _ μ M w ⟨rfl, ?_⟩ (Rp.bool_iff.2 rfl) (hS.more fun _ h => .inl h) (Ev.refl _ _ _ _ _ fun n h => by simp [lk_nil] at h))
  by_cases hn : n = 0
  · cases A <;> cases isNeq op <;> simp [hn]
  · obtain ⟨b, q, rfl, _⟩ := e4 (by omega)
    left
    cases isNeq op <;> rfl
theorem SWn.manyR {P : Program} {N k0 : Nat} {st : St} {K : St → Prop} {si : SI} {r : List SI} {F : Hp} {nk : Nat} {Q : SV → Hp → Prop} (hg : si.g = none) (hq : ∀ o : Oper, cO P o.op = some si.op → SoundQ P o (fun t => st.env.lookup t) (lk st.hp) st.k nk F Q)
    (hro : ∀ v F', Q v F' → F' = F) (h : ∀ v F', Q v F' → SWn P N k0 r (upd st si ⟨v, F, F', nk, True⟩) K) : SWn P N k0 (si :: r) st K := by
  refine SWn.cons fun ops o hc hN rd μ0 M0 w0 c0 a w hSt i ho Q' KK hKK => ?_
  obtain ⟨g1, g2, g3⟩ := cOper_spec hc
  have hgn : o.guard = none := by
    rcases g3 with ⟨h, _⟩ | ⟨j, w, t, h, _, h'⟩
    · exact h
    · rw [hg] at h'; cases h'
  unfold wpOpIn
  simp only [ho, Region.wanted, hgn, if_true]
  exact (StA.step g2 (fun d hd => hN d (by rw [g2]; exact hd)) (hq o g1) (fun v F' hQ hr => hro v F' hQ) hSt fun v F' hQ a' w' hSt' => hKK _ a' w' (h v F' hQ) hSt')
/-- A region that ends by holding a frozen row against nil. -/
theorem SW.nilS {P : Program} {N k0 : Nat} {st : St} {Q : Exit → St → Prop} {d s t n : Nat} {cs : List DV} {neg : Bool} {bs : List Nat} (hl : st.env.lookup s = some (.d (.sl n cs)))
    (h1 : Q .normal ⟨(d, .d (.bool neg)) :: (t, .d (.sl n cs)) :: st.env, st.hp, st.k⟩) (h2 : n = 0 → Q .normal ⟨(d, .d (.bool !neg)) :: (t, .d (.sl n cs)) :: st.env, st.hp, st.k⟩) :
    SW P N k0 (.reg [⟨some t, .mv (.t s), none⟩, ⟨some d, .eqnil neg 3 (.t t), none⟩] bs false) st Q := by
  refine SW.ofN (SWn.one (crs := []) (c2 := []) (e := ⟨.d (.sl n cs), [], [], 0, True⟩) (by simp only [runOp, goOp, sop, ev, hl]) trivial ?_)
  refine SWn.manyR rfl (fun o hc => sq_eqnilS (n := n) (cs := cs) hc (by simp [upd, ev])) (fun v F' h => h.1) fun v F' hv => SWn.nil ?_
  obtain ⟨rfl, rfl | ⟨h0, rfl⟩⟩ := hv
  · exact h1
  · exact h2 h0
/-- A function that leaves all as it was. -/
theorem SB.same {P : Program} {f : FuncId} {args : List SV} {F : Hp} {k nk : Nat} {v : SV} (h : SB P f args F k nk fun r F' => r = v ∧ F' = F) (hcl : F.ok (fun m => (lk F m).isSome) = true) (ha : SV.oks (fun m => (lk F m).isSome) args = true) (hv : ∀ q, v.ok q = true) : SCd P f args F k nk v F := by
  unfold SCd
  refine h.here (fun m => (lk F m).isSome) (fun m h e => by rw [e] at h; cases h) ha hcl ?_
  rintro x F' ⟨rfl, rfl⟩ _ _
  exact ⟨hv _, Hp.ok_mono (fun m hm => by rw [hm]; rfl) hcl⟩
/-- A function that writes objects that are known. -/
theorem SB.write {P : Program} {f : FuncId} {args : List SV} {F G : Hp} {k nk : Nat} {v : SV} (h : SB P f args F k nk fun r F' => r = v ∧ F' = G) (hcl : F.ok (fun m => (lk F m).isSome) = true) (hcl2 : G.ok (fun m => (lk F m).isSome) = true) (ha : SV.oks (fun m => (lk F m).isSome) args = true) (hv : ∀ q, v.ok q = true) : SCd P f args F k nk v G := by
  unfold SCd
  refine h.here (fun m => (lk F m).isSome) (fun m h e => by rw [e] at h; cases h) ha hcl ?_
  rintro x F' ⟨rfl, rfl⟩ _ _
  exact ⟨hv _, Hp.ok_mono (fun m hm => by rw [hm]; rfl) hcl2⟩
end Go.Sl

/-
  A row that is not written any more is a value, in boxes too.
-/
set_option linter.unusedVariables false
set_option linter.unusedSimpArgs false
set_option linter.unusedSectionVars false
namespace Go.Sl
open Go.RowKit
def Ob.frz (n len : Nat) (ds : List DV) : Ob → Ob
  | .box t cs => .box t (SV.frzs n len ds cs)
  | o => o
def frzH (n len : Nat) (ds : List DV) (h : Hp) : Hp := h.map fun x => (x.1, x.2.frz n len ds)
theorem lk_frzH (n len : Nat) (ds : List DV) : ∀ (h : Hp) (m : Nat), lk (frzH n len ds h) m = (lk h m).map (Ob.frz n len ds)
  | [], m => rfl
  | (q, o) :: h, m => by
    have ih := lk_frzH n len ds h m
    unfold frzH at ih ⊢
    rw [List.map_cons, lk_cons, lk_cons]
    split
    · rfl
    · exact ih
theorem SatF.frzd {p : Nat → Prop} {μ : Nat → Nm} {M : Mem} {w : World} {h : Hp} {n len : Nat} {ds : List DV} (hS : SatF p μ M (lk h) w) (hg : ∀ v, Rp p μ M (.gs n len) v → Rp p μ M (.d (.sl len ds)) v) : SatF p μ M (lk (frzH n len ds h)) w := by
  refine ⟨⟨hS.mem.cell, hS.mem.glob⟩, fun m ob hm => ?_, fun m m' hm hm' => ?_⟩
  · rw [lk_frzH] at hm
    obtain ⟨o, ho, rfl⟩ := Option.map_eq_some_iff.1 hm
    obtain ⟨a1, a2, a3⟩ := hS.obs m o ho
    refine ⟨a1, ?_, a3⟩
    cases o with
    | box t cs =>
      simp only [ObRep, Ob.frz] at a2 ⊢
      obtain ⟨b1, vs, b2, b3⟩ := a2
      exact ⟨b1, vs, b2, SV.frzs_rep hg cs _ b3⟩
    | _ => exact a2
  · have key : ∀ m, lk (frzH n len ds h) m ≠ none → lk h m ≠ none := fun m hm hn => hm (by rw [lk_frzH, hn]; rfl)
    exact hS.inj m m' (key m hm) (key m' hm')
section
variable {P : Program} {N k0 : Nat} {st : St} {Q : Exit → St → Prop}
theorem StA.freezeB {μ0 : Nat → Nm} {M0 : Mem} {w0 : World} {c0 : Nat → Option Ob} {a : Act} {w : World} (n : Nat) {e sz len : Nat} {cs : List SV} {ds : List DV} (hn : lk st.hp n = some (.arr e sz len cs)) (hcs : cs = ds.map .d)
    (h : StA N μ0 M0 w0 c0 k0 st a w) : StA N μ0 M0 w0 c0 k0 ⟨frzE n len ds st.env, frzH n len ds (hdel st.hp n), st.k⟩ a w := by
  subst hcs
  obtain ⟨hk0, hdf, hsz, μ, M, hsl, hS, hE⟩ := h
  obtain ⟨hpn, hob, hMn⟩ := hS.obs n _ hn
  rcases hob with ⟨hdead, hl0, hds⟩ | ⟨hlive, vs, hb, hl1, hl2, hl3, hl4, hr⟩
  · have hd0 : ds = [] := by simpa using hds
    subst hd0; subst hl0
    have hg : ∀ v, Rp (· < st.k) μ M (.gs n 0) v → Rp (· < st.k) μ M (.d (.sl 0 [])) v := fun v hv => by
      refine Rp.d_iff.2 ?_
      simp only [RepD]
      obtain ⟨h, _⟩ | ⟨_, _, A, e1⟩ := hv.gs_of
      · rw [hdead] at h; cases h
      · exact ⟨A, 0, e1, Nat.le_refl _, fun _ => trivial, fun h => absurd h (Nat.lt_irrefl _)⟩
    have hsub : ∀ m ob, lk (hdel st.hp n) m = some ob → lk st.hp m = some ob := fun m ob hm => by
      rw [lk_hdel] at hm
      split at hm
      · cases hm
      · exact hm
    refine ⟨hk0, hdf, hsz, μ, M, fun t s hs => ?_, (hS.sub hsub).frzd hg, hE.fewer fun m hm => ?_⟩
    · rw [lookup_frz] at hs
      obtain ⟨s', hs', rfl⟩ := Option.map_eq_some_iff.1 hs
      exact SV.frz_rep hg s' _ (hsl t s' hs')
    · obtain ⟨o1, ho1⟩ := Option.ne_none_iff_exists'.1 hm
      rw [lk_frzH] at ho1
      obtain ⟨o2, ho2, _⟩ := Option.map_eq_some_iff.1 ho1
      rw [hsub m o2 ho2]; simp
  have hMn := hMn hlive
  have hlen : ds.length = len * sz := by simpa using hl1
  let M' : Mem := fun b o => if b = (μ n).blk then (if o < len * sz then vs[o]? else none) else M b o
  have hne : ∀ b, b ≠ (μ n).blk → ∀ o, M' b o = M b o := fun b hb o => by simp [M', hb]
  have hle : Mem.le M M' := fun b o v hv => by
    have : b ≠ (μ n).blk := fun e => by rw [e, hMn] at hv; cases hv
    rw [hne b this]; exact hv
  have hoth : ∀ m, lk st.hp m ≠ none → m ≠ n → (μ m).live = true → (μ m).blk ≠ (μ n).blk := fun m hm hmn lm e => hmn (hS.inj m n hm (by rw [hn]; simp) lm hlive e)
  have hsub : ∀ m ob, lk (hdel st.hp n) m = some ob → lk st.hp m = some ob ∧ m ≠ n := fun m ob hm => by
    rw [lk_hdel] at hm
    split at hm
    · cases hm
    · rename_i e; exact ⟨hm, e⟩
  have hg : ∀ v, Rp (· < st.k) μ M' (.gs n len) v → Rp (· < st.k) μ M' (.d (.sl len ds)) v := fun v hv => by
    obtain ⟨_, e1⟩ | ⟨h, _⟩ := hv.gs_of
    rotate_left
    · rw [hlive] at h; cases h
    refine Rp.d_iff.2 ?_
    simp only [RepD]
    refine ⟨_, _, e1, hl2, fun h0 => ?_, fun _ => ⟨_, _, rfl, RepR.mk fun i c hi => ?_⟩⟩
    · subst h0
      simp at hlen
      exact hlen
    · obtain ⟨u, hu, hru⟩ := hr.d_get hi
      have hil : i < len * sz := by rw [← hlen]; exact (List.getElem?_eq_some_iff.1 hi).1
      refine ⟨u, ?_, RepD.mono hle _ _ hru⟩
      rw [List.getElem?_take_of_lt hil] at hu
      simp only [M', if_true, Nat.zero_add, hil]
      simpa using hu
  have hS2 : SatF (· < st.k) μ M' (lk (hdel st.hp n)) w := by
    refine ⟨⟨fun b o v hv => ?_, hS.mem.glob.le hle⟩, fun m ob hm => ?_, fun m m' hm hm' lm lm' e => ?_⟩
    · by_cases hbn : b = (μ n).blk
      · subst hbn
        simp only [M', if_true] at hv
        split at hv
        · rw [cell_of hb]; exact hv
        · cases hv
      · rw [hne b hbn] at hv
        exact hS.mem b o v hv
    · obtain ⟨hm1, hmn⟩ := hsub m ob hm
      obtain ⟨a1, a2, a3⟩ := hS.obs m ob hm1
      refine ⟨a1, a2.more (fun _ h => h) (fun _ _ => rfl) hle fun _ => rfl, fun lm o => ?_⟩
      rw [hne _ (hoth m (by rw [hm1]; simp) hmn lm)]
      exact a3 lm o
    · obtain ⟨o1, ho1⟩ := Option.ne_none_iff_exists'.1 hm
      obtain ⟨o2, ho2⟩ := Option.ne_none_iff_exists'.1 hm'
      exact hS.inj m m' (by rw [(hsub m o1 ho1).1]; simp) (by rw [(hsub m' o2 ho2).1]; simp) lm lm' e
  refine ⟨hk0, hdf, hsz, μ, M', fun t s hs => ?_, hS2.frzd hg, ⟨hE.old, Mem.le_trans hE.mem hle, fun b hb0 hf => ?_, hE.size, fun m hm => ?_, hE.os, hE.tape, hE.output⟩⟩
  · rw [lookup_frz] at hs
    obtain ⟨s', hs', rfl⟩ := Option.map_eq_some_iff.1 hs
    exact SV.frz_rep hg s' _ ((hsl t s' hs').more (fun _ h => h) (fun _ _ => rfl) hle)
  · have hbn : b ≠ (μ n).blk := fun e => by
      rcases hE.names n (by rw [hn]; simp) with ⟨_, hh⟩ | ⟨h, h'⟩
      · rcases hh hlive with h | ⟨m, hm, lm, e'⟩
        · omega
        · exact hf m hm lm (e'.trans e.symm)
      · rw [hE.old n h] at e hlive
        exact hf n h' hlive e.symm
    obtain ⟨f1, f2⟩ := hE.frame b hb0 hf
    exact ⟨f1, fun o => by rw [hne b hbn]; exact f2 o⟩
  · obtain ⟨o1, ho1⟩ := Option.ne_none_iff_exists'.1 hm
    rw [lk_frzH] at ho1
    obtain ⟨o2, ho2, _⟩ := Option.map_eq_some_iff.1 ho1
    exact hE.names m (by rw [(hsub m o2 ho2).1]; simp)

theorem SW.freezeB {s : SCo} (n : Nat) {e sz len : Nat} {cs : List SV} (ds : List DV) (hn : lk st.hp n = some (.arr e sz len cs)) (hcs : cs = ds.map .d) (h : SW P N k0 s ⟨frzE n len ds st.env, frzH n len ds (hdel st.hp n), st.k⟩ Q) : SW P N k0 s st Q :=
  fun c hc rd hrf μ0 M0 w0 c0 a w hSt => h c hc rd hrf μ0 M0 w0 c0 a w (hSt.freezeB n hn hcs)
theorem SWn.freezeB {sis : List SI} {K : St → Prop} (n : Nat) {e sz len : Nat} {cs : List SV} (ds : List DV) (hn : lk st.hp n = some (.arr e sz len cs)) (hcs : cs = ds.map .d) (h : SWn P N k0 sis ⟨frzE n len ds st.env, frzH n len ds (hdel st.hp n), st.k⟩ K) : SWn P N k0 sis st K :=
  fun ops i h1 h2 h3 rd μ0 M0 w0 c0 a w hSt => h ops i h1 h2 h3 rd μ0 M0 w0 c0 a w (hSt.freezeB n hn hcs)
end
end Go.Sl

/-
  Iterators: one's own objects ahead of a client's; a call of yield takes the client on.
-/
set_option linter.unusedVariables false
set_option linter.unusedSimpArgs false
set_option linter.unusedSectionVars false
namespace Go.Sl
open Go.RowKit
variable {P : Program}

/-- One's own objects, ahead of a client's. -/
structure Own {σ : Type} (G : Hp) (Fh : σ → Hp) (s : σ) (kk : Nat) : Prop where
  nd : (G.map (·.1)).Nodup
  lt : ∀ n, n ∈ G.map (·.1) → n < kk
  no : ∀ n, n ∈ G.map (·.1) → lk (Fh s) n = none
  ok : G.ok (fun n => decide (n < kk)) = true
  okF : (Fh s).ok (fun n => decide (n < kk)) = true
theorem lk_of_not {G : Hp} {n : Nat} (h : n ∉ G.map (·.1)) : lk G n = none := by
  cases hh : lk G n with
  | none => rfl
  | some o =>
    exfalso; apply h
    clear h
    induction G with
    | nil => simp [lk_nil] at hh
    | cons x G ih =>
      rw [lk_cons] at hh
      split at hh
      · rename_i e; rw [e]; simp
      · rw [List.map_cons]; exact List.mem_cons_of_mem _ (ih hh)
theorem hdel_none : ∀ {h : Hp} {n : Nat}, lk h n = none → hdel h n = h
  | [], _, _ => rfl
  | (m, o) :: h, n, hn => by
    rw [lk_cons] at hn
    split at hn
    · cases hn
    · rename_i e
      simp only [hdel]
      rw [if_neg (fun e' => e e'.symm), hdel_none hn]
section
variable {σ : Type} {G : Hp} {Fh : σ → Hp} {s : σ} {kk : Nat}
theorem Own.sub (h : Own G Fh s kk) : HSub (Fh s) (G ++ Fh s) := fun n ob hn => by
  have : n ∉ G.map (·.1) := fun hm => by rw [h.no n hm] at hn; cases hn
  rw [lk_app, lk_of_not this, Option.none_or]; exact hn
theorem Own.all (h : Own G Fh s kk) (hF : ∀ x, x ∈ Fh s → lk (Fh s) x.1 = some x.2) : ∀ x, x ∈ G ++ Fh s → lk (G ++ Fh s) x.1 = some x.2 := fun x hx => by
  rcases List.mem_append.1 hx with hx | hx
  · rw [lk_app, lk_of_nodup h.nd x hx]; rfl
  · exact h.sub x.1 x.2 (hF x hx)
theorem Own.okk (h : Own G Fh s kk) : (G ++ Fh s).ok (fun n => decide (n < kk)) = true := by
  have h1 := h.ok
  have h2 := h.okF
  unfold Hp.ok at *
  rw [List.all_append, h1, h2]; rfl
theorem Own.mono {k' : Nat} (h : Own G Fh s kk) (hk : kk ≤ k') : Own G Fh s k' := ⟨h.nd, fun n hn => Nat.lt_of_lt_of_le (h.lt n hn) hk, h.no, Hp.ok_less hk h.ok, Hp.ok_less hk h.okF⟩
/-- Other contents under the same names. -/
theorem Own.turn {G' : Hp} (h : Own G Fh s kk) (hn : G'.map (·.1) = G.map (·.1)) (ho : G'.ok (fun n => decide (n < kk)) = true) : Own G' Fh s kk := ⟨by rw [hn]; exact h.nd, by rw [hn]; exact h.lt, by rw [hn]; exact h.no, ho, h.okF⟩
theorem Own.less {G' : Hp} (h : Own G Fh s kk) (hs : G'.Sublist G) : Own G' Fh s kk :=
  ⟨h.nd.sublist (hs.map _), fun n hn => h.lt n ((hs.map _).subset hn), fun n hn => h.no n ((hs.map _).subset hn), by
    have := h.ok
    unfold Hp.ok at *
    rw [List.all_eq_true] at *
    exact fun x hx => this x (hs.subset hx), h.okF⟩
theorem Own.out (h : Own G Fh s kk) {n : Nat} (hn : kk ≤ n) : lk (Fh s) n = none := Hp.out h.okF hn
/-- A new object. -/
theorem Own.new {n k' : Nat} {ob : Ob} (h : Own G Fh s kk) (hn : kk ≤ n) (hk : n < k') (ho : ob.ok (fun m => decide (m < k')) = true) : Own ((n, ob) :: G) Fh s k' := by
  refine ⟨List.nodup_cons.2 ⟨fun hm => ?_, h.nd⟩, fun m hm => ?_, fun m hm => ?_, ?_, Hp.ok_less (by omega) h.okF⟩
  · have := h.lt n hm; omega
  · rcases List.mem_cons.1 hm with rfl | hm
    · exact hk
    · have := h.lt m hm; omega
  · rcases List.mem_cons.1 hm with rfl | hm
    · exact h.out hn
    · exact h.no m hm
  · have := Hp.ok_less (show kk ≤ k' by omega) h.ok
    unfold Hp.ok at *
    rw [List.all_cons, this, ho]
    simpa using hk
theorem Own.cut {G1 : Hp} (h1 : Own G1 Fh s kk) (hn : (G.map (·.1)).Nodup) (hs : ∀ x, x ∈ G → x ∈ G1) : Own G Fh s kk :=
  ⟨hn, fun n hm => by
    obtain ⟨x, hx, rfl⟩ := List.mem_map.1 hm
    exact h1.lt _ (List.mem_map.2 ⟨x, hs x hx, rfl⟩), fun n hm => by
    obtain ⟨x, hx, rfl⟩ := List.mem_map.1 hm
    exact h1.no _ (List.mem_map.2 ⟨x, hs x hx, rfl⟩), by
    have := h1.ok
    unfold Hp.ok at *
    rw [List.all_eq_true] at *
    exact fun x hx => this x (hs x hx), h1.okF⟩
theorem Own.keep {G1 : Hp} (h1 : Own G1 Fh s kk) (hs : ∀ x, x ∈ G → x ∈ G1) : ∀ n ob, lk (G ++ Fh s) n = some ob → lk (G1 ++ Fh s) n = some ob := fun n ob hn => by
  rw [lk_app] at hn
  cases hg : lk G n with
  | some o =>
    rw [hg] at hn
    have e : o = ob := by simpa using hn
    have hm : (n, o) ∈ G := by
      clear hn hs
      induction G with
      | nil => simp [lk_nil] at hg
      | cons x G ih =>
        rw [lk_cons] at hg
        split at hg
        · rename_i e; injection hg with hg; rw [e, ← hg]; simp
        · exact List.mem_cons_of_mem _ (ih hg)
    rw [lk_app, lk_of_nodup h1.nd _ (hs _ hm), ← e]; rfl
  | none =>
    rw [hg, Option.none_or] at hn
    have : n ∉ G1.map (·.1) := fun hm => by rw [h1.no n hm] at hn; cases hn
    rw [lk_app, lk_of_not this, Option.none_or]; exact hn
theorem Weak.own {k0 k : Nat} {env env1 : List (Nat × SV)} {hp : Hp} (h : Own G Fh s kk) (hF : ∀ x, x ∈ Fh s → lk (Fh s) x.1 = some x.2) (hk : k0 ≤ kk) (he : EnvW id kk env env1) (hh : ∀ n ob, lk (G ++ Fh s) n = some ob → lk hp n = some ob) : Weak k0 ⟨env, hp, k⟩ ⟨env1, G ++ Fh s, kk⟩ id :=
  Weak.same hk he h.okk fun x hx => hh _ _ (h.all hF x hx)
end
theorem EnvW.mono {ρ : Nat → Nat} {k k' : Nat} (hk : k ≤ k') {env : List (Nat × SV)} : ∀ {env1 : List (Nat × SV)}, EnvW ρ k env env1 → EnvW ρ k' env env1
  | [], _ => trivial
  | (t, s) :: r, h => by
    simp only [EnvW] at h ⊢
    exact ⟨h.1, SV.ok_more (fun n hn => by simp only [decide_eq_true_eq] at *; omega) _ h.2.1, h.2.2.mono hk⟩
section
variable {N k0 : Nat} {K : St → Prop}
/-- A call of yield, the client's objects behind one's own. -/
theorem SWn.yieldO {α σ : Type} {Fh : σ → Hp} {Step : σ → α → σ → Prop} {go : σ → Bool} {nky y B kk d : Nat} {enc : α → SV} {s0 s : σ} {xs : List α} (hy : YieldOk P y enc nky Fh Step go s0 B) (x : α) {G : Hp} {env : List (Nat × SV)} (env1 : List (Nat × SV)) {r : List SI} {f a : X}
    (hO : Own G Fh s kk) (p1 : OnBy Step s0 xs s) (hlt : xs.length < B) (hgo : go s = true) (hk0 : k0 ≤ kk)
    (h1 : ev (fun t => env.lookup t) f = some (.yl y)) (h2 : ev (fun t => env.lookup t) a = some (enc x)) (he : ∀ b : Bool, EnvW id kk ((d, bl b) :: env) ((d, bl b) :: env1))
    (h : ∀ s', Step s x s' → Own G Fh s' (kk + nky) → OnBy Step s0 (xs ++ [x]) s' → SWn P N k0 r ⟨(d, bl (go s')) :: env1, G ++ Fh s', kk + nky⟩ K) :
    SWn P N k0 (⟨some d, .call f [a], none⟩ :: r) ⟨env, G ++ Fh s, kk⟩ K := by
  refine SWn.yield (st := ⟨env, G ++ Fh s, kk⟩) h1 (by simp only [evs]; rw [h2]) (hy.isin s) (hy.call s xs x kk p1 hlt hO.okF hgo) hO.sub ?_
  rintro v F' ⟨s', hstep, rfl, rfl, hok', hnm⟩
  rw [upd_eq]
  have hO' : Own G Fh s' (kk + nky) := ⟨hO.nd, fun n hn => by have := hO.lt n hn; omega, fun n hn => Classical.byContradiction fun hno => (hnm n hno).elim (fun h => h (hO.no n hn)) (fun h => by have := hO.lt n hn; omega), Hp.ok_less (by omega) hO.ok, hok'⟩
  refine SW.toN (Weak.own hO' (hy.nd s') (by omega) (EnvW.mono (by omega) (he _)) fun n ob hn => ?_) (h s' hstep hO' (.snoc p1 hstep))
  have hlk := lk_hmrg (ro := false) hO.sub (F' := Fh s') (fun h => by cases h)
  show lk (hmrg false (G ++ Fh s) (Fh s) (Fh s')) n = some ob
  rw [hlk]
  by_cases hm : n ∈ G.map (·.1)
  · rw [mrg_out (hO.no n hm) (hO'.no n hm)]
    rw [lk_app] at hn ⊢
    cases hg : lk G n with
    | some o => rw [hg] at hn; exact hn
    | none =>
      rw [hg, Option.none_or, hO'.no n hm] at hn; cases hn
  · rw [lk_app, lk_of_not hm, Option.none_or] at hn
    rw [mrg_in (.inr (by rw [hn]; simp)), hn]
end
end Go.Sl
