/-
  Maps with flat keys, as rows of entries: what they say, what their operations give.
-/
import Derived.Test.YtgjgfamgbhlmfaaU7
set_option linter.unusedVariables false
set_option linter.unusedSimpArgs false
set_option linter.unusedSectionVars false
namespace Go.Sl
theorem msetS_none (es : List (Nat × SV × SV)) (c : Nat) (k v : SV) : msetS es c k v none = .map (es ++ [(c, k, v)]) (c + 1) := rfl
theorem msetS_some (es : List (Nat × SV × SV)) (c : Nat) (k v : SV) (i : Nat) : msetS es c k v (some i) = .map (es.modify i fun e => (e.1, e.2.1, v)) c := rfl
theorem mdelS_none (es : List (Nat × SV × SV)) (c : Nat) : mdelS es c none = .map es c := rfl
theorem mdelS_some (es : List (Nat × SV × SV)) (c i : Nat) : mdelS es c (some i) = .map (es.eraseIdx i) c := rfl
theorem lookS_none (es : List (Nat × SV × SV)) (z : SV) : lookS es z none = z := rfl
theorem lookS_some (es : List (Nat × SV × SV)) (z : SV) (i : Nat) : lookS es z (some i) = match es[i]? with
  | some e => e.2.2
  | none => z := rfl

section
variable {K V : Type} [DecidableEq K]
/-- A map's entries: when it was laid in, the key, the value. -/
abbrev MM (K V : Type) := List (Nat × K × V)
def MM.idx (L : MM K V) (a : K) : Option Nat := L.findIdx? fun x => decide (a = x.2.1)
def MM.get (L : MM K V) (a : K) : Option V := (L.find? fun x => decide (a = x.2.1)).map (·.2.2)
def MM.has (L : MM K V) (a : K) : Bool := (MM.get L a).isSome
def MM.keys (L : MM K V) : List K := L.map (·.2.1)
def MM.put (L : MM K V) (c : Nat) (a : K) (v : V) : MM K V := match MM.idx L a with
  | some i => L.modify i fun x => (x.1, x.2.1, v)
  | none => L ++ [(c, a, v)]
def MM.clk (L : MM K V) (c : Nat) (a : K) : Nat := if MM.has L a then c else c + 1
def MM.del (L : MM K V) (a : K) : MM K V := match MM.idx L a with
  | some i => L.eraseIdx i
  | none => L
/-- Keys and times once each; times before the clock. -/
structure MM.wf (L : MM K V) (c : Nat) : Prop where
  keys : (MM.keys L).Nodup
  times : (L.map (·.1)).Nodup
  old : ∀ x, x ∈ L → x.1 < c

theorem MM.idx_none {L : MM K V} {a : K} : MM.idx L a = none ↔ MM.get L a = none := by
  unfold MM.idx MM.get
  induction L with
  | nil => simp
  | cons x L ih =>
    simp only [List.findIdx?_cons, List.find?_cons]
    by_cases h : a = x.2.1
    · simp [h]
    · simp only [h, decide_false, Bool.false_eq_true, if_false, Option.map_eq_none_iff] at ih ⊢
      exact ih
theorem MM.idx_isSome {L : MM K V} {a : K} : (MM.idx L a).isSome = MM.has L a := by
  unfold MM.has
  rw [Bool.eq_iff_iff, Option.isSome_iff_ne_none, Option.isSome_iff_ne_none, ne_eq, ne_eq, MM.idx_none]
theorem MM.idx_get : ∀ {L : MM K V} {a : K} {i : Nat}, MM.idx L a = some i → ∃ x, L[i]? = some x ∧ x.2.1 = a ∧ MM.get L a = some x.2.2
  | [], a, i, h => by simp [MM.idx] at h
  | x :: L, a, i, h => by
    unfold MM.idx at h
    unfold MM.get
    simp only [List.findIdx?_cons, List.find?_cons] at h ⊢
    by_cases e : a = x.2.1
    · simp only [e, decide_true, if_true] at h ⊢
      injection h with h; subst h
      exact ⟨x, rfl, rfl, rfl⟩
    · simp only [e, decide_false, Bool.false_eq_true, if_false, Option.map_eq_some_iff] at h ⊢
      obtain ⟨j, hj, rfl⟩ := h
      obtain ⟨y, h1, h2, h3⟩ := MM.idx_get (L := L) (a := a) (i := j) hj
      exact ⟨y, by simpa using h1, h2, by simpa [MM.get] using h3⟩
theorem MM.get_mem : ∀ {L : MM K V} {a : K} {v : V}, MM.get L a = some v → ∃ t, (t, a, v) ∈ L
  | [], a, v, h => by simp [MM.get] at h
  | x :: L, a, v, h => by
    unfold MM.get at h
    simp only [List.find?_cons] at h
    by_cases e : a = x.2.1
    · simp only [e, decide_true, Option.map_some, Option.some.injEq] at h
      refine ⟨x.1, ?_⟩
      subst h
      rw [e]; simp
    · simp only [e, decide_false] at h
      obtain ⟨t, ht⟩ := MM.get_mem (L := L) (a := a) (v := v) h
      exact ⟨t, by simp [ht]⟩
theorem MM.has_iff {L : MM K V} {a : K} : MM.has L a = true ↔ a ∈ MM.keys L := by
  unfold MM.has MM.get MM.keys
  induction L with
  | nil => simp
  | cons x L ih =>
    simp only [List.find?_cons, List.map_cons, List.mem_cons]
    by_cases e : a = x.2.1
    · simp [e]
    · simp only [e, decide_false, false_or]; exact ih
theorem MM.get_of_mem : ∀ {L : MM K V} (h : (MM.keys L).Nodup) {t : Nat} {a : K} {v : V}, (t, a, v) ∈ L → MM.get L a = some v
  | [], _, t, a, v, h => by cases h
  | x :: L, hn, t, a, v, h => by
    unfold MM.get
    simp only [MM.keys, List.map_cons, List.nodup_cons] at hn
    simp only [List.find?_cons]
    rcases List.mem_cons.1 h with rfl | h
    · simp
    · have : a ≠ x.2.1 := fun e => hn.1 (by rw [← e]; exact List.mem_map.2 ⟨_, h, rfl⟩)
      simp only [this, decide_false]
      exact MM.get_of_mem (L := L) hn.2 h

theorem MM.keys_put {L : MM K V} {c : Nat} {a : K} {v : V} : MM.keys (MM.put L c a v) = if MM.has L a then MM.keys L else MM.keys L ++ [a] := by
  unfold MM.put
  rw [← MM.idx_isSome]
  split
  · rename_i i h
    rw [h]
    simp only [Option.isSome_some, if_true, MM.keys]
    apply List.ext_getElem?
    intro j
    simp only [List.getElem?_map, List.getElem?_modify]
    cases L[j]? with
    | none => simp
    | some x => by_cases e : i = j <;> simp [e]
  · rename_i h
    rw [h]; simp [MM.keys]
theorem MM.times_put {L : MM K V} {c : Nat} {a : K} {v : V} : (MM.put L c a v).map (·.1) = if MM.has L a then L.map (·.1) else L.map (·.1) ++ [c] := by
  unfold MM.put
  rw [← MM.idx_isSome]
  split
  · rename_i i h
    rw [h]
    simp only [Option.isSome_some, if_true]
    apply List.ext_getElem?
    intro j
    simp only [List.getElem?_map, List.getElem?_modify]
    cases L[j]? with
    | none => simp
    | some x => by_cases e : i = j <;> simp [e]
  · rename_i h
    rw [h]; simp
theorem MM.has_put {L : MM K V} {c : Nat} {a b : K} {v : V} : MM.has (MM.put L c a v) b = (decide (b = a) || MM.has L b) := by
  rw [Bool.eq_iff_iff, MM.has_iff, MM.keys_put]
  split
  · rename_i h
    simp only [Bool.or_eq_true, decide_eq_true_eq, MM.has_iff]
    refine ⟨.inr, fun h' => ?_⟩
    rcases h' with rfl | h'
    · exact MM.has_iff.1 h
    · exact h'
  · simp only [List.mem_append, List.mem_singleton, Bool.or_eq_true, decide_eq_true_eq, MM.has_iff]
    exact Or.comm
theorem MM.get_put {L : MM K V} {c : Nat} {a b : K} {v : V} : MM.get (MM.put L c a v) b = if b = a then some v else MM.get L b := by
  unfold MM.put
  split
  · rename_i i h
    revert i h
    induction L with
    | nil => intro i h; simp [MM.idx] at h
    | cons x L ih =>
      intro i h
      unfold MM.idx at h
      simp only [List.findIdx?_cons] at h
      by_cases e : a = x.2.1
      · simp only [e, decide_true, if_true] at h
        injection h with h; subst h
        simp only [MM.get, List.modify_zero_cons, List.find?_cons]
        by_cases eb : b = x.2.1
        · simp [eb, e]
        · simp [eb, e]
      · simp only [e, decide_false, Bool.false_eq_true, if_false, Option.map_eq_some_iff] at h
        obtain ⟨j, hj, rfl⟩ := h
        have := ih j hj
        simp only [MM.get, List.modify_succ_cons, List.find?_cons] at this ⊢
        by_cases eb : b = x.2.1
        · simp only [eb, decide_true]
          rw [if_neg (fun h => e h.symm)]
        · simp only [eb, decide_false]
          exact this
  · rename_i h
    have hn := MM.idx_none.1 h
    unfold MM.get at hn ⊢
    rw [List.find?_append]
    by_cases eb : b = a
    · subst eb
      have : List.find? (fun x => decide (b = x.2.1)) L = none := by simpa using hn
      rw [this]; simp
    · simp only [List.find?_cons, eb, decide_false, List.find?_nil, Option.or_none, if_false]
theorem MM.wf_put {L : MM K V} {c : Nat} (h : MM.wf L c) (a : K) (v : V) : MM.wf (MM.put L c a v) (MM.clk L c a) := by
  refine ⟨?_, ?_, fun x hx => ?_⟩
  · rw [MM.keys_put]
    split
    · exact h.keys
    · rename_i hh
      rw [List.nodup_append]
      refine ⟨h.keys, by simp, fun x hx y hy => ?_⟩
      simp only [List.mem_singleton] at hy
      subst hy
      intro e
      subst e
      exact hh (MM.has_iff.2 hx)
  · rw [MM.times_put]
    split
    · exact h.times
    · rw [List.nodup_append]
      refine ⟨h.times, by simp, fun x hx y hy => ?_⟩
      simp only [List.mem_singleton] at hy
      obtain ⟨z, hz, rfl⟩ := List.mem_map.1 hx
      have := h.old z hz
      omega
  · have hm : x.1 ∈ (MM.put L c a v).map (·.1) := List.mem_map.2 ⟨x, hx, rfl⟩
    rw [MM.times_put] at hm
    unfold MM.clk
    split at hm
    · rename_i hh
      obtain ⟨z, hz, e⟩ := List.mem_map.1 hm
      rw [if_pos hh, ← e]
      exact h.old z hz
    · rename_i hh
      rw [if_neg hh]
      rcases List.mem_append.1 hm with hm | hm
      · obtain ⟨z, hz, e⟩ := List.mem_map.1 hm
        have := h.old z hz
        omega
      · simp only [List.mem_singleton] at hm
        omega
theorem MM.wf_nil : MM.wf ([] : MM K V) 0 := ⟨by simp [MM.keys], by simp, by simp⟩
theorem MM.del_filter : ∀ {L : MM K V} (h : (MM.keys L).Nodup) (a : K), MM.del L a = L.filter fun x => decide (a ≠ x.2.1)
  | [], _, a => rfl
  | x :: L, h, a => by
    simp only [MM.keys, List.map_cons, List.nodup_cons] at h
    have ih := MM.del_filter (L := L) h.2 a
    unfold MM.del MM.idx at ih ⊢
    simp only [List.findIdx?_cons, List.filter_cons]
    by_cases e : a = x.2.1
    · subst e
      simp only [decide_true, if_true, List.eraseIdx_zero, List.tail_cons, ne_eq, not_true, decide_false, Bool.false_eq_true, if_false]
      rw [List.filter_eq_self.2]
      intro y hy
      simp only [ne_eq, decide_eq_true_eq]
      intro e
      exact h.1 (by rw [e]; exact List.mem_map.2 ⟨y, hy, rfl⟩)
    · simp only [e, decide_false, Bool.false_eq_true, if_false, ne_eq, not_false_eq_true, decide_true, if_true]
      rw [← ih]
      cases List.findIdx? (fun x => decide (a = x.2.1)) L <;> simp
theorem MM.wf_filter {L : MM K V} {c : Nat} (h : MM.wf L c) (f : Nat × K × V → Bool) : MM.wf (L.filter f) c :=
  ⟨(List.filter_sublist.map _).nodup h.keys, (List.filter_sublist.map _).nodup h.times, fun x hx => h.old x (List.mem_filter.1 hx).1⟩
theorem MM.find_time {L : MM K V} (h : (L.map (·.1)).Nodup) {x : Nat × K × V} (hx : x ∈ L) : L.find? (fun y => y.1 == x.1) = some x := by
  induction L with
  | nil => cases hx
  | cons y L ih =>
    simp only [List.map_cons, List.nodup_cons] at h
    simp only [List.find?_cons]
    rcases List.mem_cons.1 hx with rfl | hx
    · simp
    · have : y.1 ≠ x.1 := fun e => h.1 (by rw [e]; exact List.mem_map.2 ⟨x, hx, rfl⟩)
      rw [show (y.1 == x.1) = false by simpa using this]
      exact ih h.2 hx

theorem map_erase {α β : Type} (f : α → β) : ∀ (l : List α) (i : Nat), (l.map f).eraseIdx i = (l.eraseIdx i).map f
  | [], i => by simp
  | x :: l, 0 => by simp
  | x :: l, i + 1 => by simp [map_erase f l i]

theorem MM.time_inj {L : MM K V} (h : (L.map (·.1)).Nodup) {x y : Nat × K × V} (hx : x ∈ L) (hy : y ∈ L) (e : x.1 = y.1) : x = y := by
  have h1 := MM.find_time h hx
  have h2 := MM.find_time h hy
  rw [e, h2] at h1
  exact (Option.some.inj h1).symm
/-! ### as objects -/
/-- Entries in the machine's form. -/
def mapE (kc : K → List SV) (vs : V → SV) (L : MM K V) : List (Nat × SV × SV) := L.map fun x => (x.1, SV.agg (kc x.2.1), vs x.2.2)
variable {kc : K → List SV} {vs : V → SV}
theorem find_mapE {ks : List Bool} (heq : ∀ a b, csqS ks (kc a) (kc b) = some (decide (a = b))) (a : K) : ∀ (L : MM K V) (i : Nat), findS ks true (.agg (kc a)) (mapE kc vs L) i = some ((MM.idx L a).map (· + i))
  | [], i => by simp [mapE, findS, MM.idx]
  | x :: L, i => by
    have ih := find_mapE heq a L (i + 1)
    have hk : keyOk ks true (.agg (kc x.2.1)) = true := by simp [keyOk, isAggS, SV.cells, heq]
    unfold mapE at ih ⊢
    simp only [List.map_cons, findS, hk, if_true, SV.cells, heq]
    unfold MM.idx at ih ⊢
    simp only [List.findIdx?_cons]
    by_cases e : a = x.2.1
    · simp [e]
    · simp only [e, decide_false, Bool.false_eq_true, if_false]
      rw [ih]
      cases List.findIdx? (fun x => decide (a = x.2.1)) L with
      | none => rfl
      | some j => simp; omega
theorem find_dt (d : Dt) (vs : V → SV) (L : MM Dt V) : findS [true, true] true (.agg d.cells) (mapE Dt.cells vs L) 0 = some (MM.idx L d) := by
  rw [find_mapE Dt.eqb d L 0]; cases MM.idx L d <;> rfl
theorem find_vc (d : Vec) (vs : V → SV) (L : MM Vec V) : findS [true, true, true, true, true, true, true, true] true (.agg d.cells) (mapE Vec.cells vs L) 0 = some (MM.idx L d) := by
  rw [find_mapE Vec.eqb8 d L 0]; cases MM.idx L d <;> rfl
theorem look_mapE (z : V) (L : MM K V) (a : K) : lookS (mapE kc vs L) (vs z) (MM.idx L a) = vs ((MM.get L a).getD z) := by
  cases h : MM.idx L a with
  | none => rw [MM.idx_none.1 h]; rfl
  | some i =>
    obtain ⟨x, h1, h2, h3⟩ := MM.idx_get h
    rw [h3]
    simp [lookS, mapE, h1]
/-- Whole numbers as values. -/
def iv (n : Int) : SV := .d (.int .i64 n)
theorem look_int (L : MM K Int) (a : K) : lookS (mapE kc iv L) (.d (.int .i64 0)) (MM.idx L a) = .d (.int .i64 ((MM.get L a).getD 0)) := look_mapE (vs := iv) 0 L a
theorem mset_mapE (L : MM K V) (c : Nat) (a : K) (v : V) : msetS (mapE kc vs L) c (.agg (kc a)) (vs v) (MM.idx L a) = .map (mapE kc vs (MM.put L c a v)) (MM.clk L c a) := by
  unfold MM.put MM.clk
  rw [← MM.idx_isSome]
  cases h : MM.idx L a with
  | none => simp [msetS, mapE]
  | some i =>
    simp only [msetS, Option.isSome_some, if_true, Ob.map.injEq, and_true, mapE]
    apply List.ext_getElem?
    intro j
    simp only [List.getElem?_map, List.getElem?_modify]
    cases L[j]? with
    | none => simp
    | some x => by_cases e : i = j <;> simp [e]
theorem mset_int (L : MM K Int) (c : Nat) (a : K) (n : Int) : msetS (mapE kc iv L) c (.agg (kc a)) (.d (.int .i64 n)) (MM.idx L a) = .map (mapE kc iv (MM.put L c a n)) (MM.clk L c a) := mset_mapE (vs := iv) L c a n
/-- An entry of a key, made if there is none; its stamp; where it stands. -/
def MM.ent (L : MM K V) (c : Nat) (a : K) (z : V) : MM K V := match MM.idx L a with
  | some _ => L
  | none => L ++ [(c, a, z)]
def MM.stp (L : MM K V) (c : Nat) (a : K) : Nat := match MM.idx L a with
  | some i => ((L[i]?).map (·.1)).getD 0
  | none => c
def MM.pos (L : MM K V) (a : K) : Nat := (MM.idx L a).getD L.length
theorem ment_T (L : MM K V) (c : Nat) (a : K) : mentT (mapE kc vs L) c (MM.idx L a) = MM.stp L c a := by
  unfold MM.stp
  cases h : MM.idx L a with
  | none => rfl
  | some i =>
    simp only [mentT, mapE, List.getElem?_map]
    cases L[i]? <;> rfl
theorem ment_O (L : MM K V) (c : Nat) (a : K) (z : V) : mentO (mapE kc vs L) c (.agg (kc a)) (vs z) (MM.idx L a) = .map (mapE kc vs (MM.ent L c a z)) (MM.clk L c a) := by
  unfold MM.ent MM.clk
  rw [← MM.idx_isSome]
  cases h : MM.idx L a with
  | none => simp [mentO, mapE]
  | some i => simp [mentO]
theorem MM.idx_lt {L : MM K V} {a : K} {i : Nat} (h : MM.idx L a = some i) : i < L.length := by
  obtain ⟨x, h1, _⟩ := MM.idx_get h
  exact (List.getElem?_eq_some_iff.1 h1).1
theorem mstor_E {L : MM K V} {c : Nat} (hw : MM.wf L c) (a : K) (z : V) : (mapE kc vs (MM.ent L c a z)).findIdx? (fun e => (e.1 : Int) == ((MM.stp L c a : Nat) : Int)) = some (MM.pos L a) := by
  unfold MM.ent MM.stp MM.pos
  have key : ∀ (l : MM K V) (i : Nat) (x : Nat × K × V), (l.map (·.1)).Nodup → l[i]? = some x → (mapE kc vs l).findIdx? (fun e => (e.1 : Int) == ((x.1 : Nat) : Int)) = some i := by
    intro l
    induction l with
    | nil => intro i x _ h; simp at h
    | cons y l ih =>
      intro i x hn h
      rw [List.map_cons, List.nodup_cons] at hn
      simp only [mapE, List.map_cons, List.findIdx?_cons]
      cases i with
      | zero => simp at h; subst h; simp
      | succ i =>
        simp at h
        have hne : ((y.1 : Int) == (x.1 : Int)) = false := by
          have : y.1 ≠ x.1 := fun e => hn.1 (by rw [e]; exact List.mem_map.2 ⟨x, List.mem_of_getElem? h, rfl⟩)
          simpa using fun h : (y.1 : Int) = x.1 => this (by omega)
        rw [hne]
        have := ih i x hn.2 h
        simp only [mapE] at this
        simp [this]
  cases h : MM.idx L a with
  | none =>
    refine key (L ++ [(c, a, z)]) L.length (c, a, z) ?_ (by simp)
    rw [List.map_append, List.nodup_append]
    refine ⟨hw.times, by simp, fun x hx y hy e => ?_⟩
    simp at hy
    obtain ⟨q, hq, rfl⟩ := List.mem_map.1 hx
    have := hw.old q hq
    omega
  | some i =>
    obtain ⟨x, h1, _⟩ := MM.idx_get h
    simp only [h1, Option.map_some, Option.getD_some]
    exact key L i x hw.times h1
theorem mstor_put (L : MM K V) (c : Nat) (a : K) (z v : V) : (mapE kc vs (MM.ent L c a z)).modify (MM.pos L a) (fun e => (e.1, e.2.1, vs v)) = mapE kc vs (MM.put L c a v) := by
  unfold MM.ent MM.pos MM.put
  have key : ∀ (l : MM K V) (i : Nat), (mapE kc vs l).modify i (fun e => (e.1, e.2.1, vs v)) = mapE kc vs (l.modify i fun x => (x.1, x.2.1, v)) := fun l i => by
    unfold mapE
    apply List.ext_getElem?
    intro j
    simp only [List.getElem?_map, List.getElem?_modify]
    cases l[j]? with
    | none => simp
    | some x => by_cases e : i = j <;> simp [e]
  cases h : MM.idx L a with
  | none =>
    simp only [Option.getD_none]
    rw [key]
    congr 1
    apply List.ext_getElem?
    intro j
    simp only [List.getElem?_modify, List.getElem?_append]
    by_cases h1 : j < L.length
    · simp [h1, show ¬ L.length = j by omega]
    · simp only [h1, if_false]
      by_cases h2 : L.length = j
      · subst h2; simp
      · simp [show ¬ j - L.length = 0 by omega, show j - L.length ≠ 0 by omega]
  | some i => exact key L i
theorem mdel_mapE (L : MM K V) (c : Nat) (a : K) : mdelS (mapE kc vs L) c (MM.idx L a) = .map (mapE kc vs (MM.del L a)) c := by
  unfold MM.del
  cases h : MM.idx L a with
  | none => rfl
  | some i => simp only [mdelS, mapE, map_erase]
theorem mapE_len (L : MM K V) : (mapE kc vs L).length = L.length := by simp [mapE]
theorem mapE_mem {L : MM K V} {e : Nat × SV × SV} (h : e ∈ mapE kc vs L) : ∃ x, x ∈ L ∧ e = (x.1, SV.agg (kc x.2.1), vs x.2.2) := by
  obtain ⟨x, hx, rfl⟩ := List.mem_map.1 h
  exact ⟨x, hx, rfl⟩
theorem mapE_find {L : MM K V} (h : (L.map (·.1)).Nodup) {x : Nat × K × V} (hx : x ∈ L) : (mapE kc vs L).find? (fun e => e.1 == x.1) = some (x.1, SV.agg (kc x.2.1), vs x.2.2) := by
  unfold mapE
  rw [List.find?_map]
  have := MM.find_time h hx
  simp only [Function.comp_def, this, Option.map_some]
theorem mapE_ren (ρ : Nat → Nat) (L : MM K V) (hk : ∀ a, SV.rens ρ (kc a) = kc a) (hv : ∀ v, (vs v).ren ρ = vs v) : (mapE kc vs L).map (fun e => (e.1, e.2.1.ren ρ, e.2.2.ren ρ)) = mapE kc vs L := by
  unfold mapE
  rw [List.map_map]
  refine List.map_congr_left fun x _ => ?_
  simp [SV.ren, hk, hv]
theorem mapE_ok (q : Nat → Bool) (L : MM K V) (hk : ∀ a, SV.oks q (kc a) = true) (hv : ∀ v, (vs v).ok q = true) : ((mapE kc vs L).all fun e => e.2.1.ok q && e.2.2.ok q) = true := by
  unfold mapE
  simp [SV.ok, hk, hv]
end
theorem iv_ren (ρ : Nat → Nat) (n : Int) : (iv n).ren ρ = iv n := rfl
theorem iv_ok (q : Nat → Bool) (n : Int) : (iv n).ok q = true := rfl
abbrev DMap := MM Dt Int
theorem dmap_ren (ρ : Nat → Nat) (L : DMap) : (mapE Dt.cells iv L).map (fun e => (e.1, e.2.1.ren ρ, e.2.2.ren ρ)) = mapE Dt.cells iv L := mapE_ren ρ L (fun a => Dt.cells_ren a ρ) (iv_ren ρ)
theorem dmap_ok (q : Nat → Bool) (L : DMap) : ((mapE Dt.cells iv L).all fun e => e.2.1.ok q && e.2.2.ok q) = true := mapE_ok q L (fun a => Dt.cells_ok a q) (iv_ok q)
theorem vmap_ren (ρ : Nat → Nat) (L : MM Vec Int) : (mapE Vec.cells iv L).map (fun e => (e.1, e.2.1.ren ρ, e.2.2.ren ρ)) = mapE Vec.cells iv L := mapE_ren ρ L (fun a => Vec.cells_ren a ρ) (iv_ren ρ)
theorem vmap_ok (q : Nat → Bool) (L : MM Vec Int) : ((mapE Vec.cells iv L).all fun e => e.2.1.ok q && e.2.2.ok q) = true := mapE_ok q L (fun a => Vec.cells_ok a q) (iv_ok q)
end Go.Sl

/-
  Operations and credentials as data; rows cut short.
-/
set_option linter.unusedVariables false
set_option linter.unusedSimpArgs false
set_option linter.unusedSectionVars false
namespace Go.Sl
open Go.RowKit

/-- An operation; its lines as they stand. -/
structure OpD where
  dot : Dt
  dep : Vec
  time : Nat
  who : Nat
  cart : Dt
  kind : Nat
  cred : Dt
  to : Nat
  roles : Nat
  depth : Nat
  cap : Nat
  at_ : Dt
  ver : Dt
  item : Nat
  qty : Nat
  price : Nat
  lines : DV
def OpD.ds (o : OpD) : List DV :=
  .int .u8 o.dot.r :: .int .u32 o.dot.n :: (o.dep.ds ++ (.int .u64 o.time :: .int .u32 o.who :: .int .u8 o.cart.r :: .int .u32 o.cart.n :: .int .u8 o.kind :: .int .u8 o.cred.r :: .int .u32 o.cred.n :: .int .u32 o.to :: .int .u8 o.roles :: .int .u8 o.depth :: .int .u64 o.cap ::
    .int .u8 o.at_.r :: .int .u32 o.at_.n :: .int .u8 o.ver.r :: .int .u32 o.ver.n :: .int .u32 o.item :: .int .u32 o.qty :: .int .u32 o.price :: [o.lines]))
def OpD.cells (o : OpD) : List SV := o.ds.map .d
theorem OpD.map_ds (o : OpD) : o.ds.map .d = o.cells := rfl
@[simp] theorem OpD.ds_len (o : OpD) : o.ds.length = 29 := rfl
@[simp] theorem OpD.cells_len (o : OpD) : o.cells.length = 29 := rfl
@[simp] theorem OpD.cells_ok (o : OpD) (q : Nat → Bool) : SV.oks q o.cells = true := SV.oks_d _
@[simp] theorem OpD.cells_ren (o : OpD) (ρ : Nat → Nat) : SV.rens ρ o.cells = o.cells := SV.rens_d _
theorem OpD.cells_one (o : OpD) : o.cells.all SV.isOne = true := by simp [OpD.cells, SV.isOne]
@[simp] theorem OpD.take_all (o : OpD) : o.cells.take 29 = o.cells := rfl
theorem OpD.gDot (o : OpD) : o.cells.take 2 = o.dot.cells := rfl
theorem OpD.gDep (o : OpD) : (o.cells.drop 2).take 8 = o.dep.cells := rfl
theorem OpD.gTime (o : OpD) : o.cells[10]? = some (u64 o.time) := rfl
theorem OpD.gWho (o : OpD) : o.cells[11]? = some (u32 o.who) := rfl
theorem OpD.gCart (o : OpD) : (o.cells.drop 12).take 2 = o.cart.cells := rfl
theorem OpD.gKind (o : OpD) : o.cells[14]? = some (u8 o.kind) := rfl
theorem OpD.gCred (o : OpD) : (o.cells.drop 15).take 2 = o.cred.cells := rfl
theorem OpD.gTo (o : OpD) : o.cells[17]? = some (u32 o.to) := rfl
theorem OpD.gRoles (o : OpD) : o.cells[18]? = some (u8 o.roles) := rfl
theorem OpD.gDepth (o : OpD) : o.cells[19]? = some (u8 o.depth) := rfl
theorem OpD.gCap (o : OpD) : o.cells[20]? = some (u64 o.cap) := rfl
theorem OpD.gAt (o : OpD) : (o.cells.drop 21).take 2 = o.at_.cells := rfl
theorem OpD.gVer (o : OpD) : (o.cells.drop 23).take 2 = o.ver.cells := rfl
theorem OpD.gItem (o : OpD) : o.cells[25]? = some (u32 o.item) := rfl
theorem OpD.gQty (o : OpD) : o.cells[26]? = some (u32 o.qty) := rfl
theorem OpD.gPrice (o : OpD) : o.cells[27]? = some (u32 o.price) := rfl
theorem OpD.gLines (o : OpD) : o.cells[28]? = some (.d o.lines) := rfl
theorem OpD.gDotR (o : OpD) : o.cells[0]? = some (u8 o.dot.r) := rfl
theorem OpD.gDotN (o : OpD) : o.cells[1]? = some (u32 o.dot.n) := rfl
theorem OpD.spl_all (c o : OpD) : spl c.cells 0 o.cells = o.cells := rfl
/-- Whether an operation is before another one. -/
def OpD.before (a b : OpD) : Bool := b.dep.covers a.dot
abbrev zOp : List SV := [.d (.int .u8 0), .d (.int .u32 0), .d (.int .u32 0), .d (.int .u32 0), .d (.int .u32 0), .d (.int .u32 0), .d (.int .u32 0), .d (.int .u32 0), .d (.int .u32 0), .d (.int .u32 0), .d (.int .u64 0), .d (.int .u32 0), .d (.int .u8 0), .d (.int .u32 0), .d (.int .u8 0),
  .d (.int .u8 0), .d (.int .u32 0), .d (.int .u32 0), .d (.int .u8 0), .d (.int .u8 0), .d (.int .u64 0), .d (.int .u8 0), .d (.int .u32 0), .d (.int .u8 0), .d (.int .u32 0), .d (.int .u32 0), .d (.int .u32 0), .d (.int .u32 0), .d .nils]
def OpD.zero : OpD := ⟨⟨0, 0⟩, Vec.zero, 0, 0, ⟨0, 0⟩, 0, ⟨0, 0⟩, 0, 0, 0, 0, ⟨0, 0⟩, ⟨0, 0⟩, 0, 0, 0, .nils⟩
theorem OpD.zero_cells : ([.d (.int .u8 0), .d (.int .u32 0), .d (.int .u32 0), .d (.int .u32 0), .d (.int .u32 0), .d (.int .u32 0), .d (.int .u32 0), .d (.int .u32 0), .d (.int .u32 0), .d (.int .u32 0), .d (.int .u64 0), .d (.int .u32 0), .d (.int .u8 0), .d (.int .u32 0), .d (.int .u8 0),
  .d (.int .u8 0), .d (.int .u32 0), .d (.int .u32 0), .d (.int .u8 0), .d (.int .u8 0), .d (.int .u64 0), .d (.int .u8 0), .d (.int .u32 0), .d (.int .u8 0), .d (.int .u32 0), .d (.int .u32 0), .d (.int .u32 0), .d (.int .u32 0), .d .nils] : List SV) = OpD.zero.cells := rfl
abbrev ops (l : List OpD) : SV := .d (.sl l.length (l.flatMap OpD.ds))
/-- The cells of a row of operations. -/
abbrev opc (l : List OpD) : List SV := List.map SV.d (l.flatMap OpD.ds)
@[simp] theorem ops_len (l : List OpD) : (l.flatMap OpD.ds).length = l.length * 29 := flat_length OpD.ds 29 (fun _ => rfl) l
theorem op_at {l : List OpD} {i : Nat} {x : OpD} (h : l[i]? = some x) : List.take 29 (List.drop (i * 29) (List.map SV.d (l.flatMap OpD.ds))) = x.cells := by
  rw [← List.map_drop, ← List.map_take, flat_take OpD.ds 29 (fun _ => rfl) l i x h]
  rfl
theorem op_get {l : List OpD} {i : Nat} {x : OpD} (h : l[i]? = some x) {j : Nat} (hj : j < 29) : (List.map SV.d (l.flatMap OpD.ds))[i * 29 + j]? = x.cells[j]? := by
  rw [List.getElem?_map, flat_get OpD.ds 29 (fun _ => rfl) l i j x h hj, OpD.cells, List.getElem?_map]
theorem op_part {l : List OpD} {i : Nat} {x : OpD} (h : l[i]? = some x) {j n : Nat} (hj : j + n ≤ 29) : List.take n (List.drop (i * 29 + j) (List.map SV.d (l.flatMap OpD.ds))) = (x.cells.drop j).take n := by
  rw [← op_at h, List.drop_take, List.drop_drop, List.take_take, Nat.min_eq_left (by omega)]
theorem op_room {l : List OpD} {i j n : Nat} {x : OpD} (h : l[i]? = some x) (hj : j + n ≤ 29) : (i * 29 + j + n ≤ (List.map SV.d (l.flatMap OpD.ds)).length) = True := eq_true (by
  have := lt_of_get h
  rw [List.length_map, ops_len]
  omega)
theorem op_room0 {l : List OpD} {i : Nat} {x : OpD} (h : l[i]? = some x) : (i * 29 + 29 ≤ (List.map SV.d (l.flatMap OpD.ds)).length) = True := eq_true (by
  have := lt_of_get h
  rw [List.length_map, ops_len]
  omega)
theorem spl_row {α : Type} (f : α → List DV) (sz : Nat) (hs : 0 < sz) (hf : ∀ x, (f x).length = sz) (l : List α) (i : Nat) (x : α) (h : i < l.length) : spl (List.map SV.d (l.flatMap f)) (i * sz) ((f x).map .d) = List.map SV.d ((l.set i x).flatMap f) := by
  have hl := flat_length f sz hf l
  have hle : i * sz + sz ≤ l.length * sz := by rw [← Nat.succ_mul]; exact Nat.mul_le_mul_right sz h
  rw [spl_eq (by rw [List.length_map, List.length_map, hf, hl]; exact hle)]
  rw [List.length_map, hf, ← List.map_take, ← List.map_drop, ← List.map_append, ← List.map_append]
  congr 1
  induction l generalizing i with
  | nil => simp at h
  | cons y l ih =>
    cases i with
    | zero =>
      simp [hf, List.drop_append, List.drop_of_length_le (Nat.le_of_eq (hf y))]
    | succ i =>
      have := ih i (by simpa using h) (flat_length f sz hf l) (by
        have h2 : i < l.length := by simpa using h
        rw [← Nat.succ_mul]; exact Nat.mul_le_mul_right sz h2)
      rw [Nat.succ_mul]
      simp only [List.flatMap_cons, List.set_cons_succ]
      rw [List.take_append, List.drop_append, hf, List.take_of_length_le (by rw [hf]; omega), List.drop_of_length_le (by rw [hf]; omega)]
      rw [show i * sz + sz - sz = i * sz by omega, show i * sz + sz + sz - sz = i * sz + sz by omega, ← this]
      simp
theorem op_set {l : List OpD} {i : Nat} (x : OpD) (h : i < l.length) : spl (List.map SV.d (l.flatMap OpD.ds)) (i * 29) x.cells = List.map SV.d ((l.set i x).flatMap OpD.ds) := spl_row OpD.ds 29 (by omega) (fun _ => rfl) l i x h

/-- A credential. -/
structure Cr where
  dot : Dt
  cart : Dt
  par : Dt
  hold : Nat
  roles : Nat
  depth : Nat
  cap : Nat
  level : Int
  deriving DecidableEq
def Cr.ds (o : Cr) : List DV := [.int .u8 o.dot.r, .int .u32 o.dot.n, .int .u8 o.cart.r, .int .u32 o.cart.n, .int .u8 o.par.r, .int .u32 o.par.n, .int .u32 o.hold, .int .u8 o.roles, .int .u8 o.depth, .int .u64 o.cap, .int .i64 o.level]
def Cr.cells (o : Cr) : List SV := o.ds.map .d
theorem Cr.map_ds (o : Cr) : o.ds.map .d = o.cells := rfl
@[simp] theorem Cr.ds_len (o : Cr) : o.ds.length = 11 := rfl
@[simp] theorem Cr.cells_len (o : Cr) : o.cells.length = 11 := rfl
@[simp] theorem Cr.cells_ok (o : Cr) (q : Nat → Bool) : SV.oks q o.cells = true := SV.oks_d _
@[simp] theorem Cr.cells_ren (o : Cr) (ρ : Nat → Nat) : SV.rens ρ o.cells = o.cells := SV.rens_d _
theorem Cr.cells_one (o : Cr) : o.cells.all SV.isOne = true := rfl
@[simp] theorem Cr.take_all (o : Cr) : o.cells.take 11 = o.cells := rfl
theorem Cr.gDot (o : Cr) : o.cells.take 2 = o.dot.cells := rfl
theorem Cr.gCart (o : Cr) : (o.cells.drop 2).take 2 = o.cart.cells := rfl
theorem Cr.gPar (o : Cr) : (o.cells.drop 4).take 2 = o.par.cells := rfl
theorem Cr.gHold (o : Cr) : o.cells[6]? = some (u32 o.hold) := rfl
theorem Cr.gRoles (o : Cr) : o.cells[7]? = some (u8 o.roles) := rfl
theorem Cr.gDepth (o : Cr) : o.cells[8]? = some (u8 o.depth) := rfl
theorem Cr.gCap (o : Cr) : o.cells[9]? = some (u64 o.cap) := rfl
theorem Cr.gLevel (o : Cr) : o.cells[10]? = some (i64 o.level) := rfl
theorem Cr.spl_all (c o : Cr) : spl c.cells 0 o.cells = o.cells := rfl
def Cr.zero : Cr := ⟨⟨0, 0⟩, ⟨0, 0⟩, ⟨0, 0⟩, 0, 0, 0, 0, 0⟩
theorem Cr.zero_cells : ([.d (.int .u8 0), .d (.int .u32 0), .d (.int .u8 0), .d (.int .u32 0), .d (.int .u8 0), .d (.int .u32 0), .d (.int .u32 0), .d (.int .u8 0), .d (.int .u8 0), .d (.int .u64 0), .d (.int .i64 0)] : List SV) = Cr.zero.cells := rfl
theorem Cr.eqb (a b : Cr) : csqS [true, true, true, true, true, true, true, true, true, true, true] a.cells b.cells = some (decide (a = b)) := by
  have h : csqS [true, true, true, true, true, true, true, true, true, true, true] a.cells b.cells = some (((a.dot.r : Int) == b.dot.r) && (((a.dot.n : Int) == b.dot.n) && (((a.cart.r : Int) == b.cart.r) && (((a.cart.n : Int) == b.cart.n) && (((a.par.r : Int) == b.par.r) && (((a.par.n : Int) == b.par.n) &&
      (((a.hold : Int) == b.hold) && (((a.roles : Int) == b.roles) && (((a.depth : Int) == b.depth) && (((a.cap : Int) == b.cap) && ((a.level == b.level) && true))))))))))) := by simp [csqS, cqS, Cr.cells, Cr.ds]
  rw [h]
  congr 1
  obtain ⟨⟨a0, a1⟩, ⟨a2, a3⟩, ⟨a4, a5⟩, a6, a7, a8, a9, a10⟩ := a
  obtain ⟨⟨b0, b1⟩, ⟨b2, b3⟩, ⟨b4, b5⟩, b6, b7, b8, b9, b10⟩ := b
  rw [Bool.eq_iff_iff]
  simp
  omega
abbrev crc (l : List Cr) : List SV := List.map SV.d (l.flatMap Cr.ds)
abbrev crs (l : List Cr) : SV := .d (.sl l.length (l.flatMap Cr.ds))
@[simp] theorem crs_len (l : List Cr) : (l.flatMap Cr.ds).length = l.length * 11 := flat_length Cr.ds 11 (fun _ => rfl) l
theorem cr_at {l : List Cr} {i : Nat} {x : Cr} (h : l[i]? = some x) : List.take 11 (List.drop (i * 11) (List.map SV.d (l.flatMap Cr.ds))) = x.cells := by
  rw [← List.map_drop, ← List.map_take, flat_take Cr.ds 11 (fun _ => rfl) l i x h]
  rfl
theorem cr_get {l : List Cr} {i : Nat} {x : Cr} (h : l[i]? = some x) {j : Nat} (hj : j < 11) : (List.map SV.d (l.flatMap Cr.ds))[i * 11 + j]? = x.cells[j]? := by
  rw [List.getElem?_map, flat_get Cr.ds 11 (fun _ => rfl) l i j x h hj, Cr.cells, List.getElem?_map]
theorem cr_part {l : List Cr} {i : Nat} {x : Cr} (h : l[i]? = some x) {j n : Nat} (hj : j + n ≤ 11) : List.take n (List.drop (i * 11 + j) (List.map SV.d (l.flatMap Cr.ds))) = (x.cells.drop j).take n := by
  rw [← cr_at h, List.drop_take, List.drop_drop, List.take_take, Nat.min_eq_left (by omega)]
/-! as a map's values -/
def ov (o : OpD) : SV := .agg o.cells
def cv (o : Cr) : SV := .agg o.cells
section
variable {K : Type} [DecidableEq K] {kc : K → List SV}
theorem look_ov (L : MM K OpD) (a : K) : lookS (mapE kc ov L) (.agg OpD.zero.cells) (MM.idx L a) = .agg ((MM.get L a).getD OpD.zero).cells := look_mapE (vs := ov) OpD.zero L a
theorem look_cv (L : MM K Cr) (a : K) : lookS (mapE kc cv L) (.agg Cr.zero.cells) (MM.idx L a) = .agg ((MM.get L a).getD Cr.zero).cells := look_mapE (vs := cv) Cr.zero L a
theorem ment_ov (L : MM K OpD) (c : Nat) (a : K) : mentO (mapE kc ov L) c (.agg (kc a)) (.agg OpD.zero.cells) (MM.idx L a) = .map (mapE kc ov (MM.ent L c a OpD.zero)) (MM.clk L c a) := ment_O (vs := ov) L c a OpD.zero
theorem ment_cv (L : MM K Cr) (c : Nat) (a : K) : mentO (mapE kc cv L) c (.agg (kc a)) (.agg Cr.zero.cells) (MM.idx L a) = .map (mapE kc cv (MM.ent L c a Cr.zero)) (MM.clk L c a) := ment_O (vs := cv) L c a Cr.zero
theorem ment_iv (L : MM K Int) (c : Nat) (a : K) : mentO (mapE kc iv L) c (.agg (kc a)) (.d (.int .i64 0)) (MM.idx L a) = .map (mapE kc iv (MM.ent L c a 0)) (MM.clk L c a) := ment_O (vs := iv) L c a 0
theorem mput_ov (L : MM K OpD) (c : Nat) (a : K) (z v : OpD) : (mapE kc ov (MM.ent L c a z)).modify (MM.pos L a) (fun e => (e.1, e.2.1, .agg v.cells)) = mapE kc ov (MM.put L c a v) := mstor_put (vs := ov) L c a z v
theorem mput_cv (L : MM K Cr) (c : Nat) (a : K) (z v : Cr) : (mapE kc cv (MM.ent L c a z)).modify (MM.pos L a) (fun e => (e.1, e.2.1, .agg v.cells)) = mapE kc cv (MM.put L c a v) := mstor_put (vs := cv) L c a z v
theorem mput_iv (L : MM K Int) (c : Nat) (a : K) (z v : Int) : (mapE kc iv (MM.ent L c a z)).modify (MM.pos L a) (fun e => (e.1, e.2.1, .d (.int .i64 v))) = mapE kc iv (MM.put L c a v) := mstor_put (vs := iv) L c a z v
theorem omap_ren (ρ : Nat → Nat) (L : MM Dt OpD) : (mapE Dt.cells ov L).map (fun e => (e.1, e.2.1.ren ρ, e.2.2.ren ρ)) = mapE Dt.cells ov L := mapE_ren ρ L (fun a => Dt.cells_ren a ρ) (fun v => by simp [ov, SV.ren])
theorem omap_ok (q : Nat → Bool) (L : MM Dt OpD) : ((mapE Dt.cells ov L).all fun e => e.2.1.ok q && e.2.2.ok q) = true := mapE_ok q L (fun a => Dt.cells_ok a q) (fun v => by simp [ov, SV.ok])
theorem cmap_ren (ρ : Nat → Nat) (L : MM Dt Cr) : (mapE Dt.cells cv L).map (fun e => (e.1, e.2.1.ren ρ, e.2.2.ren ρ)) = mapE Dt.cells cv L := mapE_ren ρ L (fun a => Dt.cells_ren a ρ) (fun v => by simp [cv, SV.ren])
theorem cmap_ok (q : Nat → Bool) (L : MM Dt Cr) : ((mapE Dt.cells cv L).all fun e => e.2.1.ok q && e.2.2.ok q) = true := mapE_ok q L (fun a => Dt.cells_ok a q) (fun v => by simp [cv, SV.ok])
end
end Go.Sl

/-
  Vectors: the plain laws of merged, met, above, covered, put.
-/
set_option linter.unusedSectionVars false
set_option linter.unusedVariables false
set_option linter.unusedSimpArgs false
namespace Go.Sl

theorem Vec.covers_merge (a b : Vec) (d : Dt) : (Vec.zip max a b).covers d = (a.covers d || b.covers d) := by
  by_cases h : d.may = true
  · have hr : d.r < 8 := by simp [Dt.may] at h; exact h.1
    simp only [Vec.covers, h, Vec.zip_get _ _ _ hr, Bool.true_and]
    rw [Bool.eq_iff_iff]; simp; omega
  · simp [Vec.covers, h]
theorem Vec.covers_meet (a b : Vec) (d : Dt) : (Vec.zip min a b).covers d = (a.covers d && b.covers d) := by
  by_cases h : d.may = true
  · have hr : d.r < 8 := by simp [Dt.may] at h; exact h.1
    simp only [Vec.covers, h, Vec.zip_get _ _ _ hr, Bool.true_and]
    rw [Bool.eq_iff_iff]; simp; omega
  · simp [Vec.covers, h]
theorem Vec.covers_above {a b : Vec} (h : a.above b = true) (d : Dt) (hb : b.covers d = true) : a.covers d = true := by
  have h' := Vec.above_iff.1 h
  simp only [Vec.covers, Bool.and_eq_true, decide_eq_true_eq] at *
  have hr : d.r < 8 := by have := hb.1; simp [Dt.may] at this; exact this.1
  exact ⟨hb.1, Nat.le_trans hb.2 (h' _ hr)⟩
theorem Vec.next_ok {v : Vec} {r : Nat} (h : (v.next r).2 = 0) : r < 8 ∧ v.get r ≠ 4294967295 ∧ (v.next r).1 = ⟨r, v.get r + 1⟩ := by
  unfold Vec.next at h ⊢
  by_cases h1 : 8 ≤ r
  · simp [h1] at h
  · by_cases h2 : v.get r = 4294967295
    · simp [h1, h2] at h
    · simp [h1, h2]; omega
theorem Vec.put_next {v : Vec} {r : Nat} (hr : r < 8) : v.put ⟨r, v.get r + 1⟩ = (v.set r (v.get r + 1), 0) := by
  simp [Vec.put, Dt.may, hr]
theorem Vec.covers_not_next {v : Vec} {r : Nat} (hr : r < 8) : v.covers ⟨r, v.get r + 1⟩ = false := by
  simp [Vec.covers, Dt.may, hr]
theorem Vec.covers_put {v : Vec} {r : Nat} (hr : r < 8) (d : Dt) : (v.set r (v.get r + 1)).covers d = (decide (d = ⟨r, v.get r + 1⟩) || v.covers d) := by
  by_cases h : d.may = true
  · have h8 : d.r < 8 := by simp [Dt.may] at h; exact h.1
    simp only [Vec.covers, h, Vec.set_get _ _ _ h8, Bool.true_and]
    obtain ⟨dr, dn⟩ := d
    rw [Bool.eq_iff_iff]
    by_cases e : dr = r
    · subst e; simp; omega
    · simp [e]
  · have : decide (d = ⟨r, v.get r + 1⟩) = false := by
      simp only [decide_eq_false_iff_not]; intro e; subst e; simp [Dt.may, hr] at h
    simp [Vec.covers, h, this]
theorem Vec.covers_put_next {v : Vec} {r : Nat} (hr : r < 8) : (v.set r (v.get r + 1)).covers ⟨r, v.get r + 1⟩ = true := by simp [Vec.covers_put hr]
theorem Vec.above_put (v : Vec) {r : Nat} (hr : r < 8) : (v.set r (v.get r + 1)).above v = true :=
  Vec.above_iff.2 fun q hq => by rw [Vec.set_get _ _ _ hq]; split <;> simp_all
theorem Vec.count_put (v : Vec) {r : Nat} (hr : r < 8) : (v.set r (v.get r + 1)).count = v.count + 1 := by
  match r, hr with
  | 0, _ => simp [Vec.count, Vec.set, Vec.of, Vec.get]; omega
  | 1, _ => simp [Vec.count, Vec.set, Vec.of, Vec.get]; omega
  | 2, _ => simp [Vec.count, Vec.set, Vec.of, Vec.get]; omega
  | 3, _ => simp [Vec.count, Vec.set, Vec.of, Vec.get]; omega
  | 4, _ => simp [Vec.count, Vec.set, Vec.of, Vec.get]; omega
  | 5, _ => simp [Vec.count, Vec.set, Vec.of, Vec.get]; omega
  | 6, _ => simp [Vec.count, Vec.set, Vec.of, Vec.get]; omega
  | 7, _ => simp [Vec.count, Vec.set, Vec.of, Vec.get]; omega
theorem Vec.merge_comm (a b : Vec) : Vec.zip max b a = Vec.zip max a b := Vec.ext' fun r hr => by rw [Vec.zip_get _ _ _ hr, Vec.zip_get _ _ _ hr]; omega
theorem Vec.meet_comm (a b : Vec) : Vec.zip min b a = Vec.zip min a b := Vec.ext' fun r hr => by rw [Vec.zip_get _ _ _ hr, Vec.zip_get _ _ _ hr]; omega
theorem Vec.merge_above (a b : Vec) : (Vec.zip max a b).above a = true := Vec.above_iff.2 fun r hr => by rw [Vec.zip_get _ _ _ hr]; omega
theorem Vec.merge_above' (a b : Vec) : (Vec.zip max a b).above b = true := Vec.above_iff.2 fun r hr => by rw [Vec.zip_get _ _ _ hr]; omega
theorem Vec.meet_below (a b : Vec) : a.above (Vec.zip min a b) = true := Vec.above_iff.2 fun r hr => by rw [Vec.zip_get _ _ _ hr]; omega
theorem Vec.meet_below' (a b : Vec) : b.above (Vec.zip min a b) = true := Vec.above_iff.2 fun r hr => by rw [Vec.zip_get _ _ _ hr]; omega
theorem Vec.absorb (a b : Vec) : Vec.zip max a (Vec.zip min a b) = a := Vec.ext' fun r hr => by rw [Vec.zip_get _ _ _ hr, Vec.zip_get _ _ _ hr]; omega
theorem Vec.absorb' (a b : Vec) : Vec.zip min a (Vec.zip max a b) = a := Vec.ext' fun r hr => by rw [Vec.zip_get _ _ _ hr, Vec.zip_get _ _ _ hr]; omega
theorem Vec.merge_least {a b c : Vec} (h1 : c.above a = true) (h2 : c.above b = true) : c.above (Vec.zip max a b) = true := by
  rw [Vec.above_iff] at *
  intro r hr; rw [Vec.zip_get _ _ _ hr]; have := h1 r hr; have := h2 r hr; omega
theorem Vec.meet_great {a b c : Vec} (h1 : a.above c = true) (h2 : b.above c = true) : (Vec.zip min a b).above c = true := by
  rw [Vec.above_iff] at *
  intro r hr; rw [Vec.zip_get _ _ _ hr]; have := h1 r hr; have := h2 r hr; omega
theorem Vec.merge_assoc (a b c : Vec) : Vec.zip max a (Vec.zip max b c) = Vec.zip max (Vec.zip max a b) c := Vec.ext' fun r hr => by
  rw [Vec.zip_get _ _ _ hr, Vec.zip_get _ _ _ hr, Vec.zip_get _ _ _ hr, Vec.zip_get _ _ _ hr]; omega
theorem Vec.all3 (op : Nat → Nat → Nat) (a b c : Vec) : Vec.all op [a, b, c] = Vec.zip op (Vec.zip op a b) c := rfl

/-! ### dots put onto a vector, one by one -/
/-- Each dot of the list is the next one of what the vector has become. -/
def Runs (a b : Vec) : Vec → List Dt → Vec → Prop
  | v, [], w => v = w
  | v, d :: l, w => d.r < 8 ∧ d.n = v.get d.r + 1 ∧ a.get d.r < d.n ∧ d.n ≤ b.get d.r ∧ Runs a b (v.set d.r d.n) l w
theorem Runs.append {a b : Vec} : ∀ {l m : List Dt} {u v w : Vec}, Runs a b u l v → Runs a b v m w → Runs a b u (l ++ m) w
  | [], m, u, v, w, h1, h2 => by simp only [Runs] at h1; subst h1; exact h2
  | d :: l, m, u, v, w, h1, h2 => by
    simp only [Runs, List.cons_append] at h1 ⊢
    exact ⟨h1.1, h1.2.1, h1.2.2.1, h1.2.2.2.1, Runs.append h1.2.2.2.2 h2⟩
theorem rangeD_cons (r x n : Nat) : rangeD r x (n + 1) = ⟨r, x⟩ :: rangeD r (x + 1) n := by
  simp only [rangeD, List.range_succ_eq_map, List.map_cons, List.map_map, Nat.add_zero, List.cons.injEq, true_and]
  apply List.map_congr_left
  intro i _
  simp; omega
theorem Vec.set_set (v : Vec) (i x y : Nat) : (v.set i x).set i y = v.set i y := Vec.ext' fun r hr => by
  simp only [Vec.set_get _ _ _ hr]; split <;> rfl
theorem Runs.range {a b : Vec} {r : Nat} (hr : r < 8) : ∀ (n : Nat) (v : Vec), a.get r ≤ v.get r → v.get r + n ≤ b.get r → Runs a b v (rangeD r (v.get r + 1) n) (if n = 0 then v else v.set r (v.get r + n))
  | 0, v, _, _ => by simp [rangeD_zero, Runs]
  | n + 1, v, h1, h2 => by
    rw [rangeD_cons]
    simp only [Runs]
    refine ⟨hr, trivial, by omega, by omega, ?_⟩
    have hg : (v.set r (v.get r + 1)).get r = v.get r + 1 := by rw [Vec.set_get _ _ _ hr]; simp
    have ih := Runs.range (a := a) (b := b) hr n (v.set r (v.get r + 1)) (by omega) (by omega)
    rw [hg] at ih
    have e : (if n = 0 then v.set r (v.get r + 1) else (v.set r (v.get r + 1)).set r (v.get r + 1 + n)) = (if n + 1 = 0 then v else v.set r (v.get r + (n + 1))) := by
      by_cases h : n = 0
      · subst h; simp
      · simp only [h, if_false, Vec.set_set, Nat.succ_ne_zero]; congr 1; omega
    rw [e] at ih
    exact ih
theorem Runs.lackTo (a b : Vec) : ∀ i, i ≤ 8 → Runs a b a (Go.Sl.lackTo a b i) (Vec.upto i (Vec.zip max a b) a)
  | 0, _ => by simp only [Go.Sl.lackTo, Runs, Vec.upto_zero]
  | i + 1, hi => by
    rw [lackTo_succ]
    have hi' : i < 8 := by omega
    have hg : (Vec.upto i (Vec.zip max a b) a).get i = a.get i := Vec.upto_here _ _ hi'
    have h2 := Runs.range (a := a) (b := b) hi' (b.get i - a.get i) (Vec.upto i (Vec.zip max a b) a) (by omega)
    by_cases hc : b.get i ≤ a.get i
    · rw [show b.get i - a.get i = 0 by omega, rangeD_zero, List.append_nil]
      have : Vec.upto (i + 1) (Vec.zip max a b) a = Vec.upto i (Vec.zip max a b) a := Vec.ext' fun r hr => by
        simp only [Vec.upto_get _ _ _ hr]
        by_cases e : r = i
        · subst e; simp [Vec.zip_get _ _ _ hr]; omega
        · by_cases e2 : r < i
          · simp [e2, show r < i + 1 by omega]
          · simp [e2, show ¬ r < i + 1 by omega]
      rw [this]
      exact Runs.lackTo a b i (by omega)
    · have h2 := h2 (by omega)
      rw [if_neg (by omega), hg] at h2
      have : (Vec.upto i (Vec.zip max a b) a).set i (a.get i + (b.get i - a.get i)) = Vec.upto (i + 1) (Vec.zip max a b) a := Vec.ext' fun r hr => by
        simp only [Vec.upto_get _ _ _ hr, Vec.set_get _ _ _ hr]
        by_cases e : r = i
        · subst e; simp [Vec.zip_get _ _ _ hr]; omega
        · by_cases e2 : r < i
          · simp [e, e2, show r < i + 1 by omega]
          · simp [e, e2, show ¬ r < i + 1 by omega]
      rw [this] at h2
      exact (Runs.lackTo a b i (by omega)).append h2
theorem Runs.all (a b : Vec) : Runs a b a (Go.Sl.lackTo a b 8) (Vec.zip max a b) := by
  have := Runs.lackTo a b 8 (Nat.le_refl _)
  rwa [Vec.upto_all] at this
/-- What the vector is behind the first i of them. -/
def puts (v : Vec) : List Dt → Vec
  | [] => v
  | d :: l => puts (v.set d.r d.n) l
theorem puts_append (v : Vec) : ∀ (l m : List Dt), puts v (l ++ m) = puts (puts v l) m := by
  intro l
  induction l generalizing v with
  | nil => intro m; rfl
  | cons d l ih => intro m; exact ih _ m
theorem Runs.puts_eq {a b : Vec} : ∀ {l : List Dt} {v w : Vec}, Runs a b v l w → puts v l = w
  | [], v, w, h => h
  | d :: l, v, w, h => Runs.puts_eq (l := l) h.2.2.2.2
theorem Runs.at {a b : Vec} : ∀ {l : List Dt} {v w : Vec}, Runs a b v l w → ∀ {i : Nat} {d : Dt}, l[i]? = some d → d.r < 8 ∧ d.n = (puts v (l.take i)).get d.r + 1 ∧ a.get d.r < d.n ∧ d.n ≤ b.get d.r
  | [], v, w, h, i, d, hi => by simp at hi
  | x :: l, v, w, h, 0, d, hi => by
    simp at hi; subst hi
    exact ⟨h.1, by simpa [puts] using h.2.1, h.2.2.1, h.2.2.2.1⟩
  | x :: l, v, w, h, i + 1, d, hi => by
    have := Runs.at (l := l) h.2.2.2.2 (i := i) (d := d) (by simpa using hi)
    simpa [puts] using this
theorem puts_wf : ∀ {l : List Dt} {v : Vec}, v.wf → (∀ d ∈ l, d.n < 4294967296) → (puts v l).wf
  | [], v, h, _ => h
  | d :: l, v, h, hl => puts_wf (l := l) (Vec.set_wf h (hl d (by simp))) fun x hx => hl x (by simp [hx])

/-! ### what an argument reads as -/
theorem fit_int {P : Program} {d : Nat} {t : TypeId} {k : IntKind} {ds : List DV} (ht : P.underlying t = some (.int k)) (h : Fit P (d + 1) t ds) : ∃ n, ds = [.int k n] ∧ (Lit.int k n).wf = true := by
  rw [Fit, ht] at h
  exact h
theorem wf_u32 {n : Int} (h : (Lit.int .u32 n).wf = true) : ∃ m : Nat, n = (m : Int) ∧ m < 4294967296 := by
  simp [Lit.wf, IntKind.min, IntKind.max, IntKind.signed, IntKind.bits] at h
  exact ⟨n.toNat, by omega, by omega⟩
theorem wf_u64 {n : Int} (h : (Lit.int .u64 n).wf = true) : ∃ m : Nat, n = (m : Int) ∧ m < 18446744073709551616 := by
  simp [Lit.wf, IntKind.min, IntKind.max, IntKind.signed, IntKind.bits] at h
  exact ⟨n.toNat, by omega, by omega⟩
theorem wf_u8 {n : Int} (h : (Lit.int .u8 n).wf = true) : ∃ m : Nat, n = (m : Int) ∧ m < 256 := by
  simp [Lit.wf, IntKind.min, IntKind.max, IntKind.signed, IntKind.bits] at h
  exact ⟨n.toNat, by omega, by omega⟩
theorem wf_i64 {n : Int} (h : (Lit.int .i64 n).wf = true) : -9223372036854775808 ≤ n ∧ n < 9223372036854775808 := by
  simp [Lit.wf, IntKind.min, IntKind.max, IntKind.signed, IntKind.bits] at h
  omega
theorem fit_u32 {P : Program} {d : Nat} {t : TypeId} {ds : List DV} (ht : P.underlying t = some (.int .u32)) (h : Fit P (d + 1) t ds) : ∃ m : Nat, m < 4294967296 ∧ ds = [.int .u32 m] := by
  obtain ⟨n, rfl, hw⟩ := fit_int ht h
  obtain ⟨m, rfl, hm⟩ := wf_u32 hw
  exact ⟨m, hm, rfl⟩
theorem fit_u64 {P : Program} {d : Nat} {t : TypeId} {ds : List DV} (ht : P.underlying t = some (.int .u64)) (h : Fit P (d + 1) t ds) : ∃ m : Nat, m < 18446744073709551616 ∧ ds = [.int .u64 m] := by
  obtain ⟨n, rfl, hw⟩ := fit_int ht h
  obtain ⟨m, rfl, hm⟩ := wf_u64 hw
  exact ⟨m, hm, rfl⟩
theorem fit_u8 {P : Program} {d : Nat} {t : TypeId} {ds : List DV} (ht : P.underlying t = some (.int .u8)) (h : Fit P (d + 1) t ds) : ∃ m : Nat, m < 256 ∧ ds = [.int .u8 m] := by
  obtain ⟨n, rfl, hw⟩ := fit_int ht h
  obtain ⟨m, rfl, hm⟩ := wf_u8 hw
  exact ⟨m, hm, rfl⟩
theorem fit_i64 {P : Program} {d : Nat} {t : TypeId} {ds : List DV} (ht : P.underlying t = some (.int .i64)) (h : Fit P (d + 1) t ds) : ∃ n : Int, (-9223372036854775808 ≤ n ∧ n < 9223372036854775808) ∧ ds = [.int .i64 n] := by
  obtain ⟨n, rfl, hw⟩ := fit_int ht h
  exact ⟨n, wf_i64 hw, rfl⟩
theorem fit_bool {P : Program} {d : Nat} {t : TypeId} {ds : List DV} (ht : P.underlying t = some .bool) (h : Fit P (d + 1) t ds) : ∃ b : Bool, ds = [.bool b] := by
  rw [Fit, ht] at h
  exact h
theorem one_at {ds : List DV} {o : Nat} {x : DV} (h : (ds.drop o).take 1 = [x]) : ds[o]? = some x := by
  have := congrArg (·[0]?) h
  simpa [List.getElem?_take] using this
theorem fit_vec {P : Program} {d : Nat} {t e : TypeId} {ds : List DV} (ht : P.underlying t = some (.array 8 e)) (he : P.underlying e = some (.int .u32)) (hc : P.cellsOf t = 8) (hce : P.cellsOf e = 1) (h : Fit P (d + 2) t ds) : ∃ v : Vec, v.wf ∧ ds = v.ds := by
  rw [Fit, ht] at h
  dsimp only at h
  obtain ⟨hl, hi⟩ := h
  rw [hc] at hl
  rw [hce] at hi
  have key : ∀ i, i < 8 → ∃ m : Nat, m < 4294967296 ∧ ds[i]? = some (.int .u32 m) := fun i hlt => by
    obtain ⟨m, hm, e1⟩ := fit_u32 (d := d) he (hi i hlt)
    exact ⟨m, hm, one_at (by simpa using e1)⟩
  obtain ⟨m0, h0, e0⟩ := key 0 (by omega)
  obtain ⟨m1, h1, e1⟩ := key 1 (by omega)
  obtain ⟨m2, h2, e2⟩ := key 2 (by omega)
  obtain ⟨m3, h3, e3⟩ := key 3 (by omega)
  obtain ⟨m4, h4, e4⟩ := key 4 (by omega)
  obtain ⟨m5, h5, e5⟩ := key 5 (by omega)
  obtain ⟨m6, h6, e6⟩ := key 6 (by omega)
  obtain ⟨m7, h7, e7⟩ := key 7 (by omega)
  refine ⟨⟨m0, m1, m2, m3, m4, m5, m6, m7⟩, fun r hr => ?_, List.ext_getElem? fun i => ?_⟩
  · match r, hr with
    | 0, _ => exact h0
    | 1, _ => exact h1
    | 2, _ => exact h2
    | 3, _ => exact h3
    | 4, _ => exact h4
    | 5, _ => exact h5
    | 6, _ => exact h6
    | 7, _ => exact h7
  · match i with
    | 0 => rw [e0]; rfl
    | 1 => rw [e1]; rfl
    | 2 => rw [e2]; rfl
    | 3 => rw [e3]; rfl
    | 4 => rw [e4]; rfl
    | 5 => rw [e5]; rfl
    | 6 => rw [e6]; rfl
    | 7 => rw [e7]; rfl
    | i + 8 => rw [List.getElem?_eq_none (by omega), List.getElem?_eq_none (by simp [Vec.ds])]
/-- A part of a struct's cells. -/
theorem fit_field {P : Program} {d : Nat} {t : TypeId} {fs : Array Field} {ds : List DV} (ht : P.underlying t = some (.struct fs)) (h : Fit P (d + 1) t ds) (i : Nat) (f : Field) (hf : fs[i]? = some f) :
    Fit P d f.type ((ds.drop f.offset).take (P.cellsOf f.type)) := by
  rw [Fit, ht] at h
  dsimp only at h
  exact h.2 f (by simpa using Array.mem_of_getElem? hf)
theorem fit_len {P : Program} {d : Nat} {t : TypeId} {fs : Array Field} {ds : List DV} (ht : P.underlying t = some (.struct fs)) (h : Fit P (d + 1) t ds) : ds.length = P.cellsOf t := by
  rw [Fit, ht] at h
  dsimp only at h
  exact h.1
theorem fit_dot {P : Program} {d : Nat} {t : TypeId} {fs : Array Field} {fR fN : Field} {ds : List DV} (ht : P.underlying t = some (.struct fs)) (h0 : fs[0]? = some fR) (h1 : fs[1]? = some fN) (o0 : fR.offset = 0) (o1 : fN.offset = 1)
    (t0 : P.underlying fR.type = some (.int .u8)) (t1 : P.underlying fN.type = some (.int .u32)) (hc : P.cellsOf t = 2) (c0 : P.cellsOf fR.type = 1) (c1 : P.cellsOf fN.type = 1) (h : Fit P (d + 2) t ds) : ∃ x : Dt, x.wf ∧ ds = x.ds := by
  have f0 := fit_field ht h 0 fR h0
  have f1 := fit_field ht h 1 fN h1
  have hl := fit_len ht h
  rw [hc] at hl
  rw [o0, c0] at f0
  rw [o1, c1] at f1
  obtain ⟨a, ha, ea⟩ := fit_u8 t0 f0
  obtain ⟨b, hb, eb⟩ := fit_u32 t1 f1
  have ea := one_at ea
  have eb := one_at eb
  refine ⟨⟨a, b⟩, ⟨ha, hb⟩, List.ext_getElem? fun i => ?_⟩
  match i with
  | 0 => rw [ea]; rfl
  | 1 => rw [eb]; rfl
  | i + 2 => rw [List.getElem?_eq_none (by omega), List.getElem?_eq_none (by simp)]
/-- A slice of things of sz cells each. -/
theorem fit_slice {P : Program} {d : Nat} {t e : TypeId} {ds : List DV} {α : Type} (f : α → List DV) (ok : α → Prop) (ht : P.underlying t = some (.slice e)) (hp : ∀ ds, Fit P d e ds → ∃ x, ok x ∧ ds = f x)
    (h : Fit P (d + 1) t ds) : (ds = [.nils]) ∨ ∃ l : List α, (∀ x ∈ l, ok x) ∧ l.length ≤ 9223372036854775807 ∧ ds = [.sl l.length (l.flatMap f)] := by
  rw [Fit, ht] at h
  dsimp only at h
  rcases h with h | ⟨n, cs, rfl, hn, hl, hi⟩
  · exact .inl h
  · refine .inr ?_
    have key : ∀ k, k ≤ n → ∃ l : List α, (∀ x ∈ l, ok x) ∧ l.length = k ∧ cs.take (k * P.cellsOf e) = l.flatMap f := by
      intro k
      induction k with
      | zero => intro _; exact ⟨[], by simp, rfl, by simp⟩
      | succ k ih =>
        intro hk
        obtain ⟨l, a1, a2, a3⟩ := ih (by omega)
        obtain ⟨x, b1, b2⟩ := hp _ (hi k hk)
        refine ⟨l ++ [x], fun y hy => ?_, by simp [a2], ?_⟩
        · rcases List.mem_append.1 hy with h | h
          · exact a1 y h
          · simp at h; subst h; exact b1
        · rw [Nat.succ_mul, List.take_add, a3, b2]; simp
    obtain ⟨l, a1, a2, a3⟩ := key n (Nat.le_refl _)
    rw [List.take_of_length_le (by omega)] at a3
    exact ⟨l, a1, by omega, by rw [a2, a3]⟩
end Go.Sl

/-
  Operations' forms, histories and their order: what the document asks for, in plain Lean.
-/
set_option linter.unusedSectionVars false
set_option linter.unusedVariables false
set_option linter.unusedSimpArgs false
namespace Go.Sl
open Go.RowKit

/-! ### a submit's lines -/
/-- A claim of a submit. -/
structure Cm where
  line : Dt
  ver : Dt
  deriving DecidableEq
def Cm.ds (x : Cm) : List DV := x.line.ds ++ x.ver.ds
theorem Cm.ds_len (x : Cm) : x.ds.length = 4 := rfl
def Cm.wf (x : Cm) : Prop := x.line.wf ∧ x.ver.wf
@[simp] theorem cms_len (l : List Cm) : (l.flatMap Cm.ds).length = l.length * 4 := flat_length Cm.ds 4 (fun _ => rfl) l
def cmsGo : List DV → List Cm
  | .int _ a :: .int _ b :: .int _ c :: .int _ d :: r => ⟨⟨a.toNat, b.toNat⟩, ⟨c.toNat, d.toNat⟩⟩ :: cmsGo r
  | _ => []
theorem cmsGo_flat : ∀ l : List Cm, cmsGo (l.flatMap Cm.ds) = l
  | [] => rfl
  | x :: l => by
    have := cmsGo_flat l
    show cmsGo (.int .u8 x.line.r :: .int .u32 x.line.n :: .int .u8 x.ver.r :: .int .u32 x.ver.n :: l.flatMap Cm.ds) = _
    rw [cmsGo, this]
    rfl
/-- The claims that an operation's lines are. -/
def cmsOf : DV → List Cm
  | .sl _ cs => cmsGo cs
  | _ => []
theorem cmsOf_sl (n : Nat) (l : List Cm) : cmsOf (.sl n (l.flatMap Cm.ds)) = l := cmsGo_flat l
def OpD.cl (o : OpD) : List Cm := cmsOf o.lines
/-- An operation whose lines are a row of claims. -/
structure OpD.lin (o : OpD) : Prop where
  eq : o.lines = .sl o.cl.length (o.cl.flatMap Cm.ds)
  le : o.cl.length ≤ 9223372036854775807
theorem OpD.lin.of {o : OpD} {l : List Cm} (h : o.lines = .sl l.length (l.flatMap Cm.ds)) (hl : l.length ≤ 9223372036854775807) : o.lin ∧ o.cl = l := by
  have e : o.cl = l := by unfold OpD.cl; rw [h]; exact cmsOf_sl _ _
  exact ⟨⟨by rw [e]; exact h, by rw [e]; exact hl⟩, e⟩

/-! ### forms -/
/-- The letters of a kind's fields. -/
def hasS : List (List Nat) := [[], [99, 116, 114, 100, 112], [99, 97], [99, 105, 113, 101], [99, 97, 113], [99, 97], [99, 97, 118], [99, 97, 118], [99, 108]]
def hasK (kind : Nat) : List Nat := (hasS[kind]?).getD []
/-- What a kind does not have is zero; nl: how many lines. -/
def zeroV (s : List Nat) (o : OpD) (nl : Nat) : Bool := (((((((((((decide (99 ∈ s) || decide (o.cred = (⟨0, 0⟩ : Dt))) && (decide (116 ∈ s) || ((o.to : Int) == 0))) && (decide (114 ∈ s) || ((o.roles : Int) == 0))) && (decide (100 ∈ s) || ((o.depth : Int) == 0))) && (decide (112 ∈ s) || ((o.cap : Int) == 0))) && (decide (97 ∈ s) || decide (o.at_ = (⟨0, 0⟩ : Dt)))) && (decide (118 ∈ s) || decide (o.ver = (⟨0, 0⟩ : Dt)))) && (decide (105 ∈ s) || ((o.item : Int) == 0))) && (decide (113 ∈ s) || ((o.qty : Int) == 0))) && (decide (101 ∈ s) || ((o.price : Int) == 0))) && (decide (108 ∈ s) || ((nl : Int) == 0)))
/-- May a claim stand behind others? -/
def okL (o : OpD) (x : Cm) (pre : List Cm) : Bool := o.dep.covers x.line && o.dep.covers x.ver && pre.all fun y => !decide (y.line = x.line)
def okAt (o : OpD) (cl : List Cm) (i : Nat) : Bool := match cl[i]? with
  | some x => okL o x (cl.take i)
  | none => true
def linesV (o : OpD) (cl : List Cm) : Bool := decide (1 ≤ cl.length ∧ cl.length ≤ 16) && (List.range cl.length).all (okAt o cl)
/-- An operation's form is right, of n replicas. -/
structure Form (n : Nat) (o : OpD) : Prop where
  r : o.dot.r < n
  pos : 0 < o.dot.n
  own : o.dep.get o.dot.r + 1 = o.dot.n
  t1 : 1 ≤ o.time
  t2 : o.time ≤ 281474976710656
  who : 0 < o.who
  kind : o.kind ≤ 8
  zero : zeroV (hasK o.kind) o o.cl.length = true
  far : ∀ r, n ≤ r → r < 8 → o.dep.get r = 0
  gen : o.kind = 0 → o.cart = o.dot
  cart : o.kind ≠ 0 → o.dep.covers o.cart = true
  cred : 99 ∈ hasK o.kind → o.dep.covers o.cred = true
  at_ : 97 ∈ hasK o.kind → o.dep.covers o.at_ = true
  ver : 118 ∈ hasK o.kind → o.dep.covers o.ver = true
  grant : 116 ∈ hasK o.kind → 0 < o.to ∧ 1 ≤ o.roles ∧ o.roles ≤ 7 ∧ o.depth ≤ 7 ∧ o.cap ≤ 1099511627776
  qty : 113 ∈ hasK o.kind → 1 ≤ o.qty ∧ o.qty ≤ 65535
  price : o.price ≤ 16777215
  lines : 108 ∈ hasK o.kind → linesV o o.cl = true
open Classical in
noncomputable def checkV (n : Int) (o : OpD) : Int := if n < 1 ∨ 8 < n then 2 else if Form n.toNat o then 0 else 5
theorem checkV_zero {n : Int} {o : OpD} : checkV n o = 0 ↔ 1 ≤ n ∧ n ≤ 8 ∧ Form n.toNat o := by
  unfold checkV
  by_cases h : n < 1 ∨ 8 < n
  · rw [if_pos h]; constructor
    · intro h; cases h
    · intro hh; omega
  · rw [if_neg h]
    by_cases hf : Form n.toNat o
    · rw [if_pos hf]; exact ⟨fun _ => ⟨by omega, by omega, hf⟩, fun _ => rfl⟩
    · rw [if_neg hf]; exact ⟨fun h => (by cases h), fun h => absurd h.2.2 hf⟩

/-! ### the order -/
/-- Which of two stands ahead. -/
def OpD.lt (a b : OpD) : Bool := decide (a.time < b.time ∨ a.time = b.time ∧ (a.dot.r < b.dot.r ∨ a.dot.r = b.dot.r ∧ a.dot.n < b.dot.n))
theorem OpD.lt_iff {a b : OpD} : a.lt b = true ↔ a.time < b.time ∨ a.time = b.time ∧ (a.dot.r < b.dot.r ∨ a.dot.r = b.dot.r ∧ a.dot.n < b.dot.n) := by simp [OpD.lt]
theorem OpD.lt_irrefl (a : OpD) : a.lt a = false := by rw [Bool.eq_false_iff]; intro h; rw [OpD.lt_iff] at h; omega
theorem OpD.lt_trans {a b c : OpD} (h : a.lt b = true) (k : b.lt c = true) : a.lt c = true := by rw [OpD.lt_iff] at *; omega
theorem OpD.lt_asymm {a b : OpD} (h : a.lt b = true) : b.lt a = false := by rw [Bool.eq_false_iff]; intro k; rw [OpD.lt_iff] at *; omega
theorem OpD.lt_total {a b : OpD} (h : a.dot ≠ b.dot) : a.lt b = true ∨ b.lt a = true := by
  rw [OpD.lt_iff, OpD.lt_iff]
  have : a.dot.r ≠ b.dot.r ∨ a.dot.n ≠ b.dot.n := by
    rcases Nat.decEq a.dot.r b.dot.r with hr | hr
    · exact .inl hr
    · rcases Nat.decEq a.dot.n b.dot.n with hn | hn
      · exact .inr hn
      · exfalso; apply h
        cases ha : a.dot; cases hb : b.dot
        rw [ha, hb] at hr hn
        cases hr; cases hn; rfl
  omega
/-- How two operations stand. -/
def ocmp (a b : OpD) : Int := if a.lt b then -1 else if b.lt a then 1 else 0
theorem ocmp_lt {a b : OpD} : ocmp a b < 0 ↔ a.lt b = true := by
  unfold ocmp
  by_cases h : a.lt b = true
  · simp [h]
  · by_cases k : b.lt a = true <;> simp [h, k]
theorem ocmp_gt {a b : OpD} : 0 < ocmp a b ↔ b.lt a = true := by
  unfold ocmp
  by_cases h : a.lt b = true
  · simp [h, OpD.lt_asymm h]
  · by_cases k : b.lt a = true <;> simp [h, k]
def OpD.le (a b : OpD) : Bool := !b.lt a
theorem OpD.le_iff {a b : OpD} : OpD.le a b = true ↔ a.time < b.time ∨ a.time = b.time ∧ (a.dot.r < b.dot.r ∨ a.dot.r = b.dot.r ∧ a.dot.n ≤ b.dot.n) := by
  unfold OpD.le
  rw [Bool.not_eq_true', Bool.eq_false_iff, ne_eq, OpD.lt_iff]
  omega

/-! ### rows: what is found, the first ones, the order -/
/-- The first operation of a dot. -/
def findO (l : List OpD) (d : Dt) : Option OpD := l.find? fun o => decide (o.dot = d)
/-- How often a dot stands there. -/
def cntO (l : List OpD) (d : Dt) : Nat := l.countP fun o => decide (o.dot = d)
theorem cntO_snoc (l : List OpD) (x : OpD) (d : Dt) : cntO (l ++ [x]) d = if x.dot = d then cntO l d + 1 else cntO l d := by
  unfold cntO
  rw [List.countP_append]
  by_cases h : x.dot = d <;> simp [h]
theorem cntO_pos {l : List OpD} {d : Dt} : 0 < cntO l d ↔ ∃ o, o ∈ l ∧ o.dot = d := by
  unfold cntO
  rw [List.countP_pos_iff]
  simp
theorem findO_some {l : List OpD} {d : Dt} {o : OpD} (h : findO l d = some o) : o ∈ l ∧ o.dot = d := by
  unfold findO at h
  have h2 := List.find?_some h
  simp only [decide_eq_true_eq] at h2
  exact ⟨List.mem_of_find?_eq_some h, h2⟩
theorem findO_none {l : List OpD} {d : Dt} : findO l d = none ↔ ∀ o, o ∈ l → o.dot ≠ d := by
  unfold findO
  rw [List.find?_eq_none]
  simp
theorem findO_isSome {l : List OpD} {d : Dt} : (findO l d).isSome = true ↔ ∃ o, o ∈ l ∧ o.dot = d := by
  cases h : findO l d with
  | none =>
    rw [findO_none] at h
    constructor
    · intro h; cases h
    · rintro ⟨o, ho, e⟩; exact absurd e (h o ho)
  | some o => exact ⟨fun _ => ⟨o, findO_some h⟩, fun _ => rfl⟩
/-- No dot stands there twice. -/
def Uniq (l : List OpD) : Prop := (l.map (·.dot)).Nodup
theorem Uniq.inj {l : List OpD} (h : Uniq l) {a b : OpD} (ha : a ∈ l) (hb : b ∈ l) (e : a.dot = b.dot) : a = b := by
  induction l with
  | nil => cases ha
  | cons x l ih =>
    unfold Uniq at h
    rw [List.map_cons, List.nodup_cons] at h
    rcases List.mem_cons.1 ha with ea | ha'
    · rcases List.mem_cons.1 hb with eb | hb'
      · rw [ea, eb]
      · exact absurd (List.mem_map.2 ⟨b, hb', by rw [← e, ea]⟩) h.1
    · rcases List.mem_cons.1 hb with eb | hb'
      · exact absurd (List.mem_map.2 ⟨a, ha', by rw [e, eb]⟩) h.1
      · exact ih h.2 ha' hb'
theorem Uniq.find {l : List OpD} (h : Uniq l) {o : OpD} (ho : o ∈ l) : findO l o.dot = some o := by
  cases hf : findO l o.dot with
  | none => exact absurd rfl (findO_none.1 hf o ho)
  | some x =>
    obtain ⟨h1, h2⟩ := findO_some hf
    rw [h.inj h1 ho h2]
theorem Uniq.perm {l m : List OpD} (h : Uniq l) (hp : m.Perm l) : Uniq m := (hp.map _).nodup_iff.2 h
theorem Uniq.sub {l m : List OpD} (h : Uniq l) (hs : m.Sublist l) : Uniq m := List.Nodup.sublist (hs.map _) h
theorem Uniq.findPerm {l m : List OpD} (h : Uniq l) (hp : m.Perm l) (d : Dt) : findO m d = findO l d := by
  cases hf : findO l d with
  | none => exact findO_none.2 fun o ho => findO_none.1 hf o (hp.mem_iff.1 ho)
  | some o =>
    obtain ⟨h1, rfl⟩ := findO_some hf
    exact (h.perm hp).find (hp.mem_iff.2 h1)
theorem Uniq.cnt {l : List OpD} (h : ∀ o, o ∈ l → cntO l o.dot = 1) : Uniq l := by
  induction l with
  | nil => exact List.nodup_nil
  | cons x l ih =>
    have hc : ∀ (o : OpD), cntO (x :: l) o.dot = cntO l o.dot + if x.dot = o.dot then 1 else 0 := fun o => by
      unfold cntO; rw [List.countP_cons]; simp
    have h0 : cntO l x.dot = 0 := by
      have := h x (by simp)
      rw [hc] at this; simp at this; exact this
    have hx : ∀ o, o ∈ l → o.dot ≠ x.dot := fun o ho e => by
      have : 0 < cntO l x.dot := cntO_pos.2 ⟨o, ho, e⟩
      omega
    refine List.nodup_cons.2 ⟨fun hm => ?_, ih fun o ho => ?_⟩
    · obtain ⟨o, ho, e⟩ := List.mem_map.1 hm
      exact hx o ho e
    · have := h o (List.mem_cons_of_mem _ ho)
      rw [hc, if_neg fun e => hx o ho e.symm] at this
      omega
theorem Uniq.cnt1 {l : List OpD} (h : Uniq l) {d : Dt} (hd : ∃ o, o ∈ l ∧ o.dot = d) : cntO l d = 1 := by
  induction l with
  | nil => obtain ⟨o, ho, _⟩ := hd; cases ho
  | cons x l ih =>
    unfold Uniq at h
    rw [List.map_cons, List.nodup_cons] at h
    have hc : cntO (x :: l) d = cntO l d + if x.dot = d then 1 else 0 := by unfold cntO; rw [List.countP_cons]; simp
    rw [hc]
    by_cases e : x.dot = d
    · rw [if_pos e]
      have : cntO l d = 0 := by
        rcases Nat.eq_zero_or_pos (cntO l d) with h0 | h0
        · exact h0
        · obtain ⟨o, ho, eo⟩ := cntO_pos.1 h0
          exact absurd (List.mem_map.2 ⟨o, ho, eo.trans e.symm⟩) h.1
      omega
    · rw [if_neg e]
      obtain ⟨o, ho, eo⟩ := hd
      rcases List.mem_cons.1 ho with rfl | ho
      · exact absurd eo e
      · exact ih h.2 ⟨o, ho, eo⟩
/-- The first operation of each dot. -/
def fstO : List OpD → List OpD
  | [] => []
  | x :: l => x :: (fstO l).filter fun o => !decide (o.dot = x.dot)
theorem fstO_mem {l : List OpD} {o : OpD} : o ∈ fstO l ↔ findO l o.dot = some o := by
  induction l with
  | nil => simp [fstO, findO]
  | cons x l ih =>
    simp only [fstO, List.mem_cons, List.mem_filter, ih]
    unfold findO
    rw [List.find?_cons]
    by_cases e : x.dot = o.dot
    · simp only [e, decide_true]
      constructor
      · rintro (rfl | ⟨_, h⟩)
        · rfl
        · simp [e.symm] at h
      · intro h; injection h with h; exact .inl h.symm
    · simp only [e, decide_false]
      constructor
      · rintro (rfl | ⟨h, _⟩)
        · exact absurd rfl e
        · exact h
      · intro h; exact .inr ⟨h, by simp; exact fun h => e h.symm⟩
theorem fstO_uniq : ∀ l : List OpD, Uniq (fstO l)
  | [] => List.nodup_nil
  | x :: l => by
    refine List.nodup_cons.2 ⟨fun hm => ?_, (fstO_uniq l).sub List.filter_sublist⟩
    obtain ⟨o, ho, e⟩ := List.mem_map.1 hm
    simp only [List.mem_filter] at ho
    simp [e] at ho
theorem fstO_snoc (l : List OpD) (x : OpD) : fstO (l ++ [x]) = if (findO l x.dot).isSome then fstO l else fstO l ++ [x] := by
  induction l with
  | nil => rfl
  | cons y l ih =>
    simp only [List.cons_append, fstO, ih]
    have hf : findO (y :: l) x.dot = if y.dot = x.dot then some y else findO l x.dot := by
      unfold findO; rw [List.find?_cons]
      by_cases e : y.dot = x.dot <;> simp [e]
    rw [hf]
    by_cases e : y.dot = x.dot
    · rw [if_pos e]
      by_cases hs : (findO l x.dot).isSome = true
      · rw [if_pos hs]; rfl
      · rw [if_neg hs]
        simp [List.filter_append, e.symm]
    · rw [if_neg e]
      by_cases hs : (findO l x.dot).isSome = true
      · rw [if_pos hs, if_pos hs]
      · rw [if_neg hs, if_neg hs, List.filter_append]
        have : decide (x.dot = y.dot) = false := decide_eq_false fun h => e h.symm
        simp [this]
theorem fstO_sub : ∀ l : List OpD, (fstO l).Sublist l
  | [] => .slnil
  | x :: l => (List.filter_sublist.trans (fstO_sub l)).cons_cons x
theorem Uniq.fst : ∀ {l : List OpD}, Uniq l → fstO l = l
  | [], _ => rfl
  | x :: l, h => by
    unfold Uniq at h
    rw [List.map_cons, List.nodup_cons] at h
    simp only [fstO, Uniq.fst h.2]
    congr 1
    rw [List.filter_eq_self]
    intro o ho
    simp only [Bool.not_eq_true', decide_eq_false_iff_not]
    exact fun e => h.1 (List.mem_map.2 ⟨o, ho, e⟩)
/-- A row that rises in the order. -/
def Rises (l : List OpD) : Prop := l.Pairwise fun a b => a.lt b = true
theorem Rises.unique {l m : List OpD} (h1 : Rises l) (h2 : Rises m) (h : l.Perm m) : l = m :=
  h.eq_of_pairwise (fun a b _ _ h1 h2 => by rw [OpD.lt_asymm h1] at h2; cases h2) h1 h2
def osorted (l : List OpD) : List OpD := l.mergeSort OpD.le
theorem osorted_perm (l : List OpD) : (osorted l).Perm l := List.mergeSort_perm l OpD.le
theorem osorted_le (l : List OpD) : (osorted l).Pairwise fun a b => OpD.le a b = true :=
  List.pairwise_mergeSort (fun a b c h k => by rw [OpD.le_iff] at *; omega) (fun a b => by
    rw [Bool.or_eq_true, OpD.le_iff, OpD.le_iff]; omega) l
theorem osorted_rises {l : List OpD} (h : Uniq l) : Rises (osorted l) := by
  have h1 := osorted_le l
  have h2 : Uniq (osorted l) := h.perm (osorted_perm l)
  unfold Uniq List.Nodup at h2
  rw [List.pairwise_map] at h2
  refine List.Pairwise.imp₂ (fun a b hab hne => ?_) h1 h2
  rcases OpD.lt_total hne with h | h
  · exact h
  · unfold OpD.le at hab; rw [h] at hab; cases hab
/-- A row in the order, each dot once. -/
def osort (l : List OpD) : List OpD := osorted (fstO l)
theorem osort_perm (l : List OpD) : (osort l).Perm (fstO l) := osorted_perm _
theorem osort_rises (l : List OpD) : Rises (osort l) := osorted_rises (fstO_uniq l)
theorem Uniq.sortPerm {l : List OpD} (h : Uniq l) : (osort l).Perm l := by
  have := osort_perm l
  rwa [h.fst] at this
theorem Rises.uniq {l : List OpD} (h : Rises l) (hd : ∀ a b, a ∈ l → b ∈ l → a.dot = b.dot → a = b) : Uniq l := by
  unfold Uniq List.Nodup
  rw [List.pairwise_map]
  refine List.Pairwise.imp_of_mem (fun ha hb hab e => ?_) h
  rw [hd _ _ ha hb e, OpD.lt_irrefl] at hab
  cases hab
theorem osort_of {l s : List OpD} (hr : Rises s) (hp : s.Perm (fstO l)) : s = osort l := hr.unique (osort_rises l) (hp.trans (osort_perm l).symm)
theorem mem_osort {l : List OpD} {o : OpD} : o ∈ osort l ↔ findO l o.dot = some o := by rw [(osort_perm l).mem_iff, fstO_mem]
theorem osort_len (l : List OpD) : (osort l).length ≤ l.length := by rw [(osort_perm l).length_eq]; exact (fstO_sub l).length_le

theorem osort_same {t : List OpD} {x : OpD} (h : (findO t x.dot).isSome = true) : osort (t ++ [x]) = osort t := by
  unfold osort
  rw [fstO_snoc, if_pos h]
theorem findO_osort (t : List OpD) (d : Dt) : findO (osort t) d = findO t d := by
  rw [Uniq.findPerm (fstO_uniq t) (osort_perm t)]
  cases hf : findO t d with
  | none =>
    rw [findO_none] at hf ⊢
    exact fun o ho => hf o ((fstO_sub t).subset ho)
  | some o =>
    obtain ⟨_, rfl⟩ := findO_some hf
    exact (fstO_uniq t).find (fstO_mem.2 hf)
theorem osort_put {t : List OpD} {x : OpD} (hn : findO t x.dot = none) {k : Nat} (h1 : ∀ j y, (osort t)[j]? = some y → k ≤ j → x.lt y = true) (h2 : ∀ y, 0 < k → (osort t)[k - 1]? = some y → x.lt y = false) (hk : k ≤ (osort t).length) :
    osort (t ++ [x]) = (osort t).take k ++ x :: (osort t).drop k := by
  symm
  have hr := osort_rises t
  have hdot : ∀ y, y ∈ osort t → y.dot ≠ x.dot := by
    rw [← findO_osort, findO_none] at hn
    exact hn
  refine osort_of ?_ ?_
  · have hsplit : (osort t).Pairwise fun a b => a.lt b = true := hr
    rw [← List.take_append_drop k (osort t), List.pairwise_append] at hsplit
    obtain ⟨ha, hb, hab⟩ := hsplit
    refine List.pairwise_append.2 ⟨ha, List.pairwise_cons.2 ⟨fun y hy => ?_, hb⟩, fun y hy z hz => ?_⟩
    · obtain ⟨j, hj⟩ := List.mem_iff_getElem?.1 hy
      rw [List.getElem?_drop] at hj
      exact h1 _ y hj (by omega)
    · have hyx : y.lt x = true := by
        obtain ⟨j, hj⟩ := List.mem_iff_getElem?.1 hy
        have hjk : j < k := by
          have := lt_of_get hj
          rw [List.length_take] at this; omega
        rw [List.getElem?_take_of_lt hjk] at hj
        obtain ⟨q, hq⟩ := get_of_lt (show k - 1 < (osort t).length by omega)
        have h3 := h2 q (by omega) hq
        have h4 : x.lt y = false := by
          rcases Nat.lt_or_ge j (k - 1) with h5 | h5
          · have h6 := List.pairwise_iff_getElem.1 hr j (k - 1) (lt_of_get hj) (lt_of_get hq) h5
            rw [List.getElem?_eq_getElem (lt_of_get hj)] at hj
            rw [List.getElem?_eq_getElem (lt_of_get hq)] at hq
            injection hj with hj; injection hq with hq
            rw [hj, hq] at h6
            rw [Bool.eq_false_iff]
            intro h7
            rw [OpD.lt_trans h7 h6] at h3; cases h3
          · have : j = k - 1 := by omega
            subst this
            rw [hj] at hq; injection hq with hq; subst hq; exact h3
        rcases OpD.lt_total (hdot y (List.mem_of_getElem? hj)) with h5 | h5
        · exact h5
        · rw [h5] at h4; cases h4
      rcases List.mem_cons.1 hz with rfl | hz
      · exact hyx
      · obtain ⟨j, hj⟩ := List.mem_iff_getElem?.1 hz
        rw [List.getElem?_drop] at hj
        exact OpD.lt_trans hyx (h1 _ z hj (by omega))
  · rw [fstO_snoc, if_neg (by rw [hn]; simp)]
    refine (List.perm_middle.trans ?_).trans (List.perm_append_comm (l₁ := [x]) (l₂ := fstO t))
    rw [List.take_append_drop]
    exact (osort_perm t).cons x

/-! ### histories -/
/-- Does an operation of a row keep to what a history asks for? -/
structure OneOf (l : List OpD) (o : OpD) : Prop where
  self : cntO l o.dot = 1
  prev : 1 < o.dot.n → cntO l ⟨o.dot.r, o.dot.n - 1⟩ = 1
  deps : ∀ r, r < 8 → 0 < o.dep.get r → cntO l ⟨r, o.dep.get r⟩ = 1
  bef : ∀ a, a ∈ l → a.before o = true → a.time < o.time ∧ o.dep.above a.dep = true
open Classical in
noncomputable def histV (n : Int) (l : List OpD) : Int :=
  if n < 1 ∨ 8 < n then 2 else if ∀ o, o ∈ l → Form n.toNat o then if ∀ o, o ∈ l → OneOf l o then 0 else 9 else 5
structure Hist (n : Int) (l : List OpD) : Prop where
  n1 : 1 ≤ n
  n8 : n ≤ 8
  form : ∀ o, o ∈ l → Form n.toNat o
  one : ∀ o, o ∈ l → OneOf l o
theorem histV_zero {n : Int} {l : List OpD} : histV n l = 0 ↔ Hist n l := by
  unfold histV
  by_cases h : n < 1 ∨ 8 < n
  · rw [if_pos h]; constructor
    · intro h; cases h
    · intro hh; have := hh.n1; have := hh.n8; omega
  · rw [if_neg h]
    by_cases hf : ∀ o, o ∈ l → Form n.toNat o
    · rw [if_pos hf]
      by_cases ho : ∀ o, o ∈ l → OneOf l o
      · rw [if_pos ho]; exact ⟨fun _ => ⟨by omega, by omega, hf, ho⟩, fun _ => rfl⟩
      · rw [if_neg ho]; exact ⟨fun h => (by cases h), fun h => absurd h.one ho⟩
    · rw [if_neg hf]; exact ⟨fun h => (by cases h), fun h => absurd h.form hf⟩
theorem Hist.uniq {n : Int} {l : List OpD} (h : Hist n l) : Uniq l := Uniq.cnt fun o ho => (h.one o ho).self
theorem Hist.lt {n : Int} {l : List OpD} (h : Hist n l) {a o : OpD} (ha : a ∈ l) (ho : o ∈ l) (hb : a.before o = true) : a.lt o = true := by
  rw [OpD.lt_iff]; exact .inl ((h.one o ho).bef a ha hb).1
/-- What an operation knows is there. -/
theorem Hist.there {n : Int} {l : List OpD} (h : Hist n l) {o : OpD} (ho : o ∈ l) {d : Dt} (hd : o.dep.covers d = true) : ∃ a, a ∈ l ∧ a.dot = d := by
  have hd' := hd
  simp only [Vec.covers, Dt.may, Bool.and_eq_true, decide_eq_true_eq] at hd'
  obtain ⟨⟨hr, hn⟩, hle⟩ := hd'
  have h0 : ∃ a, a ∈ l ∧ a.dot = ⟨d.r, o.dep.get d.r⟩ := cntO_pos.1 (by have := (h.one o ho).deps d.r hr (by omega); omega)
  have key : ∀ k, k ≤ o.dep.get d.r - d.n → ∃ a, a ∈ l ∧ a.dot = ⟨d.r, o.dep.get d.r - k⟩ := by
    intro k
    induction k with
    | zero => intro _; exact h0
    | succ k ih =>
      intro hk
      obtain ⟨a, ha, e⟩ := ih (by omega)
      have e1 : a.dot.r = d.r := by rw [e]
      have e2 : a.dot.n = o.dep.get d.r - k := by rw [e]
      have := (h.one a ha).prev (by omega)
      rw [e1, e2] at this
      exact cntO_pos.1 (by rw [show o.dep.get d.r - (k + 1) = o.dep.get d.r - k - 1 by omega]; omega)
  obtain ⟨a, ha, e⟩ := key (o.dep.get d.r - d.n) (Nat.le_refl _)
  refine ⟨a, ha, e.trans ?_⟩
  rw [show o.dep.get d.r - (o.dep.get d.r - d.n) = d.n by omega]
theorem Hist.dot8 {n : Int} {l : List OpD} (h : Hist n l) {o : OpD} (ho : o ∈ l) : o.dot.r < 8 ∧ 0 < o.dot.n := by
  have := h.form o ho
  have h8 := h.n8
  have h1 := h.n1
  have := this.r
  exact ⟨by omega, (h.form o ho).pos⟩
theorem Hist.may {n : Int} {l : List OpD} (h : Hist n l) {o : OpD} (ho : o ∈ l) : o.dot.may = true := by
  have := h.dot8 ho
  simp [Dt.may, this.1, this.2]
end Go.Sl

/-
  Rows whose own rows may be nil: nil held against a row of none.
-/
set_option linter.unusedVariables false
set_option linter.unusedSimpArgs false
set_option linter.unusedSectionVars false
namespace Go.Sl
open Go.RowKit

/-- A nil row as a row of none. -/
def nz : DV → DV
  | .nils => .sl 0 []
  | x => x
theorem RepD.nz {M : Mem} {v : Value} {x : DV} (h : RepD M x v) : RepD M (Go.Sl.nz x) v := by
  cases x with
  | nils => exact h.nils_sl
  | _ => exact h
theorem RepR.nz {M : Mem} {b : Nat} : ∀ (cs : List DV) (o : Nat), RepR M b o cs → RepR M b o (cs.map Go.Sl.nz)
  | [], o, h => by simp [RepR]
  | c :: cs, o, h => by
    simp only [RepR, List.map_cons] at h ⊢
    obtain ⟨⟨u, h1, h2⟩, h3⟩ := h
    exact ⟨⟨u, h1, h2.nz⟩, RepR.nz cs (o + 1) h3⟩
theorem RepD.nzr {M : Mem} {v : Value} {n : Nat} {cs : List DV} (h : RepD M (.sl n cs) v) : RepD M (.sl n (cs.map Go.Sl.nz)) v := by
  simp only [RepD] at h ⊢
  obtain ⟨A, c, h1, h2, h3, h4⟩ := h
  refine ⟨A, c, h1, h2, fun hn => by rw [h3 hn]; rfl, fun hn => ?_⟩
  obtain ⟨b, o, h5, h6⟩ := h4 hn
  exact ⟨b, o, h5, RepR.nz cs o h6⟩
theorem rps_nzr {p : Nat → Prop} {μ : Nat → Nm} {M : Mem} {n : Nat} {cs : List DV} {r r' : List SV} (hr : ∀ vs, Rps p μ M r' vs → Rps p μ M r vs) (vs : List Value) (h : Rps p μ M (.d (.sl n cs) :: r') vs) : Rps p μ M (.d (.sl n (cs.map Go.Sl.nz)) :: r) vs := by
  obtain ⟨u, us, rfl, h1, h2⟩ := Rps.cons_iff.1 h
  exact Rps.cons_iff.2 ⟨u, us, rfl, Rp.d_iff.2 (Rp.d_iff.1 h1).nzr, hr us h2⟩
theorem rps_nil_row {p : Nat → Prop} {μ : Nat → Nm} {M : Mem} {r r' : List SV} (hr : ∀ vs, Rps p μ M r' vs → Rps p μ M r vs) (vs : List Value) (h : Rps p μ M (.d .nils :: r') vs) : Rps p μ M (.d (.sl 0 []) :: r) vs := by
  obtain ⟨u, us, rfl, h1, h2⟩ := Rps.cons_iff.1 h
  exact Rps.cons_iff.2 ⟨u, us, rfl, nils_sl p μ M u h1, hr us h2⟩
theorem rps_keep {p : Nat → Prop} {μ : Nat → Nm} {M : Mem} {x : SV} {r r' : List SV} (hr : ∀ vs, Rps p μ M r' vs → Rps p μ M r vs) (vs : List Value) (h : Rps p μ M (x :: r') vs) : Rps p μ M (x :: r) vs := by
  obtain ⟨u, us, rfl, h1, h2⟩ := Rps.cons_iff.1 h
  exact Rps.cons_iff.2 ⟨u, us, rfl, h1, hr us h2⟩
theorem rps_nzs {p : Nat → Prop} {μ : Nat → Nm} {M : Mem} : ∀ (ds : List DV) (vs : List Value), Rps p μ M (ds.map SV.d) vs → Rps p μ M ((ds.map Go.Sl.nz).map SV.d) vs
  | [], vs, h => h
  | d :: ds, vs, h => by
    obtain ⟨u, us, rfl, h1, h2⟩ := Rps.cons_iff.1 h
    exact Rps.cons_iff.2 ⟨u, us, rfl, Rp.d_iff.2 (Rp.d_iff.1 h1).nz, rps_nzs ds us h2⟩
theorem rps_nza {p : Nat → Prop} {μ : Nat → Nm} {M : Mem} {ds : List DV} {r r' : List SV} (hr : ∀ vs, Rps p μ M r' vs → Rps p μ M r vs) (vs : List Value) (h : Rps p μ M (.agg (ds.map SV.d) :: r') vs) : Rps p μ M (.agg ((ds.map Go.Sl.nz).map SV.d) :: r) vs := by
  obtain ⟨u, us, rfl, h1, h2⟩ := Rps.cons_iff.1 h
  obtain ⟨ws, e, h3⟩ := Rp.agg_iff.1 h1
  exact Rps.cons_iff.2 ⟨_, us, rfl, Rp.agg_iff.2 ⟨ws, e, rps_nzs ds _ h3⟩, hr us h2⟩

/-! ### api.Op -/
def OpD.nz (o : OpD) : OpD := { o with lines := Go.Sl.nz o.lines }
theorem OpD.nz_ds (o : OpD) : o.nz.ds = o.ds.map Go.Sl.nz := rfl
theorem ops_nz (l : List OpD) : ((l.map OpD.nz).flatMap OpD.ds) = (l.flatMap OpD.ds).map Go.Sl.nz := by
  induction l with
  | nil => rfl
  | cons o l ih => simp only [List.map_cons, List.flatMap_cons, List.map_append, ih, OpD.nz_ds]
/-- What an operation's data are of. -/
structure OpD.good (o : OpD) : Prop where
  dot : o.dot.wf
  dep : o.dep.wf
  time : o.time < 18446744073709551616
  who : o.who < 4294967296
  cart : o.cart.wf
  kind : o.kind < 256
  cred : o.cred.wf
  to : o.to < 4294967296
  roles : o.roles < 256
  depth : o.depth < 256
  cap : o.cap < 18446744073709551616
  at_ : o.at_.wf
  ver : o.ver.wf
  item : o.item < 4294967296
  qty : o.qty < 4294967296
  price : o.price < 4294967296
  lines : o.lines = .nils ∨ ∃ n cs, o.lines = .sl n cs ∧ n ≤ 9223372036854775807
theorem OpD.good.nz {o : OpD} (h : o.good) : o.nz.good := ⟨h.dot, h.dep, h.time, h.who, h.cart, h.kind, h.cred, h.to, h.roles, h.depth, h.cap, h.at_, h.ver, h.item, h.qty, h.price, by
  rcases h.lines with e | ⟨n, cs, e, hn⟩
  · exact .inr ⟨0, [], by show Go.Sl.nz o.lines = _; rw [e]; rfl, by omega⟩
  · exact .inr ⟨n, cs, by show Go.Sl.nz o.lines = _; rw [e]; rfl, hn⟩⟩
theorem OpD.good.row {o : OpD} (h : o.good) : ∃ n cs, o.nz.lines = .sl n cs ∧ n ≤ 9223372036854775807 := by
  rcases h.lines with e | ⟨n, cs, e, hn⟩
  · exact ⟨0, [], by show Go.Sl.nz o.lines = _; rw [e]; rfl, by omega⟩
  · exact ⟨n, cs, by show Go.Sl.nz o.lines = _; rw [e]; rfl, hn⟩
/-- A row of cells, cut. -/
theorem cutR {ds x : List DV} {a n b : Nat} (h : (ds.drop a).take n = x) (hb : a + n = b) : ds.drop a = x ++ ds.drop b := by
  rw [← h, ← hb, ← List.drop_drop, List.take_append_drop]
end Go.Sl
