/-
  Maps with flat keys, as rows of entries: what they say, what their operations give.
-/
import Derived.Test.YtdnjkeeiopcipaaSl21
set_option linter.unusedVariables false
set_option linter.unusedSimpArgs false
set_option linter.unusedSectionVars false
namespace Go.Sl
theorem msetS_none (es : List (Nat × SV × SV)) (c : Nat) (k v : SV) : msetS es c k v none = .map (es ++ [(c, k, v)]) (c + 1) := rfl
theorem msetS_some (es : List (Nat × SV × SV)) (c : Nat) (k v : SV) (i : Nat) : msetS es c k v (some i) = .map (es.modify i fun e => (e.1, e.2.1, v)) c := rfl
theorem mdelS_none (es : List (Nat × SV × SV)) (c : Nat) : mdelS es c none = .map es c := rfl
theorem mdelS_some (es : List (Nat × SV × SV)) (c i : Nat) : mdelS es c (some i) = .map (es.eraseIdx i) c := rfl
theorem lookS_none (es : List (Nat × SV × SV)) (z : SV) : lookS es z none = z := rfl
theorem lookS_some (es : List (Nat × SV × SV)) (z : SV) (i : Nat) : lookS es z (some i) = match es[i]? with
  | some e => e.2.2
  | none => z := rfl

section
variable {K V : Type} [DecidableEq K]
/-- A map's entries: when it was laid in, the key, the value. -/
abbrev MM (K V : Type) := List (Nat × K × V)
def MM.idx (L : MM K V) (a : K) : Option Nat := L.findIdx? fun x => decide (a = x.2.1)
def MM.get (L : MM K V) (a : K) : Option V := (L.find? fun x => decide (a = x.2.1)).map (·.2.2)
def MM.has (L : MM K V) (a : K) : Bool := (MM.get L a).isSome
def MM.keys (L : MM K V) : List K := L.map (·.2.1)
def MM.put (L : MM K V) (c : Nat) (a : K) (v : V) : MM K V := match MM.idx L a with
  | some i => L.modify i fun x => (x.1, x.2.1, v)
  | none => L ++ [(c, a, v)]
def MM.clk (L : MM K V) (c : Nat) (a : K) : Nat := if MM.has L a then c else c + 1
def MM.del (L : MM K V) (a : K) : MM K V := match MM.idx L a with
  | some i => L.eraseIdx i
  | none => L
/-- Keys and times once each; times before the clock. -/
structure MM.wf (L : MM K V) (c : Nat) : Prop where
  keys : (MM.keys L).Nodup
  times : (L.map (·.1)).Nodup
  old : ∀ x, x ∈ L → x.1 < c

theorem MM.idx_none {L : MM K V} {a : K} : MM.idx L a = none ↔ MM.get L a = none := by
  unfold MM.idx MM.get
  induction L with
  | nil => simp
  | cons x L ih =>
    simp only [List.findIdx?_cons, List.find?_cons]
    by_cases h : a = x.2.1
    · simp [h]
    · simp only [h, decide_false, Bool.false_eq_true, if_false, Option.map_eq_none_iff] at ih ⊢
      exact ih
theorem MM.idx_isSome {L : MM K V} {a : K} : (MM.idx L a).isSome = MM.has L a := by
  unfold MM.has
  rw [Bool.eq_iff_iff, Option.isSome_iff_ne_none, Option.isSome_iff_ne_none, ne_eq, ne_eq, MM.idx_none]
theorem MM.idx_get : ∀ {L : MM K V} {a : K} {i : Nat}, MM.idx L a = some i → ∃ x, L[i]? = some x ∧ x.2.1 = a ∧ MM.get L a = some x.2.2
  | [], a, i, h => by simp [MM.idx] at h
  | x :: L, a, i, h => by
    unfold MM.idx at h
    unfold MM.get
    simp only [List.findIdx?_cons, List.find?_cons] at h ⊢
    by_cases e : a = x.2.1
    · simp only [e, decide_true, if_true] at h ⊢
      injection h with h; subst h
      exact ⟨x, rfl, rfl, rfl⟩
    · simp only [e, decide_false, Bool.false_eq_true, if_false, Option.map_eq_some_iff] at h ⊢
      obtain ⟨j, hj, rfl⟩ := h
      obtain ⟨y, h1, h2, h3⟩ := MM.idx_get (L := L) (a := a) (i := j) hj
      exact ⟨y, by simpa using h1, h2, by simpa [MM.get] using h3⟩
theorem MM.get_mem : ∀ {L : MM K V} {a : K} {v : V}, MM.get L a = some v → ∃ t, (t, a, v) ∈ L
  | [], a, v, h => by simp [MM.get] at h
  | x :: L, a, v, h => by
    unfold MM.get at h
    simp only [List.find?_cons] at h
    by_cases e : a = x.2.1
    · simp only [e, decide_true, Option.map_some, Option.some.injEq] at h
      refine ⟨x.1, ?_⟩
      subst h
      rw [e]; simp
    · simp only [e, decide_false] at h
      obtain ⟨t, ht⟩ := MM.get_mem (L := L) (a := a) (v := v) h
      exact ⟨t, by simp [ht]⟩
theorem MM.has_iff {L : MM K V} {a : K} : MM.has L a = true ↔ a ∈ MM.keys L := by
  unfold MM.has MM.get MM.keys
  induction L with
  | nil => simp
  | cons x L ih =>
    simp only [List.find?_cons, List.map_cons, List.mem_cons]
    by_cases e : a = x.2.1
    · simp [e]
    · simp only [e, decide_false, false_or]; exact ih
theorem MM.get_of_mem : ∀ {L : MM K V} (h : (MM.keys L).Nodup) {t : Nat} {a : K} {v : V}, (t, a, v) ∈ L → MM.get L a = some v
  | [], _, t, a, v, h => by cases h
  | x :: L, hn, t, a, v, h => by
    unfold MM.get
    simp only [MM.keys, List.map_cons, List.nodup_cons] at hn
    simp only [List.find?_cons]
    rcases List.mem_cons.1 h with rfl | h
    · simp
    · have : a ≠ x.2.1 := fun e => hn.1 (by rw [← e]; exact List.mem_map.2 ⟨_, h, rfl⟩)
      simp only [this, decide_false]
      exact MM.get_of_mem (L := L) hn.2 h

theorem MM.keys_put {L : MM K V} {c : Nat} {a : K} {v : V} : MM.keys (MM.put L c a v) = if MM.has L a then MM.keys L else MM.keys L ++ [a] := by
  unfold MM.put
  rw [← MM.idx_isSome]
  split
  · rename_i i h
    rw [h]
    simp only [Option.isSome_some, if_true, MM.keys]
    apply List.ext_getElem?
    intro j
    simp only [List.getElem?_map, List.getElem?_modify]
    cases L[j]? with
    | none => simp
    | some x => by_cases e : i = j <;> simp [e]
  · rename_i h
    rw [h]; simp [MM.keys]
theorem MM.times_put {L : MM K V} {c : Nat} {a : K} {v : V} : (MM.put L c a v).map (·.1) = if MM.has L a then L.map (·.1) else L.map (·.1) ++ [c] := by
  unfold MM.put
  rw [← MM.idx_isSome]
  split
  · rename_i i h
    rw [h]
    simp only [Option.isSome_some, if_true]
    apply List.ext_getElem?
    intro j
    simp only [List.getElem?_map, List.getElem?_modify]
    cases L[j]? with
    | none => simp
    | some x => by_cases e : i = j <;> simp [e]
  · rename_i h
    rw [h]; simp
theorem MM.has_put {L : MM K V} {c : Nat} {a b : K} {v : V} : MM.has (MM.put L c a v) b = (decide (b = a) || MM.has L b) := by
  rw [Bool.eq_iff_iff, MM.has_iff, MM.keys_put]
  split
  · rename_i h
    simp only [Bool.or_eq_true, decide_eq_true_eq, MM.has_iff]
    refine ⟨.inr, fun h' => ?_⟩
    rcases h' with rfl | h'
    · exact MM.has_iff.1 h
    · exact h'
  · simp only [List.mem_append, List.mem_singleton, Bool.or_eq_true, decide_eq_true_eq, MM.has_iff]
    exact Or.comm
theorem MM.get_put {L : MM K V} {c : Nat} {a b : K} {v : V} : MM.get (MM.put L c a v) b = if b = a then some v else MM.get L b := by
  unfold MM.put
  split
  · rename_i i h
    revert i h
    induction L with
    | nil => intro i h; simp [MM.idx] at h
    | cons x L ih =>
      intro i h
      unfold MM.idx at h
      simp only [List.findIdx?_cons] at h
      by_cases e : a = x.2.1
      · simp only [e, decide_true, if_true] at h
        injection h with h; subst h
        simp only [MM.get, List.modify_zero_cons, List.find?_cons]
        by_cases eb : b = x.2.1
        · simp [eb, e]
        · simp [eb, e]
      · simp only [e, decide_false, Bool.false_eq_true, if_false, Option.map_eq_some_iff] at h
        obtain ⟨j, hj, rfl⟩ := h
        have := ih j hj
        simp only [MM.get, List.modify_succ_cons, List.find?_cons] at this ⊢
        by_cases eb : b = x.2.1
        · simp only [eb, decide_true]
          rw [if_neg (fun h => e h.symm)]
        · simp only [eb, decide_false]
          exact this
  · rename_i h
    have hn := MM.idx_none.1 h
    unfold MM.get at hn ⊢
    rw [List.find?_append]
    by_cases eb : b = a
    · subst eb
      have : List.find? (fun x => decide (b = x.2.1)) L = none := by simpa using hn
      rw [this]; simp
    · simp only [List.find?_cons, eb, decide_false, List.find?_nil, Option.or_none, if_false]
theorem MM.wf_put {L : MM K V} {c : Nat} (h : MM.wf L c) (a : K) (v : V) : MM.wf (MM.put L c a v) (MM.clk L c a) := by
  refine ⟨?_, ?_, fun x hx => ?_⟩
  · rw [MM.keys_put]
    split
    · exact h.keys
    · rename_i hh
      rw [List.nodup_append]
      refine ⟨h.keys, by simp, fun x hx y hy => ?_⟩
      simp only [List.mem_singleton] at hy
      subst hy
      intro e
      subst e
      exact hh (MM.has_iff.2 hx)
  · rw [MM.times_put]
    split
    · exact h.times
    · rw [List.nodup_append]
      refine ⟨h.times, by simp, fun x hx y hy => ?_⟩
      simp only [List.mem_singleton] at hy
      obtain ⟨z, hz, rfl⟩ := List.mem_map.1 hx
      have := h.old z hz
      omega
  · have hm : x.1 ∈ (MM.put L c a v).map (·.1) := List.mem_map.2 ⟨x, hx, rfl⟩
    rw [MM.times_put] at hm
    unfold MM.clk
    split at hm
    · rename_i hh
      obtain ⟨z, hz, e⟩ := List.mem_map.1 hm
      rw [if_pos hh, ← e]
      exact h.old z hz
    · rename_i hh
      rw [if_neg hh]
      rcases List.mem_append.1 hm with hm | hm
      · obtain ⟨z, hz, e⟩ := List.mem_map.1 hm
        have := h.old z hz
        omega
      · simp only [List.mem_singleton] at hm
        omega
theorem MM.wf_nil : MM.wf ([] : MM K V) 0 := ⟨by simp [MM.keys], by simp, by simp⟩
theorem MM.del_filter : ∀ {L : MM K V} (h : (MM.keys L).Nodup) (a : K), MM.del L a = L.filter fun x => decide (a ≠ x.2.1)
  | [], _, a => rfl
  | x :: L, h, a => by
    simp only [MM.keys, List.map_cons, List.nodup_cons] at h
    have ih := MM.del_filter (L := L) h.2 a
    unfold MM.del MM.idx at ih ⊢
    simp only [List.findIdx?_cons, List.filter_cons]
    by_cases e : a = x.2.1
    · subst e
      simp only [decide_true, if_true, List.eraseIdx_zero, List.tail_cons, ne_eq, not_true, decide_false, Bool.false_eq_true, if_false]
      rw [List.filter_eq_self.2]
      intro y hy
      simp only [ne_eq, decide_eq_true_eq]
      intro e
      exact h.1 (by rw [e]; exact List.mem_map.2 ⟨y, hy, rfl⟩)
    · simp only [e, decide_false, Bool.false_eq_true, if_false, ne_eq, not_false_eq_true, decide_true, if_true]
      rw [← ih]
      cases List.findIdx? (fun x => decide (a = x.2.1)) L <;> simp
theorem MM.wf_filter {L : MM K V} {c : Nat} (h : MM.wf L c) (f : Nat × K × V → Bool) : MM.wf (L.filter f) c :=
  ⟨(List.filter_sublist.map _).nodup h.keys, (List.filter_sublist.map _).nodup h.times, fun x hx => h.old x (List.mem_filter.1 hx).1⟩
theorem MM.find_time {L : MM K V} (h : (L.map (·.1)).Nodup) {x : Nat × K × V} (hx : x ∈ L) : L.find? (fun y => y.1 == x.1) = some x := by
  induction L with
  | nil => cases hx
  | cons y L ih =>
    simp only [List.map_cons, List.nodup_cons] at h
    simp only [List.find?_cons]
    rcases List.mem_cons.1 hx with rfl | hx
    · simp
    · have : y.1 ≠ x.1 := fun e => h.1 (by rw [e]; exact List.mem_map.2 ⟨x, hx, rfl⟩)
      rw [show (y.1 == x.1) = false by simpa using this]
      exact ih h.2 hx

theorem map_erase {α β : Type} (f : α → β) : ∀ (l : List α) (i : Nat), (l.map f).eraseIdx i = (l.eraseIdx i).map f
  | [], i => by simp
  | x :: l, 0 => by simp
  | x :: l, i + 1 => by simp [map_erase f l i]

theorem MM.time_inj {L : MM K V} (h : (L.map (·.1)).Nodup) {x y : Nat × K × V} (hx : x ∈ L) (hy : y ∈ L) (e : x.1 = y.1) : x = y := by
  have h1 := MM.find_time h hx
  have h2 := MM.find_time h hy
  rw [e, h2] at h1
  exact (Option.some.inj h1).symm
/-! ### as objects -/
/-- Entries in the machine's form. -/
def mapE (kc : K → List SV) (vs : V → SV) (L : MM K V) : List (Nat × SV × SV) := L.map fun x => (x.1, SV.agg (kc x.2.1), vs x.2.2)
variable {kc : K → List SV} {vs : V → SV}
theorem find_mapE {ks : List Bool} (heq : ∀ a b, csqS ks (kc a) (kc b) = some (decide (a = b))) (a : K) : ∀ (L : MM K V) (i : Nat), findS ks true (.agg (kc a)) (mapE kc vs L) i = some ((MM.idx L a).map (· + i))
  | [], i => by simp [mapE, findS, MM.idx]
  | x :: L, i => by
    have ih := find_mapE heq a L (i + 1)
    have hk : keyOk ks true (.agg (kc x.2.1)) = true := by simp [keyOk, isAggS, SV.cells, heq]
    unfold mapE at ih ⊢
    simp only [List.map_cons, findS, hk, if_true, SV.cells, heq]
    unfold MM.idx at ih ⊢
    simp only [List.findIdx?_cons]
    by_cases e : a = x.2.1
    · simp [e]
    · simp only [e, decide_false, Bool.false_eq_true, if_false]
      rw [ih]
      cases List.findIdx? (fun x => decide (a = x.2.1)) L with
      | none => rfl
      | some j => simp; omega
theorem find_dt (d : Dt) (vs : V → SV) (L : MM Dt V) : findS [true, true] true (.agg d.cells) (mapE Dt.cells vs L) 0 = some (MM.idx L d) := by
  rw [find_mapE Dt.eqb d L 0]; cases MM.idx L d <;> rfl
theorem find_vc (d : Vec) (vs : V → SV) (L : MM Vec V) : findS [true, true, true, true, true, true, true, true] true (.agg d.cells) (mapE Vec.cells vs L) 0 = some (MM.idx L d) := by
  rw [find_mapE Vec.eqb8 d L 0]; cases MM.idx L d <;> rfl
theorem look_mapE (z : V) (L : MM K V) (a : K) : lookS (mapE kc vs L) (vs z) (MM.idx L a) = vs ((MM.get L a).getD z) := by
  cases h : MM.idx L a with
  | none => rw [MM.idx_none.1 h]; rfl
  | some i =>
    obtain ⟨x, h1, h2, h3⟩ := MM.idx_get h
    rw [h3]
    simp [lookS, mapE, h1]
/-- Whole numbers as values. -/
def iv (n : Int) : SV := .d (.int .i64 n)
theorem look_int (L : MM K Int) (a : K) : lookS (mapE kc iv L) (.d (.int .i64 0)) (MM.idx L a) = .d (.int .i64 ((MM.get L a).getD 0)) := look_mapE (vs := iv) 0 L a
theorem mset_mapE (L : MM K V) (c : Nat) (a : K) (v : V) : msetS (mapE kc vs L) c (.agg (kc a)) (vs v) (MM.idx L a) = .map (mapE kc vs (MM.put L c a v)) (MM.clk L c a) := by
  unfold MM.put MM.clk
  rw [← MM.idx_isSome]
  cases h : MM.idx L a with
  | none => simp [msetS, mapE]
  | some i =>
    simp only [msetS, Option.isSome_some, if_true, Ob.map.injEq, and_true, mapE]
    apply List.ext_getElem?
    intro j
    simp only [List.getElem?_map, List.getElem?_modify]
    cases L[j]? with
    | none => simp
    | some x => by_cases e : i = j <;> simp [e]
theorem mset_int (L : MM K Int) (c : Nat) (a : K) (n : Int) : msetS (mapE kc iv L) c (.agg (kc a)) (.d (.int .i64 n)) (MM.idx L a) = .map (mapE kc iv (MM.put L c a n)) (MM.clk L c a) := mset_mapE (vs := iv) L c a n
theorem mdel_mapE (L : MM K V) (c : Nat) (a : K) : mdelS (mapE kc vs L) c (MM.idx L a) = .map (mapE kc vs (MM.del L a)) c := by
  unfold MM.del
  cases h : MM.idx L a with
  | none => rfl
  | some i => simp only [mdelS, mapE, map_erase]
theorem mapE_len (L : MM K V) : (mapE kc vs L).length = L.length := by simp [mapE]
theorem mapE_mem {L : MM K V} {e : Nat × SV × SV} (h : e ∈ mapE kc vs L) : ∃ x, x ∈ L ∧ e = (x.1, SV.agg (kc x.2.1), vs x.2.2) := by
  obtain ⟨x, hx, rfl⟩ := List.mem_map.1 h
  exact ⟨x, hx, rfl⟩
theorem mapE_find {L : MM K V} (h : (L.map (·.1)).Nodup) {x : Nat × K × V} (hx : x ∈ L) : (mapE kc vs L).find? (fun e => e.1 == x.1) = some (x.1, SV.agg (kc x.2.1), vs x.2.2) := by
  unfold mapE
  rw [List.find?_map]
  have := MM.find_time h hx
  simp only [Function.comp_def, this, Option.map_some]
theorem mapE_ren (ρ : Nat → Nat) (L : MM K V) (hk : ∀ a, SV.rens ρ (kc a) = kc a) (hv : ∀ v, (vs v).ren ρ = vs v) : (mapE kc vs L).map (fun e => (e.1, e.2.1.ren ρ, e.2.2.ren ρ)) = mapE kc vs L := by
  unfold mapE
  rw [List.map_map]
  refine List.map_congr_left fun x _ => ?_
  simp [SV.ren, hk, hv]
theorem mapE_ok (q : Nat → Bool) (L : MM K V) (hk : ∀ a, SV.oks q (kc a) = true) (hv : ∀ v, (vs v).ok q = true) : ((mapE kc vs L).all fun e => e.2.1.ok q && e.2.2.ok q) = true := by
  unfold mapE
  simp [SV.ok, hk, hv]
end
theorem iv_ren (ρ : Nat → Nat) (n : Int) : (iv n).ren ρ = iv n := rfl
theorem iv_ok (q : Nat → Bool) (n : Int) : (iv n).ok q = true := rfl
abbrev DMap := MM Dt Int
theorem dmap_ren (ρ : Nat → Nat) (L : DMap) : (mapE Dt.cells iv L).map (fun e => (e.1, e.2.1.ren ρ, e.2.2.ren ρ)) = mapE Dt.cells iv L := mapE_ren ρ L (fun a => Dt.cells_ren a ρ) (iv_ren ρ)
theorem dmap_ok (q : Nat → Bool) (L : DMap) : ((mapE Dt.cells iv L).all fun e => e.2.1.ok q && e.2.2.ok q) = true := mapE_ok q L (fun a => Dt.cells_ok a q) (iv_ok q)
theorem vmap_ren (ρ : Nat → Nat) (L : MM Vec Int) : (mapE Vec.cells iv L).map (fun e => (e.1, e.2.1.ren ρ, e.2.2.ren ρ)) = mapE Vec.cells iv L := mapE_ren ρ L (fun a => Vec.cells_ren a ρ) (iv_ren ρ)
theorem vmap_ok (q : Nat → Bool) (L : MM Vec Int) : ((mapE Vec.cells iv L).all fun e => e.2.1.ok q && e.2.2.ok q) = true := mapE_ok q L (fun a => Vec.cells_ok a q) (iv_ok q)
end Go.Sl
