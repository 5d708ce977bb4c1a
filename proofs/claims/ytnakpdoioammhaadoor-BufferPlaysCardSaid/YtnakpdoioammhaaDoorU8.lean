/-
  Maps with flat keys, as rows of entries: what they say, what their operations give.
-/
import Derived.Test.YtnakpdoioammhaaDoorU7
set_option linter.unusedVariables false
set_option linter.unusedSimpArgs false
set_option linter.unusedSectionVars false
namespace Go.Sl
theorem msetS_none (es : List (Nat × SV × SV)) (c : Nat) (k v : SV) : msetS es c k v none = .map (es ++ [(c, k, v)]) (c + 1) := rfl
theorem msetS_some (es : List (Nat × SV × SV)) (c : Nat) (k v : SV) (i : Nat) : msetS es c k v (some i) = .map (es.modify i fun e => (e.1, e.2.1, v)) c := rfl
theorem mdelS_none (es : List (Nat × SV × SV)) (c : Nat) : mdelS es c none = .map es c := rfl
theorem mdelS_some (es : List (Nat × SV × SV)) (c i : Nat) : mdelS es c (some i) = .map (es.eraseIdx i) c := rfl
theorem lookS_none (es : List (Nat × SV × SV)) (z : SV) : lookS es z none = z := rfl
theorem lookS_some (es : List (Nat × SV × SV)) (z : SV) (i : Nat) : lookS es z (some i) = match es[i]? with
  | some e => e.2.2
  | none => z := rfl
section
variable {K V : Type} [DecidableEq K]
abbrev MM (K V : Type) := List (Nat × K × V)
def MM.idx (L : MM K V) (a : K) : Option Nat := L.findIdx? fun x => decide (a = x.2.1)
def MM.get (L : MM K V) (a : K) : Option V := (L.find? fun x => decide (a = x.2.1)).map (·.2.2)
def MM.has (L : MM K V) (a : K) : Bool := (MM.get L a).isSome
def MM.keys (L : MM K V) : List K := L.map (·.2.1)
def MM.put (L : MM K V) (c : Nat) (a : K) (v : V) : MM K V := match MM.idx L a with
  | some i => L.modify i fun x => (x.1, x.2.1, v)
  | none => L ++ [(c, a, v)]
def MM.clk (L : MM K V) (c : Nat) (a : K) : Nat := if MM.has L a then c else c + 1
def MM.del (L : MM K V) (a : K) : MM K V := match MM.idx L a with
  | some i => L.eraseIdx i
  | none => L
structure MM.wf (L : MM K V) (c : Nat) : Prop where
  keys : (MM.keys L).Nodup
  times : (L.map (·.1)).Nodup
  old : ∀ x, x ∈ L → x.1 < c
theorem MM.idx_none {L : MM K V} {a : K} : MM.idx L a = none ↔ MM.get L a = none := by
  unfold MM.idx MM.get
  induction L with
  | nil => simp
  | cons x L ih =>
    simp only [List.findIdx?_cons, List.find?_cons]
    by_cases h : a = x.2.1
    · simp [h]
    · simp only [h, decide_false, Bool.false_eq_true, if_false, Option.map_eq_none_iff] at ih ⊢
      exact ih
theorem MM.idx_isSome {L : MM K V} {a : K} : (MM.idx L a).isSome = MM.has L a := by
  unfold MM.has
  rw [Bool.eq_iff_iff, Option.isSome_iff_ne_none, Option.isSome_iff_ne_none, ne_eq, ne_eq, MM.idx_none]
theorem MM.idx_get : ∀ {L : MM K V} {a : K} {i : Nat}, MM.idx L a = some i → ∃ x, L[i]? = some x ∧ x.2.1 = a ∧ MM.get L a = some x.2.2
  | [], a, i, h => by simp [MM.idx] at h
  | x :: L, a, i, h => by
    unfold MM.idx at h
    unfold MM.get
    simp only [List.findIdx?_cons, List.find?_cons] at h ⊢
    by_cases e : a = x.2.1
    · simp only [e, decide_true, if_true] at h ⊢
      injection h with h; subst h
      exact ⟨x, rfl, rfl, rfl⟩
    · simp only [e, decide_false, Bool.false_eq_true, if_false, Option.map_eq_some_iff] at h ⊢
      obtain ⟨j, hj, rfl⟩ := h
      obtain ⟨y, h1, h2, h3⟩ := MM.idx_get (L := L) (a := a) (i := j) hj
      exact ⟨y, by simpa using h1, h2, by simpa [MM.get] using h3⟩
theorem MM.has_iff {L : MM K V} {a : K} : MM.has L a = true ↔ a ∈ MM.keys L := by
  unfold MM.has MM.get MM.keys
  induction L with
  | nil => simp
  | cons x L ih =>
    simp only [List.find?_cons, List.map_cons, List.mem_cons]
    by_cases e : a = x.2.1
    · simp [e]
    · simp only [e, decide_false, false_or]; exact ih
theorem MM.get_of_mem : ∀ {L : MM K V} (h : (MM.keys L).Nodup) {t : Nat} {a : K} {v : V}, (t, a, v) ∈ L → MM.get L a = some v
  | [], _, t, a, v, h => by cases h
  | x :: L, hn, t, a, v, h => by
    unfold MM.get
    simp only [MM.keys, List.map_cons, List.nodup_cons] at hn
    simp only [List.find?_cons]
    rcases List.mem_cons.1 h with rfl | h
    · simp
    · have : a ≠ x.2.1 := fun e => hn.1 (by rw [← e]; exact List.mem_map.2 ⟨_, h, rfl⟩)
      simp only [this, decide_false]
      exact MM.get_of_mem (L := L) hn.2 h
theorem MM.keys_put {L : MM K V} {c : Nat} {a : K} {v : V} : MM.keys (MM.put L c a v) = if MM.has L a then MM.keys L else MM.keys L ++ [a] := by
  unfold MM.put
  rw [← MM.idx_isSome]
  split
  · rename_i i h
    rw [h]
    simp only [Option.isSome_some, if_true, MM.keys]
    apply List.ext_getElem?
    intro j
    simp only [List.getElem?_map, List.getElem?_modify]
    cases L[j]? with
    | none => simp
    | some x => by_cases e : i = j <;> simp [e]
  · rename_i h
    rw [h]; simp [MM.keys]
theorem MM.get_put {L : MM K V} {c : Nat} {a b : K} {v : V} : MM.get (MM.put L c a v) b = if b = a then some v else MM.get L b := by
  unfold MM.put
  split
  · rename_i i h
    revert i h
    induction L with
    | nil => intro i h; simp [MM.idx] at h
    | cons x L ih =>
      intro i h
      unfold MM.idx at h
      simp only [List.findIdx?_cons] at h
      by_cases e : a = x.2.1
      · simp only [e, decide_true, if_true] at h
        injection h with h; subst h
        simp only [MM.get, List.modify_zero_cons, List.find?_cons]
        by_cases eb : b = x.2.1
        · simp [eb, e]
        · simp [eb, e]
      · simp only [e, decide_false, Bool.false_eq_true, if_false, Option.map_eq_some_iff] at h
        obtain ⟨j, hj, rfl⟩ := h
        have := ih j hj
        simp only [MM.get, List.modify_succ_cons, List.find?_cons] at this ⊢
        by_cases eb : b = x.2.1
        · simp only [eb, decide_true]
          rw [if_neg (fun h => e h.symm)]
        · simp only [eb, decide_false]
          exact this
  · rename_i h
    have hn := MM.idx_none.1 h
    unfold MM.get at hn ⊢
    rw [List.find?_append]
    by_cases eb : b = a
    · subst eb
      have : List.find? (fun x => decide (b = x.2.1)) L = none := by simpa using hn
      rw [this]; simp
    · simp only [List.find?_cons, eb, decide_false, List.find?_nil, Option.or_none, if_false]
theorem MM.del_filter : ∀ {L : MM K V} (h : (MM.keys L).Nodup) (a : K), MM.del L a = L.filter fun x => decide (a ≠ x.2.1)
  | [], _, a => rfl
  | x :: L, h, a => by
    simp only [MM.keys, List.map_cons, List.nodup_cons] at h
    have ih := MM.del_filter (L := L) h.2 a
    unfold MM.del MM.idx at ih ⊢
    simp only [List.findIdx?_cons, List.filter_cons]
    by_cases e : a = x.2.1
    · subst e
      simp only [decide_true, if_true, List.eraseIdx_zero, List.tail_cons, ne_eq, not_true, decide_false, Bool.false_eq_true, if_false]
      rw [List.filter_eq_self.2]
      intro y hy
      simp only [ne_eq, decide_eq_true_eq]
      intro e
      exact h.1 (by rw [e]; exact List.mem_map.2 ⟨y, hy, rfl⟩)
    · simp only [e, decide_false, Bool.false_eq_true, if_false, ne_eq, not_false_eq_true, decide_true, if_true]
      rw [← ih]
      cases List.findIdx? (fun x => decide (a = x.2.1)) L <;> simp
theorem MM.find_time {L : MM K V} (h : (L.map (·.1)).Nodup) {x : Nat × K × V} (hx : x ∈ L) : L.find? (fun y => y.1 == x.1) = some x := by
  induction L with
  | nil => cases hx
  | cons y L ih =>
    simp only [List.map_cons, List.nodup_cons] at h
    simp only [List.find?_cons]
    rcases List.mem_cons.1 hx with rfl | hx
    · simp
    · have : y.1 ≠ x.1 := fun e => h.1 (by rw [e]; exact List.mem_map.2 ⟨x, hx, rfl⟩)
      rw [show (y.1 == x.1) = false by simpa using this]
      exact ih h.2 hx
theorem map_erase {α β : Type} (f : α → β) : ∀ (l : List α) (i : Nat), (l.map f).eraseIdx i = (l.eraseIdx i).map f
  | [], i => by simp
  | x :: l, 0 => by simp
  | x :: l, i + 1 => by simp [map_erase f l i]
theorem MM.time_inj {L : MM K V} (h : (L.map (·.1)).Nodup) {x y : Nat × K × V} (hx : x ∈ L) (hy : y ∈ L) (e : x.1 = y.1) : x = y := by
  have h1 := MM.find_time h hx
  have h2 := MM.find_time h hy
  rw [e, h2] at h1
  exact (Option.some.inj h1).symm
def mapE (kc : K → List SV) (vs : V → SV) (L : MM K V) : List (Nat × SV × SV) := L.map fun x => (x.1, SV.agg (kc x.2.1), vs x.2.2)
variable {kc : K → List SV} {vs : V → SV}
theorem find_mapE {ks : List Bool} (heq : ∀ a b, csqS ks (kc a) (kc b) = some (decide (a = b))) (a : K) : ∀ (L : MM K V) (i : Nat), findS ks true (.agg (kc a)) (mapE kc vs L) i = some ((MM.idx L a).map (· + i))
  | [], i => by simp [mapE, findS, MM.idx]
  | x :: L, i => by
    have ih := find_mapE heq a L (i + 1)
    have hk : keyOk ks true (.agg (kc x.2.1)) = true := by simp [keyOk, isAggS, SV.cells, heq]
    unfold mapE at ih ⊢
    simp only [List.map_cons, findS, hk, if_true, SV.cells, heq]
    unfold MM.idx at ih ⊢
    simp only [List.findIdx?_cons]
    by_cases e : a = x.2.1
    · simp [e]
    · simp only [e, decide_false, Bool.false_eq_true, if_false]
      rw [ih]
      cases List.findIdx? (fun x => decide (a = x.2.1)) L with
      | none => rfl
      | some j => simp; omega
theorem find_dt (d : Dt) (vs : V → SV) (L : MM Dt V) : findS [true, true] true (.agg d.cells) (mapE Dt.cells vs L) 0 = some (MM.idx L d) := by
  rw [find_mapE Dt.eqb d L 0]; cases MM.idx L d <;> rfl
theorem find_vc (d : Vec) (vs : V → SV) (L : MM Vec V) : findS [true, true, true, true, true, true, true, true] true (.agg d.cells) (mapE Vec.cells vs L) 0 = some (MM.idx L d) := by
  rw [find_mapE Vec.eqb8 d L 0]; cases MM.idx L d <;> rfl
theorem look_mapE (z : V) (L : MM K V) (a : K) : lookS (mapE kc vs L) (vs z) (MM.idx L a) = vs ((MM.get L a).getD z) := by
  cases h : MM.idx L a with
  | none => rw [MM.idx_none.1 h]; rfl
  | some i =>
    obtain ⟨x, h1, h2, h3⟩ := MM.idx_get h
    rw [h3]
    simp [lookS, mapE, h1]
def iv (n : Int) : SV := .d (.int .i64 n)
theorem look_int (L : MM K Int) (a : K) : lookS (mapE kc iv L) (.d (.int .i64 0)) (MM.idx L a) = .d (.int .i64 ((MM.get L a).getD 0)) := look_mapE (vs := iv) 0 L a
theorem mset_mapE (L : MM K V) (c : Nat) (a : K) (v : V) : msetS (mapE kc vs L) c (.agg (kc a)) (vs v) (MM.idx L a) = .map (mapE kc vs (MM.put L c a v)) (MM.clk L c a) := by
  unfold MM.put MM.clk
  rw [← MM.idx_isSome]
  cases h : MM.idx L a with
  | none => simp [msetS, mapE]
  | some i =>
    simp only [msetS, Option.isSome_some, if_true, Ob.map.injEq, and_true, mapE]
    apply List.ext_getElem?
    intro j
    simp only [List.getElem?_map, List.getElem?_modify]
    cases L[j]? with
    | none => simp
    | some x => by_cases e : i = j <;> simp [e]
theorem mset_int (L : MM K Int) (c : Nat) (a : K) (n : Int) : msetS (mapE kc iv L) c (.agg (kc a)) (.d (.int .i64 n)) (MM.idx L a) = .map (mapE kc iv (MM.put L c a n)) (MM.clk L c a) := mset_mapE (vs := iv) L c a n
def MM.ent (L : MM K V) (c : Nat) (a : K) (z : V) : MM K V := match MM.idx L a with
  | some _ => L
  | none => L ++ [(c, a, z)]
def MM.stp (L : MM K V) (c : Nat) (a : K) : Nat := match MM.idx L a with
  | some i => ((L[i]?).map (·.1)).getD 0
  | none => c
def MM.pos (L : MM K V) (a : K) : Nat := (MM.idx L a).getD L.length
theorem ment_T (L : MM K V) (c : Nat) (a : K) : mentT (mapE kc vs L) c (MM.idx L a) = MM.stp L c a := by
  unfold MM.stp
  cases h : MM.idx L a with
  | none => rfl
  | some i =>
    simp only [mentT, mapE, List.getElem?_map]
    cases L[i]? <;> rfl
theorem ment_O (L : MM K V) (c : Nat) (a : K) (z : V) : mentO (mapE kc vs L) c (.agg (kc a)) (vs z) (MM.idx L a) = .map (mapE kc vs (MM.ent L c a z)) (MM.clk L c a) := by
  unfold MM.ent MM.clk
  rw [← MM.idx_isSome]
  cases h : MM.idx L a with
  | none => simp [mentO, mapE]
  | some i => simp [mentO]
theorem mstor_put (L : MM K V) (c : Nat) (a : K) (z v : V) : (mapE kc vs (MM.ent L c a z)).modify (MM.pos L a) (fun e => (e.1, e.2.1, vs v)) = mapE kc vs (MM.put L c a v) := by
  unfold MM.ent MM.pos MM.put
  have key : ∀ (l : MM K V) (i : Nat), (mapE kc vs l).modify i (fun e => (e.1, e.2.1, vs v)) = mapE kc vs (l.modify i fun x => (x.1, x.2.1, v)) := fun l i => by
    unfold mapE
    apply List.ext_getElem?
    intro j
    simp only [List.getElem?_map, List.getElem?_modify]
    cases l[j]? with
    | none => simp
    | some x => by_cases e : i = j <;> simp [e]
  cases h : MM.idx L a with
  | none =>
    simp only [Option.getD_none]
    rw [key]
    congr 1
    apply List.ext_getElem?
    intro j
    simp only [List.getElem?_modify, List.getElem?_append]
    by_cases h1 : j < L.length
    · simp [h1, show ¬ L.length = j by omega]
    · simp only [h1, if_false]
      by_cases h2 : L.length = j
      · subst h2; simp
      · simp [show ¬ j - L.length = 0 by omega, show j - L.length ≠ 0 by omega]
  | some i => exact key L i
theorem mdel_mapE (L : MM K V) (c : Nat) (a : K) : mdelS (mapE kc vs L) c (MM.idx L a) = .map (mapE kc vs (MM.del L a)) c := by
  unfold MM.del
  cases h : MM.idx L a with
  | none => rfl
  | some i => simp only [mdelS, mapE, map_erase]
theorem mapE_len (L : MM K V) : (mapE kc vs L).length = L.length := by simp [mapE]
theorem mapE_mem {L : MM K V} {e : Nat × SV × SV} (h : e ∈ mapE kc vs L) : ∃ x, x ∈ L ∧ e = (x.1, SV.agg (kc x.2.1), vs x.2.2) := by
  obtain ⟨x, hx, rfl⟩ := List.mem_map.1 h
  exact ⟨x, hx, rfl⟩
theorem mapE_find {L : MM K V} (h : (L.map (·.1)).Nodup) {x : Nat × K × V} (hx : x ∈ L) : (mapE kc vs L).find? (fun e => e.1 == x.1) = some (x.1, SV.agg (kc x.2.1), vs x.2.2) := by
  unfold mapE
  rw [List.find?_map]
  have := MM.find_time h hx
  simp only [Function.comp_def, this, Option.map_some]
theorem mapE_ren (ρ : Nat → Nat) (L : MM K V) (hk : ∀ a, SV.rens ρ (kc a) = kc a) (hv : ∀ v, (vs v).ren ρ = vs v) : (mapE kc vs L).map (fun e => (e.1, e.2.1.ren ρ, e.2.2.ren ρ)) = mapE kc vs L := by
  unfold mapE
  rw [List.map_map]
  refine List.map_congr_left fun x _ => ?_
  simp [SV.ren, hk, hv]
theorem mapE_ok (q : Nat → Bool) (L : MM K V) (hk : ∀ a, SV.oks q (kc a) = true) (hv : ∀ v, (vs v).ok q = true) : ((mapE kc vs L).all fun e => e.2.1.ok q && e.2.2.ok q) = true := by
  unfold mapE
  simp [SV.ok, hk, hv]
end
theorem iv_ren (ρ : Nat → Nat) (n : Int) : (iv n).ren ρ = iv n := rfl
theorem iv_ok (q : Nat → Bool) (n : Int) : (iv n).ok q = true := rfl
abbrev DMap := MM Dt Int
theorem dmap_ren (ρ : Nat → Nat) (L : DMap) : (mapE Dt.cells iv L).map (fun e => (e.1, e.2.1.ren ρ, e.2.2.ren ρ)) = mapE Dt.cells iv L := mapE_ren ρ L (fun a => Dt.cells_ren a ρ) (iv_ren ρ)
theorem dmap_ok (q : Nat → Bool) (L : DMap) : ((mapE Dt.cells iv L).all fun e => e.2.1.ok q && e.2.2.ok q) = true := mapE_ok q L (fun a => Dt.cells_ok a q) (iv_ok q)
theorem vmap_ren (ρ : Nat → Nat) (L : MM Vec Int) : (mapE Vec.cells iv L).map (fun e => (e.1, e.2.1.ren ρ, e.2.2.ren ρ)) = mapE Vec.cells iv L := mapE_ren ρ L (fun a => Vec.cells_ren a ρ) (iv_ren ρ)
theorem vmap_ok (q : Nat → Bool) (L : MM Vec Int) : ((mapE Vec.cells iv L).all fun e => e.2.1.ok q && e.2.2.ok q) = true := mapE_ok q L (fun a => Vec.cells_ok a q) (iv_ok q)
end Go.Sl
namespace Go.Sl
open Go.RowKit
structure OpD where
  dot : Dt
  dep : Vec
  time : Nat
  who : Nat
  cart : Dt
  kind : Nat
  cred : Dt
  to : Nat
  roles : Nat
  depth : Nat
  cap : Nat
  at_ : Dt
  ver : Dt
  item : Nat
  qty : Nat
  price : Nat
  lines : DV
def OpD.ds (o : OpD) : List DV :=
  .int .u8 o.dot.r :: .int .u32 o.dot.n :: (o.dep.ds ++ (.int .u64 o.time :: .int .u32 o.who :: .int .u8 o.cart.r :: .int .u32 o.cart.n :: .int .u8 o.kind :: .int .u8 o.cred.r :: .int .u32 o.cred.n :: .int .u32 o.to :: .int .u8 o.roles :: .int .u8 o.depth :: .int .u64 o.cap ::
    .int .u8 o.at_.r :: .int .u32 o.at_.n :: .int .u8 o.ver.r :: .int .u32 o.ver.n :: .int .u32 o.item :: .int .u32 o.qty :: .int .u32 o.price :: [o.lines]))
def OpD.cells (o : OpD) : List SV := o.ds.map .d
theorem OpD.map_ds (o : OpD) : o.ds.map .d = o.cells := rfl
@[simp] theorem OpD.ds_len (o : OpD) : o.ds.length = 29 := rfl
@[simp] theorem OpD.cells_len (o : OpD) : o.cells.length = 29 := rfl
@[simp] theorem OpD.cells_ok (o : OpD) (q : Nat → Bool) : SV.oks q o.cells = true := SV.oks_d _
@[simp] theorem OpD.cells_ren (o : OpD) (ρ : Nat → Nat) : SV.rens ρ o.cells = o.cells := SV.rens_d _
theorem OpD.cells_one (o : OpD) : o.cells.all SV.isOne = true := by simp [OpD.cells, SV.isOne]
@[simp] theorem OpD.take_all (o : OpD) : o.cells.take 29 = o.cells := rfl
theorem OpD.gDot (o : OpD) : o.cells.take 2 = o.dot.cells := rfl
theorem OpD.gDep (o : OpD) : (o.cells.drop 2).take 8 = o.dep.cells := rfl
theorem OpD.gTime (o : OpD) : o.cells[10]? = some (u64 o.time) := rfl
theorem OpD.gWho (o : OpD) : o.cells[11]? = some (u32 o.who) := rfl
theorem OpD.gCart (o : OpD) : (o.cells.drop 12).take 2 = o.cart.cells := rfl
theorem OpD.gKind (o : OpD) : o.cells[14]? = some (u8 o.kind) := rfl
theorem OpD.gCred (o : OpD) : (o.cells.drop 15).take 2 = o.cred.cells := rfl
theorem OpD.gTo (o : OpD) : o.cells[17]? = some (u32 o.to) := rfl
theorem OpD.gRoles (o : OpD) : o.cells[18]? = some (u8 o.roles) := rfl
theorem OpD.gDepth (o : OpD) : o.cells[19]? = some (u8 o.depth) := rfl
theorem OpD.gCap (o : OpD) : o.cells[20]? = some (u64 o.cap) := rfl
theorem OpD.gAt (o : OpD) : (o.cells.drop 21).take 2 = o.at_.cells := rfl
theorem OpD.gVer (o : OpD) : (o.cells.drop 23).take 2 = o.ver.cells := rfl
theorem OpD.gItem (o : OpD) : o.cells[25]? = some (u32 o.item) := rfl
theorem OpD.gQty (o : OpD) : o.cells[26]? = some (u32 o.qty) := rfl
theorem OpD.gPrice (o : OpD) : o.cells[27]? = some (u32 o.price) := rfl
theorem OpD.gLines (o : OpD) : o.cells[28]? = some (.d o.lines) := rfl
theorem OpD.gDotR (o : OpD) : o.cells[0]? = some (u8 o.dot.r) := rfl
theorem OpD.gDotN (o : OpD) : o.cells[1]? = some (u32 o.dot.n) := rfl
theorem OpD.spl_all (c o : OpD) : spl c.cells 0 o.cells = o.cells := rfl
def OpD.before (a b : OpD) : Bool := b.dep.covers a.dot
abbrev zOp : List SV := [.d (.int .u8 0), .d (.int .u32 0), .d (.int .u32 0), .d (.int .u32 0), .d (.int .u32 0), .d (.int .u32 0), .d (.int .u32 0), .d (.int .u32 0), .d (.int .u32 0), .d (.int .u32 0), .d (.int .u64 0), .d (.int .u32 0), .d (.int .u8 0), .d (.int .u32 0), .d (.int .u8 0),
  .d (.int .u8 0), .d (.int .u32 0), .d (.int .u32 0), .d (.int .u8 0), .d (.int .u8 0), .d (.int .u64 0), .d (.int .u8 0), .d (.int .u32 0), .d (.int .u8 0), .d (.int .u32 0), .d (.int .u32 0), .d (.int .u32 0), .d (.int .u32 0), .d .nils]
def OpD.zero : OpD := ⟨⟨0, 0⟩, Vec.zero, 0, 0, ⟨0, 0⟩, 0, ⟨0, 0⟩, 0, 0, 0, 0, ⟨0, 0⟩, ⟨0, 0⟩, 0, 0, 0, .nils⟩
theorem OpD.zero_cells : ([.d (.int .u8 0), .d (.int .u32 0), .d (.int .u32 0), .d (.int .u32 0), .d (.int .u32 0), .d (.int .u32 0), .d (.int .u32 0), .d (.int .u32 0), .d (.int .u32 0), .d (.int .u32 0), .d (.int .u64 0), .d (.int .u32 0), .d (.int .u8 0), .d (.int .u32 0), .d (.int .u8 0),
  .d (.int .u8 0), .d (.int .u32 0), .d (.int .u32 0), .d (.int .u8 0), .d (.int .u8 0), .d (.int .u64 0), .d (.int .u8 0), .d (.int .u32 0), .d (.int .u8 0), .d (.int .u32 0), .d (.int .u32 0), .d (.int .u32 0), .d (.int .u32 0), .d .nils] : List SV) = OpD.zero.cells := rfl
abbrev ops (l : List OpD) : SV := .d (.sl l.length (l.flatMap OpD.ds))
abbrev opc (l : List OpD) : List SV := List.map SV.d (l.flatMap OpD.ds)
@[simp] theorem ops_len (l : List OpD) : (l.flatMap OpD.ds).length = l.length * 29 := flat_length OpD.ds 29 (fun _ => rfl) l
theorem op_at {l : List OpD} {i : Nat} {x : OpD} (h : l[i]? = some x) : List.take 29 (List.drop (i * 29) (List.map SV.d (l.flatMap OpD.ds))) = x.cells := by
  rw [← List.map_drop, ← List.map_take, flat_take OpD.ds 29 (fun _ => rfl) l i x h]
  rfl
theorem op_room0 {l : List OpD} {i : Nat} {x : OpD} (h : l[i]? = some x) : (i * 29 + 29 ≤ (List.map SV.d (l.flatMap OpD.ds)).length) = True := eq_true (by
  have := lt_of_get h
  rw [List.length_map, ops_len]
  omega)
structure Cr where
  dot : Dt
  cart : Dt
  par : Dt
  hold : Nat
  roles : Nat
  depth : Nat
  cap : Nat
  level : Int
  deriving DecidableEq
def Cr.ds (o : Cr) : List DV := [.int .u8 o.dot.r, .int .u32 o.dot.n, .int .u8 o.cart.r, .int .u32 o.cart.n, .int .u8 o.par.r, .int .u32 o.par.n, .int .u32 o.hold, .int .u8 o.roles, .int .u8 o.depth, .int .u64 o.cap, .int .i64 o.level]
def Cr.cells (o : Cr) : List SV := o.ds.map .d
@[simp] theorem Cr.ds_len (o : Cr) : o.ds.length = 11 := rfl
@[simp] theorem Cr.cells_len (o : Cr) : o.cells.length = 11 := rfl
@[simp] theorem Cr.cells_ok (o : Cr) (q : Nat → Bool) : SV.oks q o.cells = true := SV.oks_d _
@[simp] theorem Cr.cells_ren (o : Cr) (ρ : Nat → Nat) : SV.rens ρ o.cells = o.cells := SV.rens_d _
theorem Cr.cells_one (o : Cr) : o.cells.all SV.isOne = true := rfl
@[simp] theorem Cr.take_all (o : Cr) : o.cells.take 11 = o.cells := rfl
theorem Cr.gDot (o : Cr) : o.cells.take 2 = o.dot.cells := rfl
theorem Cr.gCart (o : Cr) : (o.cells.drop 2).take 2 = o.cart.cells := rfl
theorem Cr.gPar (o : Cr) : (o.cells.drop 4).take 2 = o.par.cells := rfl
theorem Cr.gHold (o : Cr) : o.cells[6]? = some (u32 o.hold) := rfl
theorem Cr.gRoles (o : Cr) : o.cells[7]? = some (u8 o.roles) := rfl
theorem Cr.gDepth (o : Cr) : o.cells[8]? = some (u8 o.depth) := rfl
theorem Cr.gCap (o : Cr) : o.cells[9]? = some (u64 o.cap) := rfl
theorem Cr.gLevel (o : Cr) : o.cells[10]? = some (i64 o.level) := rfl
theorem Cr.spl_all (c o : Cr) : spl c.cells 0 o.cells = o.cells := rfl
def Cr.zero : Cr := ⟨⟨0, 0⟩, ⟨0, 0⟩, ⟨0, 0⟩, 0, 0, 0, 0, 0⟩
theorem Cr.zero_cells : ([.d (.int .u8 0), .d (.int .u32 0), .d (.int .u8 0), .d (.int .u32 0), .d (.int .u8 0), .d (.int .u32 0), .d (.int .u32 0), .d (.int .u8 0), .d (.int .u8 0), .d (.int .u64 0), .d (.int .i64 0)] : List SV) = Cr.zero.cells := rfl
theorem Cr.eqb (a b : Cr) : csqS [true, true, true, true, true, true, true, true, true, true, true] a.cells b.cells = some (decide (a = b)) := by
  have h : csqS [true, true, true, true, true, true, true, true, true, true, true] a.cells b.cells = some (((a.dot.r : Int) == b.dot.r) && (((a.dot.n : Int) == b.dot.n) && (((a.cart.r : Int) == b.cart.r) && (((a.cart.n : Int) == b.cart.n) && (((a.par.r : Int) == b.par.r) && (((a.par.n : Int) == b.par.n) &&
      (((a.hold : Int) == b.hold) && (((a.roles : Int) == b.roles) && (((a.depth : Int) == b.depth) && (((a.cap : Int) == b.cap) && ((a.level == b.level) && true))))))))))) := by simp [csqS, cqS, Cr.cells, Cr.ds]
  rw [h]
  congr 1
  obtain ⟨⟨a0, a1⟩, ⟨a2, a3⟩, ⟨a4, a5⟩, a6, a7, a8, a9, a10⟩ := a
  obtain ⟨⟨b0, b1⟩, ⟨b2, b3⟩, ⟨b4, b5⟩, b6, b7, b8, b9, b10⟩ := b
  rw [Bool.eq_iff_iff]
  simp
  omega
abbrev crs (l : List Cr) : SV := .d (.sl l.length (l.flatMap Cr.ds))
@[simp] theorem crs_len (l : List Cr) : (l.flatMap Cr.ds).length = l.length * 11 := flat_length Cr.ds 11 (fun _ => rfl) l
def ov (o : OpD) : SV := .agg o.cells
def cv (o : Cr) : SV := .agg o.cells
section
variable {K : Type} [DecidableEq K] {kc : K → List SV}
theorem look_ov (L : MM K OpD) (a : K) : lookS (mapE kc ov L) (.agg OpD.zero.cells) (MM.idx L a) = .agg ((MM.get L a).getD OpD.zero).cells := look_mapE (vs := ov) OpD.zero L a
theorem look_cv (L : MM K Cr) (a : K) : lookS (mapE kc cv L) (.agg Cr.zero.cells) (MM.idx L a) = .agg ((MM.get L a).getD Cr.zero).cells := look_mapE (vs := cv) Cr.zero L a
theorem ment_ov (L : MM K OpD) (c : Nat) (a : K) : mentO (mapE kc ov L) c (.agg (kc a)) (.agg OpD.zero.cells) (MM.idx L a) = .map (mapE kc ov (MM.ent L c a OpD.zero)) (MM.clk L c a) := ment_O (vs := ov) L c a OpD.zero
theorem ment_cv (L : MM K Cr) (c : Nat) (a : K) : mentO (mapE kc cv L) c (.agg (kc a)) (.agg Cr.zero.cells) (MM.idx L a) = .map (mapE kc cv (MM.ent L c a Cr.zero)) (MM.clk L c a) := ment_O (vs := cv) L c a Cr.zero
theorem ment_iv (L : MM K Int) (c : Nat) (a : K) : mentO (mapE kc iv L) c (.agg (kc a)) (.d (.int .i64 0)) (MM.idx L a) = .map (mapE kc iv (MM.ent L c a 0)) (MM.clk L c a) := ment_O (vs := iv) L c a 0
theorem mput_ov (L : MM K OpD) (c : Nat) (a : K) (z v : OpD) : (mapE kc ov (MM.ent L c a z)).modify (MM.pos L a) (fun e => (e.1, e.2.1, .agg v.cells)) = mapE kc ov (MM.put L c a v) := mstor_put (vs := ov) L c a z v
theorem mput_cv (L : MM K Cr) (c : Nat) (a : K) (z v : Cr) : (mapE kc cv (MM.ent L c a z)).modify (MM.pos L a) (fun e => (e.1, e.2.1, .agg v.cells)) = mapE kc cv (MM.put L c a v) := mstor_put (vs := cv) L c a z v
theorem mput_iv (L : MM K Int) (c : Nat) (a : K) (z v : Int) : (mapE kc iv (MM.ent L c a z)).modify (MM.pos L a) (fun e => (e.1, e.2.1, .d (.int .i64 v))) = mapE kc iv (MM.put L c a v) := mstor_put (vs := iv) L c a z v
theorem omap_ren (ρ : Nat → Nat) (L : MM Dt OpD) : (mapE Dt.cells ov L).map (fun e => (e.1, e.2.1.ren ρ, e.2.2.ren ρ)) = mapE Dt.cells ov L := mapE_ren ρ L (fun a => Dt.cells_ren a ρ) (fun v => by simp [ov, SV.ren])
theorem omap_ok (q : Nat → Bool) (L : MM Dt OpD) : ((mapE Dt.cells ov L).all fun e => e.2.1.ok q && e.2.2.ok q) = true := mapE_ok q L (fun a => Dt.cells_ok a q) (fun v => by simp [ov, SV.ok])
end
end Go.Sl
namespace Go.Sl
theorem Vec.covers_above {a b : Vec} (h : a.above b = true) (d : Dt) (hb : b.covers d = true) : a.covers d = true := by
  have h' := Vec.above_iff.1 h
  simp only [Vec.covers, Bool.and_eq_true, decide_eq_true_eq] at *
  have hr : d.r < 8 := by have := hb.1; simp [Dt.may] at this; exact this.1
  exact ⟨hb.1, Nat.le_trans hb.2 (h' _ hr)⟩
theorem Vec.covers_put {v : Vec} {r : Nat} (hr : r < 8) (d : Dt) : (v.set r (v.get r + 1)).covers d = (decide (d = ⟨r, v.get r + 1⟩) || v.covers d) := by
  by_cases h : d.may = true
  · have h8 : d.r < 8 := by simp [Dt.may] at h; exact h.1
    simp only [Vec.covers, h, Vec.set_get _ _ _ h8, Bool.true_and]
    obtain ⟨dr, dn⟩ := d
    rw [Bool.eq_iff_iff]
    by_cases e : dr = r
    · subst e; simp; omega
    · simp [e]
  · have : decide (d = ⟨r, v.get r + 1⟩) = false := by
      simp only [decide_eq_false_iff_not]; intro e; subst e; simp [Dt.may, hr] at h
    simp [Vec.covers, h, this]
theorem Vec.count_put (v : Vec) {r : Nat} (hr : r < 8) : (v.set r (v.get r + 1)).count = v.count + 1 := by
  match r, hr with
  | 0, _ => simp [Vec.count, Vec.set, Vec.of, Vec.get]; omega
  | 1, _ => simp [Vec.count, Vec.set, Vec.of, Vec.get]; omega
  | 2, _ => simp [Vec.count, Vec.set, Vec.of, Vec.get]; omega
  | 3, _ => simp [Vec.count, Vec.set, Vec.of, Vec.get]; omega
  | 4, _ => simp [Vec.count, Vec.set, Vec.of, Vec.get]; omega
  | 5, _ => simp [Vec.count, Vec.set, Vec.of, Vec.get]; omega
  | 6, _ => simp [Vec.count, Vec.set, Vec.of, Vec.get]; omega
  | 7, _ => simp [Vec.count, Vec.set, Vec.of, Vec.get]; omega
def puts (v : Vec) : List Dt → Vec
  | [] => v
  | d :: l => puts (v.set d.r d.n) l
theorem fit_int {P : Program} {d : Nat} {t : TypeId} {k : IntKind} {ds : List DV} (ht : P.underlying t = some (.int k)) (h : Fit P (d + 1) t ds) : ∃ n, ds = [.int k n] ∧ (Lit.int k n).wf = true := by
  rw [Fit, ht] at h
  exact h
theorem wf_u32 {n : Int} (h : (Lit.int .u32 n).wf = true) : ∃ m : Nat, n = (m : Int) ∧ m < 4294967296 := by
  simp [Lit.wf, IntKind.min, IntKind.max, IntKind.signed, IntKind.bits] at h
  exact ⟨n.toNat, by omega, by omega⟩
theorem wf_u64 {n : Int} (h : (Lit.int .u64 n).wf = true) : ∃ m : Nat, n = (m : Int) ∧ m < 18446744073709551616 := by
  simp [Lit.wf, IntKind.min, IntKind.max, IntKind.signed, IntKind.bits] at h
  exact ⟨n.toNat, by omega, by omega⟩
theorem wf_u8 {n : Int} (h : (Lit.int .u8 n).wf = true) : ∃ m : Nat, n = (m : Int) ∧ m < 256 := by
  simp [Lit.wf, IntKind.min, IntKind.max, IntKind.signed, IntKind.bits] at h
  exact ⟨n.toNat, by omega, by omega⟩
theorem wf_i64 {n : Int} (h : (Lit.int .i64 n).wf = true) : -9223372036854775808 ≤ n ∧ n < 9223372036854775808 := by
  simp [Lit.wf, IntKind.min, IntKind.max, IntKind.signed, IntKind.bits] at h
  omega
theorem fit_u32 {P : Program} {d : Nat} {t : TypeId} {ds : List DV} (ht : P.underlying t = some (.int .u32)) (h : Fit P (d + 1) t ds) : ∃ m : Nat, m < 4294967296 ∧ ds = [.int .u32 m] := by
  obtain ⟨n, rfl, hw⟩ := fit_int ht h
  obtain ⟨m, rfl, hm⟩ := wf_u32 hw
  exact ⟨m, hm, rfl⟩
theorem fit_u64 {P : Program} {d : Nat} {t : TypeId} {ds : List DV} (ht : P.underlying t = some (.int .u64)) (h : Fit P (d + 1) t ds) : ∃ m : Nat, m < 18446744073709551616 ∧ ds = [.int .u64 m] := by
  obtain ⟨n, rfl, hw⟩ := fit_int ht h
  obtain ⟨m, rfl, hm⟩ := wf_u64 hw
  exact ⟨m, hm, rfl⟩
theorem fit_u8 {P : Program} {d : Nat} {t : TypeId} {ds : List DV} (ht : P.underlying t = some (.int .u8)) (h : Fit P (d + 1) t ds) : ∃ m : Nat, m < 256 ∧ ds = [.int .u8 m] := by
  obtain ⟨n, rfl, hw⟩ := fit_int ht h
  obtain ⟨m, rfl, hm⟩ := wf_u8 hw
  exact ⟨m, hm, rfl⟩
theorem fit_i64 {P : Program} {d : Nat} {t : TypeId} {ds : List DV} (ht : P.underlying t = some (.int .i64)) (h : Fit P (d + 1) t ds) : ∃ n : Int, (-9223372036854775808 ≤ n ∧ n < 9223372036854775808) ∧ ds = [.int .i64 n] := by
  obtain ⟨n, rfl, hw⟩ := fit_int ht h
  exact ⟨n, wf_i64 hw, rfl⟩
theorem one_at {ds : List DV} {o : Nat} {x : DV} (h : (ds.drop o).take 1 = [x]) : ds[o]? = some x := by
  have := congrArg (·[0]?) h
  simpa [List.getElem?_take] using this
theorem fit_vec {P : Program} {d : Nat} {t e : TypeId} {ds : List DV} (ht : P.underlying t = some (.array 8 e)) (he : P.underlying e = some (.int .u32)) (hc : P.cellsOf t = 8) (hce : P.cellsOf e = 1) (h : Fit P (d + 2) t ds) : ∃ v : Vec, v.wf ∧ ds = v.ds := by
  rw [Fit, ht] at h
  dsimp only at h
  obtain ⟨hl, hi⟩ := h
  rw [hc] at hl
  rw [hce] at hi
  have key : ∀ i, i < 8 → ∃ m : Nat, m < 4294967296 ∧ ds[i]? = some (.int .u32 m) := fun i hlt => by
    obtain ⟨m, hm, e1⟩ := fit_u32 (d := d) he (hi i hlt)
    exact ⟨m, hm, one_at (by simpa using e1)⟩
  obtain ⟨m0, h0, e0⟩ := key 0 (by omega)
  obtain ⟨m1, h1, e1⟩ := key 1 (by omega)
  obtain ⟨m2, h2, e2⟩ := key 2 (by omega)
  obtain ⟨m3, h3, e3⟩ := key 3 (by omega)
  obtain ⟨m4, h4, e4⟩ := key 4 (by omega)
  obtain ⟨m5, h5, e5⟩ := key 5 (by omega)
  obtain ⟨m6, h6, e6⟩ := key 6 (by omega)
  obtain ⟨m7, h7, e7⟩ := key 7 (by omega)
  refine ⟨⟨m0, m1, m2, m3, m4, m5, m6, m7⟩, fun r hr => ?_, List.ext_getElem? fun i => ?_⟩
  · match r, hr with
    | 0, _ => exact h0
    | 1, _ => exact h1
    | 2, _ => exact h2
    | 3, _ => exact h3
    | 4, _ => exact h4
    | 5, _ => exact h5
    | 6, _ => exact h6
    | 7, _ => exact h7
  · match i with
    | 0 => rw [e0]; rfl
    | 1 => rw [e1]; rfl
    | 2 => rw [e2]; rfl
    | 3 => rw [e3]; rfl
    | 4 => rw [e4]; rfl
    | 5 => rw [e5]; rfl
    | 6 => rw [e6]; rfl
    | 7 => rw [e7]; rfl
    | i + 8 => rw [List.getElem?_eq_none (by omega), List.getElem?_eq_none (by simp [Vec.ds])]
theorem fit_field {P : Program} {d : Nat} {t : TypeId} {fs : Array Field} {ds : List DV} (ht : P.underlying t = some (.struct fs)) (h : Fit P (d + 1) t ds) (i : Nat) (f : Field) (hf : fs[i]? = some f) :
    Fit P d f.type ((ds.drop f.offset).take (P.cellsOf f.type)) := by
  rw [Fit, ht] at h
  dsimp only at h
  exact h.2 f (by simpa using Array.mem_of_getElem? hf)
theorem fit_len {P : Program} {d : Nat} {t : TypeId} {fs : Array Field} {ds : List DV} (ht : P.underlying t = some (.struct fs)) (h : Fit P (d + 1) t ds) : ds.length = P.cellsOf t := by
  rw [Fit, ht] at h
  dsimp only at h
  exact h.1
theorem fit_dot {P : Program} {d : Nat} {t : TypeId} {fs : Array Field} {fR fN : Field} {ds : List DV} (ht : P.underlying t = some (.struct fs)) (h0 : fs[0]? = some fR) (h1 : fs[1]? = some fN) (o0 : fR.offset = 0) (o1 : fN.offset = 1)
    (t0 : P.underlying fR.type = some (.int .u8)) (t1 : P.underlying fN.type = some (.int .u32)) (hc : P.cellsOf t = 2) (c0 : P.cellsOf fR.type = 1) (c1 : P.cellsOf fN.type = 1) (h : Fit P (d + 2) t ds) : ∃ x : Dt, x.wf ∧ ds = x.ds := by
  have f0 := fit_field ht h 0 fR h0
  have f1 := fit_field ht h 1 fN h1
  have hl := fit_len ht h
  rw [hc] at hl
  rw [o0, c0] at f0
  rw [o1, c1] at f1
  obtain ⟨a, ha, ea⟩ := fit_u8 t0 f0
  obtain ⟨b, hb, eb⟩ := fit_u32 t1 f1
  have ea := one_at ea
  have eb := one_at eb
  refine ⟨⟨a, b⟩, ⟨ha, hb⟩, List.ext_getElem? fun i => ?_⟩
  match i with
  | 0 => rw [ea]; rfl
  | 1 => rw [eb]; rfl
  | i + 2 => rw [List.getElem?_eq_none (by omega), List.getElem?_eq_none (by simp)]
theorem fit_slice {P : Program} {d : Nat} {t e : TypeId} {ds : List DV} {α : Type} (f : α → List DV) (ok : α → Prop) (ht : P.underlying t = some (.slice e)) (hp : ∀ ds, Fit P d e ds → ∃ x, ok x ∧ ds = f x)
    (h : Fit P (d + 1) t ds) : (ds = [.nils]) ∨ ∃ l : List α, (∀ x ∈ l, ok x) ∧ l.length ≤ 9223372036854775807 ∧ ds = [.sl l.length (l.flatMap f)] := by
  rw [Fit, ht] at h
  dsimp only at h
  rcases h with h | ⟨n, cs, rfl, hn, hl, hi⟩
  · exact .inl h
  · refine .inr ?_
    have key : ∀ k, k ≤ n → ∃ l : List α, (∀ x ∈ l, ok x) ∧ l.length = k ∧ cs.take (k * P.cellsOf e) = l.flatMap f := by
      intro k
      induction k with
      | zero => intro _; exact ⟨[], by simp, rfl, by simp⟩
      | succ k ih =>
        intro hk
        obtain ⟨l, a1, a2, a3⟩ := ih (by omega)
        obtain ⟨x, b1, b2⟩ := hp _ (hi k hk)
        refine ⟨l ++ [x], fun y hy => ?_, by simp [a2], ?_⟩
        · rcases List.mem_append.1 hy with h | h
          · exact a1 y h
          · simp at h; subst h; exact b1
        · rw [Nat.succ_mul, List.take_add, a3, b2]; simp
    obtain ⟨l, a1, a2, a3⟩ := key n (Nat.le_refl _)
    rw [List.take_of_length_le (by omega)] at a3
    exact ⟨l, a1, by omega, by rw [a2, a3]⟩
end Go.Sl
namespace Go.Sl
open Go.RowKit
structure Cm where
  line : Dt
  ver : Dt
  deriving DecidableEq
def Cm.ds (x : Cm) : List DV := x.line.ds ++ x.ver.ds
def Cm.wf (x : Cm) : Prop := x.line.wf ∧ x.ver.wf
@[simp] theorem cms_len (l : List Cm) : (l.flatMap Cm.ds).length = l.length * 4 := flat_length Cm.ds 4 (fun _ => rfl) l
def cmsGo : List DV → List Cm
  | .int _ a :: .int _ b :: .int _ c :: .int _ d :: r => ⟨⟨a.toNat, b.toNat⟩, ⟨c.toNat, d.toNat⟩⟩ :: cmsGo r
  | _ => []
theorem cmsGo_flat : ∀ l : List Cm, cmsGo (l.flatMap Cm.ds) = l
  | [] => rfl
  | x :: l => by
    have := cmsGo_flat l
    show cmsGo (.int .u8 x.line.r :: .int .u32 x.line.n :: .int .u8 x.ver.r :: .int .u32 x.ver.n :: l.flatMap Cm.ds) = _
    rw [cmsGo, this]
    rfl
def cmsOf : DV → List Cm
  | .sl _ cs => cmsGo cs
  | _ => []
theorem cmsOf_sl (n : Nat) (l : List Cm) : cmsOf (.sl n (l.flatMap Cm.ds)) = l := cmsGo_flat l
def OpD.cl (o : OpD) : List Cm := cmsOf o.lines
structure OpD.lin (o : OpD) : Prop where
  eq : o.lines = .sl o.cl.length (o.cl.flatMap Cm.ds)
  le : o.cl.length ≤ 9223372036854775807
theorem OpD.lin.of {o : OpD} {l : List Cm} (h : o.lines = .sl l.length (l.flatMap Cm.ds)) (hl : l.length ≤ 9223372036854775807) : o.lin ∧ o.cl = l := by
  have e : o.cl = l := by unfold OpD.cl; rw [h]; exact cmsOf_sl _ _
  exact ⟨⟨by rw [e]; exact h, by rw [e]; exact hl⟩, e⟩
def hasS : List (List Nat) := [[], [99, 116, 114, 100, 112], [99, 97], [99, 105, 113, 101], [99, 97, 113], [99, 97], [99, 97, 118], [99, 97, 118], [99, 108]]
def hasK (kind : Nat) : List Nat := (hasS[kind]?).getD []
def zeroV (s : List Nat) (o : OpD) (nl : Nat) : Bool := (((((((((((decide (99 ∈ s) || decide (o.cred = (⟨0, 0⟩ : Dt))) && (decide (116 ∈ s) || ((o.to : Int) == 0))) && (decide (114 ∈ s) || ((o.roles : Int) == 0))) && (decide (100 ∈ s) || ((o.depth : Int) == 0))) && (decide (112 ∈ s) || ((o.cap : Int) == 0))) && (decide (97 ∈ s) || decide (o.at_ = (⟨0, 0⟩ : Dt)))) && (decide (118 ∈ s) || decide (o.ver = (⟨0, 0⟩ : Dt)))) && (decide (105 ∈ s) || ((o.item : Int) == 0))) && (decide (113 ∈ s) || ((o.qty : Int) == 0))) && (decide (101 ∈ s) || ((o.price : Int) == 0))) && (decide (108 ∈ s) || ((nl : Int) == 0)))
def okL (o : OpD) (x : Cm) (pre : List Cm) : Bool := o.dep.covers x.line && o.dep.covers x.ver && pre.all fun y => !decide (y.line = x.line)
def okAt (o : OpD) (cl : List Cm) (i : Nat) : Bool := match cl[i]? with
  | some x => okL o x (cl.take i)
  | none => true
def linesV (o : OpD) (cl : List Cm) : Bool := decide (1 ≤ cl.length ∧ cl.length ≤ 16) && (List.range cl.length).all (okAt o cl)
structure Form (n : Nat) (o : OpD) : Prop where
  r : o.dot.r < n
  pos : 0 < o.dot.n
  own : o.dep.get o.dot.r + 1 = o.dot.n
  t1 : 1 ≤ o.time
  t2 : o.time ≤ 281474976710656
  who : 0 < o.who
  kind : o.kind ≤ 8
  zero : zeroV (hasK o.kind) o o.cl.length = true
  far : ∀ r, n ≤ r → r < 8 → o.dep.get r = 0
  gen : o.kind = 0 → o.cart = o.dot
  cart : o.kind ≠ 0 → o.dep.covers o.cart = true
  cred : 99 ∈ hasK o.kind → o.dep.covers o.cred = true
  at_ : 97 ∈ hasK o.kind → o.dep.covers o.at_ = true
  ver : 118 ∈ hasK o.kind → o.dep.covers o.ver = true
  grant : 116 ∈ hasK o.kind → 0 < o.to ∧ 1 ≤ o.roles ∧ o.roles ≤ 7 ∧ o.depth ≤ 7 ∧ o.cap ≤ 1099511627776
  qty : 113 ∈ hasK o.kind → 1 ≤ o.qty ∧ o.qty ≤ 65535
  price : o.price ≤ 16777215
  lines : 108 ∈ hasK o.kind → linesV o o.cl = true
open Classical in
noncomputable def checkV (n : Int) (o : OpD) : Int := if n < 1 ∨ 8 < n then 2 else if Form n.toNat o then 0 else 5
theorem checkV_zero {n : Int} {o : OpD} : checkV n o = 0 ↔ 1 ≤ n ∧ n ≤ 8 ∧ Form n.toNat o := by
  unfold checkV
  by_cases h : n < 1 ∨ 8 < n
  · rw [if_pos h]; constructor
    · intro h; cases h
    · intro hh; omega
  · rw [if_neg h]
    by_cases hf : Form n.toNat o
    · rw [if_pos hf]; exact ⟨fun _ => ⟨by omega, by omega, hf⟩, fun _ => rfl⟩
    · rw [if_neg hf]; exact ⟨fun h => (by cases h), fun h => absurd h.2.2 hf⟩
def OpD.lt (a b : OpD) : Bool := decide (a.time < b.time ∨ a.time = b.time ∧ (a.dot.r < b.dot.r ∨ a.dot.r = b.dot.r ∧ a.dot.n < b.dot.n))
theorem OpD.lt_iff {a b : OpD} : a.lt b = true ↔ a.time < b.time ∨ a.time = b.time ∧ (a.dot.r < b.dot.r ∨ a.dot.r = b.dot.r ∧ a.dot.n < b.dot.n) := by simp [OpD.lt]
theorem OpD.lt_irrefl (a : OpD) : a.lt a = false := by rw [Bool.eq_false_iff]; intro h; rw [OpD.lt_iff] at h; omega
theorem OpD.lt_trans {a b c : OpD} (h : a.lt b = true) (k : b.lt c = true) : a.lt c = true := by rw [OpD.lt_iff] at *; omega
theorem OpD.lt_asymm {a b : OpD} (h : a.lt b = true) : b.lt a = false := by rw [Bool.eq_false_iff]; intro k; rw [OpD.lt_iff] at *; omega
theorem OpD.lt_total {a b : OpD} (h : a.dot ≠ b.dot) : a.lt b = true ∨ b.lt a = true := by
  rw [OpD.lt_iff, OpD.lt_iff]
  have : a.dot.r ≠ b.dot.r ∨ a.dot.n ≠ b.dot.n := by
    rcases Nat.decEq a.dot.r b.dot.r with hr | hr
    · exact .inl hr
    · rcases Nat.decEq a.dot.n b.dot.n with hn | hn
      · exact .inr hn
      · exfalso; apply h
        cases ha : a.dot; cases hb : b.dot
        rw [ha, hb] at hr hn
        cases hr; cases hn; rfl
  omega
def ocmp (a b : OpD) : Int := if a.lt b then -1 else if b.lt a then 1 else 0
theorem ocmp_lt {a b : OpD} : ocmp a b < 0 ↔ a.lt b = true := by
  unfold ocmp
  by_cases h : a.lt b = true
  · simp [h]
  · by_cases k : b.lt a = true <;> simp [h, k]
def OpD.le (a b : OpD) : Bool := !b.lt a
theorem OpD.le_iff {a b : OpD} : OpD.le a b = true ↔ a.time < b.time ∨ a.time = b.time ∧ (a.dot.r < b.dot.r ∨ a.dot.r = b.dot.r ∧ a.dot.n ≤ b.dot.n) := by
  unfold OpD.le
  rw [Bool.not_eq_true', Bool.eq_false_iff, ne_eq, OpD.lt_iff]
  omega
def findO (l : List OpD) (d : Dt) : Option OpD := l.find? fun o => decide (o.dot = d)
theorem findO_some {l : List OpD} {d : Dt} {o : OpD} (h : findO l d = some o) : o ∈ l ∧ o.dot = d := by
  unfold findO at h
  have h2 := List.find?_some h
  simp only [decide_eq_true_eq] at h2
  exact ⟨List.mem_of_find?_eq_some h, h2⟩
theorem findO_none {l : List OpD} {d : Dt} : findO l d = none ↔ ∀ o, o ∈ l → o.dot ≠ d := by
  unfold findO
  rw [List.find?_eq_none]
  simp
theorem findO_isSome {l : List OpD} {d : Dt} : (findO l d).isSome = true ↔ ∃ o, o ∈ l ∧ o.dot = d := by
  cases h : findO l d with
  | none =>
    rw [findO_none] at h
    constructor
    · intro h; cases h
    · rintro ⟨o, ho, e⟩; exact absurd e (h o ho)
  | some o => exact ⟨fun _ => ⟨o, findO_some h⟩, fun _ => rfl⟩
def Uniq (l : List OpD) : Prop := (l.map (·.dot)).Nodup
theorem Uniq.inj {l : List OpD} (h : Uniq l) {a b : OpD} (ha : a ∈ l) (hb : b ∈ l) (e : a.dot = b.dot) : a = b := by
  induction l with
  | nil => cases ha
  | cons x l ih =>
    unfold Uniq at h
    rw [List.map_cons, List.nodup_cons] at h
    rcases List.mem_cons.1 ha with ea | ha'
    · rcases List.mem_cons.1 hb with eb | hb'
      · rw [ea, eb]
      · exact absurd (List.mem_map.2 ⟨b, hb', by rw [← e, ea]⟩) h.1
    · rcases List.mem_cons.1 hb with eb | hb'
      · exact absurd (List.mem_map.2 ⟨a, ha', by rw [e, eb]⟩) h.1
      · exact ih h.2 ha' hb'
theorem Uniq.perm {l m : List OpD} (h : Uniq l) (hp : m.Perm l) : Uniq m := (hp.map _).nodup_iff.2 h
theorem Uniq.sub {l m : List OpD} (h : Uniq l) (hs : m.Sublist l) : Uniq m := List.Nodup.sublist (hs.map _) h
def fstO : List OpD → List OpD
  | [] => []
  | x :: l => x :: (fstO l).filter fun o => !decide (o.dot = x.dot)
theorem fstO_mem {l : List OpD} {o : OpD} : o ∈ fstO l ↔ findO l o.dot = some o := by
  induction l with
  | nil => simp [fstO, findO]
  | cons x l ih =>
    simp only [fstO, List.mem_cons, List.mem_filter, ih]
    unfold findO
    rw [List.find?_cons]
    by_cases e : x.dot = o.dot
    · simp only [e, decide_true]
      constructor
      · rintro (rfl | ⟨_, h⟩)
        · rfl
        · simp [e.symm] at h
      · intro h; injection h with h; exact .inl h.symm
    · simp only [e, decide_false]
      constructor
      · rintro (rfl | ⟨h, _⟩)
        · exact absurd rfl e
        · exact h
      · intro h; exact .inr ⟨h, by simp; exact fun h => e h.symm⟩
theorem fstO_uniq : ∀ l : List OpD, Uniq (fstO l)
  | [] => List.nodup_nil
  | x :: l => by
    refine List.nodup_cons.2 ⟨fun hm => ?_, (fstO_uniq l).sub List.filter_sublist⟩
    obtain ⟨o, ho, e⟩ := List.mem_map.1 hm
    simp only [List.mem_filter] at ho
    simp [e] at ho
theorem fstO_snoc (l : List OpD) (x : OpD) : fstO (l ++ [x]) = if (findO l x.dot).isSome then fstO l else fstO l ++ [x] := by
  induction l with
  | nil => rfl
  | cons y l ih =>
    simp only [List.cons_append, fstO, ih]
    have hf : findO (y :: l) x.dot = if y.dot = x.dot then some y else findO l x.dot := by
      unfold findO; rw [List.find?_cons]
      by_cases e : y.dot = x.dot <;> simp [e]
    rw [hf]
    by_cases e : y.dot = x.dot
    · rw [if_pos e]
      by_cases hs : (findO l x.dot).isSome = true
      · rw [if_pos hs]; rfl
      · rw [if_neg hs]
        simp [List.filter_append, e.symm]
    · rw [if_neg e]
      by_cases hs : (findO l x.dot).isSome = true
      · rw [if_pos hs, if_pos hs]
      · rw [if_neg hs, if_neg hs, List.filter_append]
        have : decide (x.dot = y.dot) = false := decide_eq_false fun h => e h.symm
        simp [this]
theorem fstO_sub : ∀ l : List OpD, (fstO l).Sublist l
  | [] => .slnil
  | x :: l => (List.filter_sublist.trans (fstO_sub l)).cons_cons x
theorem Uniq.fst : ∀ {l : List OpD}, Uniq l → fstO l = l
  | [], _ => rfl
  | x :: l, h => by
    unfold Uniq at h
    rw [List.map_cons, List.nodup_cons] at h
    simp only [fstO, Uniq.fst h.2]
    congr 1
    rw [List.filter_eq_self]
    intro o ho
    simp only [Bool.not_eq_true', decide_eq_false_iff_not]
    exact fun e => h.1 (List.mem_map.2 ⟨o, ho, e⟩)
def Rises (l : List OpD) : Prop := l.Pairwise fun a b => a.lt b = true
theorem Rises.unique {l m : List OpD} (h1 : Rises l) (h2 : Rises m) (h : l.Perm m) : l = m :=
  h.eq_of_pairwise (fun a b _ _ h1 h2 => by rw [OpD.lt_asymm h1] at h2; cases h2) h1 h2
def osorted (l : List OpD) : List OpD := l.mergeSort OpD.le
theorem osorted_perm (l : List OpD) : (osorted l).Perm l := List.mergeSort_perm l OpD.le
theorem osorted_le (l : List OpD) : (osorted l).Pairwise fun a b => OpD.le a b = true :=
  List.pairwise_mergeSort (fun a b c h k => by rw [OpD.le_iff] at *; omega) (fun a b => by
    rw [Bool.or_eq_true, OpD.le_iff, OpD.le_iff]; omega) l
theorem osorted_rises {l : List OpD} (h : Uniq l) : Rises (osorted l) := by
  have h1 := osorted_le l
  have h2 : Uniq (osorted l) := h.perm (osorted_perm l)
  unfold Uniq List.Nodup at h2
  rw [List.pairwise_map] at h2
  refine List.Pairwise.imp₂ (fun a b hab hne => ?_) h1 h2
  rcases OpD.lt_total hne with h | h
  · exact h
  · unfold OpD.le at hab; rw [h] at hab; cases hab
end Go.Sl
namespace Go.Sl
open Go.RowKit
def nz : DV → DV
  | .nils => .sl 0 []
  | x => x
theorem RepD.nz {M : Mem} {v : Value} {x : DV} (h : RepD M x v) : RepD M (Go.Sl.nz x) v := by
  cases x with
  | nils => exact h.nils_sl
  | _ => exact h
theorem RepR.nz {M : Mem} {b : Nat} : ∀ (cs : List DV) (o : Nat), RepR M b o cs → RepR M b o (cs.map Go.Sl.nz)
  | [], o, h => by simp [RepR]
  | c :: cs, o, h => by
    simp only [RepR, List.map_cons] at h ⊢
    obtain ⟨⟨u, h1, h2⟩, h3⟩ := h
    exact ⟨⟨u, h1, h2.nz⟩, RepR.nz cs (o + 1) h3⟩
theorem RepD.nzr {M : Mem} {v : Value} {n : Nat} {cs : List DV} (h : RepD M (.sl n cs) v) : RepD M (.sl n (cs.map Go.Sl.nz)) v := by
  simp only [RepD] at h ⊢
  obtain ⟨A, c, h1, h2, h3, h4⟩ := h
  refine ⟨A, c, h1, h2, fun hn => by rw [h3 hn]; rfl, fun hn => ?_⟩
  obtain ⟨b, o, h5, h6⟩ := h4 hn
  exact ⟨b, o, h5, RepR.nz cs o h6⟩
theorem rps_nzr {p : Nat → Prop} {μ : Nat → Nm} {M : Mem} {n : Nat} {cs : List DV} {r r' : List SV} (hr : ∀ vs, Rps p μ M r' vs → Rps p μ M r vs) (vs : List Value) (h : Rps p μ M (.d (.sl n cs) :: r') vs) : Rps p μ M (.d (.sl n (cs.map Go.Sl.nz)) :: r) vs := by
  obtain ⟨u, us, rfl, h1, h2⟩ := Rps.cons_iff.1 h
  exact Rps.cons_iff.2 ⟨u, us, rfl, Rp.d_iff.2 (Rp.d_iff.1 h1).nzr, hr us h2⟩
theorem rps_nil_row {p : Nat → Prop} {μ : Nat → Nm} {M : Mem} {r r' : List SV} (hr : ∀ vs, Rps p μ M r' vs → Rps p μ M r vs) (vs : List Value) (h : Rps p μ M (.d .nils :: r') vs) : Rps p μ M (.d (.sl 0 []) :: r) vs := by
  obtain ⟨u, us, rfl, h1, h2⟩ := Rps.cons_iff.1 h
  exact Rps.cons_iff.2 ⟨u, us, rfl, nils_sl p μ M u h1, hr us h2⟩
theorem rps_keep {p : Nat → Prop} {μ : Nat → Nm} {M : Mem} {x : SV} {r r' : List SV} (hr : ∀ vs, Rps p μ M r' vs → Rps p μ M r vs) (vs : List Value) (h : Rps p μ M (x :: r') vs) : Rps p μ M (x :: r) vs := by
  obtain ⟨u, us, rfl, h1, h2⟩ := Rps.cons_iff.1 h
  exact Rps.cons_iff.2 ⟨u, us, rfl, h1, hr us h2⟩
def OpD.nz (o : OpD) : OpD := { o with lines := Go.Sl.nz o.lines }
theorem OpD.nz_ds (o : OpD) : o.nz.ds = o.ds.map Go.Sl.nz := rfl
theorem ops_nz (l : List OpD) : ((l.map OpD.nz).flatMap OpD.ds) = (l.flatMap OpD.ds).map Go.Sl.nz := by
  induction l with
  | nil => rfl
  | cons o l ih => simp only [List.map_cons, List.flatMap_cons, List.map_append, ih, OpD.nz_ds]
theorem cutR {ds x : List DV} {a n b : Nat} (h : (ds.drop a).take n = x) (hb : a + n = b) : ds.drop a = x ++ ds.drop b := by
  rw [← h, ← hb, ← List.drop_drop, List.take_append_drop]
end Go.Sl
