/-
  Buffers, in plain Lean: what waits, what is handed on next, what is handed on in the end.
-/
import Derived.Test.YtnakpdoioammhaaDoorUL
import Derived.Test.YtnakpdoioammhaaDoorU8
set_option linter.unusedSectionVars false
set_option linter.unusedVariables false
set_option linter.unusedSimpArgs false
namespace Go.Sl
theorem vcov {v : Vec} {d : Dt} : v.covers d = true ↔ (d.r < 8 ∧ 0 < d.n) ∧ d.n ≤ v.get d.r := by
  simp only [Vec.covers, Dt.may, Bool.and_eq_true, decide_eq_true_eq]
theorem Uniq.nd {l : List OpD} (h : Uniq l) : l.Nodup := by
  unfold Uniq List.Nodup at h
  rw [List.pairwise_map] at h
  exact h.imp fun h e => h (by rw [e])
def addB (has : Vec) (L : List OpD) (o : OpD) : List OpD := if (findO L o.dot).isSome || has.covers o.dot then L else L ++ [o]
def addAll (has : Vec) (L l : List OpD) : List OpD := l.foldl (addB has) L
def mayB (has : Vec) (o : OpD) : Bool := decide (o.dot.r < 8 ∧ has.get o.dot.r + 1 = o.dot.n) && has.above o.dep
def nextB (has : Vec) (L : List OpD) : Option OpD := (osorted L).find? (mayB has)
def dropB (L : List OpD) (d : Dt) : List OpD := L.filter fun o => !decide (o.dot = d)
def drain : Nat → Vec → List OpD → List OpD × Vec × List OpD
  | 0, has, L => ([], has, L)
  | k + 1, has, L => match nextB has L with
    | none => ([], has, L)
    | some o => let r := drain k (has.set o.dot.r o.dot.n) (dropB L o.dot); (o :: r.1, r.2)
def putB (has : Vec) (L l : List OpD) : List OpD × Vec × List OpD := drain (addAll has L l).length has (addAll has L l)
theorem nextB_some {has : Vec} {L : List OpD} {o : OpD} (h : nextB has L = some o) : o ∈ L ∧ mayB has o = true :=
  ⟨(osorted_perm L).mem_iff.1 (List.mem_of_find?_eq_some h), List.find?_some h⟩
theorem nextB_none {has : Vec} {L : List OpD} (h : nextB has L = none) {o : OpD} (ho : o ∈ L) : mayB has o = false := by
  have := List.find?_eq_none.1 h o ((osorted_perm L).mem_iff.2 ho)
  simpa using this
theorem mem_dropB {L : List OpD} {d : Dt} {o : OpD} : o ∈ dropB L d ↔ o ∈ L ∧ o.dot ≠ d := by
  unfold dropB; rw [List.mem_filter]; simp
theorem dropB_uniq {L : List OpD} (h : Uniq L) (d : Dt) : Uniq (dropB L d) := h.sub List.filter_sublist
theorem dropB_lt {L : List OpD} {o : OpD} (ho : o ∈ L) : (dropB L o.dot).length < L.length := by
  unfold dropB
  rw [← List.countP_eq_length_filter]
  refine Nat.lt_of_le_of_ne List.countP_le_length fun e => ?_
  have := List.countP_eq_length.1 e o ho
  simp at this
theorem mayB_iff {has : Vec} {o : OpD} : mayB has o = true ↔ (o.dot.r < 8 ∧ has.get o.dot.r + 1 = o.dot.n) ∧ has.above o.dep = true := by
  unfold mayB; rw [Bool.and_eq_true, decide_eq_true_eq]
theorem may_covers {has : Vec} {o : OpD} (h : mayB has o = true) (d : Dt) : (has.set o.dot.r o.dot.n).covers d = true ↔ d = o.dot ∨ has.covers d = true := by
  obtain ⟨⟨hr, hn⟩, _⟩ := mayB_iff.1 h
  have := Vec.covers_put (v := has) hr d
  rw [hn] at this
  rw [this, Bool.or_eq_true, decide_eq_true_eq]
theorem may_not {has : Vec} {o : OpD} (h : mayB has o = true) : has.covers o.dot = false := by
  rw [Bool.eq_false_iff]; intro hc
  have := (vcov.1 hc).2
  have := (mayB_iff.1 h).1.2
  omega
inductive Del (S : List OpD) : OpD → Prop
  | mk (o : OpD) (h : o ∈ S) (f : Nat → OpD) (hf : ∀ r, r < 8 → 0 < o.dep.get r → Del S (f r)) (he : ∀ r, r < 8 → 0 < o.dep.get r → (f r).dot = ⟨r, o.dep.get r⟩) : Del S o
theorem Del.mem {S : List OpD} {o : OpD} (h : Del S o) : o ∈ S := by cases h; assumption
theorem Del.mono {S T : List OpD} (hs : ∀ o, o ∈ S → o ∈ T) {o : OpD} (h : Del S o) : Del T o := by
  induction h with
  | mk o h f hf he ih => exact .mk o (hs o h) f ih he
structure Puts (n : Nat) (S : List OpD) : Prop where
  n8 : n ≤ 8
  uniq : Uniq S
  form : ∀ o, o ∈ S → Form n o
structure Half (S : List OpD) (has : Vec) (L : List OpD) : Prop where
  snd : ∀ d, has.covers d = true → ∃ a, a.dot = d ∧ Del S a
  wt : ∀ o, o ∈ L ↔ o ∈ S ∧ has.covers o.dot = false
  uniq : Uniq L
structure Full (S : List OpD) (has : Vec) (L : List OpD) : Prop extends Half S has L where
  cmp : ∀ o, Del S o → has.covers o.dot = true
theorem Form.dot8 {n : Nat} {o : OpD} (h : Form n o) (hn : n ≤ 8) : o.dot.r < 8 ∧ 0 < o.dot.n := ⟨by have := h.r; omega, h.pos⟩
theorem Half.step {n : Nat} {S : List OpD} {has : Vec} {L : List OpD} (hp : Puts n S) (h : Half S has L) {o : OpD} (ho : nextB has L = some o) : Half S (has.set o.dot.r o.dot.n) (dropB L o.dot) := by
  obtain ⟨hm, hmay⟩ := nextB_some ho
  obtain ⟨⟨hr, hn⟩, hab⟩ := mayB_iff.1 hmay
  have hoS := ((h.wt o).1 hm).1
  have hdel : Del S o := by
    have hx : ∀ r, r < 8 → 0 < o.dep.get r → ∃ a, a.dot = ⟨r, o.dep.get r⟩ ∧ Del S a := fun r hr h0 =>
      h.snd ⟨r, o.dep.get r⟩ (vcov.2 ⟨⟨hr, h0⟩, Vec.above_iff.1 hab r hr⟩)
    classical
    refine .mk o hoS (fun r => if hc : r < 8 ∧ 0 < o.dep.get r then (hx r hc.1 hc.2).choose else o) (fun r h1 h2 => ?_) fun r h1 h2 => ?_
    · rw [dif_pos ⟨h1, h2⟩]; exact (hx r h1 h2).choose_spec.2
    · rw [dif_pos ⟨h1, h2⟩]; exact (hx r h1 h2).choose_spec.1
  refine ⟨fun d hd => ?_, fun x => ?_, dropB_uniq h.uniq _⟩
  · rcases (may_covers hmay d).1 hd with rfl | hd
    · exact ⟨o, rfl, hdel⟩
    · exact h.snd d hd
  · rw [mem_dropB, h.wt x]
    have := may_covers hmay x.dot
    constructor
    · rintro ⟨⟨h1, h2⟩, h3⟩
      refine ⟨h1, ?_⟩
      rw [Bool.eq_false_iff]; intro hc
      rcases this.1 hc with e | e
      · exact h3 e
      · rw [h2] at e; cases e
    · rintro ⟨h1, h2⟩
      refine ⟨⟨h1, ?_⟩, fun e => ?_⟩
      · rw [Bool.eq_false_iff]; intro hc
        rw [this.2 (.inr hc)] at h2; cases h2
      · rw [this.2 (.inl e)] at h2; cases h2
theorem Half.done {n : Nat} {S : List OpD} {has : Vec} {L : List OpD} (hp : Puts n S) (h : Half S has L) (hn : nextB has L = none) : Full S has L := by
  refine ⟨h, fun o ho => ?_⟩
  induction ho with
  | mk o hS f hf he ih =>
    rw [← Bool.not_eq_false]; intro hc
    have hf8 := (hp.form o hS).dot8 hp.n8
    have hown := (hp.form o hS).own
    have hab : has.above o.dep = true := Vec.above_iff.2 fun r hr => by
      rcases Nat.eq_zero_or_pos (o.dep.get r) with h0 | h0
      · omega
      · have := ih r hr h0
        rw [he r hr h0] at this
        exact (vcov.1 this).2
    have h1 := Vec.above_iff.1 hab o.dot.r hf8.1
    have h2 : ¬ o.dot.n ≤ has.get o.dot.r := fun hle => by
      rw [vcov.2 ⟨hf8, hle⟩] at hc; cases hc
    have := nextB_none hn ((h.wt o).2 ⟨hS, hc⟩)
    rw [mayB_iff.2 ⟨⟨hf8.1, by omega⟩, hab⟩] at this
    cases this
structure Drained (S : List OpD) (has : Vec) (r : List OpD × Vec × List OpD) : Prop where
  full : Full S r.2.1 r.2.2
  mem : ∀ o, o ∈ r.1 ↔ o ∈ S ∧ r.2.1.covers o.dot = true ∧ has.covers o.dot = false
  nd : Uniq r.1
  up : ∀ d, has.covers d = true → r.2.1.covers d = true
  ahead : r.1.Pairwise fun a b => b.before a = false
  own : ∀ o, o ∈ r.1 → o.before o = false
  below : ∀ o, o ∈ r.1 → r.2.1.above o.dep = true
theorem Full.drained {S : List OpD} {has : Vec} {L : List OpD} (h : Full S has L) : Drained S has ([], has, L) :=
  ⟨h, fun o => by simp, List.nodup_nil, fun _ h => h, .nil, by simp, by simp⟩
theorem drain_ok {n : Nat} {S : List OpD} (hp : Puts n S) : ∀ (k : Nat) (has : Vec) (L : List OpD), Half S has L → L.length ≤ k → Drained S has (drain k has L)
  | 0, has, L, h, hk => by
    have : L = [] := List.eq_nil_of_length_eq_zero (by omega)
    subst this
    exact (h.done hp (by unfold nextB osorted; simp)).drained
  | k + 1, has, L, h, hk => by
    rw [drain]
    cases hn : nextB has L with
    | none => exact (h.done hp hn).drained
    | some o =>
      obtain ⟨hm, hmay⟩ := nextB_some hn
      obtain ⟨⟨hr, hon⟩, hab⟩ := mayB_iff.1 hmay
      have hoS := ((h.wt o).1 hm).1
      have hD := drain_ok hp k _ _ (h.step hp hn) (by have := dropB_lt hm; omega)
      have hcv := may_covers hmay
      have hno := may_not hmay
      have hown := (hp.form o hoS).own
      have h8 := (hp.form o hoS).dot8 hp.n8
      show Drained S has (o :: (drain k _ _).1, (drain k _ _).2)
      generalize drain k (has.set o.dot.r o.dot.n) (dropB L o.dot) = r at hD ⊢
      refine ⟨hD.full, fun x => ?_, ?_, fun d hd => hD.up d ((hcv d).2 (.inr hd)), ?_, ?_, ?_⟩
      · rw [List.mem_cons, hD.mem x]
        constructor
        · rintro (rfl | ⟨h1, h2, h3⟩)
          · exact ⟨hoS, hD.up _ ((hcv _).2 (.inl rfl)), hno⟩
          · refine ⟨h1, h2, ?_⟩
            rw [Bool.eq_false_iff]; intro hc
            rw [(hcv x.dot).2 (.inr hc)] at h3; cases h3
        · rintro ⟨h1, h2, h3⟩
          by_cases e : x.dot = o.dot
          · exact .inl (hp.uniq.inj h1 hoS e)
          · refine .inr ⟨h1, h2, ?_⟩
            rw [Bool.eq_false_iff]; intro hc
            rcases (hcv x.dot).1 hc with e' | e'
            · exact e e'
            · rw [h3] at e'; cases e'
      · refine List.nodup_cons.2 ⟨fun hm => ?_, hD.nd⟩
        obtain ⟨x, hx, e⟩ := List.mem_map.1 hm
        have := ((hD.mem x).1 hx).2.2
        rw [(hcv x.dot).2 (.inl e)] at this; cases this
      · refine List.pairwise_cons.2 ⟨fun x hx => ?_, hD.ahead⟩
        have h3 := ((hD.mem x).1 hx).2.2
        rw [Bool.eq_false_iff]; intro hb
        have : has.covers x.dot = true := Vec.covers_above hab x.dot hb
        rw [(hcv x.dot).2 (.inr this)] at h3; cases h3
      · intro x hx
        rcases List.mem_cons.1 hx with rfl | hx
        · rw [Bool.eq_false_iff]; intro hb
          have := (vcov.1 hb).2
          omega
        · exact hD.own x hx
      · intro x hx
        rcases List.mem_cons.1 hx with rfl | hx
        · refine Vec.above_iff.2 fun q hq => ?_
          rcases Nat.eq_zero_or_pos (x.dep.get q) with h0 | h0
          · omega
          · have := hD.up ⟨q, x.dep.get q⟩ ((hcv _).2 (.inr (vcov.2 ⟨⟨hq, h0⟩, Vec.above_iff.1 hab q hq⟩)))
            exact (vcov.1 this).2
        · exact hD.below x hx
theorem Full.there {n : Nat} {S : List OpD} {has : Vec} {L : List OpD} (hp : Puts n S) (h : Half S has L) (d : Dt) : ((findO L d).isSome || has.covers d) = (findO S d).isSome := by
  rw [Bool.eq_iff_iff, Bool.or_eq_true, findO_isSome, findO_isSome]
  constructor
  · rintro (⟨o, ho, e⟩ | hc)
    · exact ⟨o, ((h.wt o).1 ho).1, e⟩
    · obtain ⟨a, e, ha⟩ := h.snd d hc
      exact ⟨a, ha.mem, e⟩
  · rintro ⟨o, ho, rfl⟩
    cases hc : has.covers o.dot with
    | true => exact .inr rfl
    | false => exact .inl ⟨o, (h.wt o).2 ⟨ho, hc⟩, rfl⟩
theorem Half.add {n : Nat} {S : List OpD} {has : Vec} {L : List OpD} (hp : Puts n S) (h : Half S has L) {o : OpD} (ho : Form n o) :
    Puts n (fstO (S ++ [o])) ∧ Half (fstO (S ++ [o])) has (addB has L o) := by
  rw [fstO_snoc, hp.uniq.fst, addB, Full.there hp h]
  split
  · exact ⟨hp, h⟩
  · rename_i hno
    have hno : findO S o.dot = none := by simpa using hno
    have hnc : has.covers o.dot = false := by
      have := Full.there hp h o.dot
      rw [hno] at this
      simp only [Option.isSome_none, Bool.or_eq_false_iff] at this
      exact this.2
    have hnl : findO L o.dot = none := by
      have := Full.there hp h o.dot
      rw [hno] at this
      simp only [Option.isSome_none, Bool.or_eq_false_iff] at this
      simpa using this.1
    have hmem : ∀ x, x ∈ S ++ [o] ↔ x ∈ S ∨ x = o := fun x => by simp
    refine ⟨⟨hp.n8, ?_, fun x hx => ?_⟩, fun d hd => ?_, fun x => ?_, ?_⟩
    · unfold Uniq
      rw [List.map_append, List.nodup_append]
      refine ⟨hp.uniq, by simp, fun a ha b hb e => ?_⟩
      obtain ⟨x, hx, rfl⟩ := List.mem_map.1 ha
      simp at hb
      exact findO_none.1 hno x hx (by rw [e, hb])
    · rcases (hmem x).1 hx with hx | rfl
      · exact hp.form x hx
      · exact ho
    · obtain ⟨a, e, ha⟩ := h.snd d hd
      exact ⟨a, e, ha.mono fun x hx => (hmem x).2 (.inl hx)⟩
    · simp only [List.mem_append, List.mem_singleton, h.wt x]
      constructor
      · rintro (⟨h1, h2⟩ | rfl)
        · exact ⟨.inl h1, h2⟩
        · exact ⟨.inr rfl, hnc⟩
      · rintro ⟨h1 | rfl, h2⟩
        · exact .inl ⟨h1, h2⟩
        · exact .inr rfl
    · unfold Uniq
      rw [List.map_append, List.nodup_append]
      refine ⟨h.uniq, by simp, fun a ha b hb e => ?_⟩
      obtain ⟨x, hx, rfl⟩ := List.mem_map.1 ha
      simp at hb
      exact findO_none.1 hnl x hx (by rw [e, hb])
theorem fstO_idem (S : List OpD) (l : List OpD) : fstO (fstO S ++ l) = fstO (S ++ l) := by
  have key : ∀ m : Nat, ∀ l : List OpD, l.length = m → fstO (fstO S ++ l) = fstO (S ++ l) := by
    intro m
    induction m with
    | zero =>
      intro l hl
      have : l = [] := List.eq_nil_of_length_eq_zero hl
      subst this
      rw [List.append_nil, List.append_nil, (fstO_uniq S).fst]
    | succ m ih =>
      intro l hl
      obtain ⟨l', x, rfl⟩ : ∃ l' x, l = l' ++ [x] := by
        refine ⟨l.dropLast, l.getLast (fun e => by rw [e] at hl; cases hl), (List.dropLast_concat_getLast _).symm⟩
      have := ih l' (by simpa using hl)
      rw [← List.append_assoc, ← List.append_assoc, fstO_snoc, fstO_snoc, this]
      have hs : (findO (fstO S ++ l') x.dot).isSome = (findO (S ++ l') x.dot).isSome := by
        rw [Bool.eq_iff_iff, findO_isSome, findO_isSome]
        constructor
        · rintro ⟨o, ho, e⟩
          refine ⟨o, ?_, e⟩
          rcases List.mem_append.1 ho with h | h
          · exact List.mem_append.2 (.inl ((fstO_sub S).subset h))
          · exact List.mem_append.2 (.inr h)
        · rintro ⟨o, ho, e⟩
          rcases List.mem_append.1 ho with h | h
          · obtain ⟨y, hy⟩ := Option.isSome_iff_exists.1 (findO_isSome.2 ⟨o, h, e⟩)
            obtain ⟨h1, h2⟩ := findO_some hy
            exact ⟨y, List.mem_append.2 (.inl (fstO_mem.2 (by rw [h2]; exact hy))), h2⟩
          · exact ⟨o, List.mem_append.2 (.inr h), e⟩
      rw [hs]
  exact key l.length l rfl
theorem Half.addAll {n : Nat} {has : Vec} : ∀ (l : List OpD) {S L : List OpD}, Puts n S → Half S has L → (∀ o, o ∈ l → Form n o) → Puts n (fstO (S ++ l)) ∧ Half (fstO (S ++ l)) has (addAll has L l)
  | [], S, L, hp, h, _ => by rw [List.append_nil, hp.uniq.fst]; exact ⟨hp, h⟩
  | o :: l, S, L, hp, h, hf => by
    obtain ⟨h1, h2⟩ := h.add hp (hf o (by simp))
    have := Half.addAll l h1 h2 fun x hx => hf x (by simp [hx])
    rw [fstO_idem, List.append_assoc] at this
    exact this
theorem put_ok {n : Nat} {S : List OpD} {has : Vec} {L : List OpD} (hp : Puts n S) (h : Full S has L) {l : List OpD} (hf : ∀ o, o ∈ l → Form n o) :
    Puts n (fstO (S ++ l)) ∧ Drained (fstO (S ++ l)) has (putB has L l) := by
  obtain ⟨h1, h2⟩ := h.toHalf.addAll l hp hf
  exact ⟨h1, drain_ok h1 _ _ _ h2 (Nat.le_refl _)⟩
theorem zero_cov (d : Dt) : Vec.zero.covers d = false := by
  rw [Bool.eq_false_iff]; intro h
  have := vcov.1 h
  rw [Vec.zero_get] at this; omega
theorem new_full {n : Nat} (hn : n ≤ 8) : Puts n [] ∧ Full [] Vec.zero [] :=
  ⟨⟨hn, List.nodup_nil, by simp⟩, ⟨⟨fun d hd => (by rw [zero_cov] at hd; cases hd), by simp, List.nodup_nil⟩, fun o ho => by cases ho.mem⟩⟩
end Go.Sl
namespace Go.Sl
def vals (M : MM Dt OpD) : List OpD := M.map (·.2.2)
structure WB (M : MM Dt OpD) (c : Nat) : Prop where
  wf : MM.wf M c
  key : ∀ x, x ∈ M → x.2.1 = x.2.2.dot
section
variable {M : MM Dt OpD} {c : Nat}
theorem WB.keys (h : WB M c) : MM.keys M = (vals M).map (·.dot) := by
  unfold MM.keys vals
  rw [List.map_map]
  exact List.map_congr_left h.key
theorem WB.uniq (h : WB M c) : Uniq (vals M) := by
  unfold Uniq; rw [← h.keys]; exact h.wf.keys
theorem WB.has (h : WB M c) (d : Dt) : MM.has M d = (findO (vals M) d).isSome := by
  rw [Bool.eq_iff_iff, MM.has_iff, h.keys, findO_isSome, List.mem_map]
theorem vals_len (M : MM Dt OpD) : (vals M).length = M.length := by simp [vals]
theorem put_none {d : Dt} {o : OpD} (hd : MM.has M d = false) : MM.put M c d o = M ++ [(c, d, o)] := by
  unfold MM.put
  rw [← MM.idx_isSome] at hd
  cases hi : MM.idx M d with
  | none => rfl
  | some i => rw [hi] at hd; cases hd
theorem vals_put {d : Dt} {o : OpD} (hd : MM.has M d = false) : vals (MM.put M c d o) = vals M ++ [o] := by rw [put_none hd]; simp [vals]
theorem vals_del (h : WB M c) (d : Dt) : vals (MM.del M d) = dropB (vals M) d := by
  rw [MM.del_filter h.wf.keys]
  unfold vals dropB
  rw [List.filter_map]
  congr 1
  apply List.filter_congr
  intro x hx
  show decide (d ≠ x.2.1) = !decide (x.2.2.dot = d)
  rw [h.key x hx]
  by_cases e : x.2.2.dot = d
  · simp [e]
  · have e2 : ¬ d = x.2.2.dot := fun h => e h.symm
    simp [e, e2]
theorem WB.put (h : WB M c) {o : OpD} (hd : MM.has M o.dot = false) : WB (MM.put M c o.dot o) (c + 1) := by
  rw [put_none hd]
  refine ⟨⟨?_, ?_, ?_⟩, ?_⟩
  · unfold MM.keys
    rw [List.map_append, List.nodup_append]
    refine ⟨h.wf.keys, by simp, fun a ha b hb e => ?_⟩
    simp at hb
    rw [← Bool.not_eq_true, MM.has_iff] at hd
    exact hd (by rw [← hb, ← e]; exact ha)
  · rw [List.map_append, List.nodup_append]
    refine ⟨h.wf.times, by simp, fun a ha b hb e => ?_⟩
    simp at hb
    obtain ⟨x, hx, rfl⟩ := List.mem_map.1 ha
    have := h.wf.old x hx
    omega
  · intro x hx
    rcases List.mem_append.1 hx with hx | hx
    · have := h.wf.old x hx; omega
    · simp at hx; rw [hx]; exact Nat.lt_succ_self c
  · intro x hx
    rcases List.mem_append.1 hx with hx | hx
    · exact h.key x hx
    · simp at hx; rw [hx]
theorem WB.del (h : WB M c) (d : Dt) : WB (MM.del M d) c := by
  rw [MM.del_filter h.wf.keys]
  refine ⟨⟨?_, ?_, fun x hx => h.wf.old x (List.mem_filter.1 hx).1⟩, fun x hx => h.key x (List.mem_filter.1 hx).1⟩
  · exact List.Nodup.sublist (List.filter_sublist.map _) h.wf.keys
  · exact List.Nodup.sublist (List.filter_sublist.map _) h.wf.times
end
theorem WB.nil : WB [] 0 := ⟨⟨List.nodup_nil, List.nodup_nil, by simp⟩, by simp⟩
def putM (has : Vec) (X : MM Dt OpD × Nat) (o : OpD) : MM Dt OpD × Nat := if MM.has X.1 o.dot || has.covers o.dot then X else (MM.put X.1 X.2 o.dot o, X.2 + 1)
def putMs (has : Vec) (X : MM Dt OpD × Nat) (l : List OpD) : MM Dt OpD × Nat := l.foldl (putM has) X
theorem putM_ok {has : Vec} {X : MM Dt OpD × Nat} (h : WB X.1 X.2) (o : OpD) : WB (putM has X o).1 (putM has X o).2 ∧ vals (putM has X o).1 = addB has (vals X.1) o := by
  unfold putM addB
  rw [← h.has]
  split
  · exact ⟨h, rfl⟩
  · rename_i hn
    have hd : MM.has X.1 o.dot = false := by
      rw [Bool.or_eq_true, not_or] at hn; simpa using hn.1
    exact ⟨h.put hd, vals_put hd⟩
theorem putMs_ok {has : Vec} : ∀ (l : List OpD) {X : MM Dt OpD × Nat}, WB X.1 X.2 → WB (putMs has X l).1 (putMs has X l).2 ∧ vals (putMs has X l).1 = addAll has (vals X.1) l
  | [], X, h => ⟨h, rfl⟩
  | o :: l, X, h => by
    obtain ⟨h1, h2⟩ := putM_ok (has := has) h o
    have := putMs_ok (has := has) l h1
    rw [h2] at this
    exact this
theorem putMs_snoc (has : Vec) (X : MM Dt OpD × Nat) (l : List OpD) (o : OpD) : putMs has X (l ++ [o]) = putM has (putMs has X l) o := by
  unfold putMs; rw [List.foldl_append]; rfl
def drainM : Nat → Vec → MM Dt OpD → List OpD × Vec × MM Dt OpD
  | 0, has, M => ([], has, M)
  | k + 1, has, M => match nextB has (vals M) with
    | none => ([], has, M)
    | some o => ((o :: (drainM k (has.set o.dot.r o.dot.n) (MM.del M o.dot)).1), (drainM k (has.set o.dot.r o.dot.n) (MM.del M o.dot)).2)
theorem drainM_none {k : Nat} {has : Vec} {M : MM Dt OpD} (h : nextB has (vals M) = none) : drainM k has M = ([], has, M) := by
  cases k with
  | zero => rfl
  | succ k => rw [drainM, h]
theorem drainM_some {k : Nat} {has : Vec} {M : MM Dt OpD} {o : OpD} (h : nextB has (vals M) = some o) : drainM (k + 1) has M = (o :: (drainM k (has.set o.dot.r o.dot.n) (MM.del M o.dot)).1, (drainM k (has.set o.dot.r o.dot.n) (MM.del M o.dot)).2) := by
  rw [drainM, h]
theorem drainM_ok {c : Nat} : ∀ (k : Nat) (has : Vec) (M : MM Dt OpD), WB M c → WB (drainM k has M).2.2 c ∧ ((drainM k has M).1, (drainM k has M).2.1, vals (drainM k has M).2.2) = drain k has (vals M)
  | 0, has, M, h => ⟨h, rfl⟩
  | k + 1, has, M, h => by
    rw [drain]
    cases hn : nextB has (vals M) with
    | none => rw [drainM_none hn]; exact ⟨h, rfl⟩
    | some o =>
      rw [drainM_some hn]
      obtain ⟨h1, h2⟩ := drainM_ok k (has.set o.dot.r o.dot.n) (MM.del M o.dot) (h.del o.dot)
      refine ⟨h1, ?_⟩
      rw [vals_del h] at h2
      dsimp only
      rw [← h2]
def putR (has : Vec) (X : MM Dt OpD × Nat) (l : List OpD) : List OpD × Vec × MM Dt OpD := drainM (putMs has X l).1.length has (putMs has X l).1
theorem putR_ok {has : Vec} {X : MM Dt OpD × Nat} (h : WB X.1 X.2) (l : List OpD) : WB (putR has X l).2.2 (putMs has X l).2 ∧ ((putR has X l).1, (putR has X l).2.1, vals (putR has X l).2.2) = putB has (vals X.1) l := by
  obtain ⟨h1, h2⟩ := putMs_ok (has := has) l h
  have := drainM_ok (c := (putMs has X l).2) (putMs has X l).1.length has (putMs has X l).1 h1
  unfold putR putB
  rw [h2, ← vals_len, h2] at this
  rw [← vals_len, h2]
  exact this
end Go.Sl
namespace Go.Sl
theorem uniq_app {a b : List OpD} (ha : Uniq a) (hb : Uniq b) (h : ∀ x y, x ∈ a → y ∈ b → x.dot ≠ y.dot) : Uniq (a ++ b) := by
  unfold Uniq
  rw [List.map_append, List.nodup_append]
  refine ⟨ha, hb, fun d hd e he heq => ?_⟩
  obtain ⟨x, hx, rfl⟩ := List.mem_map.1 hd
  obtain ⟨y, hy, rfl⟩ := List.mem_map.1 he
  exact h x y hx hy heq
theorem fstO_all {S l : List OpD} {o : OpD} (h : o ∈ fstO (S ++ l)) : o ∈ S ∨ o ∈ l := List.mem_append.1 ((fstO_sub _).subset h)
end Go.Sl
