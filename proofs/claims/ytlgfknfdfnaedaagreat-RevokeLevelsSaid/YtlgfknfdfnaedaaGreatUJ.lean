/-
  Shapes: what a new shape holds (plain).
-/
import Derived.Test.YtlgfknfdfnaedaaGreatUI
import Derived.Test.YtlgfknfdfnaedaaGreatUD
import Derived.Test.YtlgfknfdfnaedaaGreatU6
set_option linter.unusedSectionVars false
set_option linter.unusedVariables false
set_option linter.unusedSimpArgs false
namespace Go.Proofs.YtlgfknfdfnaedaaGreat
open Go.Sl Go.Proofs
theorem Ups.uniq {a : MM Dt Cr} {oc : Option Cr} {L M : List Cr} (h : Ups a oc L) : Ups a oc M → L = M := by
  induction h generalizing M with
  | none => intro g; cases g; rfl
  | root c hc => intro g; cases g with
    | root _ _ => rfl
    | more _ L h1 _ => exact absurd h1 hc
  | more c L h1 _ ih => intro g; cases g with
    | root _ h2 => exact absurd h1 h2
    | more _ L' _ h2 => rw [ih h2]
open Classical in
noncomputable def upsL (a : MM Dt Cr) (d : Dt) : List Cr := if h : ∃ L, Ups a (MM.get a d) L then Classical.choose h else []
theorem upsL_eq {a : MM Dt Cr} {d : Dt} {L : List Cr} (h : Ups a (MM.get a d) L) : upsL a d = L := by
  have hx : ∃ L, Ups a (MM.get a d) L := ⟨L, h⟩
  unfold upsL
  rw [dif_pos hx]
  exact (Classical.choose_spec hx).uniq h
noncomputable def Sh.abv (S : Sh) (e d : Dt) : Bool := aboveR S.tr e d (upsL S.tr d)
noncomputable def Sh.whyF (S : Sh) (o : OpD) : Nat := S.why o (S.abv o.cred o.at_)
def Sh.ups (S : Sh) : Prop := ∀ d, ∃ L, Ups S.tr (MM.get S.tr d) L ∧ L.length ≤ 9
theorem Sh.abvC (S : Sh) (h : S.ups) (e d : Dt) : ∃ m, ∀ k, SCd Tryz.prog tree_Tree_Above.f [.ptr 4 0, .agg e.cells, .agg d.cells] S.h4 k m (bl (S.abv e d)) S.h4 := by
  obtain ⟨L, hL, hlen⟩ := h d
  refine ⟨6 + L.length * (1 + 1), fun k => ?_⟩
  have := above_at S.Tsep e d L hL (by omega) k
  unfold Sh.abv
  rw [upsL_eq hL]
  exact this
theorem Sh.whyC (S : Sh) (h : S.ups) (o : OpD) (hk : o.kind < 256) (hl : o.lin) (n : Sn) (hn : n.ok) (k : Nat) : SCd Tryz.prog shape_Shape_Why.f [.ptr n.b 0, .agg o.cells] (S.hp n) k 0 (i64 (S.whyF o)) (S.hp n) := by
  obtain ⟨m, hm⟩ := S.abvC h o.cred o.at_
  exact swhy_at S o hk _ (fun k => stgt_0 S o hk hl _ m hm k) n hn k
theorem Sh.whyF_adds (S : Sh) (A : MM Dt Int) (c : Nat) (B : MM Dt Dt) (e : Nat) {o : OpD} (hk : o.kind = 3) : ({ S with adds := A, ca := c, lns := B, cl := e } : Sh).whyF o = S.whyF o := by
  have ht : ∀ (T : Sh) (b : Bool), T.tgt o b = true := fun T b => by unfold Sh.tgt; rw [if_neg (by omega), if_neg (by omega), if_neg (by omega), if_neg (by omega)]
  have hr : ∀ (b : Bool) i, Sh.rea { S with adds := A, ca := c, lns := B, cl := e } o b i = S.rea o b i := fun b i => by
    match i with
    | 0 | 1 | 2 | 3 | 4 | 5 => rfl
    | i + 6 => show (!Sh.tgt _ o b) = (!Sh.tgt _ o b); rw [ht, ht]
  show Sh.why _ o (S.abv o.cred o.at_) = S.why o (S.abv o.cred o.at_)
  unfold Sh.why
  simp only [hr]
theorem Sh.whyF_lns (S : Sh) (B : MM Dt Dt) (e : Nat) {o : OpD} (hk : o.kind = 4) : ({ S with lns := B, cl := e } : Sh).whyF o = S.whyF o := by
  have ht : ∀ (b : Bool), Sh.tgt { S with lns := B, cl := e } o b = S.tgt o b := fun b => by
    unfold Sh.tgt; rw [if_neg (by omega), if_pos (.inl hk), if_neg (by omega), if_pos (.inl hk)]; rfl
  have hr : ∀ (b : Bool) i, Sh.rea { S with lns := B, cl := e } o b i = S.rea o b i := fun b i => by
    match i with
    | 0 | 1 | 2 | 3 | 4 | 5 => rfl
    | i + 6 => show (!Sh.tgt _ o b) = (!Sh.tgt _ o b); rw [ht]
  show Sh.why _ o (S.abv o.cred o.at_) = S.why o (S.abv o.cred o.at_)
  unfold Sh.why
  simp only [hr]
def stepM (s : MM Dt OpD × Nat) (o : OpD) : MM Dt OpD × Nat := if MM.has s.1 o.dot then s else (MM.put s.1 s.2 o.dot o, MM.clk s.1 s.2 o.dot)
def firstM (l : List OpD) : MM Dt OpD × Nat := l.foldl stepM ([], 0)
theorem firstM_snoc (l : List OpD) (x : OpD) : firstM (l ++ [x]) = stepM (firstM l) x := by unfold firstM; rw [List.foldl_append]; rfl
theorem findO_snoc (l : List OpD) (x : OpD) (d : Dt) : findO (l ++ [x]) d = (findO l d).or (if x.dot = d then some x else none) := by
  unfold findO
  rw [List.find?_append]
  congr 1
  simp only [List.find?_cons, List.find?_nil]
  by_cases h : x.dot = d <;> simp [h]
structure FirstOk (l : List OpD) (m : MM Dt OpD) (c : Nat) : Prop where
  wf : MM.wf m c
  get : ∀ d, MM.get m d = findO l d
theorem first_ok (l : List OpD) : FirstOk l (firstM l).1 (firstM l).2 := by
  have key : ∀ n, ∀ l : List OpD, l.length = n → FirstOk l (firstM l).1 (firstM l).2 := fun n => by
    induction n with
    | zero =>
      intro l hl
      rw [List.eq_nil_of_length_eq_zero hl]
      exact ⟨MM.wf_nil, fun d => by simp [firstM, MM.get, findO]⟩
    | succ n ih =>
      intro l hl
      have hne : l ≠ [] := fun e => by rw [e] at hl; cases hl
      have hd := List.dropLast_concat_getLast hne
      obtain ⟨x, hx⟩ : ∃ x, l.getLast hne = x := ⟨_, rfl⟩
      obtain ⟨p, hp⟩ : ∃ p, l.dropLast = p := ⟨_, rfl⟩
      rw [hx, hp] at hd
      have hpl : p.length = n := by rw [← hp, List.length_dropLast, hl]; omega
      have h := ih p hpl
      rw [← hd, firstM_snoc]
      unfold stepM
      by_cases hh : MM.has (firstM p).1 x.dot = true
      · rw [if_pos hh]
        refine ⟨h.wf, fun d => ?_⟩
        rw [h.get, findO_snoc]
        have hs : (findO p x.dot).isSome = true := by rw [← h.get]; exact hh
        by_cases e : x.dot = d
        · subst e
          obtain ⟨y, hy⟩ := Option.isSome_iff_exists.1 hs
          rw [hy]; rfl
        · rw [if_neg e]; simp
      · rw [if_neg hh]
        refine ⟨MM.wf_put h.wf _ _, fun d => ?_⟩
        rw [MM.get_put, h.get, findO_snoc]
        have hs : findO p x.dot = none := by
          rw [← h.get]
          have : (MM.get (firstM p).1 x.dot).isSome = false := by simpa [MM.has] using hh
          simpa using this
        by_cases e : d = x.dot
        · subst e
          rw [if_pos rfl, hs, if_pos rfl]; rfl
        · rw [if_neg e, if_neg (Ne.symm e)]; simp
  exact key _ l rfl
end Go.Proofs.YtlgfknfdfnaedaaGreat
namespace Go.Proofs.YtlgfknfdfnaedaaGreat
open Go.Sl Go.Proofs
attribute [local irreducible] SW RW SCd SC CallP Pruned
abbrev tr2 (a : MM Dt Cr) (ca : Nat) (m : MM Dt OpD) (cm : Nat) : Tr := ⟨2, 0, 1, a, ca, m, cm⟩
abbrev H2 (a : MM Dt Cr) (ca : Nat) (m : MM Dt OpD) (cm : Nat) : Hp := [(2, .box 120 [.mp 0, .mp 1]), (0, .map (mapE Dt.cells cv a) ca), (1, .map (mapE Dt.cells ov m) cm)]
structure Tn (l : List OpD) (a : MM Dt Cr) (ca : Nat) (m : MM Dt OpD) (cm : Nat) : Prop where
  new : newTr' l 0 = tr2 a ca m cm
theorem tn_of (l : List OpD) : ∃ a ca m cm, Tn l a ca m cm := by
  refine ⟨(newTr' l 0).at_, (newTr' l 0).ca, (newTr' l 0).made, (newTr' l 0).cm, ⟨?_⟩⟩
  have e1 : (newTr' l 0).bx = 2 := by show 0 + _ = 2; rw [Nat.zero_add]; exact TrS.e1 _
  have e2 : (newTr' l 0).ma = 0 := by show 0 + _ = 0; rw [Nat.zero_add]; exact TrS.e2 _
  have e3 : (newTr' l 0).mm = 1 := by show 0 + _ = 1; rw [Nat.zero_add]; exact TrS.e3 _
  revert e1 e2 e3
  generalize newTr' l 0 = T
  obtain ⟨b, x, y, a, ca, m, cm⟩ := T
  rintro rfl rfl rfl
  rfl
section
variable {l : List OpD} {a : MM Dt Cr} {ca : Nat} {m : MM Dt OpD} {cm : Nat} (h : Tn l a ca m cm)
include h
theorem Tn.newC (hl : l.length < 1000000000) : SCd Tryz.prog tree_New.f [ops l] [] 0 7 (.ptr 2 0) (H2 a ca m cm) := by
  have := new_at l hl 0
  rw [h.new] at this; exact this
end
end Go.Proofs.YtlgfknfdfnaedaaGreat
namespace Go.Proofs.YtlgfknfdfnaedaaGreat
open Go.Sl Go.Proofs
abbrev n10 : Sn := ⟨10, 7, 8, 9, 2, 0, 1⟩
theorem n10_ok : n10.ok := by decide
abbrev Sh.h10 (S : Sh) : Hp := [(10, .box 81 [.ptr 2 0, .mp 7, .mp 8, .mp 9]), (7, .map (mapE Dt.cells ov S.ops) S.co), (8, .map (mapE Dt.cells iv S.adds) S.ca), (9, .map (mapE Dt.cells dv S.lns) S.cl),
  (2, .box 120 [.mp 0, .mp 1]), (0, .map (mapE Dt.cells cv S.tr) S.ct), (1, .map (mapE Dt.cells ov S.md) S.cm)]
theorem Sh.ok10 (S : Sh) {k : Nat} (h : 11 ≤ k) : S.h10.ok (fun n => decide (n < k)) = true := by
  have a := omap_ok (fun n => decide (n < k)) S.ops
  have b := dmap_ok (fun n => decide (n < k)) S.adds
  have c := dvmap_ok (fun n => decide (n < k)) S.lns
  have d := cmap_ok (fun n => decide (n < k)) S.tr
  have e := omap_ok (fun n => decide (n < k)) S.md
  simp only [Hp.ok, List.all_cons, List.all_nil, Ob.ok, SV.oks, SV.ok, a, b, c, d, e, Bool.and_true, Bool.true_and, Bool.and_eq_true, decide_eq_true_eq]
  omega
theorem Sh.nd10 (S : Sh) : (S.h10.map (·.1)).Nodup := by simp
theorem Sh.why10 (S : Sh) (h : S.ups) (o : OpD) (hk : o.kind < 256) (hl : o.lin) (k : Nat) : SCd Tryz.prog shape_Shape_Why.f [.ptr 10 0, .agg o.cells] S.h10 k 0 (i64 (S.whyF o)) S.h10 := S.whyC h o hk hl n10 n10_ok k
structure ShBase (l : List OpD) (S : Sh) : Prop where
  ops : FirstOk l S.ops S.co
  tok : TOk l S.T
  ups : S.ups
  tr : S.tr = (newTr l).at_
  md : S.md = (newTr l).made
def AddsOk (S : Sh) (xs : MM Dt OpD) (A : MM Dt Int) (c : Nat) : Prop := MM.wf A c ∧ ∀ d v, MM.get A d = some v ↔ v = 1 ∧ ∃ x, x ∈ xs ∧ x.2.1 = d ∧ x.2.2.kind = 3 ∧ S.whyF x.2.2 = 0
def LnsOk (S : Sh) (xs : MM Dt OpD) (B : MM Dt Dt) (c : Nat) : Prop := MM.wf B c ∧ ∀ d v, MM.get B d = some v ↔ ∃ x, x ∈ xs ∧ x.2.1 = d ∧ x.2.2.kind = 4 ∧ S.whyF x.2.2 = 0 ∧ v = x.2.2.at_
structure ShOk (l : List OpD) (S : Sh) : Prop where
  base : ShBase l S
  adds : AddsOk S S.ops S.adds S.ca
  lns : LnsOk S S.ops S.lns S.cl
theorem get_mem {V : Type} {m : MM Dt V} {d : Dt} {v : V} (h : MM.get m d = some v) : ∃ x, x ∈ m ∧ x.2.1 = d ∧ x.2.2 = v := by
  unfold MM.get at h
  obtain ⟨x, hx, rfl⟩ := Option.map_eq_some_iff.1 h
  exact ⟨x, List.mem_of_find?_eq_some hx, by have := List.find?_some hx; simp at this; exact this.symm, rfl⟩
theorem mem_get {V : Type} {m : MM Dt V} (hk : (MM.keys m).Nodup) {x : Nat × Dt × V} (hx : x ∈ m) : MM.get m x.2.1 = some x.2.2 := by
  have : (MM.get m x.2.1).isSome = true := by
    unfold MM.get
    rw [Option.isSome_map, List.find?_isSome]
    exact ⟨x, hx, by simp⟩
  obtain ⟨v, hv⟩ := Option.isSome_iff_exists.1 this
  obtain ⟨y, hy, e1, e2⟩ := get_mem hv
  have : y = x := by
    have hp := List.nodup_iff_pairwise_ne.1 hk
    unfold MM.keys at hp
    rw [List.pairwise_map] at hp
    exact Classical.byContradiction fun hne => by
      rcases List.pairwise_iff_getElem.1 hp with hpp
      obtain ⟨i, hi, rfl⟩ := List.getElem_of_mem hy
      obtain ⟨j, hj, rfl⟩ := List.getElem_of_mem hx
      rcases Nat.lt_trichotomy i j with h | h | h
      · exact hpp i j hi hj h e1
      · subst h; exact hne rfl
      · exact hpp j i hj hi h e1.symm
  rw [hv, ← e2, this]
theorem AddsOk.skip {S : Sh} {xs : MM Dt OpD} {A : MM Dt Int} {c : Nat} (h : AddsOk S xs A c) {x : Nat × Dt × OpD} (hx : ¬ (x.2.2.kind = 3 ∧ S.whyF x.2.2 = 0)) : AddsOk S (xs ++ [x]) A c := by
  refine ⟨h.1, fun d v => ?_⟩
  rw [h.2]
  constructor
  · rintro ⟨h1, y, h2, h3⟩
    exact ⟨h1, y, List.mem_append_left _ h2, h3⟩
  · rintro ⟨h1, y, h2, h3, h4⟩
    rcases List.mem_append.1 h2 with h2 | h2
    · exact ⟨h1, y, h2, h3, h4⟩
    · rw [List.mem_singleton] at h2
      subst h2
      exact absurd h4 hx
theorem AddsOk.put {S : Sh} {xs : MM Dt OpD} {A : MM Dt Int} {c : Nat} (h : AddsOk S xs A c) {x : Nat × Dt × OpD} (hx : x.2.2.kind = 3 ∧ S.whyF x.2.2 = 0) : AddsOk S (xs ++ [x]) (MM.put A c x.2.1 1) (MM.clk A c x.2.1) := by
  refine ⟨MM.wf_put h.1 _ _, fun d v => ?_⟩
  rw [MM.get_put]
  by_cases e : d = x.2.1
  · rw [if_pos e]
    constructor
    · intro h1
      injection h1 with h1
      exact ⟨h1.symm, x, List.mem_append_right _ (List.mem_singleton.2 rfl), e.symm, hx⟩
    · rintro ⟨rfl, _⟩; rfl
  · rw [if_neg e, h.2]
    constructor
    · rintro ⟨h1, y, h2, h3⟩
      exact ⟨h1, y, List.mem_append_left _ h2, h3⟩
    · rintro ⟨h1, y, h2, h3, h4⟩
      rcases List.mem_append.1 h2 with h2 | h2
      · exact ⟨h1, y, h2, h3, h4⟩
      · rw [List.mem_singleton] at h2
        subst h2
        exact absurd h3.symm e
theorem AddsOk.to {S S' : Sh} {xs ys : MM Dt OpD} {A : MM Dt Int} {c : Nat} (h : AddsOk S xs A c) (hm : ∀ x, x ∈ xs ↔ x ∈ ys) (hw : ∀ o : OpD, o.kind = 3 → S'.whyF o = S.whyF o) : AddsOk S' ys A c := by
  refine ⟨h.1, fun d v => ?_⟩
  rw [h.2]
  constructor
  · rintro ⟨h1, y, h2, h3, h4, h5⟩
    exact ⟨h1, y, (hm y).1 h2, h3, h4, by rw [hw _ h4]; exact h5⟩
  · rintro ⟨h1, y, h2, h3, h4, h5⟩
    exact ⟨h1, y, (hm y).2 h2, h3, h4, by rw [← hw _ h4]; exact h5⟩
theorem LnsOk.skip {S : Sh} {xs : MM Dt OpD} {A : MM Dt Dt} {c : Nat} (h : LnsOk S xs A c) {x : Nat × Dt × OpD} (hx : ¬ (x.2.2.kind = 4 ∧ S.whyF x.2.2 = 0)) : LnsOk S (xs ++ [x]) A c := by
  refine ⟨h.1, fun d v => ?_⟩
  rw [h.2]
  constructor
  · rintro ⟨y, h2, h3⟩
    exact ⟨y, List.mem_append_left _ h2, h3⟩
  · rintro ⟨y, h2, h3, h4, h5, h6⟩
    rcases List.mem_append.1 h2 with h2 | h2
    · exact ⟨y, h2, h3, h4, h5, h6⟩
    · rw [List.mem_singleton] at h2
      subst h2
      exact absurd ⟨h4, h5⟩ hx
theorem LnsOk.put {S : Sh} {xs : MM Dt OpD} {A : MM Dt Dt} {c : Nat} (h : LnsOk S xs A c) {x : Nat × Dt × OpD} (hx : x.2.2.kind = 4 ∧ S.whyF x.2.2 = 0) (hu : ∀ y, y ∈ xs → y.2.1 ≠ x.2.1) : LnsOk S (xs ++ [x]) (MM.put A c x.2.1 x.2.2.at_) (MM.clk A c x.2.1) := by
  refine ⟨MM.wf_put h.1 _ _, fun d v => ?_⟩
  rw [MM.get_put]
  by_cases e : d = x.2.1
  · rw [if_pos e]
    constructor
    · intro h1
      injection h1 with h1
      exact ⟨x, List.mem_append_right _ (List.mem_singleton.2 rfl), e.symm, hx.1, hx.2, h1.symm⟩
    · rintro ⟨y, h2, h3, _, _, h6⟩
      rcases List.mem_append.1 h2 with h2 | h2
      · exact absurd (h3.trans e) (hu y h2)
      · rw [List.mem_singleton] at h2
        subst h2
        rw [h6]
  · rw [if_neg e, h.2]
    constructor
    · rintro ⟨y, h2, h3⟩
      exact ⟨y, List.mem_append_left _ h2, h3⟩
    · rintro ⟨y, h2, h3, h4⟩
      rcases List.mem_append.1 h2 with h2 | h2
      · exact ⟨y, h2, h3, h4⟩
      · rw [List.mem_singleton] at h2
        subst h2
        exact absurd h3.symm e
theorem LnsOk.to {S S' : Sh} {xs ys : MM Dt OpD} {A : MM Dt Dt} {c : Nat} (h : LnsOk S xs A c) (hm : ∀ x, x ∈ xs ↔ x ∈ ys) (hw : ∀ o : OpD, o.kind = 4 → S'.whyF o = S.whyF o) : LnsOk S' ys A c := by
  refine ⟨h.1, fun d v => ?_⟩
  rw [h.2]
  constructor
  · rintro ⟨y, h2, h3, h4, h5, h6⟩
    exact ⟨y, (hm y).1 h2, h3, h4, by rw [hw _ h4]; exact h5, h6⟩
  · rintro ⟨y, h2, h3, h4, h5, h6⟩
    exact ⟨y, (hm y).2 h2, h3, h4, by rw [← hw _ h4]; exact h5, h6⟩
theorem seen_all {M xs : MM Dt OpD} {c : Nat} (hwf : MM.wf M c) (p1 : ∀ x, x ∈ xs → x ∈ M) (hall : ∀ e, e ∈ mapE Dt.cells ov M → (xs.map (·.1)).contains e.1 = true) : ∀ x, x ∈ xs ↔ x ∈ M := fun x => ⟨p1 x, fun hx => by
  have := hall _ (List.mem_map.2 ⟨x, hx, rfl⟩)
  simp only [List.contains_iff_mem] at this
  obtain ⟨z, hz, e⟩ := List.mem_map.1 this
  rw [← MM.time_inj hwf.times (p1 z hz) hx e]; exact hz⟩
theorem seen_more {M xs : MM Dt OpD} (p1 : ∀ x, x ∈ xs → x ∈ M) (p2 : (xs.map (·.1)).Nodup) {x : Nat × Dt × OpD} (hx : x ∈ M) (hs : (xs.map (·.1)).contains x.1 = false) : (∀ z, z ∈ xs ++ [x] → z ∈ M) ∧ ((xs ++ [x]).map (·.1)).Nodup ∧ x.1 ∉ xs.map (·.1) := by
  have hxt : x.1 ∉ xs.map (·.1) := fun h => by
    have : (xs.map (·.1)).contains x.1 = true := by simpa only [List.contains_iff_mem] using h
    rw [this] at hs; cases hs
  refine ⟨fun z hz => ?_, ?_, hxt⟩
  · rcases List.mem_append.1 hz with hz | hz
    · exact p1 z hz
    · rw [List.mem_singleton.1 hz]; exact hx
  · rw [List.map_append, List.nodup_append]
    refine ⟨p2, by simp, fun a ha b' hb' => ?_⟩
    simp only [List.map_cons, List.map_nil, List.mem_singleton] at hb'
    intro e
    exact hxt (by rw [← hb', ← e]; exact ha)
section
attribute [local irreducible] SW RW SCd SC CallP Pruned
set_option maxHeartbeats 16000000 in
theorem snew_sb (l : List OpD) (hl : l.length < 1000000000) (hd : ∀ o, o ∈ l → o.kind < 256 ∧ o.lin) : SB Tryz.prog shape_New.f [ops l] [] 0 11 fun r F => ∃ S, ShOk l S ∧ r = .ptr 10 0 ∧ F = S.h10 := by
  obtain ⟨a, ca, m, cm, hT⟩ := tn_of l
  refine shape_New.enter (by first | rfl | simp [SV.ok, SV.oks]) (by first | rfl | simp [Hp.ok, Ob.ok, SV.ok, SV.oks, Vec.cells_ok]) (by simp) ?_
  dsimp only [shape_New.s, Co.M, Co.G, Co.J, Co.H, Co.N, Co.F, Co.C, Co.Z, Co.B, Co.b8, Co.b32, Co.b64, Co.i6, Co.z8, Co.z29]
  have hN := hT.newC hl
  refine SW.seq ?_
  refine SW.g0 [0, 2, 3, 5, 7, 8, 9, 10, 11, 19, 20, 21, 22, 36, 49, 51, 63, 73, 75, 87] mixed bq_tt ?_
  refine SW.seq ?_
  have sp4 : spl (spl (spl (spl [SV.d .nilp, .d .nilm, .d .nilm, .d .nilm] 0 [.ptr 2 0]) 1 [.mp 7]) 2 [.mp 8]) 3 [.mp 9] = [.ptr 2 0, .mp 7, .mp 8, .mp 9] := rfl
  refine SW.g1 [0, 2, 3, 5, 7, 8, 9, 10, 11, 19, 20, 21, 22, 36, 49, 51, 63, 73, 75, 87] mixed (sp4) hN ?_
  have w0 : ∀ y, y ∈ (⟨[], 0, [], 0, [], 0, a, ca, m, cm⟩ : Sh).h10 → lk [(10, .box 81 [.ptr 2 0, .mp 7, .mp 8, .mp 9]), (9, Ob.map [] 0), (8, .map [] 0), (7, .map [] 0), (2, .box 120 [.mp 0, .mp 1]), (0, .map (mapE Dt.cells cv a) ca), (1, .map (mapE Dt.cells ov m) cm)] y.1 = some y.2 := fun y hy => by
    simp only [List.mem_cons, List.not_mem_nil, or_false] at hy
    rcases hy with rfl | rfl | rfl | rfl | rfl | rfl | rfl <;> rfl
  refine SW.weak id (st1 := ⟨[(0, ops l), (3, .ptr 10 0)], (⟨[], 0, [], 0, [], 0, a, ca, m, cm⟩ : Sh).h10, 11⟩) (Weak.same (by simp) (by simp [EnvW, List.lookup, SV.ren, SV.ok, SV.oks]) (Sh.ok10 _ (Nat.le_refl 11)) w0) ?_
  refine SW.seq (SW.seq ?_)
  refine SW.g0 [0, 2, 3, 5, 7, 8, 9, 10, 11, 19, 20, 21, 22, 36, 49, 51, 63, 73, 75, 87] mixed bq_tt ?_
  refine SW.block ?_
  refine SW.loop (α := {i : Nat // i ≤ l.length}) (fun i => ⟨[(21, i64 i.1), (20, i64 l.length), (19, ops l), (3, .ptr 10 0)], (⟨(firstM (l.take i.1)).1, (firstM (l.take i.1)).2, [], 0, [], 0, a, ca, m, cm⟩ : Sh).h10, 11⟩) (fun i => l.length - i.1) ⟨0, by omega⟩ id (Weak.same (by simp) (by simp [EnvW, List.lookup, SV.ren, SV.ok, SV.oks]) (Sh.ok10 _ (Nat.le_refl 11)) (lk_of_nodup (Sh.nd10 _))) ?_
  rintro ⟨i, hi⟩
  dsimp only
  by_cases h : i < l.length
  · have h1 : decide ((i : Int) < l.length) = true := by simp only [decide_eq_true_eq]; omega
    obtain ⟨x, hx⟩ := get_of_lt h
    have e2 : IntKind.i64.wrap ((i : Int) + 1) = ((i + 1 : Nat) : Int) := wrap_i64 _ (by omega)
    have hsn := firstM_snoc (l.take i) x
    rw [← take_snoc hx] at hsn
    unfold stepM at hsn
    obtain ⟨M, hM⟩ : ∃ M, (firstM (l.take i)).1 = M := ⟨_, rfl⟩
    obtain ⟨c, hc⟩ : ∃ c, (firstM (l.take i)).2 = c := ⟨_, rfl⟩
    rw [hM, hc] at hsn ⊢
    obtain ⟨g, hg⟩ : ∃ g, (MM.get M x.dot).getD OpD.zero = g := ⟨_, rfl⟩
    have hms := mset_ov M c x.dot x
    refine SW.seq ?_
    refine SW.g0 [0, 2, 3, 5, 7, 8, 9, 10, 11, 19, 20, 21, 22, 36, 49, 51, 63, 73, 75, 87] mixed (h1) ?_
    refine SW.seq (SW.condT rfl (SW.skip ?_))
    refine SW.seq (SW.block (SW.seq ?_))
    refine SW.g0 [0, 2, 3, 5, 7, 8, 9, 10, 11, 19, 20, 21, 22, 36, 49, 51, 63, 73, 75, 87] mixed (And.intro (op_load hx) (And.intro (op_roomd hx) (And.intro (op_at hx) (op_room0 hx)))) ?_
    refine SW.seq ?_
    rcases hh : MM.has M x.dot with _ | _
    · rw [hh] at hsn
      simp only [Bool.false_eq_true, if_false] at hsn
      refine SW.g0 [0, 2, 3, 5, 7, 8, 9, 10, 11, 19, 20, 21, 22, 36, 49, 51, 63, 73, 75, 87] mixed (And.intro (hh) (hg)) ?_
      refine SW.seq ?_
      refine SW.g0 [0, 2, 3, 5, 7, 8, 9, 10, 11, 19, 20, 21, 22, 36, 49, 51, 63, 73, 75, 87] mixed bq_tt ?_
      refine SW.condT rfl ?_
      refine SW.g0 [0, 2, 3, 5, 7, 8, 9, 10, 11, 19, 20, 21, 22, 36, 49, 51, 63, 73, 75, 87] mixed (hms) ?_
      refine SW.g0 [0, 2, 3, 5, 7, 8, 9, 10, 11, 19, 20, 21, 22, 36, 49, 51, 63, 73, 75, 87] mixed (e2) ?_
      refine ⟨⟨i + 1, by omega⟩, id, by show l.length - (i + 1) < l.length - i; omega, ?_⟩
      dsimp only
      rw [hsn]
      refine Weak.same (by simp) (by simp [EnvW, List.lookup, SV.ren, SV.ok, SV.oks]) (Sh.ok10 _ (Nat.le_refl 11)) (fun y hy => ?_)
      simp only [List.mem_cons, List.not_mem_nil, or_false] at hy
      rcases hy with rfl | rfl | rfl | rfl | rfl | rfl | rfl <;> rfl
    · rw [hh] at hsn
      simp only [if_true] at hsn
      refine SW.g0 [0, 2, 3, 5, 7, 8, 9, 10, 11, 19, 20, 21, 22, 36, 49, 51, 63, 73, 75, 87] mixed (And.intro (hh) (hg)) ?_
      refine SW.seq ?_
      refine SW.g0 [0, 2, 3, 5, 7, 8, 9, 10, 11, 19, 20, 21, 22, 36, 49, 51, 63, 73, 75, 87] mixed bq_tt ?_
      refine SW.condF rfl (SW.skip ?_)
      refine SW.g0 [0, 2, 3, 5, 7, 8, 9, 10, 11, 19, 20, 21, 22, 36, 49, 51, 63, 73, 75, 87] mixed (e2) ?_
      refine ⟨⟨i + 1, by omega⟩, id, by show l.length - (i + 1) < l.length - i; omega, ?_⟩
      dsimp only
      rw [hsn, hM, hc]
      refine Weak.same (by simp) (by simp [EnvW, List.lookup, SV.ren, SV.ok, SV.oks]) (Sh.ok10 _ (Nat.le_refl 11)) (fun y hy => ?_)
      simp only [List.mem_cons, List.not_mem_nil, or_false] at hy
      rcases hy with rfl | rfl | rfl | rfl | rfl | rfl | rfl <;> rfl
  have h1 : decide ((i : Int) < l.length) = false := by simp only [decide_eq_false_iff_not]; omega
  have hi2 : i = l.length := by omega
  subst hi2
  rw [List.take_length]
  have hF := first_ok l
  obtain ⟨M, hM⟩ : ∃ M, (firstM l).1 = M := ⟨_, rfl⟩
  obtain ⟨c, hc⟩ : ∃ c, (firstM l).2 = c := ⟨_, rfl⟩
  rw [hM, hc] at hF ⊢
  refine SW.seq ?_
  refine SW.g0 [0, 2, 3, 5, 7, 8, 9, 10, 11, 19, 20, 21, 22, 36, 49, 51, 63, 73, 75, 87] mixed (h1) ?_
  refine SW.seq (SW.condF rfl (SW.exit ?_))
  refine (?_ : Sl.SW _ _ _ _ _ _)
  refine SW.weak id (st1 := ⟨[(3, .ptr 10 0)], (⟨M, c, [], 0, [], 0, a, ca, m, cm⟩ : Sh).h10, 11⟩) (Weak.same (by simp) (by simp [EnvW, List.lookup, SV.ren, SV.ok, SV.oks]) (Sh.ok10 _ (Nat.le_refl 11)) (lk_of_nodup (Sh.nd10 _))) ?_
  obtain ⟨S, hS⟩ : ∃ S : Sh, (⟨M, c, [], 0, [], 0, a, ca, m, cm⟩ : Sh) = S := ⟨_, rfl⟩
  have hB : ShBase l S := by
    rw [← hS]
    have hnew := hT.new
    have ht := newTr'_tok l 0
    rw [hnew] at ht
    refine ⟨hF, ⟨ht.cr, ht.no⟩, fun d => ?_, (congrArg Tr.at_ hnew).symm, (congrArg Tr.made hnew).symm⟩
    obtain ⟨L, h2, h3, _⟩ := ht.ups d
    exact ⟨L, h2, h3⟩
  rw [hS]
  have hwf := hB.ops.wf
  have hkd : ∀ x, x ∈ S.ops → x.2.2.kind < 256 ∧ x.2.2.lin := fun x hx => by
    have h1 := mem_get hwf.keys hx
    rw [hB.ops.get] at h1
    exact hd _ (findO_mem h1)
  have hSa : ({ S with adds := [], ca := 0 } : Sh) = S ∧ S.lns = [] ∧ S.cl = 0 := by rw [← hS]; exact ⟨rfl, rfl, rfl⟩
  clear hS hN hT w0 hF hM hc
  refine SW.seq (SW.seq ?_)
  refine SW.g0 [0, 2, 3, 5, 7, 8, 9, 10, 11, 19, 20, 21, 22, 36, 49, 51, 63, 73, 75, 87] mixed bq_tt ?_
  refine SW.block ?_
  refine SW.mapLoop (es := fun _ => mapE Dt.cells ov S.ops) (c := fun _ => S.co) (nit := fun _ => 11) (nm := fun _ => 7) (since := fun _ => S.co) (sst := fun _ => S.co)
    (α := {p : MM Dt OpD × MM Dt Int × Nat // (∀ x, x ∈ p.1 → x ∈ S.ops) ∧ (p.1.map (·.1)).Nodup ∧ AddsOk S p.1 p.2.1 p.2.2})
    (fun p => ⟨[(49, .it 11), (3, .ptr 10 0)], (11, .iter (some 7) S.co (p.1.1.map (·.1)) S.co) :: ({ S with adds := p.1.2.1, ca := p.1.2.2 } : Sh).h10, 12⟩)
    (fun p => unseen (mapE Dt.cells ov S.ops) (p.1.1.map (·.1))) ⟨([], [], 0), by simp, by simp, MM.wf_nil, fun d v => by simp [MM.get]⟩ id (seen := fun p => p.1.1.map (·.1)) ?_ (fun p => by simp [List.lookup]) (fun p => by simp [lk_cons]) (fun p => by simp [lk_cons]) (fun p => by decide) (fun p e he => ?_) (fun p => Nat.le_refl _) (fun p hall => ?_) (fun p e he hs => ?_)
  · show Weak 0 _ ⟨[(49, .it 11), (3, .ptr 10 0)], (11, .iter (some 7) S.co [] S.co) :: ({ S with adds := [], ca := 0 } : Sh).h10, 12⟩ id
    rw [hSa.1]
    exact Weak.same (by simp) (by simp [EnvW, List.lookup, SV.ren, SV.ok, SV.oks]) (ok_cons (by simp) (by simp [Ob.ok]) (Sh.ok10 _ (show 11 ≤ 12 by omega))) (lk_of_nodup (by simp))
  · obtain ⟨x, hx, rfl⟩ := mapE_mem he
    exact hwf.old x hx
  · obtain ⟨⟨xs, A, ac⟩, p1, p2, p3⟩ := p
    dsimp only at *
    have hxs := seen_all hwf p1 hall
    refine ⟨⟨[(3, .ptr 10 0)], ({ S with adds := A, ca := ac } : Sh).h10, 11⟩, id, Weak.same (by simp) (by simp [EnvW, List.lookup, SV.ren, SV.ok, SV.oks]) (Sh.ok10 _ (Nat.le_refl 11)) (fun y hy => by
      simp only [List.mem_cons, List.not_mem_nil, or_false] at hy
      rcases hy with rfl | rfl | rfl | rfl | rfl | rfl | rfl <;> rfl), ?_⟩
    rw [if_pos rfl]
    obtain ⟨S1, hS1⟩ : ∃ S1 : Sh, ({ S with adds := A, ca := ac } : Sh) = S1 := ⟨_, rfl⟩
    have hB1 : ShBase l S1 := by rw [← hS1]; exact ⟨hB.ops, ⟨hB.tok.cr, hB.tok.no⟩, hB.ups, hB.tr, hB.md⟩
    have hA1 : AddsOk S1 S1.ops S1.adds S1.ca := by
      rw [← hS1]
      exact p3.to hxs fun o ho => S.whyF_adds A ac S.lns S.cl ho
    have hops : S1.ops = S.ops ∧ S1.co = S.co := by rw [← hS1]; exact ⟨rfl, rfl⟩
    have hSb : ({ S1 with lns := [], cl := 0 } : Sh) = S1 := by
      rw [← hS1]
      have h2 := hSa.2.1
      have h3 := hSa.2.2
      cases S
      dsimp only at h2 h3 ⊢
      rw [h2, h3]
    rw [hS1]
    have hwf1 := hB1.ops.wf
    have hkd1 : ∀ x, x ∈ S1.ops → x.2.2.kind < 256 ∧ x.2.2.lin := fun x hx => hkd x (by rw [← hops.1]; exact hx)
    refine SW.seq (SW.seq ?_)
    refine SW.g0 [0, 2, 3, 5, 7, 8, 9, 10, 11, 19, 20, 21, 22, 36, 49, 51, 63, 73, 75, 87] mixed bq_tt ?_
    refine SW.block ?_
    refine SW.mapLoop (es := fun _ => mapE Dt.cells ov S1.ops) (c := fun _ => S1.co) (nit := fun _ => 11) (nm := fun _ => 7) (since := fun _ => S1.co) (sst := fun _ => S1.co)
      (α := {p : MM Dt OpD × MM Dt Dt × Nat // (∀ x, x ∈ p.1 → x ∈ S1.ops) ∧ (p.1.map (·.1)).Nodup ∧ LnsOk S1 p.1 p.2.1 p.2.2})
      (fun p => ⟨[(73, .it 11), (3, .ptr 10 0)], (11, .iter (some 7) S1.co (p.1.1.map (·.1)) S1.co) :: ({ S1 with lns := p.1.2.1, cl := p.1.2.2 } : Sh).h10, 12⟩)
      (fun p => unseen (mapE Dt.cells ov S1.ops) (p.1.1.map (·.1))) ⟨([], [], 0), by simp, by simp, MM.wf_nil, fun d v => by simp [MM.get]⟩ id (seen := fun p => p.1.1.map (·.1)) ?_ (fun p => by simp [List.lookup]) (fun p => by simp [lk_cons]) (fun p => by simp [lk_cons]) (fun p => by decide) (fun p e he => ?_) (fun p => Nat.le_refl _) (fun p hall => ?_) (fun p e he hs => ?_)
    · show Weak 0 _ ⟨[(73, .it 11), (3, .ptr 10 0)], (11, .iter (some 7) S1.co [] S1.co) :: ({ S1 with lns := [], cl := 0 } : Sh).h10, 12⟩ id
      rw [hSb]
      exact Weak.same (by simp) (by simp [EnvW, List.lookup, SV.ren, SV.ok, SV.oks]) (ok_cons (by simp) (by simp [Ob.ok]) (Sh.ok10 _ (show 11 ≤ 12 by omega))) (lk_of_nodup (by simp))
    · obtain ⟨x, hx, rfl⟩ := mapE_mem he
      exact hwf1.old x hx
    · obtain ⟨⟨xs2, B, bc⟩, r1, r2, r3⟩ := p
      dsimp only at *
      have hxs2 := seen_all hwf1 r1 hall
      refine ⟨⟨[(3, .ptr 10 0)], ({ S1 with lns := B, cl := bc } : Sh).h10, 11⟩, id, Weak.same (by simp) (by simp [EnvW, List.lookup, SV.ren, SV.ok, SV.oks]) (Sh.ok10 _ (Nat.le_refl 11)) (fun y hy => by
        simp only [List.mem_cons, List.not_mem_nil, or_false] at hy
        rcases hy with rfl | rfl | rfl | rfl | rfl | rfl | rfl <;> rfl), ?_⟩
      rw [if_pos rfl]
      refine SW.seq ?_
      refine SW.g0 [0, 2, 3, 5, 7, 8, 9, 10, 11, 19, 20, 21, 22, 36, 49, 51, 63, 73, 75, 87] mixed bq_tt ?_
      refine SW.ret ?_
      refine End.mk ({ S1 with lns := B, cl := bc } : Sh).h10 (h4 := ⟨{ S1 with lns := B, cl := bc }, ⟨⟨hB1.ops, ⟨hB1.tok.cr, hB1.tok.no⟩, hB1.ups, hB1.tr, hB1.md⟩, hA1.to (fun _ => Iff.rfl) fun o ho => ?_, r3.to hxs2 fun o ho => S1.whyF_lns B bc ho⟩, rfl, rfl⟩) (h6 := Sh.ok10 _ (Nat.le_refl 11))
      exact S1.whyF_adds S1.adds S1.ca B bc ho
    · obtain ⟨⟨xs, B, bc⟩, p1, p2, p3⟩ := p
      dsimp only at *
      obtain ⟨x, hx, rfl⟩ := mapE_mem he
      dsimp only at hs
      have g5 : (xs.map (·.1) ++ [x.1]).getLast? = some x.1 := by simp
      have g6 := mapE_find (kc := Dt.cells) (vs := ov) hwf1.times hx
      have eov : ∀ o, ov o = .agg o.cells := fun _ => rfl
      obtain ⟨q1, q2, hxt⟩ := seen_more p1 p2 hx hs
      have hu : ∀ y, y ∈ xs → y.2.1 ≠ x.2.1 := fun y hy e => by
        have h1 := mem_get hwf1.keys (p1 y hy)
        have h2 := mem_get hwf1.keys hx
        have hp := List.nodup_iff_pairwise_ne.1 hwf1.keys
        unfold MM.keys at hp
        rw [List.pairwise_map] at hp
        obtain ⟨i, hi, e1⟩ := List.getElem_of_mem (p1 y hy)
        obtain ⟨j, hj, e2⟩ := List.getElem_of_mem hx
        rcases Nat.lt_trichotomy i j with h | h | h
        · exact List.pairwise_iff_getElem.1 hp i j hi hj h (by rw [e1, e2]; exact e)
        · subst h
          exact hxt (List.mem_map.2 ⟨y, hy, by rw [← e1, ← e2]⟩)
        · exact List.pairwise_iff_getElem.1 hp j i hj hi h (by rw [e1, e2]; exact e.symm)
      have em : (xs ++ [x]).map (·.1) = xs.map (·.1) ++ [x.1] := by simp
      have hm := unseen_lt he hs
      obtain ⟨k1, k2⟩ := hkd1 x hx
      rw [hset_head]
      refine SW.block (SW.seq ?_)
      refine SW.g0 [0, 2, 3, 5, 7, 8, 9, 10, 11, 19, 20, 21, 22, 36, 49, 51, 63, 73, 75, 87] mixed (And.intro (g5) (And.intro (g6) (eov))) ?_
      refine SW.seq ?_
      by_cases h3 : x.2.2.kind = 4
      · have z3 : (((x.2.2.kind : Nat) : Int) == 4) = true := by rw [h3]; rfl
        have hw : ∀ k, SCd Tryz.prog shape_Shape_Why.f [.ptr 10 0, .agg x.2.2.cells] ({ S1 with lns := B, cl := bc } : Sh).h10 k 0 (i64 (S1.whyF x.2.2)) ({ S1 with lns := B, cl := bc } : Sh).h10 := fun k => by
          have := Sh.why10 { S1 with lns := B, cl := bc } hB1.ups x.2.2 k1 k2 k
          rw [show Sh.whyF { S1 with lns := B, cl := bc } x.2.2 = S1.whyF x.2.2 from S1.whyF_lns B bc h3] at this
          exact this
        by_cases h0 : S1.whyF x.2.2 = 0
        · have z0 : (((S1.whyF x.2.2 : Nat) : Int) == 0) = true := by rw [h0]; rfl
          refine SW.g1 [0, 2, 3, 5, 7, 8, 9, 10, 11, 19, 20, 21, 22, 36, 49, 51, 63, 73, 75, 87] mixed (And.intro (z3) (z0)) hw ?_
          refine SW.condT rfl ?_
          refine SW.g0 [0, 2, 3, 5, 7, 8, 9, 10, 11, 19, 20, 21, 22, 36, 49, 51, 63, 73, 75, 87] mixed (mset_dv B bc x.2.1 x.2.2.at_) ?_
          refine ⟨⟨(xs ++ [x], MM.put B bc x.2.1 x.2.2.at_, MM.clk B bc x.2.1), q1, q2, p3.put ⟨h3, h0⟩ hu⟩, id, by rw [em]; exact hm, ?_⟩
          dsimp only
          rw [em]
          refine Weak.same (by simp) (by simp [EnvW, List.lookup, SV.ren, SV.ok, SV.oks]) (ok_cons (by simp) (by simp [Ob.ok]) (Sh.ok10 _ (show 11 ≤ 12 by omega))) (fun y hy => ?_)
          simp only [List.mem_cons, List.not_mem_nil, or_false] at hy
          rcases hy with rfl | rfl | rfl | rfl | rfl | rfl | rfl | rfl <;> rfl
        · 
          have z0 : (((S1.whyF x.2.2 : Nat) : Int) == 0) = false := by simpa using h0
          refine SW.g1 [0, 2, 3, 5, 7, 8, 9, 10, 11, 19, 20, 21, 22, 36, 49, 51, 63, 73, 75, 87] mixed (And.intro (z3) (z0)) hw ?_
          refine SW.condF rfl (SW.skip ?_)
          refine ⟨⟨(xs ++ [x], B, bc), q1, q2, p3.skip fun h => h0 h.2⟩, id, by rw [em]; exact hm, ?_⟩
          dsimp only
          rw [em]
          refine Weak.same (by simp) (by simp [EnvW, List.lookup, SV.ren, SV.ok, SV.oks]) (ok_cons (by simp) (by simp [Ob.ok]) (Sh.ok10 _ (show 11 ≤ 12 by omega))) (fun y hy => ?_)
          simp only [List.mem_cons, List.not_mem_nil, or_false] at hy
          rcases hy with rfl | rfl | rfl | rfl | rfl | rfl | rfl | rfl <;> rfl
      · have z3 : (((x.2.2.kind : Nat) : Int) == 4) = false := by simp; omega
        refine SW.g0 [0, 2, 3, 5, 7, 8, 9, 10, 11, 19, 20, 21, 22, 36, 49, 51, 63, 73, 75, 87] mixed (z3) ?_
        refine SW.condF rfl (SW.skip ?_)
        refine ⟨⟨(xs ++ [x], B, bc), q1, q2, p3.skip fun h => h3 h.1⟩, id, by rw [em]; exact hm, ?_⟩
        dsimp only
        rw [em]
        refine Weak.same (by simp) (by simp [EnvW, List.lookup, SV.ren, SV.ok, SV.oks]) (ok_cons (by simp) (by simp [Ob.ok]) (Sh.ok10 _ (show 11 ≤ 12 by omega))) (fun y hy => ?_)
        simp only [List.mem_cons, List.not_mem_nil, or_false] at hy
        rcases hy with rfl | rfl | rfl | rfl | rfl | rfl | rfl | rfl <;> rfl
  · obtain ⟨⟨xs, A, ac⟩, p1, p2, p3⟩ := p
    dsimp only at *
    obtain ⟨x, hx, rfl⟩ := mapE_mem he
    dsimp only at hs
    have g5 : (xs.map (·.1) ++ [x.1]).getLast? = some x.1 := by simp
    have g6 := mapE_find (kc := Dt.cells) (vs := ov) hwf.times hx
    have eov : ∀ o, ov o = .agg o.cells := fun _ => rfl
    obtain ⟨q1, q2, _⟩ := seen_more p1 p2 hx hs
    have em : (xs ++ [x]).map (·.1) = xs.map (·.1) ++ [x.1] := by simp
    have hm := unseen_lt he hs
    obtain ⟨k1, k2⟩ := hkd x hx
    rw [hset_head]
    refine SW.block (SW.seq ?_)
    refine SW.g0 [0, 2, 3, 5, 7, 8, 9, 10, 11, 19, 20, 21, 22, 36, 49, 51, 63, 73, 75, 87] mixed (And.intro (g5) (And.intro (g6) (eov))) ?_
    refine SW.seq ?_
    by_cases h3 : x.2.2.kind = 3
    · have z3 : (((x.2.2.kind : Nat) : Int) == 3) = true := by rw [h3]; rfl
      have hw : ∀ k, SCd Tryz.prog shape_Shape_Why.f [.ptr 10 0, .agg x.2.2.cells] ({ S with adds := A, ca := ac } : Sh).h10 k 0 (i64 (S.whyF x.2.2)) ({ S with adds := A, ca := ac } : Sh).h10 := fun k => by
        have := Sh.why10 { S with adds := A, ca := ac } hB.ups x.2.2 k1 k2 k
        rw [show Sh.whyF { S with adds := A, ca := ac } x.2.2 = S.whyF x.2.2 from S.whyF_adds A ac S.lns S.cl h3] at this
        exact this
      by_cases h0 : S.whyF x.2.2 = 0
      · have z0 : (((S.whyF x.2.2 : Nat) : Int) == 0) = true := by rw [h0]; rfl
        refine SW.g1 [0, 2, 3, 5, 7, 8, 9, 10, 11, 19, 20, 21, 22, 36, 49, 51, 63, 73, 75, 87] mixed (And.intro (z3) (z0)) hw ?_
        refine SW.condT rfl ?_
        refine SW.g0 [0, 2, 3, 5, 7, 8, 9, 10, 11, 19, 20, 21, 22, 36, 49, 51, 63, 73, 75, 87] mixed bq_tt ?_
        refine ⟨⟨(xs ++ [x], MM.put A ac x.2.1 1, MM.clk A ac x.2.1), q1, q2, p3.put ⟨h3, h0⟩⟩, id, by rw [em]; exact hm, ?_⟩
        dsimp only
        rw [em]
        refine Weak.same (by simp) (by simp [EnvW, List.lookup, SV.ren, SV.ok, SV.oks]) (ok_cons (by simp) (by simp [Ob.ok]) (Sh.ok10 _ (show 11 ≤ 12 by omega))) (fun y hy => ?_)
        simp only [List.mem_cons, List.not_mem_nil, or_false] at hy
        rcases hy with rfl | rfl | rfl | rfl | rfl | rfl | rfl | rfl <;> rfl
      · 
        have z0 : (((S.whyF x.2.2 : Nat) : Int) == 0) = false := by simpa using h0
        refine SW.g1 [0, 2, 3, 5, 7, 8, 9, 10, 11, 19, 20, 21, 22, 36, 49, 51, 63, 73, 75, 87] mixed (And.intro (z3) (z0)) hw ?_
        refine SW.condF rfl (SW.skip ?_)
        refine ⟨⟨(xs ++ [x], A, ac), q1, q2, p3.skip fun h => h0 h.2⟩, id, by rw [em]; exact hm, ?_⟩
        dsimp only
        rw [em]
        refine Weak.same (by simp) (by simp [EnvW, List.lookup, SV.ren, SV.ok, SV.oks]) (ok_cons (by simp) (by simp [Ob.ok]) (Sh.ok10 _ (show 11 ≤ 12 by omega))) (fun y hy => ?_)
        simp only [List.mem_cons, List.not_mem_nil, or_false] at hy
        rcases hy with rfl | rfl | rfl | rfl | rfl | rfl | rfl | rfl <;> rfl
    · have z3 : (((x.2.2.kind : Nat) : Int) == 3) = false := by simp; omega
      refine SW.g0 [0, 2, 3, 5, 7, 8, 9, 10, 11, 19, 20, 21, 22, 36, 49, 51, 63, 73, 75, 87] mixed (z3) ?_
      refine SW.condF rfl (SW.skip ?_)
      refine ⟨⟨(xs ++ [x], A, ac), q1, q2, p3.skip fun h => h3 h.1⟩, id, by rw [em]; exact hm, ?_⟩
      dsimp only
      rw [em]
      refine Weak.same (by simp) (by simp [EnvW, List.lookup, SV.ren, SV.ok, SV.oks]) (ok_cons (by simp) (by simp [Ob.ok]) (Sh.ok10 _ (show 11 ≤ 12 by omega))) (fun y hy => ?_)
      simp only [List.mem_cons, List.not_mem_nil, or_false] at hy
      rcases hy with rfl | rfl | rfl | rfl | rfl | rfl | rfl | rfl <;> rfl
end
end Go.Proofs.YtlgfknfdfnaedaaGreat
namespace Go.Proofs.YtlgfknfdfnaedaaGreat
open Go.Sl Go.Proofs
def Short (S : Sh) : Prop := ∀ d o, MM.get S.ops d = some o → o.kind < 256 ∧ o.lin ∧ o.cl.length ≤ 1048576
noncomputable def Sh.good (S : Sh) (d : Dt) : Bool := MM.has S.ops d && decide (S.whyF (S.op d) = 0)
theorem spl28 (o : OpD) : spl o.cells 28 [.d o.lines] = o.cells := rfl
section
attribute [local irreducible] SW RW SCd SC CallP Pruned
theorem cloneC_ok (cl : List Cm) (hl : cl.length ≤ 1048576) : Go.Sl.Pure Tryz.prog slices_Clone_Lapi_Claim_api_Claim.f [.d (.sl cl.length (cl.flatMap Cm.ds))] (.d (.sl cl.length (cl.flatMap Cm.ds))) := by
  refine slices_Clone_Lapi_Claim_api_Claim.enter (by first | rfl | simp [SV.ok, SV.oks]) (by first | rfl | simp [Hp.ok, Ob.ok, SV.ok, SV.oks, Vec.cells_ok]) (by simp) ?_
  dsimp only [slices_Clone_Lapi_Claim_api_Claim.s, Co.M, Co.G, Co.J, Co.H, Co.N, Co.F, Co.C, Co.Z, Co.B, Co.b8, Co.b32, Co.b64, Co.i6, Co.z8, Co.z29]
  refine SW.seq ?_
  refine SW.g0 [0, 2, 4] mixed bq_tt ?_
  refine SW.seq (SW.seq (SW.nilS (n := cl.length) (cs := cl.flatMap Cm.ds) rfl ?_ fun h0 => ?_))
  · refine SW.condF rfl (SW.skip ?_)
    refine (?_ : Sl.SW _ _ _ _ _ _)
    refine SW.seq ?_
    have hlen : cl.length * 4 = cl.length * 4 := rfl
    refine SW.g0 [0, 2, 4] mixed bq_tt ?_
    refine SW.freeze 1 (cl.flatMap Cm.ds) rfl (by simp) ?_
    simp only [frzE, SV.frz, List.map_cons, List.map_nil, if_true, if_false, reduceIte, hdel, Nat.reduceEqDiff]
    refine SW.ret ?_
    exact End.mk [] (h4 := ⟨by simp [retV], rfl⟩)
  · have hl0 : cl = [] := List.eq_nil_of_length_eq_zero h0
    subst hl0
    refine SW.condT rfl (SW.seq ?_)
    refine SW.g0 [0, 2, 4] mixed bq_tt ?_
    refine SW.nils 2 rfl ?_
    refine SW.ret ?_
    exact End.mk [] (h4 := ⟨rfl, rfl⟩)
theorem cloneN_ok : Go.Sl.Pure Tryz.prog slices_Clone_Lapi_Claim_api_Claim.f [.d .nils] (.d .nils) := by
  refine slices_Clone_Lapi_Claim_api_Claim.enter (by first | rfl | simp [SV.ok, SV.oks]) (by first | rfl | simp [Hp.ok, Ob.ok, SV.ok, SV.oks, Vec.cells_ok]) (by simp) ?_
  dsimp only [slices_Clone_Lapi_Claim_api_Claim.s, Co.M, Co.G, Co.J, Co.H, Co.N, Co.F, Co.C, Co.Z, Co.B, Co.b8, Co.b32, Co.b64, Co.i6, Co.z8, Co.z29]
  (repeat (first | refine SW.seq ?_ | refine SW.block ?_ | refine SW.g0 [0, 2, 4] mixed bq_tt ?_ | refine SW.skip ?_ | refine SW.exit ?_ | refine SW.ret ?_ | refine SW.condT rfl ?_ | refine SW.condF rfl ?_))
  exact End.mk [] (h4 := ⟨rfl, rfl⟩)
theorem cloneS (S : Sh) (hs : Short S) (d : Dt) (k : Nat) : SCd Tryz.prog slices_Clone_Lapi_Claim_api_Claim.f [.d (S.op d).lines] [] k 0 (.d (S.op d).lines) [] := by
  unfold Sh.op
  cases h : MM.get S.ops d with
  | none => exact cloneN_ok.sc rfl k
  | some o =>
    obtain ⟨_, h1, h2⟩ := hs d o h
    have := (cloneC_ok o.cl h2).sc rfl k
    rwa [← h1.eq] at this
set_option maxHeartbeats 4000000 in
theorem sop_sb (S : Sh) (hs : Short S) (d : Dt) : SB Tryz.prog shape_Shape_Op.f [.ptr 0 0, .agg d.cells] S.h0 7 0 fun r F => r = .tup [.agg (S.op d).cells, bl (MM.has S.ops d)] ∧ F = S.h0 := by
  refine shape_Shape_Op.enter (by simp [SV.oks, SV.ok]) (S.ok (Nat.le_refl 7)) (by simp) ?_
  dsimp only [shape_Shape_Op.s, Co.M, Co.G, Co.J, Co.H, Co.N, Co.F, Co.C, Co.Z, Co.B, Co.b8, Co.b32, Co.b64, Co.i6, Co.z8, Co.z29]
  have hn := snone_0 S
  have hc := cloneS S hs d
  obtain ⟨o, ho⟩ : ∃ o, S.op d = o := ⟨_, rfl⟩
  have hg : (MM.get S.ops d).getD OpD.zero = o := ho
  rw [ho] at hc ⊢
  have s28 := spl28 o
  refine SW.seq ?_
  refine SW.g0 [0, 1, 3, 4, 5, 6, 7, 9] mixed bq_tt ?_
  refine SW.seq (SW.seq ?_)
  refine SW.g1 [0, 1, 3, 4, 5, 6, 7, 9] mixed bq_tt hn ?_
  refine SW.condF rfl (SW.skip ?_)
  refine SW.seq ?_
  refine SW.g0 [0, 1, 3, 4, 5, 6, 7, 9] mixed (hg) ?_
  refine SW.seq ?_
  refine SW.g1 [0, 1, 3, 4, 5, 6, 7, 9] mixed (s28) hc ?_
  refine SW.seq ?_
  refine SW.g0 [0, 1, 3, 4, 5, 6, 7, 9] mixed bq_tt ?_
  refine SW.ret ?_
  exact End.mk S.h0 (h4 := ⟨rfl, rfl⟩) (h6 := S.ok (Nat.le_refl 7))
theorem sop_0 (S : Sh) (hs : Short S) (d : Dt) (k : Nat) : SCd Tryz.prog shape_Shape_Op.f [.ptr 0 0, .agg d.cells] S.h0 k 0 (.tup [.agg (S.op d).cells, bl (MM.has S.ops d)]) S.h0 :=
  S.at_ (sop_sb S hs d) (fun ρ => by simp [SV.rens, SV.ren, Dt.cells_ren]) (fun ρ => by simp [SV.rens, SV.ren, OpD.cells_ren]) n0 n0_ok k
set_option maxHeartbeats 4000000 in
theorem sgood_sb (S : Sh) (hu : S.ups) (hs : Short S) (d : Dt) : SB Tryz.prog shape_Shape_Good.f [.ptr 0 0, .agg d.cells] S.h0 7 0 fun r F => r = bl (S.good d) ∧ F = S.h0 := by
  refine shape_Shape_Good.enter (by simp [SV.oks, SV.ok]) (S.ok (Nat.le_refl 7)) (by simp) ?_
  dsimp only [shape_Shape_Good.s, Co.M, Co.G, Co.J, Co.H, Co.N, Co.F, Co.C, Co.Z, Co.B, Co.b8, Co.b32, Co.b64, Co.i6, Co.z8, Co.z29]
  have hc := sop_0 S hs d
  obtain ⟨o, ho⟩ : ∃ o, S.op d = o := ⟨_, rfl⟩
  have hG : S.good d = (MM.has S.ops d && decide (S.whyF o = 0)) := by unfold Sh.good; rw [ho]
  rw [ho] at hc
  refine SW.seq ?_
  refine SW.g0 [0, 1, 3, 4, 5, 6] mixed bq_tt ?_
  refine SW.seq ?_
  refine SW.g1 [0, 1, 3, 4, 5, 6] mixed bq_tt hc ?_
  refine SW.seq ?_
  rcases h : MM.has S.ops d with _ | _
  · refine SW.g0 [0, 1, 3, 4, 5, 6] mixed bq_tt ?_
    refine SW.ret ?_
    exact End.mk S.h0 (h4 := ⟨by rw [hG, h]; rfl, rfl⟩) (h6 := S.ok (Nat.le_refl 7))
  obtain ⟨o', ho'⟩ := Option.isSome_iff_exists.1 (show (MM.get S.ops d).isSome = true from h)
  have e : o' = o := by rw [← ho]; unfold Sh.op; rw [ho']; rfl
  subst e
  obtain ⟨k1, k2, _⟩ := hs d o' ho'
  have hw : ∀ k, SCd Tryz.prog shape_Shape_Why.f [.ptr 0 0, .agg o'.cells] S.h0 k 0 (i64 (S.whyF o')) S.h0 := fun k => S.whyC hu o' k1 k2 n0 n0_ok k
  have hz : (((S.whyF o' : Nat) : Int) == 0) = decide (S.whyF o' = 0) := by rw [Bool.eq_iff_iff]; simp
  refine SW.g1 [0, 1, 3, 4, 5, 6] mixed (hz) hw ?_
  refine SW.ret ?_
  exact End.mk S.h0 (h4 := ⟨by rw [hG, h]; simp [retV], rfl⟩) (h6 := S.ok (Nat.le_refl 7))
theorem sgood_at (S : Sh) (hu : S.ups) (hs : Short S) (d : Dt) (n : Sn) (hn : n.ok) (k : Nat) : SCd Tryz.prog shape_Shape_Good.f [.ptr n.b 0, .agg d.cells] (S.hp n) k 0 (bl (S.good d)) (S.hp n) :=
  S.at_ (sgood_sb S hu hs d) (fun ρ => by simp [SV.rens, SV.ren, Dt.cells_ren]) (fun _ => rfl) n hn k
end
end Go.Proofs.YtlgfknfdfnaedaaGreat
namespace Go.Proofs.YtlgfknfdfnaedaaGreat
open Go.Sl Go.Proofs
def opP (l : List OpD) (d : Dt) : OpD := (findO l d).getD OpD.zero
def befP (l : List OpD) (d : Dt) (o : OpD) : Bool := (findO l d).isSome && (opP l d).before o
def cartP (l : List OpD) (o : OpD) : Bool := if o.kind = 0 then decide (o.cart = o.dot) else (findO l o.cart).isSome && (decide ((opP l o.cart).kind = 0) && (decide ((opP l o.cart).cart = (opP l o.cart).dot) && (opP l o.cart).before o))
def crdP (l : List OpD) (tr : MM Dt Cr) (d : Dt) (o : OpD) : Bool := MM.has tr d && (decide (((MM.get tr d).getD Cr.zero).cart = o.cart) && befP l d o)
def twhyP (tr : MM Dt Cr) (md : MM Dt OpD) (o : OpD) : Nat := Tr.why ⟨0, 1, 2, tr, 0, md, 0⟩ o
def why0 (l : List OpD) (tr : MM Dt Cr) (md : MM Dt OpD) (o : OpD) (t : Bool) : Nat :=
  if decide ((o.kind : Int) > 8) then 2 else if !cartP l o then 271 else if !((o.kind : Int) == 0) && !crdP l tr o.cred o then 272 else if !((o.kind : Int) == 0) && ((((MM.get tr o.cred).getD Cr.zero).hold : Int) != (o.who : Int)) then 273
  else if roleB ((MM.get tr o.cred).getD Cr.zero) o.kind then 274 else if decide (o.kind = 1) && decide (twhyP tr md o ≠ 0) then 275 else if !t then 276 else 0
def addP (l : List OpD) (tr : MM Dt Cr) (md : MM Dt OpD) (d : Dt) : Bool := match findO l d with
  | some o => decide (o.kind = 3) && decide (why0 l tr md o true = 0)
  | none => false
def lineP (l : List OpD) (tr : MM Dt Cr) (md : MM Dt OpD) (d : Dt) (o : OpD) : Bool := addP l tr md d && (decide ((opP l d).cart = o.cart) && befP l d o)
def setP (l : List OpD) (tr : MM Dt Cr) (md : MM Dt OpD) (d : Dt) : Option Dt := match findO l d with
  | some o => if o.kind = 4 ∧ why0 l tr md o (lineP l tr md o.at_ o) = 0 then some o.at_ else none
  | none => none
def clmP (l : List OpD) (tr : MM Dt Cr) (md : MM Dt OpD) (c : Cm) (o : OpD) : Bool := lineP l tr md c.line o && (decide (c.ver = c.line) || ((setP l tr md c.ver).isSome && (decide ((setP l tr md c.ver).getD ⟨0, 0⟩ = c.line) && befP l c.ver o)))
def tgtP (l : List OpD) (tr : MM Dt Cr) (md : MM Dt OpD) (o : OpD) (ab : Bool) : Bool :=
  if o.kind = 2 then crdP l tr o.at_ o && ab else if o.kind = 4 ∨ o.kind = 5 then lineP l tr md o.at_ o else if o.kind = 6 ∨ o.kind = 7 then clmP l tr md ⟨o.at_, o.ver⟩ o else if o.kind = 8 then !(o.cl.any fun c => !clmP l tr md c o) else true
def whyP (l : List OpD) (tr : MM Dt Cr) (md : MM Dt OpD) (o : OpD) (ab : Bool) : Nat := why0 l tr md o (tgtP l tr md o ab)
section
variable {l : List OpD} {S : Sh} (hB : ShBase l S)
include hB
theorem ShBase.op (d : Dt) : S.op d = opP l d := by unfold Sh.op opP; rw [hB.ops.get]
theorem ShBase.has (d : Dt) : MM.has S.ops d = (findO l d).isSome := by unfold MM.has; rw [hB.ops.get]
theorem ShBase.bef (d : Dt) (o : OpD) : S.bef d o = befP l d o := by unfold Sh.bef befP; rw [hB.op, hB.has]
theorem ShBase.cart (o : OpD) : S.cart o = cartP l o := by unfold Sh.cart cartP; rw [hB.op, hB.has]
theorem ShBase.crd (d : Dt) (o : OpD) : S.crd d o = crdP l S.tr d o := by unfold Sh.crd crdP Sh.cr; rw [hB.bef]
theorem ShBase.twhy (o : OpD) : S.T.why o = twhyP S.tr S.md o := rfl
theorem ShBase.why (o : OpD) (ab : Bool) : S.why o ab = why0 l S.tr S.md o (S.tgt o ab) := by
  unfold Sh.why why0
  rw [← hB.cart, ← hB.crd, ← hB.twhy]
  rfl
end
theorem ShBase.whyT {l : List OpD} {S : Sh} (hB : ShBase l S) {o : OpD} (hk : o.kind = 3) : S.whyF o = why0 l S.tr S.md o true := by
  unfold Sh.whyF
  rw [hB.why]
  have : S.tgt o (S.abv o.cred o.at_) = true := by unfold Sh.tgt; rw [if_neg (by omega), if_neg (by omega), if_neg (by omega), if_neg (by omega)]
  rw [this]
section
variable {l : List OpD} {S : Sh} (h : ShOk l S)
include h
theorem ShOk.add (d : Dt) : decide (0 < (MM.get S.adds d).getD 0) = addP l S.tr S.md d := by
  rw [Bool.eq_iff_iff, decide_eq_true_eq]
  unfold addP
  constructor
  · intro h1
    cases hg : MM.get S.adds d with
    | none => rw [hg] at h1; exact absurd h1 (by decide)
    | some v =>
      obtain ⟨_, x, hx, e, h3, h4⟩ := (h.adds.2 d v).1 hg
      have h5 := mem_get h.base.ops.wf.keys hx
      rw [e, h.base.ops.get] at h5
      rw [h5]
      rw [h.base.whyT h3] at h4
      simp [h3, h4]
  · intro h1
    cases ho : findO l d with
    | none => rw [ho] at h1; cases h1
    | some o =>
      rw [ho] at h1
      simp only [Bool.and_eq_true, decide_eq_true_eq] at h1
      obtain ⟨x, hx, e1, e2⟩ := get_mem (show MM.get S.ops d = some o by rw [h.base.ops.get]; exact ho)
      have h2 := (h.adds.2 d 1).2 ⟨rfl, x, hx, e1, by rw [e2]; exact h1.1, by rw [e2, h.base.whyT h1.1]; exact h1.2⟩
      rw [h2]; decide
theorem ShOk.line (d : Dt) (o : OpD) : S.line d o = lineP l S.tr S.md d o := by unfold Sh.line lineP; rw [h.add, h.base.op, h.base.bef]
theorem ShOk.set (d : Dt) : MM.get S.lns d = setP l S.tr S.md d := by
  have hw : ∀ o : OpD, o.kind = 4 → S.whyF o = why0 l S.tr S.md o (lineP l S.tr S.md o.at_ o) := fun o hk => by
    unfold Sh.whyF
    rw [h.base.why, ← h.line]
    have : S.tgt o (S.abv o.cred o.at_) = S.line o.at_ o := by unfold Sh.tgt; rw [if_neg (by omega), if_pos (.inl hk)]
    rw [this]
  refine Option.ext fun v => ?_
  rw [h.lns.2]
  unfold setP
  constructor
  · rintro ⟨x, hx, e, h3, h4, rfl⟩
    have h5 := mem_get h.base.ops.wf.keys hx
    rw [e, h.base.ops.get] at h5
    rw [h5]
    rw [hw _ h3] at h4
    exact if_pos ⟨h3, h4⟩
  · intro h1
    cases ho : findO l d with
    | none => rw [ho] at h1; cases h1
    | some o =>
      rw [ho] at h1
      dsimp only at h1
      split at h1
      · rename_i h2
        injection h1 with h1
        obtain ⟨x, hx, e1, e2⟩ := get_mem (show MM.get S.ops d = some o by rw [h.base.ops.get]; exact ho)
        exact ⟨x, hx, e1, by rw [e2]; exact h2.1, by rw [e2, hw _ h2.1]; exact h2.2, by rw [e2]; exact h1.symm⟩
      · cases h1
theorem ShOk.clm (c : Cm) (o : OpD) : S.clm c o = clmP l S.tr S.md c o := by
  unfold Sh.clm clmP MM.has
  rw [h.line, h.set, h.base.bef]
theorem ShOk.tgt (o : OpD) (ab : Bool) : S.tgt o ab = tgtP l S.tr S.md o ab := by
  unfold Sh.tgt tgtP
  simp only [h.line, h.clm, h.base.crd]
theorem ShOk.why (o : OpD) (ab : Bool) : S.why o ab = whyP l (newTr l).at_ (newTr l).made o ab := by
  unfold whyP
  rw [h.base.why, h.tgt, h.base.tr, h.base.md]
theorem ShOk.whyF (o : OpD) : S.whyF o = whyP l (newTr l).at_ (newTr l).made o (aboveR (newTr l).at_ o.cred o.at_ (upsL (newTr l).at_ o.at_)) := by
  unfold Sh.whyF
  rw [h.why]
  unfold Sh.abv
  rw [h.base.tr]
end
end Go.Proofs.YtlgfknfdfnaedaaGreat
namespace Go.Proofs.YtlgfknfdfnaedaaGreat
open Go.Sl Go.Proofs
theorem roleB_zero (c : Cr) : roleB c 0 = false := by
  unfold roleB
  have h : (needsV 0 : Int) = ((0 : Nat) : Int) := rfl
  rw [h, and_eq]
  simp
structure Cone (t l : List OpD) (A : OpD → Prop) : Prop where
  uniq : Uniq l
  utop : Uniq t
  sub : ∀ o, o ∈ t → o ∈ l
  isin : ∀ o, A o → o ∈ t
  clo : ∀ o a, A o → a ∈ l → a.before o = true → a.cart = o.cart → A a
theorem TOk.cart {l : List OpD} {U : Tr} (hU : TOk l U) {d : Dt} {c : Cr} (hc : MM.get U.at_ d = some c) : ∃ a, findO l d = some a ∧ c.cart = a.cart := by
  obtain ⟨a, _, ha⟩ := hU.cr d c hc
  refine ⟨a, ha.fd, ?_⟩
  rcases ha.how with ⟨_, h2, h3⟩ | ⟨p, q, _, _, hb⟩
  · rw [h3]; show a.dot = a.cart; rw [h2, findO_dot ha.fd]
  · rw [hb.is]
section
variable {t l : List OpD} {A : OpD → Prop} (h : Cone t l A)
include h
variable {T U : Tr} (hT : TOk t T) (hU : TOk l U)
include hT hU
end
end Go.Proofs.YtlgfknfdfnaedaaGreat
namespace Go.Proofs.YtlgfknfdfnaedaaGreat
open Go.Sl Go.Proofs
noncomputable def whyL (l : List OpD) (o : OpD) : Nat := whyP l (newTr l).at_ (newTr l).made o (aboveR (newTr l).at_ o.cred o.at_ (upsL (newTr l).at_ o.at_))
theorem opP_some {l : List OpD} {d : Dt} {a : OpD} (h : findO l d = some a) : opP l d = a := by unfold opP; rw [h]; rfl
theorem crdP_iff {l : List OpD} {d : Dt} {o : OpD} : crdP l (newTr l).at_ d o = true ↔ ∃ c a, MM.get (newTr l).at_ d = some c ∧ findO l d = some a ∧ a.before o = true ∧ a.cart = o.cart ∧ c.cart = o.cart := by
  unfold crdP MM.has befP
  constructor
  · intro h
    simp only [Bool.and_eq_true, decide_eq_true_eq] at h
    obtain ⟨h1, h2, h3, h4⟩ := h
    obtain ⟨c, hc⟩ := Option.isSome_iff_exists.1 h1
    obtain ⟨a, ha, e⟩ := (newTr_tok l).cart hc
    rw [opP_some ha] at h4
    rw [hc] at h2
    have h2 : c.cart = o.cart := h2
    exact ⟨c, a, hc, ha, h4, by rw [← e, h2], h2⟩
  · rintro ⟨c, a, h1, h2, h3, h4, h5⟩
    rw [h1, opP_some h2, h2]
    simp [h3, h5]
section
variable {t l : List OpD} {A : OpD → Prop} (h : Cone t l A)
include h
end
section
variable {t l : List OpD} {A : OpD → Prop} (h : Cone t l A)
include h
end
end Go.Proofs.YtlgfknfdfnaedaaGreat
namespace Go.Proofs.YtlgfknfdfnaedaaGreat
open Go.Sl Go.Proofs
theorem why0_iff {l : List OpD} {tr : MM Dt Cr} {md : MM Dt OpD} {o : OpD} {x : Bool} : Go.Proofs.YtlgfknfdfnaedaaGreat.why0 l tr md o x = 0 ↔ ¬ (o.kind : Int) > 8 ∧ cartP l o = true ∧ (o.kind ≠ 0 → crdP l tr o.cred o = true ∧ ((((MM.get tr o.cred).getD Cr.zero).hold : Int) = (o.who : Int)) ∧ roleB ((MM.get tr o.cred).getD Cr.zero) o.kind = false) ∧ (o.kind = 1 → twhyP tr md o = 0) ∧ x = true := by
  unfold Go.Proofs.YtlgfknfdfnaedaaGreat.why0
  by_cases h8 : (o.kind : Int) > 8
  · rw [decide_eq_true h8]; simp [h8]
  rw [decide_eq_false h8]
  cases hc : cartP l o with
  | false => simp
  | true =>
    by_cases hk : o.kind = 0
    · have hk' : ((o.kind : Int) == 0) = true := by rw [hk]; rfl
      rw [hk', hk, roleB_zero]
      cases x <;> simp
    · have hk' : ((o.kind : Int) == 0) = false := by simp; exact hk
      rw [hk']
      cases h1 : crdP l tr o.cred o with
      | false => simp [hk]
      | true =>
        by_cases h2 : (((MM.get tr o.cred).getD Cr.zero).hold : Int) = (o.who : Int)
        · have h2' : ((((MM.get tr o.cred).getD Cr.zero).hold : Int) != (o.who : Int)) = false := by simpa using h2
          rw [h2']
          cases h3 : roleB ((MM.get tr o.cred).getD Cr.zero) o.kind with
          | true => simp [hk]
          | false =>
            by_cases h4 : o.kind = 1
            · by_cases h5 : twhyP tr md o = 0
              · rw [h5]; cases x <;> simp [h2]; omega
              · cases x <;> simp [h4, h5]
            · cases x <;> simp [h4, h2]; omega
        · have h2' : ((((MM.get tr o.cred).getD Cr.zero).hold : Int) != (o.who : Int)) = true := by simpa using h2
          rw [h2']; simp [hk, h2]
section
variable {t l : List OpD} {A : OpD → Prop} (h : Cone t l A) (hA : ∀ o, o ∈ t → A o)
include h hA
end
theorem ShOk.good {l : List OpD} {S : Sh} (h : ShOk l S) (d : Dt) : S.good d = match findO l d with
    | some o => decide (whyL l o = 0)
    | none => false := by
  unfold Sh.good
  rw [h.base.has, h.base.op, h.whyF]
  cases hf : findO l d with
  | none => rfl
  | some o => rw [opP_some hf]; rfl
theorem ShOk.goodY {l : List OpD} {S : Sh} (h : ShOk l S) {d : Dt} {o : OpD} (hf : findO l d = some o) : S.good d = decide (whyL l o = 0) := by rw [h.good, hf]
theorem ShOk.goodN {l : List OpD} {S : Sh} (h : ShOk l S) {d : Dt} (hf : findO l d = none) : S.good d = false := by rw [h.good, hf]
end Go.Proofs.YtlgfknfdfnaedaaGreat
