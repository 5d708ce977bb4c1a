/-
  Histories: what a row knows, counted; the program's own test of a history is the document's.
-/
import Derived.Test.YtgjgfamgbhlmfaaU8
import Derived.Test.YtgjgfamgbhlmfaaUK
import Derived.Test.YtgjgfamgbhlmfaaU9
import Derived.Test.YtgjgfamgbhlmfaaU7
set_option linter.unusedSectionVars false
set_option linter.unusedVariables false
set_option linter.unusedSimpArgs false
namespace Go.Sl

def knStep (v : Vec) (o : OpD) : Vec := if o.dot.r < 8 then v.set o.dot.r (max (v.get o.dot.r) o.dot.n) else v
/-- What a row knows. -/
def knownV (l : List OpD) : Vec := l.foldl knStep Vec.zero
theorem knStep_ge (v : Vec) (o : OpD) {r : Nat} (hr : r < 8) : v.get r ≤ (knStep v o).get r := by
  unfold knStep
  split
  · rw [Vec.set_get _ _ _ hr]; split
    · rename_i e; rw [← e]; omega
    · omega
  · omega
theorem knStep_own (v : Vec) (o : OpD) (hr : o.dot.r < 8) : o.dot.n ≤ (knStep v o).get o.dot.r := by
  unfold knStep
  rw [if_pos hr, Vec.set_get _ _ _ hr, if_pos rfl]; omega
theorem knStep_at (v : Vec) (o : OpD) {r : Nat} (hr : r < 8) : (knStep v o).get r = v.get r ∨ (o.dot = ⟨r, (knStep v o).get r⟩) := by
  unfold knStep
  split
  · rw [Vec.set_get _ _ _ hr]; split
    · rename_i e
      rcases Nat.le_total o.dot.n (v.get o.dot.r) with h | h
      · left; rw [← e] at h ⊢; omega
      · right
        rw [Nat.max_eq_right h]
        cases hd : o.dot; rw [hd] at e; rw [e]
    · exact .inl rfl
  · exact .inl rfl
theorem known_ge : ∀ (l : List OpD) (v : Vec) {r : Nat}, r < 8 → v.get r ≤ (l.foldl knStep v).get r
  | [], v, r, _ => Nat.le_refl _
  | o :: l, v, r, hr => Nat.le_trans (knStep_ge v o hr) (known_ge l (knStep v o) hr)
theorem known_own : ∀ (l : List OpD) (v : Vec) {o : OpD}, o ∈ l → o.dot.r < 8 → o.dot.n ≤ (l.foldl knStep v).get o.dot.r
  | x :: l, v, o, ho, hr => by
    rcases List.mem_cons.1 ho with rfl | ho
    · exact Nat.le_trans (knStep_own v o hr) (known_ge l _ hr)
    · exact known_own l (knStep v x) ho hr
theorem known_at : ∀ (l : List OpD) (v : Vec) {r : Nat}, r < 8 → (l.foldl knStep v).get r = v.get r ∨ ∃ o, o ∈ l ∧ o.dot = ⟨r, (l.foldl knStep v).get r⟩
  | [], v, r, _ => .inl rfl
  | o :: l, v, r, hr => by
    rcases known_at l (knStep v o) hr with h | ⟨x, hx, h⟩
    · rcases knStep_at v o hr with h2 | h2
      · left
        show (l.foldl knStep (knStep v o)).get r = _
        rw [h, h2]
      · right
        refine ⟨o, by simp, ?_⟩
        show o.dot = ⟨r, (l.foldl knStep (knStep v o)).get r⟩
        rw [h]; exact h2
    · exact .inr ⟨x, List.mem_cons_of_mem _ hx, h⟩
theorem knownV_ge {l : List OpD} {o : OpD} (ho : o ∈ l) (hr : o.dot.r < 8) : o.dot.n ≤ (knownV l).get o.dot.r := known_own l _ ho hr
theorem knownV_at (l : List OpD) {r : Nat} (hr : r < 8) : (knownV l).get r = 0 ∨ ∃ o, o ∈ l ∧ o.dot = ⟨r, (knownV l).get r⟩ := by
  rcases known_at l Vec.zero hr with h | h
  · left; unfold knownV; rw [h, Vec.zero_get]
  · exact .inr h
theorem knownV_snoc (l : List OpD) (x : OpD) : knownV (l ++ [x]) = knStep (knownV l) x := by unfold knownV; rw [List.foldl_append]; rfl
theorem knownV_mem {l m : List OpD} (h : ∀ o, o ∈ l ↔ o ∈ m) : knownV l = knownV m := Vec.ext' fun r hr => by
  have key : ∀ {l m : List OpD}, (∀ o, o ∈ l ↔ o ∈ m) → (knownV l).get r ≤ (knownV m).get r := fun {l m} h => by
    rcases knownV_at l hr with h0 | ⟨o, ho, e⟩
    · omega
    · have e1 : o.dot.r = r := by rw [e]
      have e2 : o.dot.n = (knownV l).get r := by rw [e]
      have := knownV_ge ((h o).1 ho) (by omega)
      rw [e1, e2] at this; exact this
  exact Nat.le_antisymm (key h) (key fun o => (h o).symm)

/-- How many operations of a replica a row has. -/
def cntR (l : List OpD) (r : Nat) : Nat := l.countP fun o => decide (o.dot.r = r)
theorem cntR_sum : ∀ (l : List OpD), (∀ o, o ∈ l → o.dot.r < 8) → l.length = cntR l 0 + cntR l 1 + cntR l 2 + cntR l 3 + cntR l 4 + cntR l 5 + cntR l 6 + cntR l 7
  | [], _ => rfl
  | x :: l, h => by
    have ih := cntR_sum l fun o ho => h o (List.mem_cons_of_mem _ ho)
    have hx := h x (by simp)
    simp only [cntR, List.countP_cons, List.length_cons] at ih ⊢
    generalize x.dot.r = r at hx ⊢
    match r, hx with
    | 0, _ | 1, _ | 2, _ | 3, _ | 4, _ | 5, _ | 6, _ | 7, _ => simp; omega
theorem nodup_le {g : Nat} {ns : List Nat} (hn : ns.Nodup) (hb : ∀ n, n ∈ ns → 0 < n ∧ n ≤ g) : ns.length ≤ g := by
  have h : (ns.map fun n => n - 1).Nodup := by
    unfold List.Nodup at hn ⊢
    rw [List.pairwise_map]
    exact List.Pairwise.imp_of_mem (fun ha hb' hab => by have := hb _ ha; have := hb _ hb'; omega) hn
  have := h.length_le_of_subset (l₂ := List.range g) fun x hx => by
    obtain ⟨n, hm, rfl⟩ := List.mem_map.1 hx
    have := hb n hm
    exact List.mem_range.2 (by omega)
  simpa using this
theorem nodup_all {g : Nat} {ns : List Nat} (hn : ns.Nodup) (hb : ∀ n, n ∈ ns → 0 < n ∧ n ≤ g) (hl : ns.length = g) {n : Nat} (h0 : 0 < n) (hg : n ≤ g) : n ∈ ns := by
  refine Classical.byContradiction fun hno => ?_
  have := nodup_le (g := g) (ns := n :: ns) (List.nodup_cons.2 ⟨hno, hn⟩) fun m hm => by
    rcases List.mem_cons.1 hm with rfl | hm
    · exact ⟨h0, hg⟩
    · exact hb m hm
  simp at this; omega
def nsOf (l : List OpD) (r : Nat) : List Nat := (l.filter fun o => decide (o.dot.r = r)).map (·.dot.n)
theorem nsOf_len (l : List OpD) (r : Nat) : (nsOf l r).length = cntR l r := by unfold nsOf cntR; rw [List.length_map, List.countP_eq_length_filter]
theorem mem_nsOf {l : List OpD} {r n : Nat} : n ∈ nsOf l r ↔ ∃ o, o ∈ l ∧ o.dot = ⟨r, n⟩ := by
  unfold nsOf
  simp only [List.mem_map, List.mem_filter, decide_eq_true_eq]
  constructor
  · rintro ⟨o, ⟨ho, e⟩, rfl⟩
    exact ⟨o, ho, by rw [← e]⟩
  · rintro ⟨o, ho, e⟩
    exact ⟨o, ⟨ho, by rw [e]⟩, by rw [e]⟩
theorem nsOf_nd {l : List OpD} (h : Uniq l) (r : Nat) : (nsOf l r).Nodup := by
  unfold nsOf List.Nodup
  rw [List.pairwise_map]
  have h2 : (l.filter fun o => decide (o.dot.r = r)).Pairwise fun a b => a.dot ≠ b.dot := by
    have : Uniq (l.filter fun o => decide (o.dot.r = r)) := h.sub List.filter_sublist
    unfold Uniq List.Nodup at this
    rwa [List.pairwise_map] at this
  refine List.Pairwise.imp_of_mem (fun {a b} ha hb hab e => hab ?_) h2
  simp only [List.mem_filter, decide_eq_true_eq] at ha hb
  cases h1 : a.dot; cases h3 : b.dot
  rw [h1] at ha e; rw [h3] at hb e
  have e1 := ha.2; have e2 := hb.2
  simp only at e1 e2 e
  rw [e1, e2, e]
/-- Of each replica a row has all operations up to the last one. -/
def Whole (l : List OpD) : Prop := ∀ r n, r < 8 → 0 < n → n ≤ (knownV l).get r → ∃ o, o ∈ l ∧ o.dot = ⟨r, n⟩
theorem cntR_le {l : List OpD} (h : Uniq l) (hd : ∀ o, o ∈ l → o.dot.r < 8 ∧ 0 < o.dot.n) {r : Nat} (hr : r < 8) : cntR l r ≤ (knownV l).get r := by
  rw [← nsOf_len]
  refine nodup_le (nsOf_nd h r) fun n hn => ?_
  obtain ⟨o, ho, e⟩ := mem_nsOf.1 hn
  have h1 := hd o ho
  have h2 := knownV_ge ho h1.1
  rw [e] at h1 h2
  exact ⟨h1.2, h2⟩
theorem whole_iff {l : List OpD} (h : Uniq l) (hd : ∀ o, o ∈ l → o.dot.r < 8 ∧ 0 < o.dot.n) : Whole l ↔ (knownV l).count = l.length := by
  have hs := cntR_sum l fun o ho => (hd o ho).1
  have hle := fun r (hr : r < 8) => cntR_le h hd hr
  constructor
  · intro hw
    have heq : ∀ r, r < 8 → cntR l r = (knownV l).get r := fun r hr => by
      refine Nat.le_antisymm (hle r hr) ?_
      rw [← nsOf_len]
      have h1 : (List.range' 1 ((knownV l).get r)).Nodup := List.nodup_range'
      have := h1.length_le_of_subset (l₂ := nsOf l r) fun n hn => by
        rw [List.mem_range'_1] at hn
        exact mem_nsOf.2 (hw r n hr (by omega) (by omega))
      simpa using this
    have e0 := heq 0 (by omega)
    have e1 := heq 1 (by omega)
    have e2 := heq 2 (by omega)
    have e3 := heq 3 (by omega)
    have e4 := heq 4 (by omega)
    have e5 := heq 5 (by omega)
    have e6 := heq 6 (by omega)
    have e7 := heq 7 (by omega)
    rw [hs, e0, e1, e2, e3, e4, e5, e6, e7]
    rfl
  · intro hc r n hr h0 hn
    have hc : (knownV l).get 0 + (knownV l).get 1 + (knownV l).get 2 + (knownV l).get 3 + (knownV l).get 4 + (knownV l).get 5 + (knownV l).get 6 + (knownV l).get 7 = l.length := hc
    have e0 := hle 0 (by omega)
    have e1 := hle 1 (by omega)
    have e2 := hle 2 (by omega)
    have e3 := hle 3 (by omega)
    have e4 := hle 4 (by omega)
    have e5 := hle 5 (by omega)
    have e6 := hle 6 (by omega)
    have e7 := hle 7 (by omega)
    have heq : cntR l r = (knownV l).get r := by
      match r, hr with
      | 0, _ | 1, _ | 2, _ | 3, _ | 4, _ | 5, _ | 6, _ | 7, _ => omega
    rw [← nsOf_len] at heq
    refine mem_nsOf.1 (nodup_all (nsOf_nd h r) (fun m hm => ?_) heq h0 hn)
    obtain ⟨o, ho, e⟩ := mem_nsOf.1 hm
    have h1 := hd o ho
    have h2 := knownV_ge ho h1.1
    rw [e] at h1 h2
    exact ⟨h1.2, h2⟩
/-- Whoever keeps to what a history asks for knows of each replica all operations up to the last one. -/
theorem whole_of {l : List OpD} (h : ∀ o, o ∈ l → OneOf l o) : Whole l := by
  intro r n hr h0 hn
  rcases knownV_at l hr with e | ⟨o, ho, e⟩
  · omega
  · have key : ∀ k, k < (knownV l).get r → ∃ a, a ∈ l ∧ a.dot = ⟨r, (knownV l).get r - k⟩ := by
      intro k
      induction k with
      | zero => intro _; exact ⟨o, ho, e⟩
      | succ k ih =>
        intro hk
        obtain ⟨a, ha, ea⟩ := ih (by omega)
        have e1 : a.dot.r = r := by rw [ea]
        have e2 : a.dot.n = (knownV l).get r - k := by rw [ea]
        have := (h a ha).prev (by omega)
        rw [e1, e2] at this
        exact cntO_pos.1 (by rw [show (knownV l).get r - (k + 1) = (knownV l).get r - k - 1 by omega]; omega)
    obtain ⟨a, ha, ea⟩ := key ((knownV l).get r - n) (by omega)
    exact ⟨a, ha, by rw [ea]; congr 1; omega⟩
/-- The program's test: each dot once, as many as are known; of each operation what is before it is known, and knew no more, and is earlier. -/
theorem oneOf_iff {l : List OpD} (hd : ∀ o, o ∈ l → o.dot.r < 8 ∧ 0 < o.dot.n) :
    (∀ o, o ∈ l → OneOf l o) ↔ Uniq l ∧ (knownV l).count = l.length ∧ ∀ o, o ∈ l → (knownV l).above o.dep = true ∧ ∀ a, a ∈ l → a.before o = true → a.time < o.time ∧ o.dep.above a.dep = true := by
  constructor
  · intro h
    have hu : Uniq l := Uniq.cnt fun o ho => (h o ho).self
    refine ⟨hu, (whole_iff hu hd).1 (whole_of h), fun o ho => ⟨Vec.above_iff.2 fun r hr => ?_, (h o ho).bef⟩⟩
    rcases Nat.eq_zero_or_pos (o.dep.get r) with h0 | h0
    · omega
    · have := (h o ho).deps r hr h0
      obtain ⟨a, ha, ea⟩ := cntO_pos.1 (by rw [this]; omega)
      have := knownV_ge ha (by rw [ea]; exact hr)
      rw [ea] at this; exact this
  · rintro ⟨hu, hc, ha⟩ o ho
    have hw := (whole_iff hu hd).2 hc
    have h1 := hd o ho
    have hk := knownV_ge ho h1.1
    refine ⟨hu.cnt1 ⟨o, ho, rfl⟩, fun h2 => hu.cnt1 (hw _ _ h1.1 (by omega) (by omega)), fun r hr h0 => hu.cnt1 (hw r _ hr h0 (Vec.above_iff.1 (ha o ho).1 r hr)), (ha o ho).2⟩
/-! ### the document's sorted rows -/
def insL (out : List OpD) (x : OpD) : List OpD := out.takeWhile (fun y => y.lt x) ++ x :: out.dropWhile (fun y => y.lt x)
def sortedR (l : List OpD) : List OpD := l.foldl insL []
theorem insL_perm (out : List OpD) (x : OpD) : (insL out x).Perm (x :: out) := by
  unfold insL
  refine List.perm_middle.trans ?_
  rw [List.takeWhile_append_dropWhile]
theorem insL_rises {out : List OpD} {x : OpD} (h : Rises out) (hx : ∀ y, y ∈ out → y.dot ≠ x.dot) : Rises (insL out x) := by
  unfold insL
  induction out with
  | nil => exact List.pairwise_singleton _ _
  | cons y out ih =>
    have h1 := List.pairwise_cons.1 h
    by_cases e : y.lt x = true
    · simp only [List.takeWhile_cons, List.dropWhile_cons, e, if_true, List.cons_append]
      refine List.pairwise_cons.2 ⟨fun z hz => ?_, ih h1.2 fun z hz => hx z (List.mem_cons_of_mem _ hz)⟩
      rcases List.mem_append.1 hz with hz | hz
      · exact h1.1 z ((List.takeWhile_sublist _).subset hz)
      · rcases List.mem_cons.1 hz with rfl | hz
        · exact e
        · exact h1.1 z ((List.dropWhile_sublist _).subset hz)
    · have e' : y.lt x = false := Bool.eq_false_iff.2 e
      simp only [List.takeWhile_cons, List.dropWhile_cons, e', Bool.false_eq_true, if_false, List.nil_append]
      have hxy : x.lt y = true := (OpD.lt_total fun e => hx y (by simp) e.symm).resolve_right e
      exact List.pairwise_cons.2 ⟨fun z hz => by
        rcases List.mem_cons.1 hz with rfl | hz
        · exact hxy
        · exact OpD.lt_trans hxy (h1.1 z hz), h⟩
theorem sortedR_snoc (l : List OpD) (x : OpD) : sortedR (l ++ [x]) = insL (sortedR l) x := by unfold sortedR; rw [List.foldl_append]; rfl
theorem foldl_insL : ∀ (l out : List OpD), (l.foldl insL out).Perm (l ++ out)
  | [], out => List.Perm.refl _
  | x :: l, out => (foldl_insL l (insL out x)).trans ((List.Perm.append_left l (insL_perm out x)).trans List.perm_middle)
theorem sortedR_perm (l : List OpD) : (sortedR l).Perm l := by
  have := foldl_insL l []
  rwa [List.append_nil] at this
theorem foldl_rises : ∀ (l out : List OpD), Uniq (l ++ out) → Rises out → Rises (l.foldl insL out)
  | [], out, _, h => h
  | x :: l, out, hu, h => by
    have hp : (x :: l ++ out).Perm (l ++ x :: out) := List.perm_middle.symm
    have hu2 : Uniq (l ++ x :: out) := hu.perm hp.symm
    refine foldl_rises l (insL out x) (hu2.perm (List.Perm.append_left l (insL_perm out x))) (insL_rises h fun y hy e => ?_)
    unfold Uniq at hu
    rw [List.cons_append, List.map_cons, List.nodup_cons] at hu
    exact hu.1 (List.mem_map.2 ⟨y, List.mem_append.2 (.inr hy), e⟩)
theorem sortedR_eq {l : List OpD} (h : Uniq l) : sortedR l = osorted l := by
  have h1 : Rises (sortedR l) := foldl_rises l [] (by rwa [List.append_nil]) List.Pairwise.nil
  exact h1.unique (osorted_rises h) ((sortedR_perm l).trans (osorted_perm l).symm)
end Go.Sl

/-
  A part of a box, lent as a row to a function that only reads it.
-/
set_option linter.unusedVariables false
set_option linter.unusedSimpArgs false
set_option linter.unusedSectionVars false
namespace Go.Sl
open Go.RowKit
variable {P : Program}

/-- A value that names no memory. -/
def SV.Plain (v : SV) : Prop := ∀ (p p' : Nat → Prop) (μ μ' : Nat → Nm) (M M' : Mem) (u : Value), Rp p μ M v u → Rp p' μ' M' v u
theorem SV.plain_u32 (n : Nat) : SV.Plain (u32 n) := fun p p' μ μ' M M' u h => by
  unfold u32 at h ⊢
  rw [Rp.int_iff] at h ⊢; exact h
theorem SV.plains {p p' : Nat → Prop} {μ μ' : Nat → Nm} {M M' : Mem} : ∀ {cs : List SV} {l : List Value}, (∀ c, c ∈ cs → SV.Plain c) → Rps p μ M cs l → Rps p' μ' M' cs l
  | [], l, _, hr => Rps.nil_iff.2 (Rps.nil_iff.1 hr)
  | c :: cs, l, h, hr => by
    obtain ⟨u, us, rfl, h1, h2⟩ := Rps.cons_iff.1 hr
    exact Rps.cons_iff.2 ⟨u, us, rfl, h c (by simp) p p' μ μ' M M' u h1, SV.plains (fun c hc => h c (by simp [hc])) h2⟩
theorem SV.plain_agg {cs : List SV} (h : ∀ c, c ∈ cs → SV.Plain c) : SV.Plain (.agg cs) := fun p p' μ μ' M M' u hu => by
  obtain ⟨vs, rfl, hr⟩ := Rp.agg_iff.1 hu
  exact Rp.agg_iff.2 ⟨vs, rfl, SV.plains h hr⟩
theorem Vec.plain (v : Vec) : SV.Plain (.agg v.cells) := SV.plain_agg fun c hc => by
  simp only [Vec.cells, List.mem_cons, List.not_mem_nil, or_false] at hc
  rcases hc with rfl | rfl | rfl | rfl | rfl | rfl | rfl | rfl <;> exact SV.plain_u32 _

theorem repR_mk {M : Mem} {b : Nat} : ∀ (o : Nat) (ds : List DV), (∀ i x, ds[i]? = some x → ∃ u, M b (o + i) = some u ∧ RepD M x u) → RepR M b o ds
  | _, [], _ => by simp [RepR]
  | o, x :: ds, h => by
    simp only [RepR]
    refine ⟨by simpa using h 0 x rfl, repR_mk (o + 1) ds fun i y hy => ?_⟩
    have := h (i + 1) y (by simpa using hy)
    rwa [show o + (i + 1) = o + 1 + i by omega] at this

theorem SC.borrow {f : FuncId} {k nk m off len : Nat} {t : TypeId} {cs : List SV} {ds : List DV} {v : SV} (h : SCd P f [.d (.sl len ds)] [] k nk v []) (hv : SV.Plain v) (h0 : len ≠ 0) (hds : ∀ (i : Nat) (x : DV), ds[i]? = some x → cs[off + i]? = some (.d x)) :
    SCd P f [.bs m off len] [(m, .box t cs)] k nk v [(m, .box t cs)] := by
  refine ⟨h.1, fun p μ M w vals hp hr hS => ?_⟩
  obtain ⟨hpm, hob, hnone⟩ := hS.obs m (.box t cs) (by simp [lk_cons])
  obtain ⟨hlive, vs, hb, hcs⟩ := hob
  let M' : Mem := fun b o => if b = (μ m).blk then w.cell? ⟨b, o, none⟩ else M b o
  have hMM : Mem.le M M' := fun b o x hx => by
    show (if b = (μ m).blk then w.cell? ⟨b, o, none⟩ else M b o) = some x
    split
    · exact hS.mem b o x hx
    · exact hx
  have hr' : Rps (fun _ => False) μ M' [.d (.sl len ds)] vals.toList := by
    obtain ⟨u, us, e, h1, h2⟩ := Rps.cons_iff.1 hr
    rw [e]
    refine Rps.cons_iff.2 ⟨u, us, rfl, Rp.d_iff.2 ?_, Rps.nil_iff.2 (Rps.nil_iff.1 h2)⟩
    have h3 := h1.rep
    simp only [Rep] at h3
    obtain ⟨A, c, rfl, hle, hA⟩ := h3
    have hA := hA h0
    subst hA
    simp only [RepD]
    refine ⟨_, c, rfl, hle, fun hz => absurd hz h0, fun _ => ⟨(μ m).blk, off, rfl, repR_mk off ds fun i x hx => ?_⟩⟩
    obtain ⟨u, hu, hd⟩ := hcs.get (hds i x hx)
    refine ⟨u, ?_, RepD.mono hMM x u (Rp.d_iff.1 hd)⟩
    show (if (μ m).blk = (μ m).blk then w.cell? ⟨(μ m).blk, off + i, none⟩ else M (μ m).blk (off + i)) = some u
    rw [if_pos rfl, cell_of hb]
    simpa using hu
  have hS' : SatF (fun _ => False) μ M' (lk []) w := by
    refine ⟨⟨fun b o x hx => ?_, hS.mem.glob.le hMM⟩, fun n ob hn => by simp [lk_nil] at hn, fun n _ hn => by simp [lk_nil] at hn⟩
    have hx : (if b = (μ m).blk then w.cell? ⟨b, o, none⟩ else M b o) = some x := hx
    split at hx
    · exact hx
    · exact hS.mem b o x hx
  refine (h.2 (fun _ => False) μ M' w vals (fun _ _ h => h) hr' hS').mono ?_
  rintro e w' ⟨r, F', μ', M'', u, rfl, ⟨rfl, rfl⟩, hru, hS2, hE⟩
  have hfr : ∀ b, b < w.heap.size → w'.heap[b]? = w.heap[b]? := fun b hb => (hE.frame b hb (fun n hn => by simp [lk_nil] at hn)).1
  refine ⟨r, [(m, .box t cs)], μ, M, u, rfl, ⟨rfl, rfl⟩, hv _ _ _ _ _ _ u hru, ⟨⟨fun b o x hx => hS2.mem b o x (hE.mem b o x (hMM b o x hx)), hS.mem.glob⟩, fun n ob hn => ?_, hS.inj⟩, ⟨fun _ _ => rfl, Mem.le_refl M, fun b hb _ => ⟨hfr b hb, fun _ => rfl⟩, hE.size, fun n hn => .inr ⟨fun hnew => ?_, hn⟩, hE.os, hE.tape, hE.output⟩⟩
  · obtain ⟨a1, a2, a3⟩ := hS.obs n ob hn
    have hnm : n = m ∧ ob = .box t cs := by
      rw [lk_cons] at hn
      split at hn
      · rename_i e; exact ⟨e, (Option.some.inj hn).symm⟩
      · simp [lk_nil] at hn
    obtain ⟨rfl, rfl⟩ := hnm
    refine ⟨.inl a1, ⟨hlive, vs, ?_, hcs.more (fun n h => .inl h) (fun _ _ => rfl) (Mem.le_refl M)⟩, a3⟩
    rw [hfr _ (Array.getElem?_eq_some_iff.1 hb).1]; exact hb
  · have : n = m := by
      rw [lk_cons] at hn
      split at hn
      · rename_i e; exact e
      · simp [lk_nil] at hn
    subst this
    exact hp n hnew hpm
end Go.Sl

/-
  Heaps: what is replaced in place; what a call leaves of a greater heap.
-/
set_option linter.unusedVariables false
set_option linter.unusedSimpArgs false
set_option linter.unusedSectionVars false
namespace Go.Sl
open Go.RowKit
theorem lk_of_nodup {h : Hp} (hn : (h.map (·.1)).Nodup) : ∀ x, x ∈ h → lk h x.1 = some x.2 := by
  induction h with
  | nil => intro x hx; cases hx
  | cons y h ih =>
    intro x hx
    rw [List.map_cons, List.nodup_cons] at hn
    obtain ⟨a, o⟩ := y
    rw [lk_cons]
    rcases List.mem_cons.1 hx with rfl | hx
    · simp
    · have : x.1 ≠ a := fun e => hn.1 (by rw [← e]; exact List.mem_map.2 ⟨x, hx, rfl⟩)
      rw [if_neg this]
      exact ih hn.2 x hx
def repl (F : Hp) (x : Nat × Ob) : Nat × Ob := match lk F x.1 with
  | some o => (x.1, o)
  | none => x
theorem hrep_map : ∀ {h : Hp} {n : Nat} {o : Ob}, (h.map (·.1)).Nodup → n ∈ h.map (·.1) → hrep h n o = h.map fun x => if x.1 = n then (n, o) else x
  | [], n, o, _, hm => by cases hm
  | (m, o') :: h, n, o, hn, hm => by
    rw [List.map_cons, List.nodup_cons] at hn
    simp only [hrep, List.map_cons]
    by_cases e : m = n
    · subst e
      simp only [if_true]
      congr 1
      symm
      conv => rhs; rw [← List.map_id h]
      refine List.map_congr_left fun x hx => ?_
      rw [if_neg fun e => hn.1 (by rw [← e]; exact List.mem_map.2 ⟨x, hx, rfl⟩)]
      rfl
    · rw [if_neg e, if_neg e, hrep_map hn.2 ((List.mem_cons.1 hm).resolve_left fun h => e h.symm)]
theorem lk_of_mem {h : Hp} {n : Nat} (hm : n ∈ h.map (·.1)) : ∃ o, lk h n = some o := by
  induction h with
  | nil => cases hm
  | cons y h ih =>
    obtain ⟨m, o⟩ := y
    rw [lk_cons]
    by_cases e : n = m
    · exact ⟨o, by rw [if_pos e]⟩
    · rw [if_neg e]
      exact ih ((List.mem_cons.1 hm).resolve_left e)
theorem repl_names (F : Hp) (x : Nat × Ob) : (repl F x).1 = x.1 := by unfold repl; split <;> rfl
theorem hsets_map {h : Hp} (hn : (h.map (·.1)).Nodup) : ∀ {F : Hp}, (F.map (·.1)).Nodup → (∀ n, n ∈ F.map (·.1) → n ∈ h.map (·.1)) → hsets h F = h.map (repl F)
  | [], _, _ => by
    simp only [hsets]
    conv => lhs; rw [← List.map_id h]
    rfl
  | (n, o) :: F, hF, hsub => by
    rw [List.map_cons, List.nodup_cons] at hF
    have ih := hsets_map hn hF.2 fun m hm => hsub m (List.mem_cons_of_mem _ hm)
    have hnames : (h.map (repl F)).map (·.1) = h.map (·.1) := by rw [List.map_map]; exact List.map_congr_left fun x _ => repl_names F x
    have hmem : n ∈ (h.map (repl F)).map (·.1) := by rw [hnames]; exact hsub n (by simp)
    simp only [hsets]
    rw [ih]
    unfold hset
    obtain ⟨o1, ho1⟩ := lk_of_mem hmem
    rw [ho1]
    dsimp only
    rw [hrep_map (by rw [hnames]; exact hn) hmem, List.map_map]
    refine List.map_congr_left fun x _ => ?_
    show (if (repl F x).1 = n then (n, o) else repl F x) = repl ((n, o) :: F) x
    rw [repl_names]
    unfold repl
    rw [lk_cons]
    by_cases e : x.1 = n
    · simp [e]
    · simp [e]
theorem map_repl {F : Hp} : ∀ {A B : Hp}, A.map (·.1) = B.map (·.1) → (∀ x, x ∈ B → lk F x.1 = some x.2) → A.map (repl F) = B
  | [], [], _, _ => rfl
  | [], _ :: _, h, _ => by simp at h
  | _ :: _, [], h, _ => by simp at h
  | a :: A, b :: B, h, hl => by
    simp only [List.map_cons, List.cons.injEq] at h ⊢
    refine ⟨?_, map_repl h.2 fun x hx => hl x (List.mem_cons_of_mem _ hx)⟩
    have := hl b (by simp)
    unfold repl
    rw [h.1, this]
theorem hdels_same {h F' : Hp} : ∀ {F : Hp}, (∀ n, n ∈ F.map (·.1) → (lk F' n).isSome = true) → hdels h F' F = h
  | [], _ => rfl
  | (n, o) :: F, hs => by
    simp only [hdels]
    rw [if_pos (hs n (by simp)), hdels_same fun m hm => hs m (List.mem_cons_of_mem _ hm)]
/-- A call that replaces what is known, behind what is ahead. -/
theorem mrg_tail {pre F F' : Hp} (he : F.map (·.1) = F'.map (·.1)) (hn : ((pre ++ F).map (·.1)).Nodup) : hsets (hdels (pre ++ F) F' F) F' = pre ++ F' := by
  have hn2 : (F'.map (·.1)).Nodup := by rw [← he]; rw [List.map_append, List.nodup_append] at hn; exact hn.2.1
  rw [hdels_same fun n h => by rw [he] at h; obtain ⟨o, ho⟩ := lk_of_mem h; rw [ho]; rfl]
  rw [hsets_map hn hn2 fun n h => by rw [List.map_append, List.mem_append, he]; exact .inr h, List.map_append, map_repl he (lk_of_nodup hn2)]
  congr 1
  conv => rhs; rw [← List.map_id pre]
  refine List.map_congr_left fun x hx => ?_
  have : lk F' x.1 = none := by
    cases hh : lk F' x.1 with
    | none => rfl
    | some o =>
      rw [List.map_append, List.nodup_append] at hn
      have h1 : x.1 ∈ F'.map (·.1) := by
        have : ∀ {h : Hp} {n : Nat} {o : Ob}, lk h n = some o → n ∈ h.map (·.1) := by
          intro h
          induction h with
          | nil => intro n o h; simp [lk_nil] at h
          | cons y h ih =>
            intro n o hl
            rw [lk_cons] at hl
            split at hl
            · rename_i e; subst e; simp
            · exact List.mem_cons_of_mem _ (ih hl)
        exact this hh
      exact absurd rfl (hn.2.2 x.1 (List.mem_map.2 ⟨x, hx, rfl⟩) x.1 (by rw [he]; exact h1))
  unfold repl
  rw [this]; rfl
theorem mrg_tail1 {n : Nat} {a b : Ob} {F F' : Hp} (he : F.map (·.1) = F'.map (·.1)) (hn : (((n, a) :: F).map (·.1)).Nodup) : hsets (hdels ((n, a) :: F) ((n, b) :: F') F) F' = (n, a) :: F' := by
  have h1 := mrg_tail (pre := [(n, a)]) he hn
  rw [hdels_same fun m hm => by rw [he] at hm; obtain ⟨o, ho⟩ := lk_of_mem hm; rw [ho]; rfl] at h1
  rw [hdels_same fun m hm => by
    rw [he] at hm
    obtain ⟨o, ho⟩ := lk_of_mem hm
    rw [lk_cons]
    split
    · rfl
    · rw [ho]; rfl]
  exact h1
theorem hmrg_self {h : Hp} : ∀ {F : Hp}, (∀ x, x ∈ F → lk h x.1 = some x.2) → hsets h F = h
  | [], _ => rfl
  | (n, o) :: F, hx => by
    simp only [hsets]
    rw [hmrg_self fun x h => hx x (List.mem_cons_of_mem _ h)]
    exact hset_same (hx (n, o) (by simp))
theorem selfX {F X : Hp} (hn : (F.map (·.1)).Nodup) (h : HSub F X) : hsets (hdels X F F) F = X := by
  rw [hdels_same fun n hn => by obtain ⟨o, ho⟩ := lk_of_mem hn; rw [ho]; rfl]
  exact hmrg_self fun x hx => h _ _ (lk_of_nodup hn x hx)
theorem lkX {H F F' : Hp} (hs : HSub F H) : lk (hsets (hdels H F' F) F') = mrg (lk H) (lk F) (lk F') := by
  have := lk_hmrg (ro := false) hs (F' := F') (fun h => by cases h)
  exact this
theorem subX {H F F' : Hp} (hs : HSub F H) : HSub F' (hsets (hdels H F' F) F') := fun n ob h => by
  rw [lkX hs, mrg_in (.inr (by rw [h]; simp)), h]
theorem outX {H F F' : Hp} (hs : HSub F H) {n : Nat} (h1 : lk F n = none) (h2 : lk F' n = none) : lk (hsets (hdels H F' F) F') n = lk H n := by
  rw [lkX hs, mrg_out h1 h2]

theorem lk_app (F G : Hp) (m : Nat) : lk (F ++ G) m = (lk F m).or (lk G m) := by
  unfold lk
  exact List.lookup_append ..
theorem sub_cons {F H : Hp} {n : Nat} {o : Ob} (hn : lk F n = none) (h : HSub F H) : HSub F ((n, o) :: H) := fun m ob hm => by
  rw [lk_cons, if_neg fun e => by rw [e, hn] at hm; cases hm]
  exact h m ob hm
theorem mem_names {h : Hp} {n : Nat} {o : Ob} (hl : lk h n = some o) : n ∈ h.map (·.1) := by
  induction h with
  | nil => simp [lk_nil] at hl
  | cons y h ih =>
    rw [lk_cons] at hl
    split at hl
    · rename_i e; subst e; simp
    · exact List.mem_cons_of_mem _ (ih hl)
theorem lk_none_of {h : Hp} {n : Nat} (hn : n ∉ h.map (·.1)) : lk h n = none := by
  cases hh : lk h n with
  | none => rfl
  | some o => exact absurd (mem_names hh) hn
theorem not_mem_of {h : Hp} {n : Nat} (hn : lk h n = none) : n ∉ h.map (·.1) := fun hm => by
  obtain ⟨o, ho⟩ := lk_of_mem hm
  rw [hn] at ho; cases ho
theorem nd_cons {H : Hp} {n : Nat} {o : Ob} (hn : lk H n = none) (h : (H.map (·.1)).Nodup) : (((n, o) :: H).map (·.1)).Nodup := by
  rw [List.map_cons, List.nodup_cons]
  exact ⟨not_mem_of hn, h⟩
theorem ok_cons {H : Hp} {n : Nat} {o : Ob} {q : Nat → Bool} (h1 : q n = true) (h2 : o.ok q = true) (h : H.ok q = true) : Hp.ok q ((n, o) :: H) = true := by
  simp only [Hp.ok, List.all_cons, Bool.and_eq_true] at h ⊢
  exact ⟨⟨h1, h2⟩, h⟩

/-- A row of one's own, cut short. -/
theorem ObRep.trim {p : Nat → Prop} {μ : Nat → Nm} {M : Mem} {w : World} {m : Nm} {e sz len : Nat} {cs : List SV} (h : ObRep p μ M w m (.arr e sz len cs)) {n : Nat} (hn : n ≤ len) : ObRep p μ M w m (.arr e sz n (cs.take (n * sz))) := by
  rcases h with ⟨h1, h2, h3⟩ | ⟨h0, vs, hb, h1, h2, h3, h4, h5⟩
  · subst h2; subst h3
    exact .inl ⟨h1, by omega, by simp⟩
  · have hle : n * sz ≤ len * sz := Nat.mul_le_mul_right sz hn
    refine .inr ⟨h0, vs, hb, ?_, by omega, h3, h4, ?_⟩
    · rw [List.length_take, h1, Nat.min_eq_left hle]
    · have := h5.take (n * sz)
      rwa [List.take_take, Nat.min_eq_left hle] at this
theorem SW.trim {P : Program} {N k0 : Nat} {s : SCo} {st : St} {Q : Exit → St → Prop} {n e sz len : Nat} {cs : List SV} (i : Nat) (hl : lk st.hp n = some (.arr e sz len cs)) (hi : i ≤ len)
    (h : SW P N k0 s ⟨st.env, hset st.hp n (.arr e sz i (cs.take (i * sz))), st.k⟩ Q) : SW P N k0 s st Q := by
  refine fun cc hc rd hrf μ0 M0 w0 c0 a w hSt => h cc hc rd hrf μ0 M0 w0 c0 a w ?_
  obtain ⟨hk0, hdf, hsz, μ, M, hsl, hS, hE⟩ := hSt
  refine ⟨hk0, hdf, hsz, μ, M, hsl, ⟨hS.mem, fun m ob hm => ?_, fun m m' h1 h2 => hS.inj m m' ?_ ?_⟩, ?_⟩
  · rw [lk_hset] at hm
    split at hm
    · rename_i e; subst e
      injection hm with hm; subst hm
      obtain ⟨a1, a2, a3⟩ := hS.obs _ _ hl
      exact ⟨a1, a2.trim hi, a3⟩
    · exact hS.obs m ob hm
  · rw [lk_hset] at h1
    split at h1
    · rename_i e; subst e; rw [hl]; simp
    · exact h1
  · rw [lk_hset] at h2
    split at h2
    · rename_i e; subst e; rw [hl]; simp
    · exact h2
  · exact hE.fewer fun m hm => by
      rw [lk_hset] at hm
      split at hm
      · rename_i e; subst e; rw [hl]; simp
      · exact hm

/-! ### a row held against nil -/
theorem cO_eqnil {P : Program} {op : Op} {neg : Bool} {kd : Nat} {x' : X} (hc : cO P op = some (.eqnil neg kd x')) : ∃ b t x y t', op = .binOp b t x y t' ∧ isEq b = true ∧ isNeq b = neg ∧ nilKd P t y = some kd ∧ cX x = some x' := by
  cases op <;> simp only [cO] at hc <;> try (cases hc; done)
  case binOp b t x y t' =>
    refine ⟨b, t, x, y, t', rfl, ?_⟩
    by_cases hq : isEq b = true
    · rw [if_pos hq] at hc
      split at hc
      · repeat' (first | contradiction | (cases hc; done) | split at hc)
      · repeat' (first | contradiction | (cases hc; done) | split at hc)
      · repeat' (first | contradiction | (cases hc; done) | split at hc)
      · repeat' (first | contradiction | (cases hc; done) | split at hc)
      · split at hc <;> first | (cases hc; done) | skip
        rename_i h1 h2
        injection hc with hc
        injection hc with e1 e2 e3
        subst e2; subst e3
        exact ⟨hq, e1, h1, h2⟩
    · rw [if_neg hq] at hc
      repeat' (first | contradiction | (cases hc; done) | split at hc)
  all_goals (repeat' (first | contradiction | (cases hc; done) | (obtain ⟨_, _, hh⟩ := Option.map_eq_some_iff.1 hc; cases hh; done) | split at hc))
/-- A frozen row held against nil: it is not nil if something is in it; else nobody knows. -/
theorem sq_eqnilS {P : Program} {o : Oper} {E : Nat → Option SV} {H : Nat → Option Ob} {k : Nat} {neg : Bool} {x' : X} {n : Nat} {cs : List DV} (hc : cO P o.op = some (.eqnil neg 3 x')) (hx : ev E x' = some (.d (.sl n cs))) :
    SoundQ P o E H k 0 [] (fun v F' => F' = [] ∧ (v = .d (.bool neg) ∨ (n = 0 ∧ v = .d (.bool !neg)))) := by
  obtain ⟨op, t, x, y, t', ho, hop, hneg, hy, hcx⟩ := cO_eqnil hc
  subst hneg
  refine ⟨sub_nil, fun rd p μ M a w K QQ hnew hk hS hK => ?_⟩
  obtain ⟨A, c, e1, e2, e3, e4⟩ := (by simpa [RepD] using Rp.d_iff.1 (hk.get (by simp [ho, Op.operands]) hcx hx) : ∃ A cp, a.eval x = .slice A n cp ∧ n ≤ cp ∧ (n = 0 → cs = []) ∧ (0 < n → ∃ b q, A = some ⟨b, q, none⟩ ∧ RepR M b q cs))
  have hty : ∃ e, P.underlying t = some (.slice e) ∧ a.eval y = .slice none 0 0 := by
    unfold nilKd at hy
    split at hy <;> first | (cases hy; done) | skip
    all_goals first
      | (injection hy with hy; cases hy; done)
      | exact ⟨_, by assumption, rfl⟩
  obtain ⟨el, hty, hyv⟩ := hty
  have h0 : ∀ d, (Op.equalIn (d + 1) t (a.eval x) (a.eval y)).run P w = .ok A.isNone w := fun d => by
    rw [e1, hyv]; cases A <;> simp [Op.equalIn, run_underlying hty]
  have h1 := h0 9999
  clear h0
  have n5 : eqGuard op t x y (a.eval x) (a.eval y) = Pure.pure () := by rw [e1]; simp [eqGuard_at_slice]
  have hb : (binOp op t (a.eval x) (a.eval y)).run P w = .ok (.bool (bif isNeq op then !A.isNone else A.isNone)) w := by
    rw [e1, hyv] at h1 ⊢
    rcases isEq_cases hop with rfl | rfl <;> simp [binOp, Op.equal, Op.maxDepth, h1, isNeq]
  have hex : (execOp a.eval o).run P w = .ok (.value (.bool (bif isNeq op then !A.isNone else A.isNone))) w := by
    simp only [execOp, ho, Sem.run_bind, n5, Sem.run_pure, Result.andThen_ok, hb]
  refine wp_value hex (hK (.d (.bool (bif isNeq op then !A.isNone else A.isNone))) [] _ μ M w ⟨rfl, ?_⟩ (Rp.bool_iff.2 rfl) (hS.more fun _ h => .inl h) (Ev.refl _ _ _ _ _ fun n h => by simp [lk_nil] at h))
  by_cases hn : n = 0
  · cases A <;> cases isNeq op <;> simp [hn]
  · obtain ⟨b, q, rfl, _⟩ := e4 (by omega)
    left
    cases isNeq op <;> rfl
theorem SWn.manyR {P : Program} {N k0 : Nat} {st : St} {K : St → Prop} {si : SI} {r : List SI} {F : Hp} {nk : Nat} {Q : SV → Hp → Prop} (hg : si.g = none) (hq : ∀ o : Oper, cO P o.op = some si.op → SoundQ P o (fun t => st.env.lookup t) (lk st.hp) st.k nk F Q)
    (hro : ∀ v F', Q v F' → F' = F) (h : ∀ v F', Q v F' → SWn P N k0 r (upd st si ⟨v, F, F', nk, True⟩) K) : SWn P N k0 (si :: r) st K := by
  refine SWn.cons fun ops o hc hN rd μ0 M0 w0 c0 a w hSt i ho Q' KK hKK => ?_
  obtain ⟨g1, g2, g3⟩ := cOper_spec hc
  have hgn : o.guard = none := by
    rcases g3 with ⟨h, _⟩ | ⟨j, w, t, h, _, h'⟩
    · exact h
    · rw [hg] at h'; cases h'
  unfold wpOpIn
  simp only [ho, Region.wanted, hgn, if_true]
  exact (StA.step g2 (fun d hd => hN d (by rw [g2]; exact hd)) (hq o g1) (fun v F' hQ hr => hro v F' hQ) hSt fun v F' hQ a' w' hSt' => hKK _ a' w' (h v F' hQ) hSt')
/-- A region that ends by holding a frozen row against nil. -/
theorem SW.nilS {P : Program} {N k0 : Nat} {st : St} {Q : Exit → St → Prop} {d s t n : Nat} {cs : List DV} {neg : Bool} {bs : List Nat} (hl : st.env.lookup s = some (.d (.sl n cs)))
    (h1 : Q .normal ⟨(d, .d (.bool neg)) :: (t, .d (.sl n cs)) :: st.env, st.hp, st.k⟩) (h2 : n = 0 → Q .normal ⟨(d, .d (.bool !neg)) :: (t, .d (.sl n cs)) :: st.env, st.hp, st.k⟩) :
    SW P N k0 (.reg [⟨some t, .mv (.t s), none⟩, ⟨some d, .eqnil neg 3 (.t t), none⟩] bs false) st Q := by
  refine SW.ofN (SWn.one (crs := []) (c2 := []) (e := ⟨.d (.sl n cs), [], [], 0, True⟩) (by simp only [runOp, goOp, sop, ev, hl]) trivial ?_)
  refine SWn.manyR rfl (fun o hc => sq_eqnilS (n := n) (cs := cs) hc (by simp [upd, ev])) (fun v F' h => h.1) fun v F' hv => SWn.nil ?_
  obtain ⟨rfl, rfl | ⟨h0, rfl⟩⟩ := hv
  · exact h1
  · exact h2 h0
/-- A function that leaves all as it was. -/
theorem SB.same {P : Program} {f : FuncId} {args : List SV} {F : Hp} {k nk : Nat} {v : SV} (h : SB P f args F k nk fun r F' => r = v ∧ F' = F) (hcl : F.ok (fun m => (lk F m).isSome) = true) (ha : SV.oks (fun m => (lk F m).isSome) args = true) (hv : ∀ q, v.ok q = true) : SCd P f args F k nk v F := by
  unfold SCd
  refine h.here (fun m => (lk F m).isSome) (fun m h e => by rw [e] at h; cases h) ha hcl ?_
  rintro x F' ⟨rfl, rfl⟩ _ _
  exact ⟨hv _, Hp.ok_mono (fun m hm => by rw [hm]; rfl) hcl⟩
/-- A function that writes objects that are known. -/
theorem SB.write {P : Program} {f : FuncId} {args : List SV} {F G : Hp} {k nk : Nat} {v : SV} (h : SB P f args F k nk fun r F' => r = v ∧ F' = G) (hcl : F.ok (fun m => (lk F m).isSome) = true) (hcl2 : G.ok (fun m => (lk F m).isSome) = true) (ha : SV.oks (fun m => (lk F m).isSome) args = true) (hv : ∀ q, v.ok q = true) : SCd P f args F k nk v G := by
  unfold SCd
  refine h.here (fun m => (lk F m).isSome) (fun m h e => by rw [e] at h; cases h) ha hcl ?_
  rintro x F' ⟨rfl, rfl⟩ _ _
  exact ⟨hv _, Hp.ok_mono (fun m hm => by rw [hm]; rfl) hcl2⟩
end Go.Sl

/-
  A call of yield that is done only where a flag is so.
-/
set_option linter.unusedVariables false
set_option linter.unusedSimpArgs false
set_option linter.unusedSectionVars false
namespace Go.Sl
open Go.RowKit
variable {P : Program}
theorem SWn.manyG {N k0 : Nat} {st : St} {K : St → Prop} {si : SI} {r : List SI} {t : Nat} {b : Bool} {F : Hp} {nk : Nat} {Q : SV → Hp → Prop} (hg : si.g = some (t, b)) (hgv : st.env.lookup t = some (.d (.bool b))) (hq : ∀ o : Oper, cO P o.op = some si.op → SoundQ P o (fun t => st.env.lookup t) (lk st.hp) st.k nk F Q)
    (hro : roOf si.op = false) (h : ∀ v F', Q v F' → SWn P N k0 r (upd st si ⟨v, F, F', nk, True⟩) K) : SWn P N k0 (si :: r) st K := by
  refine SWn.cons fun ops o hc hN rd μ0 M0 w0 c0 a w hSt i ho Q' KK hKK => ?_
  obtain ⟨g1, g2, g3⟩ := cOper_spec hc
  obtain ⟨hk0, hdf, hsz, μ, M, hsl, hS, hE⟩ := hSt
  have hSt : StA N μ0 M0 w0 c0 k0 st a w := ⟨hk0, hdf, hsz, μ, M, hsl, hS, hE⟩
  have hw : Region.wanted o (yielded ops a.tmps) = true := by
    rcases g3 with ⟨_, h'⟩ | ⟨j, w, t', hg', hd, h'⟩
    · rw [hg] at h'; cases h'
    · rw [hg] at h'
      injection h' with h'
      injection h' with e1 e2
      subst e1; subst e2
      have hv := Rp.bool_iff.1 (hsl t _ hgv)
      simp only [Region.wanted, hg', yielded_of hd hv]
      simp
  unfold wpOpIn
  simp only [ho, hw, if_true]
  exact (StA.step g2 (fun d hd => hN d (by rw [g2]; exact hd)) (hq o g1) (fun v F' _ hr => by rw [hro] at hr; cases hr) hSt fun v F' hQ a' w' hSt' => hKK _ a' w' (h v F' hQ) hSt')
theorem SWn.yieldG {N k0 : Nat} {st : St} {K : St → Prop} {d : Option Nat} {r : List SI} {f : X} {args : List X} {t : Nat} {b : Bool} {nl : Nat} {as : List SV} {F : Hp} {nk : Nat} {Q : SV → Hp → Prop} (hgv : st.env.lookup t = some (.d (.bool b)))
    (h1 : ev (fun t => st.env.lookup t) f = some (.yl nl)) (h2 : evs (fun t => st.env.lookup t) args = some as) (hF : lk F nl ≠ none) (hSY : SY P nl as F st.k nk Q) (hsub : HSub F st.hp)
    (h : ∀ v F', Q v F' → SWn P N k0 r (upd st ⟨d, .call f args, some (t, b)⟩ ⟨v, F, F', nk, True⟩) K) : SWn P N k0 (⟨d, .call f args, some (t, b)⟩ :: r) st K :=
  SWn.manyG rfl hgv (fun o hc => sq_yield hc h1 h2 hF hSY hsub) rfl h
/-- A box that holds a nil row holds a row of one's own, with nothing in it. -/
theorem StA.nilbox {N k0 : Nat} {st : St} {μ0 : Nat → Nm} {M0 : Mem} {w0 : World} {c0 : Nat → Option Ob} {a : Act} {w : World} (x ty : Nat) (e sz : Nat) (ht : lk st.hp x = some (.box ty [.d .nils])) (h : StA N μ0 M0 w0 c0 k0 st a w) :
    StA N μ0 M0 w0 c0 k0 ⟨st.env, (x, .box ty [.gs st.k 0]) :: (st.k, .arr e sz 0 []) :: st.hp, st.k + 1⟩ a w := by
  obtain ⟨hk0, hdf, hsz, μ, M, hsl, hS, hE⟩ := h
  have hmu := upN_p (μ := μ) (m := ⟨0, 0, false⟩) (p := (· < st.k)) (k := st.k) (Nat.lt_irrefl _)
  have hup : ∀ n, n < st.k → n < st.k + 1 := fun n h => by omega
  have hlt : ∀ n ob, lk st.hp n = some ob → n < st.k := fun n ob h => (hS.obs n ob h).1
  have hxk := hlt x _ ht
  have hne : ∀ n, n ≠ st.k → lk ((x, .box ty [.gs st.k 0]) :: (st.k, .arr e sz 0 []) :: st.hp) n ≠ none → lk st.hp n ≠ none := fun n h1 h2 => by
    rw [lk_cons] at h2
    split at h2
    · rename_i e1; rw [e1, ht]; simp
    · rw [lk_cons, if_neg h1] at h2; exact h2
  refine ⟨by show k0 ≤ st.k + 1; omega, hdf, hsz, upN μ st.k ⟨0, 0, false⟩, M, fun u s hs => ?_, ⟨hS.mem, fun n ob hn => ?_, fun n m hn hm ln lm e => ?_⟩, ⟨fun n hn => ?_, hE.mem, hE.frame, hE.size, fun n hn => ?_, hE.os, hE.tape, hE.output⟩⟩
  · exact (hsl u s hs).more hup hmu (Mem.le_refl M)
  · rw [lk_cons] at hn
    split at hn
    · rename_i e1
      subst e1
      injection hn with hn
      subst hn
      obtain ⟨a1, ⟨hl, vs, hb, hr⟩, a3⟩ := hS.obs n _ ht
      rw [hmu n a1]
      refine ⟨hup n a1, ⟨hl, vs, hb, ?_⟩, a3⟩
      obtain ⟨v, vs', e, h1, h2⟩ := Rps.cons_iff.1 hr
      rw [e]
      refine Rps.cons_iff.2 ⟨v, vs', rfl, ?_, Rps.nil_iff.2 (Rps.nil_iff.1 h2)⟩
      have h1 := h1.rep
      simp only [Rep, RepD] at h1
      intro ν hν
      simp only [Rep]
      rw [hν st.k (Nat.lt_succ_self _), upN_same]
      exact .inr ⟨rfl, trivial, none, h1⟩
    · rw [lk_cons] at hn
      split at hn
      · rename_i e1
        subst e1
        injection hn with hn
        subst hn
        rw [upN_same]
        exact ⟨Nat.lt_succ_self _, .inl ⟨rfl, rfl, rfl⟩, fun h => by cases h⟩
      · obtain ⟨a1, a2, a3⟩ := hS.obs n ob hn
        rw [hmu n a1]
        exact ⟨hup n a1, a2.more hup hmu (Mem.le_refl M) fun _ => rfl, a3⟩
  · by_cases e1 : n = st.k
    · subst e1; rw [upN_same] at ln; cases ln
    · by_cases e2 : m = st.k
      · subst e2; rw [upN_same] at lm; cases lm
      · have hn := hne n e1 hn
        have hm := hne m e2 hm
        obtain ⟨o1, ho1⟩ := Option.ne_none_iff_exists'.1 hn
        obtain ⟨o2, ho2⟩ := Option.ne_none_iff_exists'.1 hm
        rw [hmu n (hlt n o1 ho1)] at e ln
        rw [hmu m (hlt m o2 ho2)] at e lm
        exact hS.inj n m hn hm ln lm e
  · simp only at hn
    by_cases e1 : n = st.k
    · subst e1; omega
    · rw [upN_other _ _ _ e1]; exact hE.old n (by omega)
  · by_cases e1 : n = st.k
    · subst e1
      rw [upN_same]
      exact .inl ⟨⟨by omega, Nat.lt_succ_self _⟩, fun h => by cases h⟩
    · have hn := hne n e1 hn
      obtain ⟨o1, ho1⟩ := Option.ne_none_iff_exists'.1 hn
      rw [hmu n (hlt n o1 ho1)]
      rcases hE.names n hn with ⟨b1, b2⟩ | ⟨b1, b2⟩
      · exact .inl ⟨⟨b1.1, by have := b1.2; show n < st.k + 1; omega⟩, b2⟩
      · refine .inr ⟨fun h => ?_, b2⟩
        have : n < st.k := hlt n o1 ho1
        exact b1 ⟨h.1, this⟩
theorem SW.nilbox {N k0 : Nat} {st : St} {Q : Exit → St → Prop} {s : SCo} (x ty : Nat) (e sz : Nat) (ht : lk st.hp x = some (.box ty [.d .nils])) (h : SW P N k0 s ⟨st.env, (x, .box ty [.gs st.k 0]) :: (st.k, .arr e sz 0 []) :: st.hp, st.k + 1⟩ Q) : SW P N k0 s st Q :=
  fun c hc rd hrf μ0 M0 w0 c0 a w hSt => h c hc rd hrf μ0 M0 w0 c0 a w (hSt.nilbox x ty e sz ht)
end Go.Sl

/-
  Whoever is given several values at once by an iterator.
-/
set_option linter.unusedVariables false
set_option linter.unusedSimpArgs false
set_option linter.unusedSectionVars false
namespace Go.Sl
open Go.RowKit
/-- As YieldOk: yield is called with a row of values. -/
structure YieldOks {α σ : Type} (P : Program) (y : Nat) (ar : α → List SV) (nky : Nat) (Fh : σ → Hp) (Step : σ → α → σ → Prop) (go : σ → Bool) (s0 : σ) (B : Nat) : Prop where
  isin : ∀ s, lk (Fh s) y ≠ none
  nd : ∀ s x, x ∈ Fh s → lk (Fh s) x.1 = some x.2
  call : ∀ s xs x k, OnBy Step s0 xs s → xs.length < B → (Fh s).ok (fun n => decide (n < k)) = true → go s = true → SY P y (ar x) (Fh s) k nky fun r F' => ∃ s', Step s x s' ∧ r = .d (.bool (go s')) ∧ F' = Fh s' ∧
    (Fh s').ok (fun n => decide (n < k + nky)) = true ∧ ∀ n, lk (Fh s') n ≠ none → lk (Fh s) n ≠ none ∨ (k ≤ n ∧ n < k + nky)
end Go.Sl

/-
  Iterators: one's own objects ahead of a client's; a call of yield takes the client on.
-/
set_option linter.unusedVariables false
set_option linter.unusedSimpArgs false
set_option linter.unusedSectionVars false
namespace Go.Sl
open Go.RowKit
variable {P : Program}

/-- One's own objects, ahead of a client's. -/
structure Own {σ : Type} (G : Hp) (Fh : σ → Hp) (s : σ) (kk : Nat) : Prop where
  nd : (G.map (·.1)).Nodup
  lt : ∀ n, n ∈ G.map (·.1) → n < kk
  no : ∀ n, n ∈ G.map (·.1) → lk (Fh s) n = none
  ok : G.ok (fun n => decide (n < kk)) = true
  okF : (Fh s).ok (fun n => decide (n < kk)) = true
theorem lk_of_not {G : Hp} {n : Nat} (h : n ∉ G.map (·.1)) : lk G n = none := by
  cases hh : lk G n with
  | none => rfl
  | some o =>
    exfalso; apply h
    clear h
    induction G with
    | nil => simp [lk_nil] at hh
    | cons x G ih =>
      rw [lk_cons] at hh
      split at hh
      · rename_i e; rw [e]; simp
      · rw [List.map_cons]; exact List.mem_cons_of_mem _ (ih hh)
theorem hdel_none : ∀ {h : Hp} {n : Nat}, lk h n = none → hdel h n = h
  | [], _, _ => rfl
  | (m, o) :: h, n, hn => by
    rw [lk_cons] at hn
    split at hn
    · cases hn
    · rename_i e
      simp only [hdel]
      rw [if_neg (fun e' => e e'.symm), hdel_none hn]
section
variable {σ : Type} {G : Hp} {Fh : σ → Hp} {s : σ} {kk : Nat}
theorem Own.sub (h : Own G Fh s kk) : HSub (Fh s) (G ++ Fh s) := fun n ob hn => by
  have : n ∉ G.map (·.1) := fun hm => by rw [h.no n hm] at hn; cases hn
  rw [lk_app, lk_of_not this, Option.none_or]; exact hn
theorem Own.all (h : Own G Fh s kk) (hF : ∀ x, x ∈ Fh s → lk (Fh s) x.1 = some x.2) : ∀ x, x ∈ G ++ Fh s → lk (G ++ Fh s) x.1 = some x.2 := fun x hx => by
  rcases List.mem_append.1 hx with hx | hx
  · rw [lk_app, lk_of_nodup h.nd x hx]; rfl
  · exact h.sub x.1 x.2 (hF x hx)
theorem Own.okk (h : Own G Fh s kk) : (G ++ Fh s).ok (fun n => decide (n < kk)) = true := by
  have h1 := h.ok
  have h2 := h.okF
  unfold Hp.ok at *
  rw [List.all_append, h1, h2]; rfl
theorem Own.mono {k' : Nat} (h : Own G Fh s kk) (hk : kk ≤ k') : Own G Fh s k' := ⟨h.nd, fun n hn => Nat.lt_of_lt_of_le (h.lt n hn) hk, h.no, Hp.ok_less hk h.ok, Hp.ok_less hk h.okF⟩
/-- Other contents under the same names. -/
theorem Own.turn {G' : Hp} (h : Own G Fh s kk) (hn : G'.map (·.1) = G.map (·.1)) (ho : G'.ok (fun n => decide (n < kk)) = true) : Own G' Fh s kk := ⟨by rw [hn]; exact h.nd, by rw [hn]; exact h.lt, by rw [hn]; exact h.no, ho, h.okF⟩
theorem Own.less {G' : Hp} (h : Own G Fh s kk) (hs : G'.Sublist G) : Own G' Fh s kk :=
  ⟨h.nd.sublist (hs.map _), fun n hn => h.lt n ((hs.map _).subset hn), fun n hn => h.no n ((hs.map _).subset hn), by
    have := h.ok
    unfold Hp.ok at *
    rw [List.all_eq_true] at *
    exact fun x hx => this x (hs.subset hx), h.okF⟩
theorem Own.out (h : Own G Fh s kk) {n : Nat} (hn : kk ≤ n) : lk (Fh s) n = none := Hp.out h.okF hn
/-- A new object. -/
theorem Own.new {n k' : Nat} {ob : Ob} (h : Own G Fh s kk) (hn : kk ≤ n) (hk : n < k') (ho : ob.ok (fun m => decide (m < k')) = true) : Own ((n, ob) :: G) Fh s k' := by
  refine ⟨List.nodup_cons.2 ⟨fun hm => ?_, h.nd⟩, fun m hm => ?_, fun m hm => ?_, ?_, Hp.ok_less (by omega) h.okF⟩
  · have := h.lt n hm; omega
  · rcases List.mem_cons.1 hm with rfl | hm
    · exact hk
    · have := h.lt m hm; omega
  · rcases List.mem_cons.1 hm with rfl | hm
    · exact h.out hn
    · exact h.no m hm
  · have := Hp.ok_less (show kk ≤ k' by omega) h.ok
    unfold Hp.ok at *
    rw [List.all_cons, this, ho]
    simpa using hk
theorem Own.cut {G1 : Hp} (h1 : Own G1 Fh s kk) (hn : (G.map (·.1)).Nodup) (hs : ∀ x, x ∈ G → x ∈ G1) : Own G Fh s kk :=
  ⟨hn, fun n hm => by
    obtain ⟨x, hx, rfl⟩ := List.mem_map.1 hm
    exact h1.lt _ (List.mem_map.2 ⟨x, hs x hx, rfl⟩), fun n hm => by
    obtain ⟨x, hx, rfl⟩ := List.mem_map.1 hm
    exact h1.no _ (List.mem_map.2 ⟨x, hs x hx, rfl⟩), by
    have := h1.ok
    unfold Hp.ok at *
    rw [List.all_eq_true] at *
    exact fun x hx => this x (hs x hx), h1.okF⟩
theorem Own.keep {G1 : Hp} (h1 : Own G1 Fh s kk) (hs : ∀ x, x ∈ G → x ∈ G1) : ∀ n ob, lk (G ++ Fh s) n = some ob → lk (G1 ++ Fh s) n = some ob := fun n ob hn => by
  rw [lk_app] at hn
  cases hg : lk G n with
  | some o =>
    rw [hg] at hn
    have e : o = ob := by simpa using hn
    have hm : (n, o) ∈ G := by
      clear hn hs
      induction G with
      | nil => simp [lk_nil] at hg
      | cons x G ih =>
        rw [lk_cons] at hg
        split at hg
        · rename_i e; injection hg with hg; rw [e, ← hg]; simp
        · exact List.mem_cons_of_mem _ (ih hg)
    rw [lk_app, lk_of_nodup h1.nd _ (hs _ hm), ← e]; rfl
  | none =>
    rw [hg, Option.none_or] at hn
    have : n ∉ G1.map (·.1) := fun hm => by rw [h1.no n hm] at hn; cases hn
    rw [lk_app, lk_of_not this, Option.none_or]; exact hn
theorem Weak.own {k0 k : Nat} {env env1 : List (Nat × SV)} {hp : Hp} (h : Own G Fh s kk) (hF : ∀ x, x ∈ Fh s → lk (Fh s) x.1 = some x.2) (hk : k0 ≤ kk) (he : EnvW id kk env env1) (hh : ∀ n ob, lk (G ++ Fh s) n = some ob → lk hp n = some ob) : Weak k0 ⟨env, hp, k⟩ ⟨env1, G ++ Fh s, kk⟩ id :=
  Weak.same hk he h.okk fun x hx => hh _ _ (h.all hF x hx)
end
theorem EnvW.mono {ρ : Nat → Nat} {k k' : Nat} (hk : k ≤ k') {env : List (Nat × SV)} : ∀ {env1 : List (Nat × SV)}, EnvW ρ k env env1 → EnvW ρ k' env env1
  | [], _ => trivial
  | (t, s) :: r, h => by
    simp only [EnvW] at h ⊢
    exact ⟨h.1, SV.ok_more (fun n hn => by simp only [decide_eq_true_eq] at *; omega) _ h.2.1, h.2.2.mono hk⟩
section
variable {N k0 : Nat} {K : St → Prop}
/-- A call of yield, the client's objects behind one's own. -/
theorem SWn.yieldO {α σ : Type} {Fh : σ → Hp} {Step : σ → α → σ → Prop} {go : σ → Bool} {nky y B kk d : Nat} {enc : α → SV} {s0 s : σ} {xs : List α} (hy : YieldOk P y enc nky Fh Step go s0 B) (x : α) {G : Hp} {env : List (Nat × SV)} (env1 : List (Nat × SV)) {r : List SI} {f a : X}
    (hO : Own G Fh s kk) (p1 : OnBy Step s0 xs s) (hlt : xs.length < B) (hgo : go s = true) (hk0 : k0 ≤ kk)
    (h1 : ev (fun t => env.lookup t) f = some (.yl y)) (h2 : ev (fun t => env.lookup t) a = some (enc x)) (he : ∀ b : Bool, EnvW id kk ((d, bl b) :: env) ((d, bl b) :: env1))
    (h : ∀ s', Step s x s' → Own G Fh s' (kk + nky) → OnBy Step s0 (xs ++ [x]) s' → SWn P N k0 r ⟨(d, bl (go s')) :: env1, G ++ Fh s', kk + nky⟩ K) :
    SWn P N k0 (⟨some d, .call f [a], none⟩ :: r) ⟨env, G ++ Fh s, kk⟩ K := by
  refine SWn.yield (st := ⟨env, G ++ Fh s, kk⟩) h1 (by simp only [evs]; rw [h2]) (hy.isin s) (hy.call s xs x kk p1 hlt hO.okF hgo) hO.sub ?_
  rintro v F' ⟨s', hstep, rfl, rfl, hok', hnm⟩
  rw [upd_eq]
  have hO' : Own G Fh s' (kk + nky) := ⟨hO.nd, fun n hn => by have := hO.lt n hn; omega, fun n hn => Classical.byContradiction fun hno => (hnm n hno).elim (fun h => h (hO.no n hn)) (fun h => by have := hO.lt n hn; omega), Hp.ok_less (by omega) hO.ok, hok'⟩
  refine SW.toN (Weak.own hO' (hy.nd s') (by omega) (EnvW.mono (by omega) (he _)) fun n ob hn => ?_) (h s' hstep hO' (.snoc p1 hstep))
  have hlk := lk_hmrg (ro := false) hO.sub (F' := Fh s') (fun h => by cases h)
  show lk (hmrg false (G ++ Fh s) (Fh s) (Fh s')) n = some ob
  rw [hlk]
  by_cases hm : n ∈ G.map (·.1)
  · rw [mrg_out (hO.no n hm) (hO'.no n hm)]
    rw [lk_app] at hn ⊢
    cases hg : lk G n with
    | some o => rw [hg] at hn; exact hn
    | none =>
      rw [hg, Option.none_or, hO'.no n hm] at hn; cases hn
  · rw [lk_app, lk_of_not hm, Option.none_or] at hn
    rw [mrg_in (.inr (by rw [hn]; simp)), hn]
end
end Go.Sl

/-
  A row that is not written any more is a value, in boxes too.
-/
set_option linter.unusedVariables false
set_option linter.unusedSimpArgs false
set_option linter.unusedSectionVars false
namespace Go.Sl
open Go.RowKit
def Ob.frz (n len : Nat) (ds : List DV) : Ob → Ob
  | .box t cs => .box t (SV.frzs n len ds cs)
  | .map es c => .map (es.map fun e => (e.1, e.2.1, e.2.2.frz n len ds)) c
  | o => o
theorem RpE.frz {p : Nat → Prop} {μ : Nat → Nm} {M : Mem} {n len : Nat} {ds : List DV} (hg : ∀ v, Rp p μ M (.gs n len) v → Rp p μ M (.d (.sl len ds)) v) : ∀ (r : List (Nat × SV × SV)) (es : List MapEntry), RpE p μ M r es → RpE p μ M (r.map fun e => (e.1, e.2.1, e.2.2.frz n len ds)) es
  | [], es, h => h
  | (b, k, v) :: r, es, ⟨e, es', h1, h2, h3, h4, h5⟩ => ⟨e, es', h1, h2, h3, SV.frz_rep hg v _ h4, RpE.frz hg r es' h5⟩
def frzH (n len : Nat) (ds : List DV) (h : Hp) : Hp := h.map fun x => (x.1, x.2.frz n len ds)
theorem lk_frzH (n len : Nat) (ds : List DV) : ∀ (h : Hp) (m : Nat), lk (frzH n len ds h) m = (lk h m).map (Ob.frz n len ds)
  | [], m => rfl
  | (q, o) :: h, m => by
    have ih := lk_frzH n len ds h m
    unfold frzH at ih ⊢
    rw [List.map_cons, lk_cons, lk_cons]
    split
    · rfl
    · exact ih
/-- A change of objects by what their cells stand for. -/
abbrev FrzOk (φ : Ob → Ob) (n len : Nat) (ds : List DV) : Prop := ∀ (p : Nat → Prop) (μ : Nat → Nm) (M : Mem) (w : World), (∀ v, Rp p μ M (.gs n len) v → Rp p μ M (.d (.sl len ds)) v) → ∀ m o, ObRep p μ M w m o → ObRep p μ M w m (φ o)
abbrev mapH_ (φ : Ob → Ob) (h : Hp) : Hp := h.map fun x => (x.1, φ x.2)
theorem lk_mapH_ (φ : Ob → Ob) : ∀ (h : Hp) (m : Nat), lk (mapH_ φ h) m = (lk h m).map φ
  | [], m => rfl
  | (q, o) :: h, m => by
    have ih := lk_mapH_ φ h m
    unfold mapH_ at ih ⊢
    rw [List.map_cons, lk_cons, lk_cons]
    split
    · rfl
    · exact ih
theorem SatF.frzd {p : Nat → Prop} {μ : Nat → Nm} {M : Mem} {w : World} {h : Hp} {n len : Nat} {ds : List DV} {φ : Ob → Ob} (hφ : FrzOk φ n len ds) (hS : SatF p μ M (lk h) w) (hg : ∀ v, Rp p μ M (.gs n len) v → Rp p μ M (.d (.sl len ds)) v) : SatF p μ M (lk (mapH_ φ h)) w := by
  refine ⟨⟨hS.mem.cell, hS.mem.glob⟩, fun m ob hm => ?_, fun m m' hm hm' => ?_⟩
  · rw [lk_mapH_] at hm
    obtain ⟨o, ho, rfl⟩ := Option.map_eq_some_iff.1 hm
    obtain ⟨a1, a2, a3⟩ := hS.obs m o ho
    exact ⟨a1, hφ p μ M w hg _ _ a2, a3⟩
  · have key : ∀ m, lk (mapH_ φ h) m ≠ none → lk h m ≠ none := fun m hm hn => hm (by rw [lk_mapH_, hn]; rfl)
    exact hS.inj m m' (key m hm) (key m' hm')
theorem frz_ok (n len : Nat) (ds : List DV) : FrzOk (Ob.frz n len ds) n len ds := fun p μ M w hg m o a2 => by
  cases o with
  | box t cs =>
    simp only [ObRep, Ob.frz] at a2 ⊢
    obtain ⟨b1, vs, b2, b3⟩ := a2
    exact ⟨b1, vs, b2, SV.frzs_rep hg cs _ b3⟩
  | map es c =>
    simp only [ObRep, Ob.frz] at a2 ⊢
    obtain ⟨b1, vs, b2, b3⟩ := a2
    exact ⟨b1, vs, b2, RpE.frz hg es _ b3⟩
  | _ => exact a2
/-- Rows in rows too. -/
def Ob.frzA (n len : Nat) (ds : List DV) : Ob → Ob
  | .arr e sz l cs => .arr e sz l (SV.frzs n len ds cs)
  | o => o.frz n len ds
theorem frzs_len (n len : Nat) (ds : List DV) : ∀ (cs : List SV), (SV.frzs n len ds cs).length = cs.length
  | [] => rfl
  | c :: cs => by simp only [SV.frzs, List.length_cons, frzs_len n len ds cs]
theorem frzA_ok (n len : Nat) (ds : List DV) : FrzOk (Ob.frzA n len ds) n len ds := fun p μ M w hg m o a2 => by
  cases o with
  | arr e sz l cs =>
    simp only [ObRep, Ob.frzA] at a2 ⊢
    rcases a2 with ⟨b1, b2, b3⟩ | ⟨b1, vs, b2, b3, b4, b5, b6, b7⟩
    · exact .inl ⟨b1, b2, by rw [b3]; rfl⟩
    · exact .inr ⟨b1, vs, b2, by rw [frzs_len]; exact b3, b4, b5, b6, SV.frzs_rep hg cs _ b7⟩
  | box t cs => exact frz_ok n len ds p μ M w hg m _ a2
  | map es c => exact frz_ok n len ds p μ M w hg m _ a2
  | _ => exact a2
section
variable {P : Program} {N k0 : Nat} {st : St} {Q : Exit → St → Prop}
theorem StA.freezeG {φ : Ob → Ob} {μ0 : Nat → Nm} {M0 : Mem} {w0 : World} {c0 : Nat → Option Ob} {a : Act} {w : World} (n : Nat) {e sz len : Nat} {cs : List SV} {ds : List DV} (hφ : FrzOk φ n len ds) (hn : lk st.hp n = some (.arr e sz len cs)) (hcs : cs = ds.map .d)
    (h : StA N μ0 M0 w0 c0 k0 st a w) : StA N μ0 M0 w0 c0 k0 ⟨frzE n len ds st.env, mapH_ φ (hdel st.hp n), st.k⟩ a w := by
  subst hcs
  obtain ⟨hk0, hdf, hsz, μ, M, hsl, hS, hE⟩ := h
  obtain ⟨hpn, hob, hMn⟩ := hS.obs n _ hn
  rcases hob with ⟨hdead, hl0, hds⟩ | ⟨hlive, vs, hb, hl1, hl2, hl3, hl4, hr⟩
  · have hd0 : ds = [] := by simpa using hds
    subst hd0; subst hl0
    have hg : ∀ v, Rp (· < st.k) μ M (.gs n 0) v → Rp (· < st.k) μ M (.d (.sl 0 [])) v := fun v hv => by
      refine Rp.d_iff.2 ?_
      simp only [RepD]
      obtain ⟨h, _⟩ | ⟨_, _, A, e1⟩ := hv.gs_of
      · rw [hdead] at h; cases h
      · exact ⟨A, 0, e1, Nat.le_refl _, fun _ => trivial, fun h => absurd h (Nat.lt_irrefl _)⟩
    have hsub : ∀ m ob, lk (hdel st.hp n) m = some ob → lk st.hp m = some ob := fun m ob hm => by
      rw [lk_hdel] at hm
      split at hm
      · cases hm
      · exact hm
    refine ⟨hk0, hdf, hsz, μ, M, fun t s hs => ?_, (hS.sub hsub).frzd hφ hg, hE.fewer fun m hm => ?_⟩
    · rw [lookup_frz] at hs
      obtain ⟨s', hs', rfl⟩ := Option.map_eq_some_iff.1 hs
      exact SV.frz_rep hg s' _ (hsl t s' hs')
    · obtain ⟨o1, ho1⟩ := Option.ne_none_iff_exists'.1 hm
      rw [lk_mapH_] at ho1
      obtain ⟨o2, ho2, _⟩ := Option.map_eq_some_iff.1 ho1
      rw [hsub m o2 ho2]; simp
  have hMn := hMn hlive
  have hlen : ds.length = len * sz := by simpa using hl1
  let M' : Mem := fun b o => if b = (μ n).blk then (if o < len * sz then vs[o]? else none) else M b o
  have hne : ∀ b, b ≠ (μ n).blk → ∀ o, M' b o = M b o := fun b hb o => by simp [M', hb]
  have hle : Mem.le M M' := fun b o v hv => by
    have : b ≠ (μ n).blk := fun e => by rw [e, hMn] at hv; cases hv
    rw [hne b this]; exact hv
  have hoth : ∀ m, lk st.hp m ≠ none → m ≠ n → (μ m).live = true → (μ m).blk ≠ (μ n).blk := fun m hm hmn lm e => hmn (hS.inj m n hm (by rw [hn]; simp) lm hlive e)
  have hsub : ∀ m ob, lk (hdel st.hp n) m = some ob → lk st.hp m = some ob ∧ m ≠ n := fun m ob hm => by
    rw [lk_hdel] at hm
    split at hm
    · cases hm
    · rename_i e; exact ⟨hm, e⟩
  have hg : ∀ v, Rp (· < st.k) μ M' (.gs n len) v → Rp (· < st.k) μ M' (.d (.sl len ds)) v := fun v hv => by
    obtain ⟨_, e1⟩ | ⟨h, _⟩ := hv.gs_of
    rotate_left
    · rw [hlive] at h; cases h
    refine Rp.d_iff.2 ?_
    simp only [RepD]
    refine ⟨_, _, e1, hl2, fun h0 => ?_, fun _ => ⟨_, _, rfl, RepR.mk fun i c hi => ?_⟩⟩
    · subst h0
      simp at hlen
      exact hlen
    · obtain ⟨u, hu, hru⟩ := hr.d_get hi
      have hil : i < len * sz := by rw [← hlen]; exact (List.getElem?_eq_some_iff.1 hi).1
      refine ⟨u, ?_, RepD.mono hle _ _ hru⟩
      rw [List.getElem?_take_of_lt hil] at hu
      simp only [M', if_true, Nat.zero_add, hil]
      simpa using hu
  have hS2 : SatF (· < st.k) μ M' (lk (hdel st.hp n)) w := by
    refine ⟨⟨fun b o v hv => ?_, hS.mem.glob.le hle⟩, fun m ob hm => ?_, fun m m' hm hm' lm lm' e => ?_⟩
    · by_cases hbn : b = (μ n).blk
      · subst hbn
        simp only [M', if_true] at hv
        split at hv
        · rw [cell_of hb]; exact hv
        · cases hv
      · rw [hne b hbn] at hv
        exact hS.mem b o v hv
    · obtain ⟨hm1, hmn⟩ := hsub m ob hm
      obtain ⟨a1, a2, a3⟩ := hS.obs m ob hm1
      refine ⟨a1, a2.more (fun _ h => h) (fun _ _ => rfl) hle fun _ => rfl, fun lm o => ?_⟩
      rw [hne _ (hoth m (by rw [hm1]; simp) hmn lm)]
      exact a3 lm o
    · obtain ⟨o1, ho1⟩ := Option.ne_none_iff_exists'.1 hm
      obtain ⟨o2, ho2⟩ := Option.ne_none_iff_exists'.1 hm'
      exact hS.inj m m' (by rw [(hsub m o1 ho1).1]; simp) (by rw [(hsub m' o2 ho2).1]; simp) lm lm' e
  refine ⟨hk0, hdf, hsz, μ, M', fun t s hs => ?_, hS2.frzd hφ hg, ⟨hE.old, Mem.le_trans hE.mem hle, fun b hb0 hf => ?_, hE.size, fun m hm => ?_, hE.os, hE.tape, hE.output⟩⟩
  · rw [lookup_frz] at hs
    obtain ⟨s', hs', rfl⟩ := Option.map_eq_some_iff.1 hs
    exact SV.frz_rep hg s' _ ((hsl t s' hs').more (fun _ h => h) (fun _ _ => rfl) hle)
  · have hbn : b ≠ (μ n).blk := fun e => by
      rcases hE.names n (by rw [hn]; simp) with ⟨_, hh⟩ | ⟨h, h'⟩
      · rcases hh hlive with h | ⟨m, hm, lm, e'⟩
        · omega
        · exact hf m hm lm (e'.trans e.symm)
      · rw [hE.old n h] at e hlive
        exact hf n h' hlive e.symm
    obtain ⟨f1, f2⟩ := hE.frame b hb0 hf
    exact ⟨f1, fun o => by rw [hne b hbn]; exact f2 o⟩
  · obtain ⟨o1, ho1⟩ := Option.ne_none_iff_exists'.1 hm
    rw [lk_mapH_] at ho1
    obtain ⟨o2, ho2, _⟩ := Option.map_eq_some_iff.1 ho1
    exact hE.names m (by rw [(hsub m o2 ho2).1]; simp)

theorem StA.freezeB {μ0 : Nat → Nm} {M0 : Mem} {w0 : World} {c0 : Nat → Option Ob} {a : Act} {w : World} (n : Nat) {e sz len : Nat} {cs : List SV} {ds : List DV} (hn : lk st.hp n = some (.arr e sz len cs)) (hcs : cs = ds.map .d)
    (h : StA N μ0 M0 w0 c0 k0 st a w) : StA N μ0 M0 w0 c0 k0 ⟨frzE n len ds st.env, frzH n len ds (hdel st.hp n), st.k⟩ a w := h.freezeG n (frz_ok n len ds) hn hcs
theorem SW.freezeA {s : SCo} (n : Nat) {e sz len : Nat} {cs : List SV} (ds : List DV) (hn : lk st.hp n = some (.arr e sz len cs)) (hcs : cs = ds.map .d) (h : SW P N k0 s ⟨frzE n len ds st.env, mapH_ (Ob.frzA n len ds) (hdel st.hp n), st.k⟩ Q) : SW P N k0 s st Q :=
  fun c hc rd hrf μ0 M0 w0 c0 a w hSt => h c hc rd hrf μ0 M0 w0 c0 a w (hSt.freezeG n (frzA_ok n len ds) hn hcs)

theorem SW.freezeB {s : SCo} (n : Nat) {e sz len : Nat} {cs : List SV} (ds : List DV) (hn : lk st.hp n = some (.arr e sz len cs)) (hcs : cs = ds.map .d) (h : SW P N k0 s ⟨frzE n len ds st.env, frzH n len ds (hdel st.hp n), st.k⟩ Q) : SW P N k0 s st Q :=
  fun c hc rd hrf μ0 M0 w0 c0 a w hSt => h c hc rd hrf μ0 M0 w0 c0 a w (hSt.freezeB n hn hcs)
theorem SWn.freezeB {sis : List SI} {K : St → Prop} (n : Nat) {e sz len : Nat} {cs : List SV} (ds : List DV) (hn : lk st.hp n = some (.arr e sz len cs)) (hcs : cs = ds.map .d) (h : SWn P N k0 sis ⟨frzE n len ds st.env, frzH n len ds (hdel st.hp n), st.k⟩ K) : SWn P N k0 sis st K :=
  fun ops i h1 h2 h3 rd μ0 M0 w0 c0 a w hSt => h ops i h1 h2 h3 rd μ0 M0 w0 c0 a w (hSt.freezeB n hn hcs)
end
end Go.Sl
