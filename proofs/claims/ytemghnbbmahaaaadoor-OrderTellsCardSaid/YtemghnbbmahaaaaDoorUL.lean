/-
  Histories: what a row knows, counted; the program's own test of a history is the document's.
-/
import Derived.Test.YtemghnbbmahaaaaDoorU8
import Derived.Test.YtemghnbbmahaaaaDoorUK
import Derived.Test.YtemghnbbmahaaaaDoorU9
set_option linter.unusedSectionVars false
set_option linter.unusedVariables false
set_option linter.unusedSimpArgs false
namespace Go.Sl
def knStep (v : Vec) (o : OpD) : Vec := if o.dot.r < 8 then v.set o.dot.r (max (v.get o.dot.r) o.dot.n) else v
def knownV (l : List OpD) : Vec := l.foldl knStep Vec.zero
theorem knStep_ge (v : Vec) (o : OpD) {r : Nat} (hr : r < 8) : v.get r ≤ (knStep v o).get r := by
  unfold knStep
  split
  · rw [Vec.set_get _ _ _ hr]; split
    · rename_i e; rw [← e]; omega
    · omega
  · omega
theorem knStep_own (v : Vec) (o : OpD) (hr : o.dot.r < 8) : o.dot.n ≤ (knStep v o).get o.dot.r := by
  unfold knStep
  rw [if_pos hr, Vec.set_get _ _ _ hr, if_pos rfl]; omega
theorem knStep_at (v : Vec) (o : OpD) {r : Nat} (hr : r < 8) : (knStep v o).get r = v.get r ∨ (o.dot = ⟨r, (knStep v o).get r⟩) := by
  unfold knStep
  split
  · rw [Vec.set_get _ _ _ hr]; split
    · rename_i e
      rcases Nat.le_total o.dot.n (v.get o.dot.r) with h | h
      · left; rw [← e] at h ⊢; omega
      · right
        rw [Nat.max_eq_right h]
        cases hd : o.dot; rw [hd] at e; rw [e]
    · exact .inl rfl
  · exact .inl rfl
theorem known_ge : ∀ (l : List OpD) (v : Vec) {r : Nat}, r < 8 → v.get r ≤ (l.foldl knStep v).get r
  | [], v, r, _ => Nat.le_refl _
  | o :: l, v, r, hr => Nat.le_trans (knStep_ge v o hr) (known_ge l (knStep v o) hr)
theorem known_own : ∀ (l : List OpD) (v : Vec) {o : OpD}, o ∈ l → o.dot.r < 8 → o.dot.n ≤ (l.foldl knStep v).get o.dot.r
  | x :: l, v, o, ho, hr => by
    rcases List.mem_cons.1 ho with rfl | ho
    · exact Nat.le_trans (knStep_own v o hr) (known_ge l _ hr)
    · exact known_own l (knStep v x) ho hr
theorem known_at : ∀ (l : List OpD) (v : Vec) {r : Nat}, r < 8 → (l.foldl knStep v).get r = v.get r ∨ ∃ o, o ∈ l ∧ o.dot = ⟨r, (l.foldl knStep v).get r⟩
  | [], v, r, _ => .inl rfl
  | o :: l, v, r, hr => by
    rcases known_at l (knStep v o) hr with h | ⟨x, hx, h⟩
    · rcases knStep_at v o hr with h2 | h2
      · left
        show (l.foldl knStep (knStep v o)).get r = _
        rw [h, h2]
      · right
        refine ⟨o, by simp, ?_⟩
        show o.dot = ⟨r, (l.foldl knStep (knStep v o)).get r⟩
        rw [h]; exact h2
    · exact .inr ⟨x, List.mem_cons_of_mem _ hx, h⟩
theorem knownV_ge {l : List OpD} {o : OpD} (ho : o ∈ l) (hr : o.dot.r < 8) : o.dot.n ≤ (knownV l).get o.dot.r := known_own l _ ho hr
theorem knownV_at (l : List OpD) {r : Nat} (hr : r < 8) : (knownV l).get r = 0 ∨ ∃ o, o ∈ l ∧ o.dot = ⟨r, (knownV l).get r⟩ := by
  rcases known_at l Vec.zero hr with h | h
  · left; unfold knownV; rw [h, Vec.zero_get]
  · exact .inr h
theorem knownV_snoc (l : List OpD) (x : OpD) : knownV (l ++ [x]) = knStep (knownV l) x := by unfold knownV; rw [List.foldl_append]; rfl
def cntR (l : List OpD) (r : Nat) : Nat := l.countP fun o => decide (o.dot.r = r)
theorem cntR_sum : ∀ (l : List OpD), (∀ o, o ∈ l → o.dot.r < 8) → l.length = cntR l 0 + cntR l 1 + cntR l 2 + cntR l 3 + cntR l 4 + cntR l 5 + cntR l 6 + cntR l 7
  | [], _ => rfl
  | x :: l, h => by
    have ih := cntR_sum l fun o ho => h o (List.mem_cons_of_mem _ ho)
    have hx := h x (by simp)
    simp only [cntR, List.countP_cons, List.length_cons] at ih ⊢
    generalize x.dot.r = r at hx ⊢
    match r, hx with
    | 0, _ | 1, _ | 2, _ | 3, _ | 4, _ | 5, _ | 6, _ | 7, _ => simp; omega
theorem nodup_le {g : Nat} {ns : List Nat} (hn : ns.Nodup) (hb : ∀ n, n ∈ ns → 0 < n ∧ n ≤ g) : ns.length ≤ g := by
  have h : (ns.map fun n => n - 1).Nodup := by
    unfold List.Nodup at hn ⊢
    rw [List.pairwise_map]
    exact List.Pairwise.imp_of_mem (fun ha hb' hab => by have := hb _ ha; have := hb _ hb'; omega) hn
  have := h.length_le_of_subset (l₂ := List.range g) fun x hx => by
    obtain ⟨n, hm, rfl⟩ := List.mem_map.1 hx
    have := hb n hm
    exact List.mem_range.2 (by omega)
  simpa using this
theorem nodup_all {g : Nat} {ns : List Nat} (hn : ns.Nodup) (hb : ∀ n, n ∈ ns → 0 < n ∧ n ≤ g) (hl : ns.length = g) {n : Nat} (h0 : 0 < n) (hg : n ≤ g) : n ∈ ns := by
  refine Classical.byContradiction fun hno => ?_
  have := nodup_le (g := g) (ns := n :: ns) (List.nodup_cons.2 ⟨hno, hn⟩) fun m hm => by
    rcases List.mem_cons.1 hm with rfl | hm
    · exact ⟨h0, hg⟩
    · exact hb m hm
  simp at this; omega
def nsOf (l : List OpD) (r : Nat) : List Nat := (l.filter fun o => decide (o.dot.r = r)).map (·.dot.n)
theorem nsOf_len (l : List OpD) (r : Nat) : (nsOf l r).length = cntR l r := by unfold nsOf cntR; rw [List.length_map, List.countP_eq_length_filter]
theorem mem_nsOf {l : List OpD} {r n : Nat} : n ∈ nsOf l r ↔ ∃ o, o ∈ l ∧ o.dot = ⟨r, n⟩ := by
  unfold nsOf
  simp only [List.mem_map, List.mem_filter, decide_eq_true_eq]
  constructor
  · rintro ⟨o, ⟨ho, e⟩, rfl⟩
    exact ⟨o, ho, by rw [← e]⟩
  · rintro ⟨o, ho, e⟩
    exact ⟨o, ⟨ho, by rw [e]⟩, by rw [e]⟩
theorem nsOf_nd {l : List OpD} (h : Uniq l) (r : Nat) : (nsOf l r).Nodup := by
  unfold nsOf List.Nodup
  rw [List.pairwise_map]
  have h2 : (l.filter fun o => decide (o.dot.r = r)).Pairwise fun a b => a.dot ≠ b.dot := by
    have : Uniq (l.filter fun o => decide (o.dot.r = r)) := h.sub List.filter_sublist
    unfold Uniq List.Nodup at this
    rwa [List.pairwise_map] at this
  refine List.Pairwise.imp_of_mem (fun {a b} ha hb hab e => hab ?_) h2
  simp only [List.mem_filter, decide_eq_true_eq] at ha hb
  cases h1 : a.dot; cases h3 : b.dot
  rw [h1] at ha e; rw [h3] at hb e
  have e1 := ha.2; have e2 := hb.2
  simp only at e1 e2 e
  rw [e1, e2, e]
def Whole (l : List OpD) : Prop := ∀ r n, r < 8 → 0 < n → n ≤ (knownV l).get r → ∃ o, o ∈ l ∧ o.dot = ⟨r, n⟩
theorem cntR_le {l : List OpD} (h : Uniq l) (hd : ∀ o, o ∈ l → o.dot.r < 8 ∧ 0 < o.dot.n) {r : Nat} (hr : r < 8) : cntR l r ≤ (knownV l).get r := by
  rw [← nsOf_len]
  refine nodup_le (nsOf_nd h r) fun n hn => ?_
  obtain ⟨o, ho, e⟩ := mem_nsOf.1 hn
  have h1 := hd o ho
  have h2 := knownV_ge ho h1.1
  rw [e] at h1 h2
  exact ⟨h1.2, h2⟩
theorem whole_iff {l : List OpD} (h : Uniq l) (hd : ∀ o, o ∈ l → o.dot.r < 8 ∧ 0 < o.dot.n) : Whole l ↔ (knownV l).count = l.length := by
  have hs := cntR_sum l fun o ho => (hd o ho).1
  have hle := fun r (hr : r < 8) => cntR_le h hd hr
  constructor
  · intro hw
    have heq : ∀ r, r < 8 → cntR l r = (knownV l).get r := fun r hr => by
      refine Nat.le_antisymm (hle r hr) ?_
      rw [← nsOf_len]
      have h1 : (List.range' 1 ((knownV l).get r)).Nodup := List.nodup_range'
      have := h1.length_le_of_subset (l₂ := nsOf l r) fun n hn => by
        rw [List.mem_range'_1] at hn
        exact mem_nsOf.2 (hw r n hr (by omega) (by omega))
      simpa using this
    have e0 := heq 0 (by omega)
    have e1 := heq 1 (by omega)
    have e2 := heq 2 (by omega)
    have e3 := heq 3 (by omega)
    have e4 := heq 4 (by omega)
    have e5 := heq 5 (by omega)
    have e6 := heq 6 (by omega)
    have e7 := heq 7 (by omega)
    rw [hs, e0, e1, e2, e3, e4, e5, e6, e7]
    rfl
  · intro hc r n hr h0 hn
    have hc : (knownV l).get 0 + (knownV l).get 1 + (knownV l).get 2 + (knownV l).get 3 + (knownV l).get 4 + (knownV l).get 5 + (knownV l).get 6 + (knownV l).get 7 = l.length := hc
    have e0 := hle 0 (by omega)
    have e1 := hle 1 (by omega)
    have e2 := hle 2 (by omega)
    have e3 := hle 3 (by omega)
    have e4 := hle 4 (by omega)
    have e5 := hle 5 (by omega)
    have e6 := hle 6 (by omega)
    have e7 := hle 7 (by omega)
    have heq : cntR l r = (knownV l).get r := by
      match r, hr with
      | 0, _ | 1, _ | 2, _ | 3, _ | 4, _ | 5, _ | 6, _ | 7, _ => omega
    rw [← nsOf_len] at heq
    refine mem_nsOf.1 (nodup_all (nsOf_nd h r) (fun m hm => ?_) heq h0 hn)
    obtain ⟨o, ho, e⟩ := mem_nsOf.1 hm
    have h1 := hd o ho
    have h2 := knownV_ge ho h1.1
    rw [e] at h1 h2
    exact ⟨h1.2, h2⟩
theorem whole_of {l : List OpD} (h : ∀ o, o ∈ l → OneOf l o) : Whole l := by
  intro r n hr h0 hn
  rcases knownV_at l hr with e | ⟨o, ho, e⟩
  · omega
  · have key : ∀ k, k < (knownV l).get r → ∃ a, a ∈ l ∧ a.dot = ⟨r, (knownV l).get r - k⟩ := by
      intro k
      induction k with
      | zero => intro _; exact ⟨o, ho, e⟩
      | succ k ih =>
        intro hk
        obtain ⟨a, ha, ea⟩ := ih (by omega)
        have e1 : a.dot.r = r := by rw [ea]
        have e2 : a.dot.n = (knownV l).get r - k := by rw [ea]
        have := (h a ha).prev (by omega)
        rw [e1, e2] at this
        exact cntO_pos.1 (by rw [show (knownV l).get r - (k + 1) = (knownV l).get r - k - 1 by omega]; omega)
    obtain ⟨a, ha, ea⟩ := key ((knownV l).get r - n) (by omega)
    exact ⟨a, ha, by rw [ea]; congr 1; omega⟩
theorem oneOf_iff {l : List OpD} (hd : ∀ o, o ∈ l → o.dot.r < 8 ∧ 0 < o.dot.n) :
    (∀ o, o ∈ l → OneOf l o) ↔ Uniq l ∧ (knownV l).count = l.length ∧ ∀ o, o ∈ l → (knownV l).above o.dep = true ∧ ∀ a, a ∈ l → a.before o = true → a.time < o.time ∧ o.dep.above a.dep = true := by
  constructor
  · intro h
    have hu : Uniq l := Uniq.cnt fun o ho => (h o ho).self
    refine ⟨hu, (whole_iff hu hd).1 (whole_of h), fun o ho => ⟨Vec.above_iff.2 fun r hr => ?_, (h o ho).bef⟩⟩
    rcases Nat.eq_zero_or_pos (o.dep.get r) with h0 | h0
    · omega
    · have := (h o ho).deps r hr h0
      obtain ⟨a, ha, ea⟩ := cntO_pos.1 (by rw [this]; omega)
      have := knownV_ge ha (by rw [ea]; exact hr)
      rw [ea] at this; exact this
  · rintro ⟨hu, hc, ha⟩ o ho
    have hw := (whole_iff hu hd).2 hc
    have h1 := hd o ho
    have hk := knownV_ge ho h1.1
    refine ⟨hu.cnt1 ⟨o, ho, rfl⟩, fun h2 => hu.cnt1 (hw _ _ h1.1 (by omega) (by omega)), fun r hr h0 => hu.cnt1 (hw r _ hr h0 (Vec.above_iff.1 (ha o ho).1 r hr)), (ha o ho).2⟩
def insL (out : List OpD) (x : OpD) : List OpD := out.takeWhile (fun y => y.lt x) ++ x :: out.dropWhile (fun y => y.lt x)
def sortedR (l : List OpD) : List OpD := l.foldl insL []
theorem insL_perm (out : List OpD) (x : OpD) : (insL out x).Perm (x :: out) := by
  unfold insL
  refine List.perm_middle.trans ?_
  rw [List.takeWhile_append_dropWhile]
theorem insL_rises {out : List OpD} {x : OpD} (h : Rises out) (hx : ∀ y, y ∈ out → y.dot ≠ x.dot) : Rises (insL out x) := by
  unfold insL
  induction out with
  | nil => exact List.pairwise_singleton _ _
  | cons y out ih =>
    have h1 := List.pairwise_cons.1 h
    by_cases e : y.lt x = true
    · simp only [List.takeWhile_cons, List.dropWhile_cons, e, if_true, List.cons_append]
      refine List.pairwise_cons.2 ⟨fun z hz => ?_, ih h1.2 fun z hz => hx z (List.mem_cons_of_mem _ hz)⟩
      rcases List.mem_append.1 hz with hz | hz
      · exact h1.1 z ((List.takeWhile_sublist _).subset hz)
      · rcases List.mem_cons.1 hz with rfl | hz
        · exact e
        · exact h1.1 z ((List.dropWhile_sublist _).subset hz)
    · have e' : y.lt x = false := Bool.eq_false_iff.2 e
      simp only [List.takeWhile_cons, List.dropWhile_cons, e', Bool.false_eq_true, if_false, List.nil_append]
      have hxy : x.lt y = true := (OpD.lt_total fun e => hx y (by simp) e.symm).resolve_right e
      exact List.pairwise_cons.2 ⟨fun z hz => by
        rcases List.mem_cons.1 hz with rfl | hz
        · exact hxy
        · exact OpD.lt_trans hxy (h1.1 z hz), h⟩
theorem foldl_insL : ∀ (l out : List OpD), (l.foldl insL out).Perm (l ++ out)
  | [], out => List.Perm.refl _
  | x :: l, out => (foldl_insL l (insL out x)).trans ((List.Perm.append_left l (insL_perm out x)).trans List.perm_middle)
theorem sortedR_perm (l : List OpD) : (sortedR l).Perm l := by
  have := foldl_insL l []
  rwa [List.append_nil] at this
theorem foldl_rises : ∀ (l out : List OpD), Uniq (l ++ out) → Rises out → Rises (l.foldl insL out)
  | [], out, _, h => h
  | x :: l, out, hu, h => by
    have hp : (x :: l ++ out).Perm (l ++ x :: out) := List.perm_middle.symm
    have hu2 : Uniq (l ++ x :: out) := hu.perm hp.symm
    refine foldl_rises l (insL out x) (hu2.perm (List.Perm.append_left l (insL_perm out x))) (insL_rises h fun y hy e => ?_)
    unfold Uniq at hu
    rw [List.cons_append, List.map_cons, List.nodup_cons] at hu
    exact hu.1 (List.mem_map.2 ⟨y, List.mem_append.2 (.inr hy), e⟩)
theorem sortedR_eq {l : List OpD} (h : Uniq l) : sortedR l = osorted l := by
  have h1 : Rises (sortedR l) := foldl_rises l [] (by rwa [List.append_nil]) List.Pairwise.nil
  exact h1.unique (osorted_rises h) ((sortedR_perm l).trans (osorted_perm l).symm)
end Go.Sl
namespace Go.Sl
open Go.RowKit
variable {P : Program}
end Go.Sl
namespace Go.Sl
open Go.RowKit
theorem lk_of_nodup {h : Hp} (hn : (h.map (·.1)).Nodup) : ∀ x, x ∈ h → lk h x.1 = some x.2 := by
  induction h with
  | nil => intro x hx; cases hx
  | cons y h ih =>
    intro x hx
    rw [List.map_cons, List.nodup_cons] at hn
    obtain ⟨a, o⟩ := y
    rw [lk_cons]
    rcases List.mem_cons.1 hx with rfl | hx
    · simp
    · have : x.1 ≠ a := fun e => hn.1 (by rw [← e]; exact List.mem_map.2 ⟨x, hx, rfl⟩)
      rw [if_neg this]
      exact ih hn.2 x hx
def repl (F : Hp) (x : Nat × Ob) : Nat × Ob := match lk F x.1 with
  | some o => (x.1, o)
  | none => x
theorem hrep_map : ∀ {h : Hp} {n : Nat} {o : Ob}, (h.map (·.1)).Nodup → n ∈ h.map (·.1) → hrep h n o = h.map fun x => if x.1 = n then (n, o) else x
  | [], n, o, _, hm => by cases hm
  | (m, o') :: h, n, o, hn, hm => by
    rw [List.map_cons, List.nodup_cons] at hn
    simp only [hrep, List.map_cons]
    by_cases e : m = n
    · subst e
      simp only [if_true]
      congr 1
      symm
      conv => rhs; rw [← List.map_id h]
      refine List.map_congr_left fun x hx => ?_
      rw [if_neg fun e => hn.1 (by rw [← e]; exact List.mem_map.2 ⟨x, hx, rfl⟩)]
      rfl
    · rw [if_neg e, if_neg e, hrep_map hn.2 ((List.mem_cons.1 hm).resolve_left fun h => e h.symm)]
theorem lk_of_mem {h : Hp} {n : Nat} (hm : n ∈ h.map (·.1)) : ∃ o, lk h n = some o := by
  induction h with
  | nil => cases hm
  | cons y h ih =>
    obtain ⟨m, o⟩ := y
    rw [lk_cons]
    by_cases e : n = m
    · exact ⟨o, by rw [if_pos e]⟩
    · rw [if_neg e]
      exact ih ((List.mem_cons.1 hm).resolve_left e)
theorem repl_names (F : Hp) (x : Nat × Ob) : (repl F x).1 = x.1 := by unfold repl; split <;> rfl
theorem hsets_map {h : Hp} (hn : (h.map (·.1)).Nodup) : ∀ {F : Hp}, (F.map (·.1)).Nodup → (∀ n, n ∈ F.map (·.1) → n ∈ h.map (·.1)) → hsets h F = h.map (repl F)
  | [], _, _ => by
    simp only [hsets]
    conv => lhs; rw [← List.map_id h]
    rfl
  | (n, o) :: F, hF, hsub => by
    rw [List.map_cons, List.nodup_cons] at hF
    have ih := hsets_map hn hF.2 fun m hm => hsub m (List.mem_cons_of_mem _ hm)
    have hnames : (h.map (repl F)).map (·.1) = h.map (·.1) := by rw [List.map_map]; exact List.map_congr_left fun x _ => repl_names F x
    have hmem : n ∈ (h.map (repl F)).map (·.1) := by rw [hnames]; exact hsub n (by simp)
    simp only [hsets]
    rw [ih]
    unfold hset
    obtain ⟨o1, ho1⟩ := lk_of_mem hmem
    rw [ho1]
    dsimp only
    rw [hrep_map (by rw [hnames]; exact hn) hmem, List.map_map]
    refine List.map_congr_left fun x _ => ?_
    show (if (repl F x).1 = n then (n, o) else repl F x) = repl ((n, o) :: F) x
    rw [repl_names]
    unfold repl
    rw [lk_cons]
    by_cases e : x.1 = n
    · simp [e]
    · simp [e]
theorem map_repl {F : Hp} : ∀ {A B : Hp}, A.map (·.1) = B.map (·.1) → (∀ x, x ∈ B → lk F x.1 = some x.2) → A.map (repl F) = B
  | [], [], _, _ => rfl
  | [], _ :: _, h, _ => by simp at h
  | _ :: _, [], h, _ => by simp at h
  | a :: A, b :: B, h, hl => by
    simp only [List.map_cons, List.cons.injEq] at h ⊢
    refine ⟨?_, map_repl h.2 fun x hx => hl x (List.mem_cons_of_mem _ hx)⟩
    have := hl b (by simp)
    unfold repl
    rw [h.1, this]
theorem hdels_same {h F' : Hp} : ∀ {F : Hp}, (∀ n, n ∈ F.map (·.1) → (lk F' n).isSome = true) → hdels h F' F = h
  | [], _ => rfl
  | (n, o) :: F, hs => by
    simp only [hdels]
    rw [if_pos (hs n (by simp)), hdels_same fun m hm => hs m (List.mem_cons_of_mem _ hm)]
theorem mrg_tail {pre F F' : Hp} (he : F.map (·.1) = F'.map (·.1)) (hn : ((pre ++ F).map (·.1)).Nodup) : hsets (hdels (pre ++ F) F' F) F' = pre ++ F' := by
  have hn2 : (F'.map (·.1)).Nodup := by rw [← he]; rw [List.map_append, List.nodup_append] at hn; exact hn.2.1
  rw [hdels_same fun n h => by rw [he] at h; obtain ⟨o, ho⟩ := lk_of_mem h; rw [ho]; rfl]
  rw [hsets_map hn hn2 fun n h => by rw [List.map_append, List.mem_append, he]; exact .inr h, List.map_append, map_repl he (lk_of_nodup hn2)]
  congr 1
  conv => rhs; rw [← List.map_id pre]
  refine List.map_congr_left fun x hx => ?_
  have : lk F' x.1 = none := by
    cases hh : lk F' x.1 with
    | none => rfl
    | some o =>
      rw [List.map_append, List.nodup_append] at hn
      have h1 : x.1 ∈ F'.map (·.1) := by
        have : ∀ {h : Hp} {n : Nat} {o : Ob}, lk h n = some o → n ∈ h.map (·.1) := by
          intro h
          induction h with
          | nil => intro n o h; simp [lk_nil] at h
          | cons y h ih =>
            intro n o hl
            rw [lk_cons] at hl
            split at hl
            · rename_i e; subst e; simp
            · exact List.mem_cons_of_mem _ (ih hl)
        exact this hh
      exact absurd rfl (hn.2.2 x.1 (List.mem_map.2 ⟨x, hx, rfl⟩) x.1 (by rw [he]; exact h1))
  unfold repl
  rw [this]; rfl
theorem lk_app (F G : Hp) (m : Nat) : lk (F ++ G) m = (lk F m).or (lk G m) := by
  unfold lk
  exact List.lookup_append ..
theorem not_mem_of {h : Hp} {n : Nat} (hn : lk h n = none) : n ∉ h.map (·.1) := fun hm => by
  obtain ⟨o, ho⟩ := lk_of_mem hm
  rw [hn] at ho; cases ho
theorem nd_cons {H : Hp} {n : Nat} {o : Ob} (hn : lk H n = none) (h : (H.map (·.1)).Nodup) : (((n, o) :: H).map (·.1)).Nodup := by
  rw [List.map_cons, List.nodup_cons]
  exact ⟨not_mem_of hn, h⟩
theorem ok_cons {H : Hp} {n : Nat} {o : Ob} {q : Nat → Bool} (h1 : q n = true) (h2 : o.ok q = true) (h : H.ok q = true) : Hp.ok q ((n, o) :: H) = true := by
  simp only [Hp.ok, List.all_cons, Bool.and_eq_true] at h ⊢
  exact ⟨⟨h1, h2⟩, h⟩
end Go.Sl
namespace Go.Sl
open Go.RowKit
variable {P : Program}
theorem SWn.manyG {N k0 : Nat} {st : St} {K : St → Prop} {si : SI} {r : List SI} {t : Nat} {b : Bool} {F : Hp} {nk : Nat} {Q : SV → Hp → Prop} (hg : si.g = some (t, b)) (hgv : st.env.lookup t = some (.d (.bool b))) (hq : ∀ o : Oper, cO P o.op = some si.op → SoundQ P o (fun t => st.env.lookup t) (lk st.hp) st.k nk F Q)
    (hro : roOf si.op = false) (h : ∀ v F', Q v F' → SWn P N k0 r (upd st si ⟨v, F, F', nk, True⟩) K) : SWn P N k0 (si :: r) st K := by
  refine SWn.cons fun ops o hc hN rd μ0 M0 w0 c0 a w hSt i ho Q' KK hKK => ?_
  obtain ⟨g1, g2, g3⟩ := cOper_spec hc
  obtain ⟨hk0, hdf, hsz, μ, M, hsl, hS, hE⟩ := hSt
  have hSt : StA N μ0 M0 w0 c0 k0 st a w := ⟨hk0, hdf, hsz, μ, M, hsl, hS, hE⟩
  have hw : Region.wanted o (yielded ops a.tmps) = true := by
    rcases g3 with ⟨_, h'⟩ | ⟨j, w, t', hg', hd, h'⟩
    · rw [hg] at h'; cases h'
    · rw [hg] at h'
      injection h' with h'
      injection h' with e1 e2
      subst e1; subst e2
      have hv := Rp.bool_iff.1 (hsl t _ hgv)
      simp only [Region.wanted, hg', yielded_of hd hv]
      simp
  unfold wpOpIn
  simp only [ho, hw, if_true]
  exact (StA.step g2 (fun d hd => hN d (by rw [g2]; exact hd)) (hq o g1) (fun v F' _ hr => by rw [hro] at hr; cases hr) hSt fun v F' hQ a' w' hSt' => hKK _ a' w' (h v F' hQ) hSt')
theorem SWn.yieldG {N k0 : Nat} {st : St} {K : St → Prop} {d : Option Nat} {r : List SI} {f : X} {args : List X} {t : Nat} {b : Bool} {nl : Nat} {as : List SV} {F : Hp} {nk : Nat} {Q : SV → Hp → Prop} (hgv : st.env.lookup t = some (.d (.bool b)))
    (h1 : ev (fun t => st.env.lookup t) f = some (.yl nl)) (h2 : evs (fun t => st.env.lookup t) args = some as) (hF : lk F nl ≠ none) (hSY : SY P nl as F st.k nk Q) (hsub : HSub F st.hp)
    (h : ∀ v F', Q v F' → SWn P N k0 r (upd st ⟨d, .call f args, some (t, b)⟩ ⟨v, F, F', nk, True⟩) K) : SWn P N k0 (⟨d, .call f args, some (t, b)⟩ :: r) st K :=
  SWn.manyG rfl hgv (fun o hc => sq_yield hc h1 h2 hF hSY hsub) rfl h
end Go.Sl
namespace Go.Sl
open Go.RowKit
end Go.Sl
namespace Go.Sl
open Go.RowKit
variable {P : Program}
structure Own {σ : Type} (G : Hp) (Fh : σ → Hp) (s : σ) (kk : Nat) : Prop where
  nd : (G.map (·.1)).Nodup
  lt : ∀ n, n ∈ G.map (·.1) → n < kk
  no : ∀ n, n ∈ G.map (·.1) → lk (Fh s) n = none
  ok : G.ok (fun n => decide (n < kk)) = true
  okF : (Fh s).ok (fun n => decide (n < kk)) = true
theorem lk_of_not {G : Hp} {n : Nat} (h : n ∉ G.map (·.1)) : lk G n = none := by
  cases hh : lk G n with
  | none => rfl
  | some o =>
    exfalso; apply h
    clear h
    induction G with
    | nil => simp [lk_nil] at hh
    | cons x G ih =>
      rw [lk_cons] at hh
      split at hh
      · rename_i e; rw [e]; simp
      · rw [List.map_cons]; exact List.mem_cons_of_mem _ (ih hh)
section
variable {σ : Type} {G : Hp} {Fh : σ → Hp} {s : σ} {kk : Nat}
theorem Own.sub (h : Own G Fh s kk) : HSub (Fh s) (G ++ Fh s) := fun n ob hn => by
  have : n ∉ G.map (·.1) := fun hm => by rw [h.no n hm] at hn; cases hn
  rw [lk_app, lk_of_not this, Option.none_or]; exact hn
theorem Own.all (h : Own G Fh s kk) (hF : ∀ x, x ∈ Fh s → lk (Fh s) x.1 = some x.2) : ∀ x, x ∈ G ++ Fh s → lk (G ++ Fh s) x.1 = some x.2 := fun x hx => by
  rcases List.mem_append.1 hx with hx | hx
  · rw [lk_app, lk_of_nodup h.nd x hx]; rfl
  · exact h.sub x.1 x.2 (hF x hx)
theorem Own.okk (h : Own G Fh s kk) : (G ++ Fh s).ok (fun n => decide (n < kk)) = true := by
  have h1 := h.ok
  have h2 := h.okF
  unfold Hp.ok at *
  rw [List.all_append, h1, h2]; rfl
theorem Own.mono {k' : Nat} (h : Own G Fh s kk) (hk : kk ≤ k') : Own G Fh s k' := ⟨h.nd, fun n hn => Nat.lt_of_lt_of_le (h.lt n hn) hk, h.no, Hp.ok_less hk h.ok, Hp.ok_less hk h.okF⟩
theorem Own.less {G' : Hp} (h : Own G Fh s kk) (hs : G'.Sublist G) : Own G' Fh s kk :=
  ⟨h.nd.sublist (hs.map _), fun n hn => h.lt n ((hs.map _).subset hn), fun n hn => h.no n ((hs.map _).subset hn), by
    have := h.ok
    unfold Hp.ok at *
    rw [List.all_eq_true] at *
    exact fun x hx => this x (hs.subset hx), h.okF⟩
theorem Own.out (h : Own G Fh s kk) {n : Nat} (hn : kk ≤ n) : lk (Fh s) n = none := Hp.out h.okF hn
theorem Own.new {n k' : Nat} {ob : Ob} (h : Own G Fh s kk) (hn : kk ≤ n) (hk : n < k') (ho : ob.ok (fun m => decide (m < k')) = true) : Own ((n, ob) :: G) Fh s k' := by
  refine ⟨List.nodup_cons.2 ⟨fun hm => ?_, h.nd⟩, fun m hm => ?_, fun m hm => ?_, ?_, Hp.ok_less (by omega) h.okF⟩
  · have := h.lt n hm; omega
  · rcases List.mem_cons.1 hm with rfl | hm
    · exact hk
    · have := h.lt m hm; omega
  · rcases List.mem_cons.1 hm with rfl | hm
    · exact h.out hn
    · exact h.no m hm
  · have := Hp.ok_less (show kk ≤ k' by omega) h.ok
    unfold Hp.ok at *
    rw [List.all_cons, this, ho]
    simpa using hk
theorem Own.cut {G1 : Hp} (h1 : Own G1 Fh s kk) (hn : (G.map (·.1)).Nodup) (hs : ∀ x, x ∈ G → x ∈ G1) : Own G Fh s kk :=
  ⟨hn, fun n hm => by
    obtain ⟨x, hx, rfl⟩ := List.mem_map.1 hm
    exact h1.lt _ (List.mem_map.2 ⟨x, hs x hx, rfl⟩), fun n hm => by
    obtain ⟨x, hx, rfl⟩ := List.mem_map.1 hm
    exact h1.no _ (List.mem_map.2 ⟨x, hs x hx, rfl⟩), by
    have := h1.ok
    unfold Hp.ok at *
    rw [List.all_eq_true] at *
    exact fun x hx => this x (hs x hx), h1.okF⟩
theorem Own.keep {G1 : Hp} (h1 : Own G1 Fh s kk) (hs : ∀ x, x ∈ G → x ∈ G1) : ∀ n ob, lk (G ++ Fh s) n = some ob → lk (G1 ++ Fh s) n = some ob := fun n ob hn => by
  rw [lk_app] at hn
  cases hg : lk G n with
  | some o =>
    rw [hg] at hn
    have e : o = ob := by simpa using hn
    have hm : (n, o) ∈ G := by
      clear hn hs
      induction G with
      | nil => simp [lk_nil] at hg
      | cons x G ih =>
        rw [lk_cons] at hg
        split at hg
        · rename_i e; injection hg with hg; rw [e, ← hg]; simp
        · exact List.mem_cons_of_mem _ (ih hg)
    rw [lk_app, lk_of_nodup h1.nd _ (hs _ hm), ← e]; rfl
  | none =>
    rw [hg, Option.none_or] at hn
    have : n ∉ G1.map (·.1) := fun hm => by rw [h1.no n hm] at hn; cases hn
    rw [lk_app, lk_of_not this, Option.none_or]; exact hn
theorem Weak.own {k0 k : Nat} {env env1 : List (Nat × SV)} {hp : Hp} (h : Own G Fh s kk) (hF : ∀ x, x ∈ Fh s → lk (Fh s) x.1 = some x.2) (hk : k0 ≤ kk) (he : EnvW id kk env env1) (hh : ∀ n ob, lk (G ++ Fh s) n = some ob → lk hp n = some ob) : Weak k0 ⟨env, hp, k⟩ ⟨env1, G ++ Fh s, kk⟩ id :=
  Weak.same hk he h.okk fun x hx => hh _ _ (h.all hF x hx)
end
theorem EnvW.mono {ρ : Nat → Nat} {k k' : Nat} (hk : k ≤ k') {env : List (Nat × SV)} : ∀ {env1 : List (Nat × SV)}, EnvW ρ k env env1 → EnvW ρ k' env env1
  | [], _ => trivial
  | (t, s) :: r, h => by
    simp only [EnvW] at h ⊢
    exact ⟨h.1, SV.ok_more (fun n hn => by simp only [decide_eq_true_eq] at *; omega) _ h.2.1, h.2.2.mono hk⟩
section
variable {N k0 : Nat} {K : St → Prop}
end
end Go.Sl
namespace Go.Sl
def ge (R : List Nat) (i : Nat) : Nat := R.getD i 0
theorem ge_of {R : List Nat} {i x : Nat} (h : R[i]? = some x) : ge R i = x := by simp [ge, List.getD_eq_getElem?_getD, h]
theorem ge_some {R : List Nat} {i : Nat} (h : i < R.length) : R[i]? = some (ge R i) := by
  simp [ge, List.getD_eq_getElem?_getD, List.getElem?_eq_getElem h]
theorem ge_mem {R : List Nat} {i : Nat} (h : i < R.length) : ge R i ∈ R := List.mem_of_getElem? (ge_some h)
def swp (R : List Nat) (i j : Nat) : List Nat := (R.set i (ge R j)).set j (ge R i)
theorem swp_len (R : List Nat) (i j : Nat) : (swp R i j).length = R.length := by simp [swp]
def sg (i j k : Nat) : Nat := if k = j then i else if k = i then j else k
theorem ge_swp {R : List Nat} {i j : Nat} (hi : i < R.length) (hj : j < R.length) (k : Nat) : ge (swp R i j) k = ge R (sg i j k) := by
  unfold swp sg
  by_cases h1 : k = j
  · subst h1
    rw [if_pos rfl]
    apply ge_of
    rw [List.getElem?_set_self (by simpa using hj)]
  · rw [if_neg h1]
    by_cases h2 : k = i
    · subst h2
      rw [if_pos rfl]
      apply ge_of
      rw [List.getElem?_set_ne (fun e => h1 e.symm), List.getElem?_set_self hi]
    · rw [if_neg h2]
      unfold ge
      rw [List.getD_eq_getElem?_getD, List.getElem?_set_ne (fun e => h1 e.symm), List.getElem?_set_ne (fun e => h2 e.symm), ← List.getD_eq_getElem?_getD]
theorem count_set' {R : List Nat} {i : Nat} (hi : i < R.length) (x b : Nat) : (R.set i x).count b + (if ge R i = b then 1 else 0) = R.count b + (if x = b then 1 else 0) := by
  induction R generalizing i with
  | nil => simp at hi
  | cons y R ih =>
    cases i with
    | zero =>
      simp only [List.set_cons_zero, List.count_cons, ge, List.getD_cons_zero, beq_iff_eq]
      omega
    | succ i =>
      have := ih (i := i) (by simpa using hi)
      simp only [List.set_cons_succ, List.count_cons, ge, List.getD_cons_succ, beq_iff_eq] at this ⊢
      by_cases e1 : y = b <;> by_cases e2 : x = b <;> by_cases e3 : R.getD i 0 = b <;> simp only [e1, e2, e3, if_true, if_false] at this ⊢ <;> omega
theorem swp_perm {R : List Nat} {i j : Nat} (hi : i < R.length) (hj : j < R.length) : (swp R i j).Perm R := by
  rw [List.perm_iff_count]
  intro b
  have h1 := count_set' hi (ge R j) b
  have h2 := count_set' (R := R.set i (ge R j)) (i := j) (by simpa using hj) (ge R i) b
  have h3 : ge (R.set i (ge R j)) j = ge R j := by
    by_cases e : i = j
    · subst e
      exact ge_of (List.getElem?_set_self hi)
    · unfold ge
      rw [List.getD_eq_getElem?_getD, List.getElem?_set_ne e, List.getD_eq_getElem?_getD]
  rw [h3] at h2
  unfold swp
  omega
inductive Swt (a b : Nat) (R : List Nat) : List Nat → Prop
  | refl : Swt a b R R
  | step {R' : List Nat} {i j : Nat} : Swt a b R R' → a ≤ i → i < b → a ≤ j → j < b → Swt a b R (swp R' i j)
section
variable {a b : Nat} {R R' R2 : List Nat}
theorem Swt.len (h : Swt a b R R') : R'.length = R.length := by
  induction h with
  | refl => rfl
  | step _ _ _ _ _ ih => rw [swp_len, ih]
theorem Swt.perm (h : Swt a b R R') (hb : b ≤ R.length) : R'.Perm R := by
  induction h with
  | refl => exact .refl _
  | step h _ _ _ _ ih =>
    have := h.len
    exact (swp_perm (by omega) (by omega)).trans ih
theorem Swt.out (h : Swt a b R R') (hb : b ≤ R.length) {k : Nat} (hk : k < a ∨ b ≤ k) : ge R' k = ge R k := by
  induction h with
  | refl => rfl
  | step h _ _ _ _ ih =>
    have := h.len
    rw [ge_swp (by omega) (by omega), sg, if_neg (by omega), if_neg (by omega), ih]
theorem Swt.inn (h : Swt a b R R') (hb : b ≤ R.length) {k : Nat} (h1 : a ≤ k) (h2 : k < b) : ∃ m, a ≤ m ∧ m < b ∧ ge R' k = ge R m := by
  induction h generalizing k with
  | refl => exact ⟨k, h1, h2, rfl⟩
  | step h q1 q2 q3 q4 ih =>
    have := h.len
    rw [ge_swp (by omega) (by omega), sg]
    split
    · exact ih q1 q2
    · split
      · exact ih q3 q4
      · exact ih h1 h2
theorem Swt.mono {a' b' : Nat} (h : Swt a b R R') (h1 : a' ≤ a) (h2 : b ≤ b') : Swt a' b' R R' := by
  induction h with
  | refl => exact .refl
  | step _ q1 q2 q3 q4 ih => exact .step ih (by omega) (by omega) (by omega) (by omega)
theorem Swt.trans (h : Swt a b R R') (h2 : Swt a b R' R2) : Swt a b R R2 := by
  induction h2 with
  | refl => exact h
  | step _ q1 q2 q3 q4 ih => exact .step ih q1 q2 q3 q4
theorem Swt.one {i j : Nat} (h1 : a ≤ i) (h2 : i < b) (h3 : a ≤ j) (h4 : j < b) : Swt a b R (swp R i j) := .step .refl h1 h2 h3 h4
end
structure Tot (c : Nat → Nat → Int) (D : Nat → Prop) : Prop where
  asym : ∀ x y, D x → D y → c x y < 0 → ¬ c y x < 0
  trans : ∀ x y z, D x → D y → D z → c x y < 0 → c y z < 0 → c x z < 0
  tot : ∀ x y, D x → D y → x ≠ y → c x y < 0 ∨ c y x < 0
structure Rw (D : Nat → Prop) (R : List Nat) : Prop where
  all : ∀ x, x ∈ R → D x
  nd : R.Nodup
def Lt (c : Nat → Nat → Int) (R : List Nat) (p q : Nat) : Prop := c (ge R p) (ge R q) < 0
def Srt (c : Nat → Nat → Int) (R : List Nat) (a b : Nat) : Prop := ∀ p q, a ≤ p → p < q → q < b → Lt c R p q
section
variable {c : Nat → Nat → Int} {D : Nat → Prop} {R R' : List Nat} (T : Tot c D)
theorem Rw.perm (h : Rw D R) (hp : R'.Perm R) : Rw D R' := ⟨fun x hx => h.all x (hp.mem_iff.1 hx), hp.symm.nodup h.nd⟩
theorem Rw.swt {a b : Nat} (h : Rw D R) (hs : Swt a b R R') (hb : b ≤ R.length) : Rw D R' := h.perm (hs.perm hb)
theorem Rw.ne (h : Rw D R) {p q : Nat} (hp : p < R.length) (hq : q < R.length) (hne : p ≠ q) : ge R p ≠ ge R q := fun e => by
  have h1 := ge_some hp
  have h2 := ge_some hq
  rw [e] at h1
  exact hne ((List.getElem?_inj hp h.nd).1 (h1.trans h2.symm))
include T
theorem Lt.asym (h : Rw D R) {p q : Nat} (hp : p < R.length) (hq : q < R.length) (hl : Lt c R p q) : ¬ Lt c R q p := T.asym _ _ (h.all _ (ge_mem hp)) (h.all _ (ge_mem hq)) hl
theorem Lt.trans (h : Rw D R) {p q r : Nat} (hp : p < R.length) (hq : q < R.length) (hr : r < R.length) (h1 : Lt c R p q) (h2 : Lt c R q r) : Lt c R p r := T.trans _ _ _ (h.all _ (ge_mem hp)) (h.all _ (ge_mem hq)) (h.all _ (ge_mem hr)) h1 h2
theorem Lt.tot (h : Rw D R) {p q : Nat} (hp : p < R.length) (hq : q < R.length) (hne : p ≠ q) (hn : ¬ Lt c R p q) : Lt c R q p := (T.tot _ _ (h.all _ (ge_mem hp)) (h.all _ (ge_mem hq)) (h.ne hp hq hne)).resolve_left hn
omit T in
theorem Lt.swp {i j p q : Nat} (hi : i < R.length) (hj : j < R.length) : Lt c (swp R i j) p q ↔ Lt c R (sg i j p) (sg i j q) := by
  unfold Lt; rw [ge_swp hi hj, ge_swp hi hj]
def Ins (c : Nat → Nat → Int) (R : List Nat) (a j i : Nat) : Prop := (∀ p q, a ≤ p → p < q → q ≤ i → p ≠ j → q ≠ j → Lt c R p q) ∧ ∀ q, j < q → q ≤ i → Lt c R j q
omit T in
theorem Ins.start {a i : Nat} (h : Srt c R a i) : Ins c R a i i := ⟨fun p q h1 h2 h3 h4 h5 => h p q h1 h2 (by omega), fun q h1 h2 => by omega⟩
omit T in
theorem Ins.next {a j i : Nat} (h : Ins c R a j i) (h1 : a < j) (h2 : j ≤ i) (h3 : i < R.length) (hl : Lt c R j (j - 1)) : Ins c (swp R j (j - 1)) a (j - 1) i := by
  obtain ⟨x, y⟩ := h
  refine ⟨fun p q k1 k2 k3 k4 k5 => ?_, fun q k1 k2 => ?_⟩
  · rw [Lt.swp (by omega) (by omega)]
    unfold sg
    rw [if_neg k4, if_neg k5]
    by_cases e1 : p = j
    · subst e1
      rw [if_pos rfl, if_neg (by omega)]
      exact x _ _ (by omega) (by omega) (by omega) (by omega) (by omega)
    · rw [if_neg e1]
      by_cases e2 : q = j
      · subst e2
        rw [if_pos rfl]
        exact x _ _ (by omega) (by omega) (by omega) (by omega) (by omega)
      · rw [if_neg e2]
        exact x _ _ (by omega) (by omega) (by omega) (by omega) (by omega)
  · rw [Lt.swp (by omega) (by omega)]
    unfold sg
    rw [if_pos rfl, if_neg (by omega)]
    by_cases e2 : q = j
    · rw [if_pos e2]; exact hl
    · rw [if_neg e2]
      exact y _ (by omega) (by omega)
theorem Ins.done {a j i : Nat} (hR : Rw D R) (h : Ins c R a j i) (h1 : a ≤ j) (h2 : j ≤ i) (h3 : i < R.length) (hl : j = a ∨ ¬ Lt c R j (j - 1)) : Srt c R a (i + 1) := by
  obtain ⟨x, y⟩ := h
  intro p q k1 k2 k3
  by_cases e1 : p = j
  · subst e1; exact y q k2 (by omega)
  · by_cases e2 : q = j
    · subst e2
      have hl := hl.resolve_left (by omega)
      have h4 := Lt.tot T hR (by omega) (by omega) (by omega) hl
      by_cases e3 : p = q - 1
      · rw [e3]; exact h4
      · exact Lt.trans T hR (by omega) (by omega) (by omega) (x p (q - 1) k1 (by omega) (by omega) e1 (by omega)) h4
    · exact x p q k1 k2 (by omega) e1 e2
omit T in
theorem Srt.one {a b : Nat} (h : b ≤ a + 1) : Srt c R a b := fun p q _ _ _ => by omega
omit T in
theorem Srt.same {a b : Nat} (h : Srt c R a b) (hs : ∀ k, a ≤ k → k < b → ge R' k = ge R k) : Srt c R' a b := fun p q h1 h2 h3 => by
  have := h p q h1 h2 h3
  unfold Lt at *
  rw [hs p h1 (by omega), hs q (by omega) h3]; exact this
theorem Srt.uniq {A B : List Nat} (hA : Rw D A) (hp : A.Perm B) (h1 : Srt c A 0 A.length) (h2 : Srt c B 0 B.length) : A = B := by
  have hB := hA.perm hp.symm
  have pa : ∀ {A : List Nat}, Srt c A 0 A.length → A.Pairwise (fun x y => c x y < 0) := fun {A} h => by
    rw [List.pairwise_iff_getElem]
    intro i j hi hj hij
    have := h i j (Nat.zero_le _) hij hj
    unfold Lt at this
    rw [ge_of (List.getElem?_eq_getElem hi), ge_of (List.getElem?_eq_getElem hj)] at this
    exact this
  replace h1 := pa h1
  replace h2 := pa h2
  clear hB pa
  induction A generalizing B with
  | nil => exact (List.nil_perm.1 hp).symm
  | cons x A ih =>
    cases B with
    | nil => exact absurd hp.length_eq (by simp)
    | cons y B =>
      rw [List.pairwise_cons] at h1 h2
      have hxy : x = y := by
        refine Classical.byContradiction fun hne => ?_
        have m1 : x ∈ B := (List.mem_cons.1 (hp.mem_iff.1 (List.mem_cons_self))).resolve_left hne
        have m2 : y ∈ A := (List.mem_cons.1 (hp.mem_iff.2 (List.mem_cons_self))).resolve_left fun e => hne e.symm
        exact T.asym x y (hA.all _ (by simp)) (hA.all _ (List.mem_cons_of_mem _ m2)) (h1.1 y m2) (h2.1 x m1)
      subst hxy
      have := ih ⟨fun z hz => hA.all z (List.mem_cons_of_mem _ hz), (List.nodup_cons.1 hA.nd).2⟩ (List.Perm.cons_inv hp) h1.2 h2.2
      rw [this]
def Hea (c : Nat → Nat → Int) (R : List Nat) (f lo hi : Nat) : Prop := ∀ p ch, lo ≤ p → (ch = 2 * p + 1 ∨ ch = 2 * p + 2) → ch < hi → Lt c R (f + ch) (f + p)
def Sif (c : Nat → Nat → Int) (R : List Nat) (f lo hi root : Nat) : Prop :=
  (∀ p ch, lo ≤ p → p ≠ root → (ch = 2 * p + 1 ∨ ch = 2 * p + 2) → ch < hi → Lt c R (f + ch) (f + p)) ∧
  ∀ p ch, lo ≤ p → (root = 2 * p + 1 ∨ root = 2 * p + 2) → (ch = 2 * root + 1 ∨ ch = 2 * root + 2) → ch < hi → Lt c R (f + ch) (f + p)
omit T in
theorem Sif.start {f lo hi : Nat} (h : Hea c R f (lo + 1) hi) : Sif c R f lo hi lo := ⟨fun p ch h1 h2 h3 h4 => h p ch (by omega) h3 h4, fun p ch h1 h2 => by omega⟩
omit T in
theorem Sif.leaf {f lo hi root : Nat} (h : Sif c R f lo hi root) (hl : hi ≤ 2 * root + 1) : Hea c R f lo hi := fun p ch h1 h2 h3 => by
  by_cases e : p = root
  · omega
  · exact h.1 p ch h1 e h2 h3
def Big (c : Nat → Nat → Int) (R : List Nat) (f hi root ch : Nat) : Prop := (ch = 2 * root + 1 ∨ ch = 2 * root + 2) ∧ ch < hi ∧ ∀ k, (k = 2 * root + 1 ∨ k = 2 * root + 2) → k < hi → k ≠ ch → Lt c R (f + k) (f + ch)
theorem Sif.stop {f lo hi root ch : Nat} (hR : Rw D R) (hf : f + hi ≤ R.length) (h : Sif c R f lo hi root) (hb : Big c R f hi root ch) (hr : root < hi) (hn : ¬ Lt c R (f + root) (f + ch)) : Hea c R f lo hi := fun p k h1 h2 h3 => by
  obtain ⟨b1, b2, b3⟩ := hb
  by_cases e : p = root
  · subst e
    have h4 := Lt.tot T hR (by omega) (by omega) (by omega) hn
    by_cases e2 : k = ch
    · rw [e2]; exact h4
    · exact Lt.trans T hR (by omega) (by omega) (by omega) (b3 k h2 h3 e2) h4
  · exact h.1 p k h1 e h2 h3
omit T in
theorem Sif.next {f lo hi root ch : Nat} (hf : f + hi ≤ R.length) (h : Sif c R f lo hi root) (hlo : lo ≤ root) (hb : Big c R f hi root ch) (hr : root < hi) (hn : Lt c R (f + root) (f + ch)) : Sif c (swp R (f + root) (f + ch)) f lo hi ch := by
  obtain ⟨b1, b2, b3⟩ := hb
  obtain ⟨x, y⟩ := h
  refine ⟨fun p k h1 h2 h3 h4 => ?_, fun p k h1 h2 h3 h4 => ?_⟩
  · rw [Lt.swp (by omega) (by omega)]
    unfold sg
    rw [if_neg (show f + p ≠ f + ch by omega)]
    by_cases e : p = root
    · subst e
      rw [if_pos (show f + p = f + p from rfl)]
      by_cases e2 : k = ch
      · subst e2; rw [if_pos rfl]; exact hn
      · rw [if_neg (show ¬ f + k = f + ch by omega), if_neg (show ¬ f + k = f + p by omega)]
        exact b3 k h3 h4 e2
    · rw [if_neg (show ¬ f + p = f + root by omega)]
      by_cases e2 : k = root
      · subst e2
        rw [if_neg (show ¬ f + k = f + ch by omega), if_pos rfl]
        exact y p ch h1 h3 b1 b2
      · by_cases e3 : k = ch
        · omega
        · rw [if_neg (show ¬ f + k = f + ch by omega), if_neg (show ¬ f + k = f + root by omega)]
          exact x p k h1 e h3 h4
  · have hp : p = root := by omega
    subst hp
    rw [Lt.swp (by omega) (by omega)]
    unfold sg
    rw [if_neg (show ¬ f + k = f + ch by omega), if_neg (show ¬ f + k = f + p by omega), if_neg (show ¬ f + p = f + ch by omega), if_pos rfl]
    exact x ch k (by omega) (by omega) h3 h4
theorem Hea.top {f hi : Nat} (hR : Rw D R) (hf : f + hi ≤ R.length) (h : Hea c R f 0 hi) : ∀ k, 0 < k → k < hi → Lt c R (f + k) f := by
  intro k
  induction k using Nat.strongRecOn with
  | _ k ih =>
    intro h1 h2
    have h3 := h ((k - 1) / 2) k (Nat.zero_le _) (by omega) h2
    by_cases e : (k - 1) / 2 = 0
    · rw [e] at h3; exact h3
    · exact Lt.trans T hR (by omega) (by omega) (by omega) h3 (ih ((k - 1) / 2) (by omega) (by omega) (by omega))
end
section
variable {c : Nat → Nat → Int} {D : Nat → Prop} {R R' : List Nat} (T : Tot c D)
def Tail (c : Nat → Nat → Int) (R : List Nat) (a m b : Nat) : Prop := Srt c R m b ∧ ∀ p q, a ≤ p → p < m → m ≤ q → q < b → Lt c R p q
theorem Tail.start {a b : Nat} : Tail c R a b b := ⟨fun p q h1 h2 h3 => by omega, fun p q h1 h2 h3 h4 => by omega⟩
include T
theorem Tail.pop {f m b : Nat} (hR : Rw D R) (hb : b ≤ R.length) (hm : f + m < b) (h : Tail c R f (f + m + 1) b) (hh : Hea c R f 0 (m + 1)) (hsw : R' = swp R f (f + m)) : Tail c R' f (f + m) b := by
  subst hsw
  have ht := Hea.top T hR (by omega) hh
  obtain ⟨h1, h2⟩ := h
  refine ⟨fun p q k1 k2 k3 => ?_, fun p q k1 k2 k3 k4 => ?_⟩
  · rw [Lt.swp (by omega) (by omega)]
    unfold sg
    by_cases e : p = f + m
    · rw [if_pos e, if_neg (show ¬ q = f + m by omega), if_neg (show ¬ q = f by omega)]
      exact h2 f q (by omega) (by omega) (by omega) k3
    · rw [if_neg e, if_neg (show ¬ p = f by omega), if_neg (show ¬ q = f + m by omega), if_neg (show ¬ q = f by omega)]
      exact h1 p q (by omega) k2 k3
  · rw [Lt.swp (by omega) (by omega)]
    unfold sg
    by_cases e : q = f + m
    · rw [if_neg (show ¬ p = f + m by omega), if_pos e]
      by_cases e2 : p = f
      · rw [if_pos e2]
        exact ht m (by omega) (by omega)
      · rw [if_neg e2]
        have := ht (p - f) (by omega) (by omega)
        rw [show f + (p - f) = p by omega] at this
        exact this
    · rw [if_neg (show ¬ p = f + m by omega), if_neg e, if_neg (show ¬ q = f by omega)]
      by_cases e2 : p = f
      · rw [if_pos e2]
        exact h2 (f + m) q (by omega) (by omega) (by omega) k4
      · rw [if_neg e2]
        exact h2 p q k1 (by omega) (by omega) k4
omit T in
theorem Hea.popped {f m b : Nat} (hm : f + m < R.length) (hh : Hea c R f 0 (m + 1)) : Hea c (swp R f (f + m)) f 1 m := fun p ch h1 h2 h3 => by
  rw [Lt.swp (by omega) hm]
  unfold sg
  rw [if_neg (show ¬ f + ch = f + m by omega), if_neg (show ¬ f + ch = f by omega), if_neg (show ¬ f + p = f + m by omega), if_neg (show ¬ f + p = f by omega)]
  exact hh p ch (by omega) h2 (by omega)
omit T in
theorem Tail.keep {f m b : Nat} (h : Tail c R f m b) (hs : Swt f m R R') (hmb : m ≤ b) (hb : b ≤ R.length) : Tail c R' f m b := by
  obtain ⟨h1, h2⟩ := h
  refine ⟨h1.same fun k k1 k2 => hs.out (by omega) (.inr k1), fun p q k1 k2 k3 k4 => ?_⟩
  obtain ⟨r, r1, r2, r3⟩ := hs.inn (by omega) k1 k2
  unfold Lt
  rw [r3, hs.out (by omega) (.inr k3)]
  exact h2 r q r1 r2 k3 k4
def Low (c : Nat → Nat → Int) (R : List Nat) (a b : Nat) : Prop := a = 0 ∨ ∀ q, a ≤ q → q < b → Lt c R (a - 1) q
omit T in
theorem Low.keep {a b : Nat} (h : Low c R a b) (hs : Swt a b R R') (hb : b ≤ R.length) : Low c R' a b := by
  rcases h with h | h
  · exact .inl h
  · by_cases h0 : a = 0
    · exact .inl h0
    refine .inr fun q k1 k2 => ?_
    obtain ⟨r, r1, r2, r3⟩ := hs.inn hb k1 k2
    unfold Lt
    rw [r3, hs.out hb (.inl (by omega))]
    exact h r r1 r2
def Spl (c : Nat → Nat → Int) (R : List Nat) (a m b : Nat) : Prop := (∀ k, a ≤ k → k < m → Lt c R k m) ∧ ∀ k, m < k → k < b → Lt c R m k
def Par (c : Nat → Nat → Int) (R : List Nat) (a i j b : Nat) : Prop := (∀ k, a < k → k < i → Lt c R k a) ∧ ∀ k, j < k → k < b → Lt c R a k
omit T in
theorem Par.start {a b : Nat} : Par c R a (a + 1) (b - 1) b := ⟨fun k h1 h2 => by omega, fun k h1 h2 => by omega⟩
omit T in
theorem Par.up {a i j b : Nat} (h : Par c R a i j b) (hl : Lt c R i a) : Par c R a (i + 1) j b := ⟨fun k h1 h2 => by
  by_cases e : k = i
  · rw [e]; exact hl
  · exact h.1 k h1 (by omega), h.2⟩
theorem Par.down {a i j b : Nat} (hR : Rw D R) (h : Par c R a i (j + 1) b) (ha : a < j + 1) (hj : j + 1 < R.length) (hl : ¬ Lt c R (j + 1) a) : Par c R a i j b := ⟨h.1, fun k h1 h2 => by
  by_cases e : k = j + 1
  · rw [e]; exact Lt.tot T hR hj (by omega) (by omega) hl
  · exact h.2 k (by omega) h2⟩
theorem Par.swap {a i j b : Nat} (hR : Rw D R) (h : Par c R a i j b) (ha : a < i) (hij : i ≤ j) (hj : j < b) (hb : b ≤ R.length) (h1 : ¬ Lt c R i a) (h2 : Lt c R j a) : Par c (swp R i j) a (i + 1) (j - 1) b := by
  refine ⟨fun k k1 k2 => ?_, fun k k1 k2 => ?_⟩
  · rw [Lt.swp (by omega) (by omega)]
    unfold sg
    rw [if_neg (show ¬ a = j by omega), if_neg (show ¬ a = i by omega)]
    by_cases e : k = j
    · have : i = j := by omega
      rw [if_pos e, this]; exact h2
    · rw [if_neg e]
      by_cases e2 : k = i
      · rw [if_pos e2]; exact h2
      · rw [if_neg e2]; exact h.1 k k1 (by omega)
  · rw [Lt.swp (by omega) (by omega)]
    unfold sg
    rw [if_neg (show ¬ a = j by omega), if_neg (show ¬ a = i by omega)]
    by_cases e : k = j
    · rw [if_pos e]
      exact Lt.tot T hR (by omega) (by omega) (by omega) h1
    · rw [if_neg e]
      by_cases e2 : k = i
      · omega
      · rw [if_neg e2]; exact h.2 k (by omega) k2
theorem Par.done {a i j b : Nat} (hR : Rw D R) (h : Par c R a i j b) (ha : a < i) (hij : i = j + 1) (hj : j < b) (hb : b ≤ R.length) : Spl c (swp R j a) a j b := by
  refine ⟨fun k k1 k2 => ?_, fun k k1 k2 => ?_⟩
  · rw [Lt.swp (by omega) (by omega)]
    unfold sg
    rw [if_neg (show ¬ j = a by omega), if_pos (show j = j from rfl)]
    by_cases e : k = a
    · rw [if_pos e]; exact h.1 j (by omega) (by omega)
    · rw [if_neg e, if_neg (show ¬ k = j by omega)]; exact h.1 k (by omega) (by omega)
  · rw [Lt.swp (by omega) (by omega)]
    unfold sg
    rw [if_neg (show ¬ k = a by omega), if_neg (show ¬ k = j by omega)]
    by_cases e : j = a
    · rw [if_pos e, e]; exact h.2 k (by omega) k2
    · rw [if_neg e, if_pos rfl]; exact h.2 k k1 k2
omit T in
theorem Spl.left {a m b : Nat} (h : Spl c R a m b) (hs : Swt a m R R') (hm : m < b) (hb : b ≤ R.length) : Spl c R' a m b := by
  refine ⟨fun k k1 k2 => ?_, fun k k1 k2 => ?_⟩
  · obtain ⟨r, r1, r2, r3⟩ := hs.inn (by omega) k1 k2
    unfold Lt; rw [r3, hs.out (by omega) (.inr (Nat.le_refl _))]
    exact h.1 r r1 r2
  · unfold Lt; rw [hs.out (by omega) (.inr (Nat.le_refl _)), hs.out (by omega) (.inr (by omega))]
    exact h.2 k k1 k2
omit T in
theorem Spl.right {a m b : Nat} (h : Spl c R a m b) (hs : Swt (m + 1) b R R') (hm : m < b) (hb : b ≤ R.length) : Spl c R' a m b := by
  refine ⟨fun k k1 k2 => ?_, fun k k1 k2 => ?_⟩
  · unfold Lt; rw [hs.out hb (.inl (by omega)), hs.out hb (.inl (by omega))]
    exact h.1 k k1 k2
  · obtain ⟨r, r1, r2, r3⟩ := hs.inn hb (show m + 1 ≤ k by omega) k2
    unfold Lt; rw [r3, hs.out hb (.inl (by omega))]
    exact h.2 r (by omega) r2
theorem Spl.sorted {a m b : Nat} (hR : Rw D R) (h : Spl c R a m b) (hm : a ≤ m) (hmb : m < b) (hb : b ≤ R.length) (h1 : Srt c R a m) (h2 : Srt c R (m + 1) b) : Srt c R a b := fun p q k1 k2 k3 => by
  by_cases e1 : p < m
  · by_cases e2 : q < m
    · exact h1 p q k1 k2 e2
    · by_cases e3 : q = m
      · rw [e3]; exact h.1 p k1 e1
      · exact Lt.trans T hR (by omega) (show m < _ by omega) (by omega) (h.1 p k1 e1) (h.2 q (by omega) k3)
  · by_cases e3 : p = m
    · rw [e3]; exact h.2 q (by omega) k3
    · exact h2 p q (by omega) k2 k3
omit T in
theorem Spl.lowR {a m b : Nat} (h : Spl c R a m b) : Low c R (m + 1) b := .inr fun q k1 k2 => h.2 q (by omega) k2
omit T in
theorem Low.left {a m b : Nat} (h : Low c R a b) (hm : m ≤ b) : Low c R a m := h.imp_right fun h q k1 k2 => h q k1 (by omega)
theorem Srt.more {a i : Nat} (hR : Rw D R) (h : Srt c R a i) (hi : i < R.length) (ha : a < i) (hn : ¬ Lt c R i (i - 1)) : Srt c R a (i + 1) := by
  refine Ins.done T hR (j := i) (i := i) (Ins.start h) (by omega) (Nat.le_refl _) hi (.inr hn)
end
end Go.Sl
