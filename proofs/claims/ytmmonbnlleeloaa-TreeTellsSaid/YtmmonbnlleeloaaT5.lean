/-
  Trees of credentials: the order of dots, and of credentials.
-/
import Derived.Test.YtmmonbnlleeloaaT4
import Derived.Test.YtmmonbnlleeloaaChecked
import Derived.Shelf.SlSortCmp.NoneTotal
set_option linter.unusedSectionVars false
set_option linter.unusedVariables false
set_option linter.unusedSimpArgs false
namespace Go.Proofs.Ytmmonbnlleeloaa
open Go.Sl Go.Proofs Go.Sort

theorem dcmp_lt (a b : Dt) : dcmp a b < 0 ↔ a.r < b.r ∨ a.r = b.r ∧ a.n < b.n := by
  unfold dcmp cmpZ
  split <;> split <;> (try split) <;> (try split) <;> omega
theorem dcmp_swap (a b : Dt) : dcmp a b = -dcmp b a := by
  unfold dcmp cmpZ
  repeat' split
  all_goals omega
theorem dcmp_zero (a b : Dt) : dcmp a b = 0 ↔ a = b := by
  obtain ⟨a1, a2⟩ := a
  obtain ⟨b1, b2⟩ := b
  simp only [Dt.mk.injEq]
  unfold dcmp cmpZ
  dsimp only
  repeat' split
  all_goals omega
theorem Dt.lt_iff (a b : Dt) : ltOf dcmp a b = true ↔ a.r < b.r ∨ a.r = b.r ∧ a.n < b.n := by
  unfold ltOf; rw [decide_eq_true_eq]; exact dcmp_lt a b
/-- Not behind. -/
def Dt.le (a b : Dt) : Bool := !ltOf dcmp b a
theorem Dt.le_iff (a b : Dt) : Dt.le a b = true ↔ a.r < b.r ∨ a.r = b.r ∧ a.n ≤ b.n := by
  unfold Dt.le; rw [Bool.not_eq_true', Bool.eq_false_iff, ne_eq, Dt.lt_iff]; omega
theorem Dt.le_antisymm {a b : Dt} (h1 : Dt.le a b = true) (h2 : Dt.le b a = true) : a = b := by
  rw [Dt.le_iff] at *
  obtain ⟨a1, a2⟩ := a
  obtain ⟨b1, b2⟩ := b
  simp only [Dt.mk.injEq] at *
  omega
def Dt.sorted (l : List Dt) : List Dt := l.mergeSort Dt.le
theorem Dt.sorted_pairwise (l : List Dt) : (Dt.sorted l).Pairwise fun a b => Dt.le a b = true :=
  List.pairwise_mergeSort (fun a b c h1 h2 => by rw [Dt.le_iff] at *; omega) (fun a b => by rw [Bool.or_eq_true, Dt.le_iff, Dt.le_iff]; omega) l
theorem Dt.sorted_perm (l : List Dt) : (Dt.sorted l).Perm l := List.mergeSort_perm l Dt.le
/-- Rising. -/
def Dt.rises (l : List Dt) : Prop := l.Pairwise fun a b => dcmp a b < 0
theorem Dt.rises_nd {l : List Dt} (h : Dt.rises l) : l.Nodup := h.imp fun {a b} hab e => by
  subst e; rw [(dcmp_zero a a).2 rfl] at hab; omega
theorem Dt.rises_unique {l m : List Dt} (h1 : Dt.rises l) (h2 : Dt.rises m) (h : ∀ d, d ∈ l ↔ d ∈ m) : l = m := by
  refine List.Perm.eq_of_pairwise (le := fun a b => dcmp a b < 0) (fun a b _ _ h1 h2 => ?_) h1 h2 ((List.perm_ext_iff_of_nodup (Dt.rises_nd h1) (Dt.rises_nd h2)).2 h)
  rw [dcmp_swap] at h1; omega
theorem Dt.sorted_rises {l : List Dt} (h : l.Nodup) : Dt.rises (Dt.sorted l) := by
  have h1 := Dt.sorted_pairwise l
  have h2 : (Dt.sorted l).Nodup := (Dt.sorted_perm l).nodup_iff.2 h
  unfold Dt.rises
  have := h1.and h2
  refine this.imp fun {a b} hab => ?_
  obtain ⟨e1, e2⟩ := hab
  rw [Dt.le_iff] at e1
  rw [dcmp_lt]
  obtain ⟨a1, a2⟩ := a
  obtain ⟨b1, b2⟩ := b
  simp only [ne_eq, Dt.mk.injEq] at *
  omega
/-! ### credentials -/
def Cr.cmp (a b : Cr) : Int := if cmpZ a.level b.level = 0 then dcmp a.dot b.dot else cmpZ a.level b.level
theorem Cr.cmp_lt (a b : Cr) : Cr.cmp a b < 0 ↔ a.level < b.level ∨ a.level = b.level ∧ (a.dot.r < b.dot.r ∨ a.dot.r = b.dot.r ∧ a.dot.n < b.dot.n) := by
  unfold Cr.cmp
  split
  · rename_i h
    rw [dcmp_lt]
    unfold cmpZ at h
    split at h
    · omega
    · split at h <;> omega
  · rename_i h
    unfold cmpZ at h ⊢
    split at h
    · omega
    · split at h <;> omega
theorem Cr.lt_iff (a b : Cr) : ltOf Cr.cmp a b = true ↔ a.level < b.level ∨ a.level = b.level ∧ (a.dot.r < b.dot.r ∨ a.dot.r = b.dot.r ∧ a.dot.n < b.dot.n) := by
  unfold ltOf; rw [decide_eq_true_eq]; exact Cr.cmp_lt a b
theorem Cr.swo : SWO (ltOf Cr.cmp) := by
  refine ⟨fun x => ?_, fun x y z h1 h2 => ?_, fun x y z h1 h2 => ?_⟩
  · rw [Bool.eq_false_iff, ne_eq, Cr.lt_iff]; omega
  · rw [Cr.lt_iff] at *; omega
  · rw [Bool.eq_false_iff, ne_eq, Cr.lt_iff] at *; omega
def Cr.le (a b : Cr) : Bool := !ltOf Cr.cmp b a
theorem Cr.le_iff (a b : Cr) : Cr.le a b = true ↔ a.level < b.level ∨ a.level = b.level ∧ (a.dot.r < b.dot.r ∨ a.dot.r = b.dot.r ∧ a.dot.n ≤ b.dot.n) := by
  unfold Cr.le; rw [Bool.not_eq_true', Bool.eq_false_iff, ne_eq, Cr.lt_iff]; omega
theorem Cr.le_dot {a b : Cr} (h1 : Cr.le a b = true) (h2 : Cr.le b a = true) : a.dot = b.dot := by
  rw [Cr.le_iff] at *
  obtain ⟨⟨a1, a2⟩, _⟩ := a
  obtain ⟨⟨b1, b2⟩, _⟩ := b
  simp only [Dt.mk.injEq] at *
  omega
/-- Credentials by levels and dots. -/
def Cr.sorted (l : List Cr) : List Cr := l.mergeSort Cr.le
theorem Cr.sorted_pairwise (l : List Cr) : (Cr.sorted l).Pairwise fun a b => Cr.le a b = true :=
  List.pairwise_mergeSort (fun a b c h1 h2 => by rw [Cr.le_iff] at *; omega) (fun a b => by rw [Bool.or_eq_true, Cr.le_iff, Cr.le_iff]; omega) l
theorem Cr.sorted_perm (l : List Cr) : (Cr.sorted l).Perm l := List.mergeSort_perm l Cr.le
theorem Cr.sorted_unique {l l' : List Cr} (hi : ∀ a b, a ∈ l → b ∈ l → a.dot = b.dot → a = b) (h : l'.Perm l) (hp : l'.Pairwise fun a b => Cr.le a b = true) : l' = Cr.sorted l :=
  List.Perm.eq_of_pairwise (le := fun a b => Cr.le a b = true) (fun a b ha hb h1 h2 => hi a b (h.mem_iff.1 ha) ((Cr.sorted_perm l).mem_iff.1 hb) (Cr.le_dot h1 h2)) hp (Cr.sorted_pairwise l) (h.trans (Cr.sorted_perm l).symm)
/-- A cart's credentials, in order. -/
def allOf (a : MM Dt Cr) (cart : Dt) : List Cr := Cr.sorted ((a.map (·.2.2)).filter fun c => decide (c.cart = cart))
theorem allOf_len (a : MM Dt Cr) (cart : Dt) : (allOf a cart).length ≤ a.length := by
  unfold allOf
  rw [(Cr.sorted_perm _).length_eq]
  exact Nat.le_trans (List.length_filter_le _ _) (by simp)
theorem mem_allOf {a : MM Dt Cr} {cart : Dt} {c : Cr} : c ∈ allOf a cart ↔ (∃ t d, (t, d, c) ∈ a) ∧ c.cart = cart := by
  unfold allOf
  rw [(Cr.sorted_perm _).mem_iff, List.mem_filter, decide_eq_true_eq, List.mem_map]
  constructor
  · rintro ⟨⟨⟨t, d, x⟩, h1, h2⟩, h3⟩
    have h2 : x = c := h2
    subst h2
    exact ⟨⟨t, d, h1⟩, h3⟩
  · rintro ⟨⟨t, d, h1⟩, h3⟩
    exact ⟨⟨(t, d, c), h1, rfl⟩, h3⟩
/-- The entries of a tree have their credential's dot as key. -/
def Keyed (a : MM Dt Cr) : Prop := ∀ x, x ∈ a → x.2.2.dot = x.2.1
theorem Keyed.inj {a : MM Dt Cr} (hk : Keyed a) (hn : (MM.keys a).Nodup) {x y : Nat × Dt × Cr} (hx : x ∈ a) (hy : y ∈ a) (e : x.2.2.dot = y.2.2.dot) : x = y := by
  rw [hk x hx, hk y hy] at e
  induction a with
  | nil => cases hx
  | cons z a ih =>
    simp only [MM.keys, List.map_cons, List.nodup_cons] at hn
    rcases List.mem_cons.1 hx with hx' | hx' <;> rcases List.mem_cons.1 hy with hy' | hy'
    · rw [hx', hy']
    · exact absurd (List.mem_map.2 ⟨y, hy', by rw [← e, hx']⟩) hn.1
    · exact absurd (List.mem_map.2 ⟨x, hx', by rw [e, hy']⟩) hn.1
    · exact ih (fun w hw => hk w (List.mem_cons_of_mem _ hw)) hn.2 hx' hy'
theorem TOk.keyed {l : List OpD} {T : Tr} (h : TOk l T) (hn : (MM.keys T.at_).Nodup) : Keyed T.at_ := fun x hx => by
  have hg := MM.get_of_mem hn (t := x.1) (a := x.2.1) (v := x.2.2) hx
  exact h.dotIs hg
end Go.Proofs.Ytmmonbnlleeloaa

/-
  Dots: the document's sorted rows.
-/
set_option linter.unusedSectionVars false
set_option linter.unusedVariables false
set_option linter.unusedSimpArgs false
namespace Go.Proofs.Ytmmonbnlleeloaa
open Go.Sl Go.Proofs Go.Sort
attribute [local irreducible] SW RW SCd SC CallP Pruned

def Dt.ins (l : List Dt) (d : Dt) : List Dt := if d ∈ l then l else l.takeWhile (fun x => decide (dcmp x d < 0)) ++ d :: l.dropWhile (fun x => decide (dcmp x d < 0))
theorem snocRec {α : Type} {motive : List α → Prop} (nil : motive []) (snoc : ∀ l x, motive l → motive (l ++ [x])) (l : List α) : motive l := by
  have key : ∀ r : List α, motive r.reverse := fun r => by
    induction r with
    | nil => exact nil
    | cons x r ih => rw [List.reverse_cons]; exact snoc _ _ ih
  simpa using key l.reverse
def ahead (d : Dt) (x : Dt) : Bool := decide (dcmp x d < 0)
theorem takeWhile_take {α : Type} (p : α → Bool) : ∀ (l : List α) (i : Nat), (∀ j x, j < i → l[j]? = some x → p x = true) → (∀ x, l[i]? = some x → p x = false) → i ≤ l.length → l.takeWhile p = l.take i ∧ l.dropWhile p = l.drop i
  | [], i, _, _, h => by have : i = 0 := by simpa using h
                         subst this; exact ⟨rfl, rfl⟩
  | x :: l, 0, _, h, _ => by
    have := h x rfl
    simp [this]
  | x :: l, i + 1, h1, h2, h3 => by
    have hx := h1 0 x (by omega) rfl
    obtain ⟨a, b⟩ := takeWhile_take p l i (fun j y hj hy => h1 (j + 1) y (by omega) hy) (fun y hy => h2 y hy) (by simpa using h3)
    simp [hx, a, b]
theorem dots_drop : ∀ (l : List Dt) (i : Nat), (l.flatMap Dt.ds).drop (i * 2) = (l.drop i).flatMap Dt.ds
  | [], i => by simp
  | x :: l, 0 => by simp
  | x :: l, i + 1 => by
    have := dots_drop l i
    rw [List.drop_succ_cons, ← this, List.flatMap_cons, List.drop_append]
    rw [show (i + 1) * 2 - x.ds.length = i * 2 by rw [Dt.ds_len]; omega, List.drop_of_length_le (by rw [Dt.ds_len]; omega)]
    rfl
theorem dots_rest (l : List Dt) (i : Nat) : ((l.flatMap Dt.ds).drop (i * 2)).take ((l.length - i) * 2) = (l.drop i).flatMap Dt.ds := by
  rw [dots_drop, List.take_of_length_le]
  rw [dots_len]; simp
set_option maxHeartbeats 1000000 in
theorem with_ok (l : List Dt) (d : Dt) (hl : l.length < 100000000) (hwl : ∀ x, x ∈ l → x.wf) (hwd : d.wf) : Go.Sl.Pure Try.prog ref03_with.f [dots l, .agg d.cells] (dots (Dt.ins l d)) := by
  have hl' : l.length < 4611686018427387904 := by omega
  refine ref03_with.enter (by first | rfl | simp [SV.ok, SV.oks]) (by first | rfl | simp [Hp.ok, Ob.ok, SV.ok, SV.oks, Vec.cells_ok]) (by simp) ?_
  unfold ref03_with.s
  by_cases hm : d ∈ l
  · have h1 : decide (d ∈ l) = true := by simp [hm]
    (repeat (first | refine SW.seq ?_ | refine SW.block ?_ | (refine SW.regL [0, 1, 3, 4, 5, 6, 9, 23] mixed ?_; (repeat (first | refine RW.ro (h1) (h := ?_) | refine RW.skip (h := ?_) | refine RW.op (h1) (h := ?_) | refine RW.opN (h1) (h := ?_) | refine RW.skip0 (h := ?_) | (refine RW.callC (h := ?_); (first | refine CallP.mk (h1) (hc := in_at _ (by first | assumption | omega) _ _) (h := ?_) | refine CallP.mk (h1) (hc := rcompare_at _ _ (by first | assumption | omega) (by first | assumption | omega) _) (h := ?_))))); refine RW.nil ⟨by kernel_rfl, Pruned.mk (h := ?_)⟩) | refine SW.skip ?_ | refine SW.exit ?_ | refine SW.ret ?_ | refine SW.condT rfl ?_ | refine SW.condF rfl ?_))
    exact End.mk [] (h4 := ⟨by simp [Dt.ins, hm, retV], rfl⟩)
  · have h1 : decide (d ∈ l) = false := by simp [hm]
    refine SW.seq ?_
    (refine SW.regL [0, 1, 3, 4, 5, 6, 9, 23] mixed ?_; (repeat (first | refine RW.ro bq_tt (h := ?_) | refine RW.skip (h := ?_) | refine RW.op bq_tt (h := ?_) | refine RW.opN bq_tt (h := ?_) | refine RW.skip0 (h := ?_) | (refine RW.callC (h := ?_); (first | refine CallP.mk bq_tt (hc := in_at _ (by first | assumption | omega) _ _) (h := ?_) | refine CallP.mk bq_tt (hc := rcompare_at _ _ (by first | assumption | omega) (by first | assumption | omega) _) (h := ?_))))); refine RW.nil ⟨by kernel_rfl, Pruned.mk (h := ?_)⟩)
    refine SW.seq (SW.seq ?_)
    (refine SW.regL [0, 1, 3, 4, 5, 6, 9, 23] mixed ?_; (repeat (first | refine RW.ro (h1) (h := ?_) | refine RW.skip (h := ?_) | refine RW.op (h1) (h := ?_) | refine RW.opN (h1) (h := ?_) | refine RW.skip0 (h := ?_) | (refine RW.callC (h := ?_); (first | refine CallP.mk (h1) (hc := in_at _ (by first | assumption | omega) _ _) (h := ?_) | refine CallP.mk (h1) (hc := rcompare_at _ _ (by first | assumption | omega) (by first | assumption | omega) _) (h := ?_))))); refine RW.nil ⟨by kernel_rfl, Pruned.mk (h := ?_)⟩)
    refine SW.condF rfl (SW.skip ?_)
    refine SW.seq ?_
    (refine SW.regL [0, 1, 3, 4, 5, 6, 9, 23] mixed ?_; (repeat (first | refine RW.ro bq_tt (h := ?_) | refine RW.skip (h := ?_) | refine RW.op bq_tt (h := ?_) | refine RW.opN bq_tt (h := ?_) | refine RW.skip0 (h := ?_) | (refine RW.callC (h := ?_); (first | refine CallP.mk bq_tt (hc := in_at _ (by first | assumption | omega) _ _) (h := ?_) | refine CallP.mk bq_tt (hc := rcompare_at _ _ (by first | assumption | omega) (by first | assumption | omega) _) (h := ?_))))); refine RW.nil ⟨by kernel_rfl, Pruned.mk (h := ?_)⟩)
    refine SW.nilrow 5 33 2 rfl ?_
    refine SW.seq ?_
    (refine SW.regL [0, 1, 3, 4, 5, 6, 9, 23] mixed ?_; (repeat (first | refine RW.ro bq_tt (h := ?_) | refine RW.skip (h := ?_) | refine RW.op bq_tt (h := ?_) | refine RW.opN bq_tt (h := ?_) | refine RW.skip0 (h := ?_) | (refine RW.callC (h := ?_); (first | refine CallP.mk bq_tt (hc := in_at _ (by first | assumption | omega) _ _) (h := ?_) | refine CallP.mk bq_tt (hc := rcompare_at _ _ (by first | assumption | omega) (by first | assumption | omega) _) (h := ?_))))); refine RW.nil ⟨by kernel_rfl, Pruned.mk (h := ?_)⟩)
    refine SW.seq (SW.block ?_)
    refine SW.loopA (α := {i : Nat // i ≤ l.length ∧ ∀ j x, j < i → l[j]? = some x → ahead d x = true}) (fun i => ⟨[(6, i64 i.1), (0, dots l), (3, .ptr 0 0), (5, .gs 1 i.1)], [(1, .arr 33 2 i.1 (((l.take i.1).flatMap Dt.ds).map .d)), (0, .box 33 d.cells)], 2⟩) (fun i => l.length - i.1) ⟨0, by omega, by omega⟩ id bq_tt (round := ?_)
    rintro ⟨i, hi, hs⟩
    have e0 : (i : Int).toNat = i := Int.toNat_natCast i
    by_cases h : i < l.length
    · obtain ⟨x, hx⟩ := get_of_lt h
      have hwx : x.wf := hwl x (List.mem_of_getElem? hx)
      have h1 : decide ((i : Int) < l.length) = true := by simp; exact h
      by_cases hc : dcmp x d < 0
      · have h2 : decide (dcmp x d < 0) = true := by simp [hc]
        (repeat (first | refine SW.seq ?_ | refine SW.block ?_ | (have fx := (And.intro (h1) (And.intro (dot_at hx) (h2))); refine SW.regL [0, 1, 3, 4, 5, 6, 9, 23] mixed ?_; (repeat (first | refine RW.ro fx (h := ?_) | refine RW.skip (h := ?_) | refine RW.op fx (h := ?_) | refine RW.opN fx (h := ?_) | refine RW.skip0 (h := ?_) | (refine RW.callC (h := ?_); (first | refine CallP.mk fx (hc := in_at _ (by first | assumption | omega) _ _) (h := ?_) | refine CallP.mk fx (hc := rcompare_at _ _ (by first | assumption | omega) (by first | assumption | omega) _) (h := ?_))))); refine RW.nil ⟨by kernel_rfl, Pruned.mk (h := ?_)⟩) | refine SW.skip ?_ | refine SW.exit ?_ | refine SW.ret ?_ | refine SW.condT rfl ?_ | refine SW.condF rfl ?_))
        have e1 : l.take (i + 1) = l.take i ++ [x] := take_snoc hx
        refine ⟨⟨i + 1, by omega, fun j y hj hy => ?_⟩, fun n => if n = 1 then 2 else n, by simp; omega, Weak.mk (And.intro e1 (Dt.map_ds x))⟩
        by_cases e : j = i
        · subst e; rw [hx] at hy; injection hy with hy; subst hy; exact h2
        · exact hs j y (by omega) hy
      · have h2 : decide (dcmp x d < 0) = false := by simp [hc]
        refine SW.seq (SW.seq ?_)
        (have fx := (And.intro (h1) (And.intro (dot_at hx) (h2))); refine SW.regL [0, 1, 3, 4, 5, 6, 9, 23] mixed ?_; (repeat (first | refine RW.ro fx (h := ?_) | refine RW.skip (h := ?_) | refine RW.op fx (h := ?_) | refine RW.opN fx (h := ?_) | refine RW.skip0 (h := ?_) | (refine RW.callC (h := ?_); (first | refine CallP.mk fx (hc := in_at _ (by first | assumption | omega) _ _) (h := ?_) | refine CallP.mk fx (hc := rcompare_at _ _ (by first | assumption | omega) (by first | assumption | omega) _) (h := ?_))))); refine RW.nil ⟨by kernel_rfl, Pruned.mk (h := ?_)⟩)
        refine SW.condF rfl (SW.exit ?_)
        refine SW.seq ?_
        (refine SW.regL [0, 1, 3, 4, 5, 6, 9, 23] mixed ?_; (repeat (first | refine RW.ro (e0) (h := ?_) | refine RW.skip (h := ?_) | refine RW.op (e0) (h := ?_) | refine RW.opN (e0) (h := ?_) | refine RW.skip0 (h := ?_) | (refine RW.callC (h := ?_); (first | refine CallP.mk (e0) (hc := in_at _ (by first | assumption | omega) _ _) (h := ?_) | refine CallP.mk (e0) (hc := rcompare_at _ _ (by first | assumption | omega) (by first | assumption | omega) _) (h := ?_))))); refine RW.nil ⟨by kernel_rfl, Pruned.mk (h := ?_)⟩)
        refine SW.seq ?_
        (refine SW.regL [0, 1, 3, 4, 5, 6, 9, 23] mixed ?_; (repeat (first | refine RW.ro (e0) (h := ?_) | refine RW.skip (h := ?_) | refine RW.op (e0) (h := ?_) | refine RW.opN (e0) (h := ?_) | refine RW.skip0 (h := ?_) | (refine RW.callC (h := ?_); (first | refine CallP.mk (e0) (hc := in_at _ (by first | assumption | omega) _ _) (h := ?_) | refine CallP.mk (e0) (hc := rcompare_at _ _ (by first | assumption | omega) (by first | assumption | omega) _) (h := ?_))))); refine RW.nil ⟨by kernel_rfl, Pruned.mk (h := ?_)⟩)
        have hins : Dt.ins l d = l.take i ++ d :: l.drop i := by
          have := takeWhile_take (ahead d) l i hs (fun y hy => by rw [hx] at hy; injection hy with hy; subst hy; exact h2) hi
          unfold Dt.ins ahead at *
          rw [if_neg hm, this.1, this.2]
        have hlen : (Dt.ins l d).length = i + 1 + (l.length - i) := by rw [hins]; simp; omega
        refine SW.freeze 3 ((Dt.ins l d).flatMap Dt.ds) rfl (by rw [dots_rest, hins]; simp) ?_
        simp only [frzE, SV.frz, List.map_cons, List.map_nil, if_true, if_false, reduceIte, hdel, Nat.reduceEqDiff, ← hlen]
        refine SW.ret ?_
        exact End.mk [] (h4 := ⟨rfl, rfl⟩)
    · have h1 : decide ((i : Int) < l.length) = false := by simp; omega
      have h2 : i = l.length := by omega
      refine SW.seq (SW.seq ?_)
      (refine SW.regL [0, 1, 3, 4, 5, 6, 9, 23] mixed ?_; (repeat (first | refine RW.ro (h1) (h := ?_) | refine RW.skip (h := ?_) | refine RW.op (h1) (h := ?_) | refine RW.opN (h1) (h := ?_) | refine RW.skip0 (h := ?_) | (refine RW.callC (h := ?_); (first | refine CallP.mk (h1) (hc := in_at _ (by first | assumption | omega) _ _) (h := ?_) | refine CallP.mk (h1) (hc := rcompare_at _ _ (by first | assumption | omega) (by first | assumption | omega) _) (h := ?_))))); refine RW.nil ⟨by kernel_rfl, Pruned.mk (h := ?_)⟩)
      refine SW.condF rfl (SW.exit ?_)
      refine SW.seq ?_
      (refine SW.regL [0, 1, 3, 4, 5, 6, 9, 23] mixed ?_; (repeat (first | refine RW.ro (e0) (h := ?_) | refine RW.skip (h := ?_) | refine RW.op (e0) (h := ?_) | refine RW.opN (e0) (h := ?_) | refine RW.skip0 (h := ?_) | (refine RW.callC (h := ?_); (first | refine CallP.mk (e0) (hc := in_at _ (by first | assumption | omega) _ _) (h := ?_) | refine CallP.mk (e0) (hc := rcompare_at _ _ (by first | assumption | omega) (by first | assumption | omega) _) (h := ?_))))); refine RW.nil ⟨by kernel_rfl, Pruned.mk (h := ?_)⟩)
      refine SW.seq ?_
      (refine SW.regL [0, 1, 3, 4, 5, 6, 9, 23] mixed ?_; (repeat (first | refine RW.ro (e0) (h := ?_) | refine RW.skip (h := ?_) | refine RW.op (e0) (h := ?_) | refine RW.opN (e0) (h := ?_) | refine RW.skip0 (h := ?_) | (refine RW.callC (h := ?_); (first | refine CallP.mk (e0) (hc := in_at _ (by first | assumption | omega) _ _) (h := ?_) | refine CallP.mk (e0) (hc := rcompare_at _ _ (by first | assumption | omega) (by first | assumption | omega) _) (h := ?_))))); refine RW.nil ⟨by kernel_rfl, Pruned.mk (h := ?_)⟩)
      have hins : Dt.ins l d = l.take i ++ d :: l.drop i := by
        have := takeWhile_take (ahead d) l i hs (fun y hy => by rw [List.getElem?_eq_none (by omega)] at hy; cases hy) hi
        unfold Dt.ins ahead at *
        rw [if_neg hm, this.1, this.2]
      have hlen : (Dt.ins l d).length = i + 1 + (l.length - i) := by rw [hins]; simp; omega
      refine SW.freeze 3 ((Dt.ins l d).flatMap Dt.ds) rfl (by rw [dots_rest, hins]; simp) ?_
      simp only [frzE, SV.frz, List.map_cons, List.map_nil, if_true, if_false, reduceIte, hdel, Nat.reduceEqDiff, ← hlen]
      refine SW.ret ?_
      exact End.mk [] (h4 := ⟨rfl, rfl⟩)
theorem with_at (l : List Dt) (d : Dt) (hl : l.length < 100000000) (hwl : ∀ x, x ∈ l → x.wf) (hwd : d.wf) (k : Nat) : SCd Try.prog ref03_with.f [dots l, .agg d.cells] [] k 0 (dots (Dt.ins l d)) [] := (with_ok l d hl hwl hwd).sc rfl k

/-! ### the document's sets are the program's -/
theorem Dt.mem_ins {l : List Dt} {d x : Dt} : x ∈ Dt.ins l d ↔ x ∈ l ∨ x = d := by
  unfold Dt.ins
  split
  · rename_i h
    refine ⟨.inl, fun h' => ?_⟩
    rcases h' with h' | rfl
    · exact h'
    · exact h
  · have := List.takeWhile_append_dropWhile (p := fun x => decide (dcmp x d < 0)) (l := l)
    have h2 : x ∈ l ↔ x ∈ l.takeWhile (fun x => decide (dcmp x d < 0)) ∨ x ∈ l.dropWhile (fun x => decide (dcmp x d < 0)) := by
      rw [← List.mem_append, this]
    rw [h2, List.mem_append, List.mem_cons]
    constructor
    · rintro (h | h | h)
      · exact .inl (.inl h)
      · exact .inr h
      · exact .inl (.inr h)
    · rintro ((h | h) | h)
      · exact .inl h
      · exact .inr (.inr h)
      · exact .inr (.inl h)
theorem Dt.ins_rises {l : List Dt} (h : Dt.rises l) (d : Dt) : Dt.rises (Dt.ins l d) := by
  unfold Dt.ins
  split
  · exact h
  · rename_i hd
    induction l with
    | nil => simp [Dt.rises]
    | cons x l ih =>
      have h1 := List.pairwise_cons.1 h
      by_cases hx : dcmp x d < 0
      · simp only [List.takeWhile_cons, List.dropWhile_cons, hx, decide_true, if_true, List.cons_append]
        refine List.pairwise_cons.2 ⟨fun y hy => ?_, ih h1.2 fun hm => hd (List.mem_cons_of_mem _ hm)⟩
        rcases List.mem_append.1 hy with hy | hy
        · exact h1.1 y ((List.takeWhile_sublist _).subset hy)
        · rcases List.mem_cons.1 hy with rfl | hy
          · exact hx
          · exact h1.1 y ((List.dropWhile_sublist _).subset hy)
      · simp only [List.takeWhile_cons, List.dropWhile_cons, hx, decide_false, Bool.false_eq_true, if_false, List.nil_append]
        have hlt : dcmp d x < 0 := by
          have e := dcmp_swap d x
          have : dcmp x d ≠ 0 := fun e => hd (by rw [(dcmp_zero x d).1 e]; simp)
          omega
        refine List.pairwise_cons.2 ⟨fun y hy => ?_, h⟩
        rcases List.mem_cons.1 hy with rfl | hy
        · exact hlt
        · have := h1.1 y hy
          rw [dcmp_lt] at *
          omega
def Dt.setR (l : List Dt) : List Dt := l.foldl Dt.ins []
theorem Dt.setR_snoc (l : List Dt) (d : Dt) : Dt.setR (l ++ [d]) = Dt.ins (Dt.setR l) d := by simp [Dt.setR, List.foldl_append]
theorem Dt.setR_rises (l : List Dt) : Dt.rises (Dt.setR l) := by
  induction l using snocRec with
  | nil => exact List.Pairwise.nil
  | snoc l d ih => rw [Dt.setR_snoc]; exact Dt.ins_rises ih d
theorem Dt.mem_setR {l : List Dt} {d : Dt} : d ∈ Dt.setR l ↔ d ∈ l := by
  induction l using snocRec with
  | nil => simp [Dt.setR]
  | snoc l x ih => rw [Dt.setR_snoc, Dt.mem_ins, ih]; simp
theorem Dt.ins_len (l : List Dt) (d : Dt) : (Dt.ins l d).length ≤ l.length + 1 := by
  unfold Dt.ins
  split
  · omega
  · have := congrArg List.length (List.takeWhile_append_dropWhile (p := fun x => decide (dcmp x d < 0)) (l := l))
    simp only [List.length_append, List.length_cons] at *
    omega
theorem Dt.setR_len (l : List Dt) : (Dt.setR l).length ≤ l.length := by
  induction l using snocRec with
  | nil => exact Nat.le_refl _
  | snoc l x ih =>
    rw [Dt.setR_snoc]
    have := Dt.ins_len (Dt.setR l) x
    simp; omega

theorem rsort_ok (l : List Dt) (hl : l.length < 100000000) (hw : ∀ x, x ∈ l → x.wf) : Go.Sl.Pure Try.prog ref03_Sort.f [dots l] (dots (Dt.setR l)) := by
  refine ref03_Sort.enter (by first | rfl | simp [SV.ok, SV.oks]) (by first | rfl | simp [Hp.ok, Ob.ok, SV.ok, SV.oks, Vec.cells_ok]) (by simp) ?_
  unfold ref03_Sort.s
  refine SW.seq ?_
  (refine SW.regL [0, 2, 3, 4, 8] mixed ?_; (repeat (first | refine RW.ro bq_tt (h := ?_) | refine RW.skip (h := ?_) | refine RW.op bq_tt (h := ?_) | refine RW.opN bq_tt (h := ?_) | refine RW.skip0 (h := ?_) | (refine RW.callC (h := ?_); (first | refine CallP.mk bq_tt (hc := with_at _ _ (by first | assumption | omega) (by first | assumption | omega) (by first | assumption | omega) _) (h := ?_))))); refine RW.nil ⟨by kernel_rfl, Pruned.mk (h := ?_)⟩)
  refine SW.seq ?_
  (refine SW.regL [0, 2, 3, 4, 8] mixed ?_; (repeat (first | refine RW.ro bq_tt (h := ?_) | refine RW.skip (h := ?_) | refine RW.op bq_tt (h := ?_) | refine RW.opN bq_tt (h := ?_) | refine RW.skip0 (h := ?_) | (refine RW.callC (h := ?_); (first | refine CallP.mk bq_tt (hc := with_at _ _ (by first | assumption | omega) (by first | assumption | omega) (by first | assumption | omega) _) (h := ?_))))); refine RW.nil ⟨by kernel_rfl, Pruned.mk (h := ?_)⟩)
  refine SW.nils 3 rfl ?_
  refine SW.seq (SW.seq ?_)
  (refine SW.regL [0, 2, 3, 4, 8] mixed ?_; (repeat (first | refine RW.ro bq_tt (h := ?_) | refine RW.skip (h := ?_) | refine RW.op bq_tt (h := ?_) | refine RW.opN bq_tt (h := ?_) | refine RW.skip0 (h := ?_) | (refine RW.callC (h := ?_); (first | refine CallP.mk bq_tt (hc := with_at _ _ (by first | assumption | omega) (by first | assumption | omega) (by first | assumption | omega) _) (h := ?_))))); refine RW.nil ⟨by kernel_rfl, Pruned.mk (h := ?_)⟩)
  refine SW.block ?_
  refine SW.loopA (α := {i : Nat // i ≤ l.length}) (fun i => ⟨[(4, i64 i.1), (0, dots l), (3, dots (Dt.setR (l.take i.1)))], [], 0⟩) (fun i => l.length - i.1) ⟨0, by omega⟩ id (And.intro (show Dt.setR [] = [] from rfl) bq_tt) (round := ?_)
  rintro ⟨i, hi⟩
  have hlen : (Dt.setR (l.take i)).length < 100000000 := by
    have := Dt.setR_len (l.take i)
    have h2 : (l.take i).length ≤ l.length := by rw [List.length_take]; omega
    omega
  have hwi : ∀ x, x ∈ Dt.setR (l.take i) → x.wf := fun x hx => by
    rw [Dt.mem_setR] at hx
    exact hw x (List.mem_of_mem_take hx)
  by_cases h : i < l.length
  · obtain ⟨x, hx⟩ := get_of_lt h
    have hwx : x.wf := hw x (List.mem_of_getElem? hx)
    have h1 : decide ((i : Int) < l.length) = true := by simp; exact h
    have e1 : l.take (i + 1) = l.take i ++ [x] := take_snoc hx
    (repeat (first | refine SW.seq ?_ | refine SW.block ?_ | (have fx := (And.intro (h1) (dot_at hx)); refine SW.regL [0, 2, 3, 4, 8] mixed ?_; (repeat (first | refine RW.ro fx (h := ?_) | refine RW.skip (h := ?_) | refine RW.op fx (h := ?_) | refine RW.opN fx (h := ?_) | refine RW.skip0 (h := ?_) | (refine RW.callC (h := ?_); (first | refine CallP.mk fx (hc := with_at _ _ (by first | assumption | omega) (by first | assumption | omega) (by first | assumption | omega) _) (h := ?_))))); refine RW.nil ⟨by kernel_rfl, Pruned.mk (h := ?_)⟩) | refine SW.skip ?_ | refine SW.exit ?_ | refine SW.ret ?_ | refine SW.condT rfl ?_ | refine SW.condF rfl ?_))
    exact ⟨⟨i + 1, by omega⟩, id, by simp; omega, Weak.mk (And.intro e1 (And.intro (Dt.setR_snoc (l.take i) x) bq_tt))⟩
  · have h1 : decide ((i : Int) < l.length) = false := by simp; omega
    have h2 : i = l.length := by omega
    subst h2
    simp only [List.take_length]
    (repeat (first | refine SW.seq ?_ | refine SW.block ?_ | (refine SW.regL [0, 2, 3, 4, 8] mixed ?_; (repeat (first | refine RW.ro (h1) (h := ?_) | refine RW.skip (h := ?_) | refine RW.op (h1) (h := ?_) | refine RW.opN (h1) (h := ?_) | refine RW.skip0 (h := ?_) | (refine RW.callC (h := ?_); (first | refine CallP.mk (h1) (hc := with_at _ _ (by first | assumption | omega) (by first | assumption | omega) (by first | assumption | omega) _) (h := ?_))))); refine RW.nil ⟨by kernel_rfl, Pruned.mk (h := ?_)⟩) | refine SW.skip ?_ | refine SW.exit ?_ | refine SW.ret ?_ | refine SW.condT rfl ?_ | refine SW.condF rfl ?_))
    exact End.mk [] (h4 := ⟨rfl, rfl⟩)
theorem rsort_at (l : List Dt) (hl : l.length < 100000000) (hw : ∀ x, x ∈ l → x.wf) (k : Nat) : SCd Try.prog ref03_Sort.f [dots l] [] k 0 (dots (Dt.setR l)) [] := (rsort_ok l hl hw).sc rfl k
end Go.Proofs.Ytmmonbnlleeloaa

/-
  The kit's sort, at rows of credentials (printed by lay.py).
-/
set_option linter.unusedVariables false
namespace Go.Proofs.Ytmmonbnlleeloaa
open Go.Proofs Go.Shelf
def crsort_ren : Go.Shelf.Ren := ⟨fun | 6 => 100 | 15 => 156 | 14 => 155 | 28 => 188 | 29 => 189 | 20 => 180 | 21 => 181 | 22 => 182 | 23 => 183 | 24 => 184 | 25 => 185 | 26 => 186 | 27 => 187 | 46 => 200 | 47 => 201 | 48 => 202 | 49 => 203 | 50 => 204 | 57 => 225 | n => n, fun | 22 => 64 | 24 => 41 | 25 => 158 | 3 => 3 | 39 => 208 | 0 => 0 | 53 => 31 | 55 => 36 | 4 => 4 | 46 => 242 | 45 => 241 | 50 => 228 | 5 => 5 | 9 => 9 | 66 => 258 | 70 => 262 | 76 => 275 | 77 => 276 | n => n, fun | n => n⟩
theorem crsort : Go.Proofs.SlLaysF0.n6 Try.prog crsort_ren where
  mixed := by kernel_rfl
  f6 := ⟨ "slices.SortFunc[[]tranter/api.Credential,tranter/api.Credential]", by decide, Try.func100.trans (congrArg some (by kernel_rfl))⟩
  f14 := ⟨ "slices.pdqsortCmpFunc[tranter/api.Credential]", by decide, Try.func155.trans (congrArg some (by kernel_rfl))⟩
  f15 := Try.func156.trans (congrArg some (by kernel_rfl))
  f20 := ⟨ "slices.insertionSortCmpFunc[tranter/api.Credential]", by decide, Try.func180.trans (congrArg some (by kernel_rfl))⟩
  f21 := ⟨ "slices.heapSortCmpFunc[tranter/api.Credential]", by decide, Try.func181.trans (congrArg some (by kernel_rfl))⟩
  f22 := ⟨ "slices.breakPatternsCmpFunc[tranter/api.Credential]", by decide, Try.func182.trans (congrArg some (by kernel_rfl))⟩
  f23 := ⟨ "slices.choosePivotCmpFunc[tranter/api.Credential]", by decide, Try.func183.trans (congrArg some (by kernel_rfl))⟩
  f24 := ⟨ "slices.reverseRangeCmpFunc[tranter/api.Credential]", by decide, Try.func184.trans (congrArg some (by kernel_rfl))⟩
  f25 := ⟨ "slices.partialInsertionSortCmpFunc[tranter/api.Credential]", by decide, Try.func185.trans (congrArg some (by kernel_rfl))⟩
  f26 := ⟨ "slices.partitionEqualCmpFunc[tranter/api.Credential]", by decide, Try.func186.trans (congrArg some (by kernel_rfl))⟩
  f27 := ⟨ "slices.partitionCmpFunc[tranter/api.Credential]", by decide, Try.func187.trans (congrArg some (by kernel_rfl))⟩
  f28 := Try.func188.trans (congrArg some (by kernel_rfl))
  f29 := Try.func189.trans (congrArg some (by kernel_rfl))
  f46 := ⟨ "slices.siftDownCmpFunc[tranter/api.Credential]", by decide, Try.func200.trans (congrArg some (by kernel_rfl))⟩
  f47 := Try.func201.trans (congrArg some (by kernel_rfl))
  f48 := Try.func202.trans (congrArg some (by kernel_rfl))
  f49 := ⟨ "slices.medianAdjacentCmpFunc[tranter/api.Credential]", by decide, Try.func203.trans (congrArg some (by kernel_rfl))⟩
  f50 := ⟨ "slices.medianCmpFunc[tranter/api.Credential]", by decide, Try.func204.trans (congrArg some (by kernel_rfl))⟩
  f57 := ⟨ "slices.order2CmpFunc[tranter/api.Credential]", by decide, Try.func225.trans (congrArg some (by kernel_rfl))⟩
  t0 := Try.underlying0
  a0 := Try.isAgg0
  z0 := Try.sizeOf0
  v0 := Try.zeroValue0
  t3 := Try.underlying3
  a3 := Try.isAgg3
  z3 := Try.sizeOf3
  v3 := Try.zeroValue3
  t4 := Try.underlying4
  a4 := Try.isAgg4
  z4 := Try.sizeOf4
  v4 := Try.zeroValue4
  t5 := Try.underlying5
  a5 := Try.isAgg5
  z5 := Try.sizeOf5
  v5 := Try.zeroValue5
  t9 := Try.underlying9
  a9 := Try.isAgg9
  z9 := Try.sizeOf9
  v9 := Try.zeroValue9
  t22 := Try.underlying64
  a22 := Try.isAgg64
  z22 := Try.sizeOf64
  v22 := Try.zeroValue64
  t25 := Try.underlying158
  a25 := Try.isAgg158
  z25 := Try.sizeOf158
  v25 := Try.zeroValue158
  t39 := Try.underlying208
  a39 := Try.isAgg208
  z39 := Try.sizeOf208
  v39 := Try.zeroValue208
  t45 := Try.underlying241
  a45 := Try.isAgg241
  z45 := Try.sizeOf241
  v45 := Try.zeroValue241
  t46 := Try.underlying242
  a46 := Try.isAgg242
  z46 := Try.sizeOf242
  v46 := Try.zeroValue242
  t50 := Try.underlying228
  a50 := Try.isAgg228
  z50 := Try.sizeOf228
  v50 := Try.zeroValue228
  t53 := Try.underlying31
  a53 := Try.isAgg31
  z53 := Try.sizeOf31
  v53 := Try.zeroValue31
  t55 := Try.underlying36
  a55 := Try.isAgg36
  z55 := Try.sizeOf36
  v55 := Try.zeroValue36
  t66 := Try.underlying258
  a66 := Try.isAgg258
  z66 := Try.sizeOf258
  v66 := Try.zeroValue258
  t70 := Try.underlying262
  a70 := Try.isAgg262
  z70 := Try.sizeOf262
  v70 := Try.zeroValue262
  t76 := Try.underlying275
  a76 := Try.isAgg275
  z76 := Try.sizeOf275
  v76 := Try.zeroValue275
  t77 := Try.underlying276
  a77 := Try.isAgg276
  z77 := Try.sizeOf276
  v77 := Try.zeroValue276
end Go.Proofs.Ytmmonbnlleeloaa

/-
  Trees of credentials: a cart's credentials.
-/
set_option linter.unusedSectionVars false
set_option linter.unusedVariables false
set_option linter.unusedSimpArgs false
namespace Go.Proofs.Ytmmonbnlleeloaa
open Go.Sl Go.Proofs Go.Sort
attribute [local irreducible] SW RW SCd SC CallP Pruned

theorem all1_ok (a b : Cr) : Go.Sl.Pure Try.prog tree_Tree_All_1.f [.agg a.cells, .agg b.cells] (.d (.int .i64 (Cr.cmp a b))) := by
  refine tree_Tree_All_1.enter (by first | rfl | simp [SV.ok, SV.oks]) (by first | rfl | simp [Hp.ok, Ob.ok, SV.ok, SV.oks, Vec.cells_ok]) (by simp) ?_
  unfold tree_Tree_All_1.s
  refine SW.seq ?_
  (refine SW.regL [0, 1, 2, 3, 4] mixed ?_; (repeat (first | refine RW.ro bq_tt (h := ?_) | refine RW.skip (h := ?_) | refine RW.op bq_tt (h := ?_) | refine RW.opN bq_tt (h := ?_) | refine RW.skip0 (h := ?_) | (refine RW.callC (h := ?_); (first | refine CallP.mk bq_tt (hc := compare_at _ _ _) (h := ?_) | refine CallP.mk bq_tt (hc := cmpi_at _ _ _) (h := ?_) | refine CallP.mk bq_tt (hc := or2_at _ _ _) (h := ?_))))); refine RW.nil ⟨by kernel_rfl, Pruned.mk (h := ?_)⟩)
  refine SW.seq ?_
  (refine SW.regL [0, 1, 2, 3, 4] mixed ?_; (repeat (first | refine RW.ro (spl2) (h := ?_) | refine RW.skip (h := ?_) | refine RW.op (spl2) (h := ?_) | refine RW.opN (spl2) (h := ?_) | refine RW.skip0 (h := ?_) | (refine RW.callC (h := ?_); (first | refine CallP.mk (spl2) (hc := compare_at _ _ _) (h := ?_) | refine CallP.mk (spl2) (hc := cmpi_at _ _ _) (h := ?_) | refine CallP.mk (spl2) (hc := or2_at _ _ _) (h := ?_))))); refine RW.nil ⟨by kernel_rfl, Pruned.mk (h := ?_)⟩)
  refine SW.ret ?_
  exact End.mk [] (h4 := ⟨rfl, rfl⟩)
theorem all1_at (a b : Cr) (k : Nat) : SCd Try.prog tree_Tree_All_1.f [.agg a.cells, .agg b.cells] [] k 0 (.d (.int .i64 (Cr.cmp a b))) [] := (all1_ok a b).sc rfl k
theorem crsort_at (n : Nat) (l : List Cr) (hi : ∀ a b, a ∈ l → b ∈ l → a.dot = b.dot → a = b) (hl : l.length < 4611686018427387904) (k : Nat) : SCd Try.prog 100 [.gs n l.length, .fn (.func tree_Tree_All_1.f) [] []] [(n, .arr 41 11 l.length (crc l))] k 0 (.tup []) [(n, .arr 41 11 l.length (crc (Cr.sorted l)))] := by
  have h := SC.sortFunc (P := Try.prog) (ρ := crsort_ren) crsort 11 Try.isAgg41 Try.sizeOf41 (by kernel_rfl) Cr.ds (fun _ => rfl) Cr.cmp Cr.swo tree_Tree_All_1.f [] tree_Tree_All_1.ca (fun x y k => all1_at x y k) n 41 l hl k
  unfold SCd
  refine SC.mono h ?_
  rintro r F' ⟨rfl, l', hp, hs, rfl⟩
  rw [Cr.sorted_unique hi hp (hs.imp fun {a b} hab => by unfold Cr.le; rw [hab]; rfl)]
  exact ⟨rfl, rfl⟩
/-- Those of a cart. -/
def flc (cart : Dt) (xs : MM Dt Cr) : List Cr := (xs.map (·.2.2)).filter fun c => decide (c.cart = cart)
theorem flc_snoc (cart : Dt) (xs : MM Dt Cr) (x : Nat × Dt × Cr) : flc cart (xs ++ [x]) = if x.2.2.cart = cart then flc cart xs ++ [x.2.2] else flc cart xs := by
  unfold flc
  rw [List.map_append, List.filter_append]
  by_cases h : x.2.2.cart = cart <;> simp [h]
theorem flc_len (cart : Dt) (xs : MM Dt Cr) : (flc cart xs).length ≤ xs.length := Nat.le_trans (List.length_filter_le _ _) (by simp)
theorem cr_row1 (c : Cr) (x0 x1 x2 x3 x4 x5 x6 x7 x8 x9 x10 : SV) : spl [x0, x1, x2, x3, x4, x5, x6, x7, x8, x9, x10] 0 c.cells = c.cells := rfl
set_option maxHeartbeats 4000000 in
theorem all_sb (a : MM Dt Cr) (ca : Nat) (m : MM Dt OpD) (cm : Nat) (hw : MM.wf a ca) (hk : Keyed a) (ha : a.length < 1000000) (cart : Dt) :
    SB Try.prog tree_Tree_All.f [.ptr 0 0, .agg cart.cells] (hp0 a ca m cm) 3 0 (fun r F' => r = crs (allOf a cart) ∧ F' = hp0 a ca m cm) := by
  refine tree_Tree_All.enter (by simp [SV.oks, SV.ok]) (hp0_ok a ca m cm (Nat.le_refl 3)) (by simp) ?_
  unfold tree_Tree_All.s
  refine SW.seq ?_
  (refine SW.regL [0, 1, 3, 4, 5, 7, 9, 14, 16, 22] mixed ?_; (repeat (first | refine RW.ro bq_tt (h := ?_) | refine RW.skip (h := ?_) | refine RW.op bq_tt (h := ?_) | refine RW.opN bq_tt (h := ?_) | refine RW.skip0 (h := ?_) | (refine RW.callC (h := ?_); (first | refine CallP.mk bq_tt (hc := none0_at a ca m cm (by first | assumption | omega)) (h := ?_))))); refine RW.nil ⟨by kernel_rfl, Pruned.mk (h := ?_)⟩)
  refine SW.seq (SW.seq ?_)
  (refine SW.regL [0, 1, 3, 4, 5, 7, 9, 14, 16, 22] mixed ?_; (repeat (first | refine RW.ro bq_tt (h := ?_) | refine RW.skip (h := ?_) | refine RW.op bq_tt (h := ?_) | refine RW.opN bq_tt (h := ?_) | refine RW.skip0 (h := ?_) | (refine RW.callC (h := ?_); (first | refine CallP.mk bq_tt (hc := none0_at a ca m cm (by first | assumption | omega)) (h := ?_))))); refine RW.nil ⟨by kernel_rfl, Pruned.mk (h := ?_)⟩)
  refine SW.condF rfl (SW.skip ?_)
  refine SW.seq ?_
  (refine SW.regL [0, 1, 3, 4, 5, 7, 9, 14, 16, 22] mixed ?_; (repeat (first | refine RW.ro bq_tt (h := ?_) | refine RW.skip (h := ?_) | refine RW.op bq_tt (h := ?_) | refine RW.opN bq_tt (h := ?_) | refine RW.skip0 (h := ?_))); refine RW.nil ⟨by kernel_rfl, Pruned.mk (h := ?_)⟩)
  refine SW.nilrow 5 41 11 rfl ?_
  refine SW.seq (SW.seq ?_)
  (refine SW.regL [0, 1, 3, 4, 5, 7, 9, 14, 16, 22] mixed ?_; (repeat (first | refine RW.ro bq_tt (h := ?_) | refine RW.skip (h := ?_) | refine RW.op bq_tt (h := ?_) | refine RW.opN bq_tt (h := ?_) | refine RW.skip0 (h := ?_))); refine RW.nil ⟨by kernel_rfl, Pruned.mk (h := ?_)⟩)
  refine SW.block (SW.mapLoop (es := fun _ => mapE Dt.cells cv a) (c := fun _ => ca) (nit := fun _ => 5) (nm := fun _ => 1) (since := fun _ => ca) (sst := fun _ => ca)
    (α := {xs : MM Dt Cr // (∀ x, x ∈ xs → x ∈ a) ∧ (xs.map (·.1)).Nodup})
    (fun i => ⟨[(14, .it 5), (3, .ptr 3 0), (5, .gs 4 (flc cart i.1).length)], (5, .iter (some 1) ca (i.1.map (·.1)) ca) :: (4, .arr 41 11 (flc cart i.1).length (crc (flc cart i.1))) :: (3, .box 33 cart.cells) :: hp0 a ca m cm, 6⟩)
    (fun i => unseen (mapE Dt.cells cv a) (i.1.map (·.1))) ⟨[], by simp, by simp⟩ id (seen := fun i => i.1.map (·.1)) ?_ (fun i => by simp [List.lookup]) (fun i => by simp [lk_cons]) (fun i => by simp [lk_cons]) (fun i => by decide) (fun i e he => ?_) (fun i => Nat.le_refl _) (fun i hall => ?_) (fun i e he hs => ?_))
  · exact Weak.mk (And.intro (show flc cart [] = [] from rfl) (And.intro (fun q => cmap_ok q a) (And.intro (fun q => omap_ok q m) (And.intro (fun r => cmap_ren r a) (fun r => omap_ren r m)))))
  · obtain ⟨x, hx, rfl⟩ := mapE_mem he
    exact hw.old x hx
  · obtain ⟨xs, p1, p2⟩ := i
    dsimp only at *
    have hsub : xs.length ≤ a.length := by
      have := p2.length_le_of_subset (l₂ := a.map (·.1)) (fun t ht => by
        obtain ⟨x, hx, rfl⟩ := List.mem_map.1 ht
        exact List.mem_map.2 ⟨x, p1 x hx, rfl⟩)
      simpa using this
    have hperm : (flc cart xs).Perm (flc cart a) := by
      refine (List.Perm.map _ ?_).filter _
      have hnd : xs.Nodup := List.Pairwise.of_map (S := fun x y => x ≠ y) (·.1) (fun x y h e => h (by rw [e])) p2
      have hnda : a.Nodup := List.Pairwise.of_map (S := fun x y => x ≠ y) (·.1) (fun x y h e => h (by rw [e])) hw.times
      refine (List.perm_ext_iff_of_nodup hnd hnda).2 fun x => ⟨p1 x, fun hx => ?_⟩
      have := hall _ (List.mem_map.2 ⟨x, hx, rfl⟩)
      simp only [List.contains_iff_mem] at this
      obtain ⟨z, hz, e⟩ := List.mem_map.1 this
      have : z = x := MM.time_inj hw.times (p1 z hz) hx e
      rw [← this]; exact hz
    have hlen := flc_len cart xs
    have hinj : ∀ c d, c ∈ flc cart xs → d ∈ flc cart xs → c.dot = d.dot → c = d := fun c d hc hd e => by
      obtain ⟨x, hx, rfl⟩ := List.mem_map.1 (List.mem_filter.1 hc).1
      obtain ⟨y, hy, rfl⟩ := List.mem_map.1 (List.mem_filter.1 hd).1
      rw [hk.inj hw.keys (p1 x hx) (p1 y hy) e]
    have hS : Cr.sorted (flc cart xs) = allOf a cart := by
      refine Cr.sorted_unique (l := flc cart a) (fun c d hc hd e => ?_) ((Cr.sorted_perm _).trans hperm) (Cr.sorted_pairwise _)
      exact hinj c d (hperm.mem_iff.2 hc) (hperm.mem_iff.2 hd) e
    have hSl : (flc cart xs).length = (allOf a cart).length := by rw [← hS, (Cr.sorted_perm _).length_eq]
    refine ⟨⟨[(5, .gs 4 (flc cart xs).length)], (4, .arr 41 11 (flc cart xs).length (crc (flc cart xs))) :: hp0 a ca m cm, 6⟩, id, Weak.mk (And.intro (fun q => cmap_ok q a) (And.intro (fun q => omap_ok q m) (And.intro (fun r => cmap_ren r a) (fun r => omap_ren r m)))), ?_⟩
    rw [if_pos rfl]
    have hcs : SCd Try.prog 100 [.gs 4 (flc cart xs).length, .fn (.func tree_Tree_All_1.f) [] []] [(4, .arr 41 11 (flc cart xs).length (crc (flc cart xs)))] 6 0 (.tup []) [(4, .arr 41 11 (flc cart xs).length (crc (Cr.sorted (flc cart xs))))] := crsort_at 4 (flc cart xs) hinj (by omega) 6
    rw [hS] at hcs
    generalize flc cart xs = R at hcs hSl
    refine SW.seq ?_
    (refine SW.regL [0, 1, 3, 4, 5, 7, 9, 14, 16, 22] mixed ?_; (repeat (first | refine RW.ro bq_tt (h := ?_) | refine RW.skip (h := ?_) | refine RW.op bq_tt (h := ?_) | refine RW.opN bq_tt (h := ?_) | refine RW.skip0 (h := ?_) | (refine RW.callC (h := ?_); (first | refine CallP.mk bq_tt (hc := hcs) (h := ?_))))); refine RW.nil ⟨by kernel_rfl, Pruned.mk (h := ?_)⟩)
    refine SW.seq ?_
    (refine SW.regL [0, 1, 3, 4, 5, 7, 9, 14, 16, 22] mixed ?_; (repeat (first | refine RW.ro bq_tt (h := ?_) | refine RW.skip (h := ?_) | refine RW.op bq_tt (h := ?_) | refine RW.opN bq_tt (h := ?_) | refine RW.skip0 (h := ?_) | (refine RW.callC (h := ?_); (first | refine CallP.mk bq_tt (hc := hcs) (h := ?_))))); refine RW.nil ⟨by kernel_rfl, Pruned.mk (h := ?_)⟩)
    refine SW.freeze 4 ((allOf a cart).flatMap Cr.ds) rfl rfl (SW.ret ?_)
    rw [hSl]
    exact End.mk (hp0 a ca m cm) (h3 := fun _ _ h => h) (h4 := ⟨by simp [retV, SV.frz], rfl⟩) (h5 := by simp [retV, SV.frz, SV.ok, SV.oks]) (h6 := hp0_ok a ca m cm (by omega))
  · obtain ⟨xs, p1, p2⟩ := i
    dsimp only at *
    obtain ⟨x, hx, rfl⟩ := mapE_mem he
    dsimp only at hs
    have g5 : (xs.map (·.1) ++ [x.1]).getLast? = some x.1 := by simp
    have g6 := mapE_find (kc := Dt.cells) (vs := cv) hw.times hx
    have hxt : x.1 ∉ xs.map (·.1) := fun h => by
      have : (xs.map (·.1)).contains x.1 = true := by simpa only [List.contains_iff_mem] using h
      rw [this] at hs; cases hs
    have q1 : ∀ z, z ∈ xs ++ [x] → z ∈ a := fun z hz => by
      rcases List.mem_append.1 hz with hz | hz
      · exact p1 z hz
      · rw [List.mem_singleton.1 hz]; exact hx
    have q2 : ((xs ++ [x]).map (·.1)).Nodup := by
      rw [List.map_append, List.nodup_append]
      refine ⟨p2, by simp, fun a ha b' hb' => ?_⟩
      simp only [List.map_cons, List.map_nil, List.mem_singleton] at hb'
      intro e
      exact hxt (by rw [← hb', ← e]; exact ha)
    have hsub2 : (xs ++ [x]).length ≤ a.length := by
      have := q2.length_le_of_subset (l₂ := a.map (·.1)) (fun t ht => by
        obtain ⟨z, hz, rfl⟩ := List.mem_map.1 ht
        exact List.mem_map.2 ⟨z, q1 z hz, rfl⟩)
      simpa using this
    have hlen := flc_len cart xs
    have hxl : xs.length < 1000000 := by simp at hsub2; omega
    have em : (xs ++ [x]).map (·.1) = xs.map (·.1) ++ [x.1] := by simp
    have hm := unseen_lt he hs
    rw [hset_head]
    dsimp only
    have hsn := flc_snoc cart xs x
    have ecv : ∀ c, cv c = .agg c.cells := fun _ => rfl
    have edt : ∀ c : Cr, datas c.cells = some c.ds := fun _ => rfl
    refine SW.block (SW.seq ?_)
    (have fx := (And.intro (g5) (And.intro (g6) (ecv))); refine SW.regL [0, 1, 3, 4, 5, 7, 9, 14, 16, 22] mixed ?_; (repeat (first | refine RW.ro fx (h := ?_) | refine RW.skip (h := ?_) | refine RW.op fx (h := ?_) | refine RW.opN fx (h := ?_) | refine RW.skip0 (h := ?_))); refine RW.nil ⟨by kernel_rfl, Pruned.mk (h := ?_)⟩)
    rcases hc : decide (x.2.2.cart = cart) with _ | _
    · rw [if_neg (by simpa using hc)] at hsn
      refine SW.seq ?_
      (refine SW.regL [0, 1, 3, 4, 5, 7, 9, 14, 16, 22] mixed ?_; (repeat (first | refine RW.ro (hc) (h := ?_) | refine RW.skip (h := ?_) | refine RW.op (hc) (h := ?_) | refine RW.opN (hc) (h := ?_) | refine RW.skip0 (h := ?_))); refine RW.nil ⟨by kernel_rfl, Pruned.mk (h := ?_)⟩)
      refine SW.condF rfl (SW.skip ?_)
      exact ⟨⟨xs ++ [x], q1, q2⟩, id, by rw [em]; exact hm, Weak.mk (And.intro hsn (And.intro em (And.intro (fun q => cmap_ok q a) (And.intro (fun q => omap_ok q m) (And.intro (fun r => cmap_ren r a) (fun r => omap_ren r m))))))⟩
    · rw [if_pos (by simpa using hc)] at hsn
      refine SW.seq ?_
      (refine SW.regL [0, 1, 3, 4, 5, 7, 9, 14, 16, 22] mixed ?_; (repeat (first | refine RW.ro (hc) (h := ?_) | refine RW.skip (h := ?_) | refine RW.op (hc) (h := ?_) | refine RW.opN (hc) (h := ?_) | refine RW.skip0 (h := ?_))); refine RW.nil ⟨by kernel_rfl, Pruned.mk (h := ?_)⟩)
      refine SW.condT rfl ?_
      (refine SW.regL [0, 1, 3, 4, 5, 7, 9, 14, 16, 22] mixed ?_; (repeat (first | refine RW.ro (edt) (h := ?_) | refine RW.skip (h := ?_) | refine RW.op (edt) (h := ?_) | refine RW.opN (edt) (h := ?_) | refine RW.skip0 (h := ?_))); refine RW.nil ⟨by kernel_rfl, Pruned.mk (h := ?_)⟩)
      refine ⟨⟨xs ++ [x], q1, q2⟩, fun n => if n = 4 then 7 else n, by rw [em]; exact hm, ⟨by show 3 ≤ 6; decide, fun n hn => if_neg (by omega), ?_, ?_, ?_⟩⟩
      · simp [EnvW, List.lookup, SV.ren, SV.ok, hsn]
      · simp [HpW, lk, List.lookup, Ob.ren, SV.rens, SV.ren, SV.rens_d, SV.oks_d, Ob.ok, SV.oks, SV.ok, Dt.cells_ren, Dt.cells_ok, cmap_ren, cmap_ok, omap_ren, omap_ok, hsn, em, Cr.map_ds]
      · intro u hu v hv e
        simp only [List.map_cons, List.map_nil, List.mem_cons, List.not_mem_nil, or_false] at hu hv
        rcases hu with rfl | rfl | rfl | rfl | rfl | rfl <;> rcases hv with rfl | rfl | rfl | rfl | rfl | rfl <;> simp at e <;> rfl
theorem all_at {T : Tr} (hs : T.sep) (hw : MM.wf T.at_ T.ca) (hk : Keyed T.at_) (ha : T.at_.length < 1000000) (cart : Dt) (k : Nat) : SCd Try.prog tree_Tree_All.f [.ptr T.bx 0, .agg cart.cells] T.hp k 0 (crs (allOf T.at_ cart)) T.hp := by
  have h := SB.atL [T.bx, T.ma, T.mm] (all_sb T.at_ T.ca T.made T.cm hw hk ha cart) (Tr.nd3 hs) (hp0_ne _ _ _ _) k
  rw [hp0_ren] at h
  simp only [SV.rens, SV.ren, Dt.cells_ren] at h
  exact h
end Go.Proofs.Ytmmonbnlleeloaa

/-
  Trees of credentials: who holds what.
-/
set_option linter.unusedSectionVars false
set_option linter.unusedVariables false
set_option linter.unusedSimpArgs false
namespace Go.Proofs.Ytmmonbnlleeloaa
open Go.Sl Go.Proofs
attribute [local irreducible] SW RW SCd SC CallP Pruned

/-- The dots of those that somebody holds. -/
def heldOf (l : List Cr) (who : Nat) : List Dt := (l.filter fun c => decide (c.hold = who)).map (·.dot)
theorem heldOf_snoc (l : List Cr) (c : Cr) (who : Nat) : heldOf (l ++ [c]) who = if c.hold = who then heldOf l who ++ [c.dot] else heldOf l who := by
  unfold heldOf
  rw [List.filter_append]
  by_cases h : c.hold = who <;> simp [h]
theorem heldOf_len (l : List Cr) (who : Nat) : (heldOf l who).length ≤ l.length := by
  unfold heldOf; rw [List.length_map]; exact List.length_filter_le _ _
set_option maxHeartbeats 4000000 in
theorem held_sb (a : MM Dt Cr) (ca : Nat) (m : MM Dt OpD) (cm : Nat) (hw : MM.wf a ca) (hk : Keyed a) (ha : a.length < 1000000) (cart : Dt) (who : Nat) :
    SB Try.prog tree_Tree_Held.f [.ptr 0 0, .agg cart.cells, u32 who] (hp0 a ca m cm) 3 0 (fun r F' => r = dots (heldOf (allOf a cart) who) ∧ F' = hp0 a ca m cm) := by
  have hall : ∀ k, SCd Try.prog tree_Tree_All.f [.ptr 0 0, .agg cart.cells] (hp0 a ca m cm) k 0 (crs (allOf a cart)) (hp0 a ca m cm) := fun k => all_at (tr0_sep a ca m cm) hw hk ha cart k
  have hlen := allOf_len a cart
  generalize hA : allOf a cart = A at hall hlen ⊢
  refine tree_Tree_Held.enter (by simp [SV.oks, SV.ok]) (hp0_ok a ca m cm (Nat.le_refl 3)) (by simp) ?_
  unfold tree_Tree_Held.s
  refine SW.seq ?_
  (refine SW.regL [0, 1, 2, 4, 6, 7, 9, 12, 13, 14, 15, 21] mixed ?_; (repeat (first | refine RW.ro bq_tt (h := ?_) | refine RW.skip (h := ?_) | refine RW.op bq_tt (h := ?_) | refine RW.opN bq_tt (h := ?_) | refine RW.skip0 (h := ?_) | (refine RW.callC (h := ?_); (first | refine CallP.mk bq_tt (hc := hall _) (h := ?_))))); refine RW.nil ⟨by kernel_rfl, Pruned.mk (h := ?_)⟩)
  refine SW.seq ?_
  (refine SW.regL [0, 1, 2, 4, 6, 7, 9, 12, 13, 14, 15, 21] mixed ?_; (repeat (first | refine RW.ro bq_tt (h := ?_) | refine RW.skip (h := ?_) | refine RW.op bq_tt (h := ?_) | refine RW.opN bq_tt (h := ?_) | refine RW.skip0 (h := ?_) | (refine RW.callC (h := ?_); (first | refine CallP.mk bq_tt (hc := hall _) (h := ?_))))); refine RW.nil ⟨by kernel_rfl, Pruned.mk (h := ?_)⟩)
  refine SW.nilrow 7 33 2 rfl ?_
  refine SW.seq (SW.seq ?_)
  (refine SW.regL [0, 1, 2, 4, 6, 7, 9, 12, 13, 14, 15, 21] mixed ?_; (repeat (first | refine RW.ro bq_tt (h := ?_) | refine RW.skip (h := ?_) | refine RW.op bq_tt (h := ?_) | refine RW.opN bq_tt (h := ?_) | refine RW.skip0 (h := ?_) | (refine RW.callC (h := ?_); (first | refine CallP.mk bq_tt (hc := hall _) (h := ?_))))); refine RW.nil ⟨by kernel_rfl, Pruned.mk (h := ?_)⟩)
  refine SW.block ?_
  refine SW.loopA (α := {i : Nat // i ≤ A.length}) (fun i => ⟨[(14, i64 i.1), (12, crs A), (13, i64 A.length), (2, u32 who), (7, .gs 4 (heldOf (A.take i.1) who).length)], (4, .arr 33 2 (heldOf (A.take i.1) who).length (((heldOf (A.take i.1) who).flatMap Dt.ds).map .d)) :: hp0 a ca m cm, 5⟩) (fun i => A.length - i.1) ⟨0, by omega⟩ id (And.intro (show heldOf [] who = [] from rfl) (mapsF a m)) (round := ?_)
  rintro ⟨i, hi⟩
  dsimp only
  have hhl : (heldOf (A.take i) who).length ≤ i := Nat.le_trans (heldOf_len _ _) (by simp; omega)
  by_cases hil : i < A.length
  · obtain ⟨c, hc⟩ := get_of_lt hil
    have h1 : decide ((i : Int) < A.length) = true := by simp; exact hil
    have e1 : A.take (i + 1) = A.take i ++ [c] := take_snoc hc
    have e2 : IntKind.i64.wrap ((i : Int) + 1) = ((i + 1 : Nat) : Int) := wrap_i64 _ (by omega)
    have hsn := heldOf_snoc (A.take i) c who
    rw [← e1] at hsn
    have edt : ∀ d : Dt, datas d.cells = some d.ds := fun _ => rfl
    refine SW.seq ?_
    (refine SW.regL [0, 1, 2, 4, 6, 7, 9, 12, 13, 14, 15, 21] mixed ?_; (repeat (first | refine RW.ro (h1) (h := ?_) | refine RW.skip (h := ?_) | refine RW.op (h1) (h := ?_) | refine RW.opN (h1) (h := ?_) | refine RW.skip0 (h := ?_))); refine RW.nil ⟨by kernel_rfl, Pruned.mk (h := ?_)⟩)
    refine SW.seq (SW.condT rfl (SW.skip ?_))
    refine SW.seq (SW.block ?_)
    refine SW.seq ?_
    (refine SW.regL [0, 1, 2, 4, 6, 7, 9, 12, 13, 14, 15, 21] mixed ?_; (repeat (first | refine RW.ro (cr_at hc) (h := ?_) | refine RW.skip (h := ?_) | refine RW.op (cr_at hc) (h := ?_) | refine RW.opN (cr_at hc) (h := ?_) | refine RW.skip0 (h := ?_))); refine RW.nil ⟨by kernel_rfl, Pruned.mk (h := ?_)⟩)
    have e3 : ((c.hold : Int) == (who : Int)) = decide (c.hold = who) := by rw [Bool.eq_iff_iff, beq_iff_eq, decide_eq_true_eq]; omega
    rcases hd : decide (c.hold = who) with _ | _
    · rw [if_neg (by simpa using hd)] at hsn
      rw [hd] at e3
      refine SW.seq ?_
      (refine SW.regL [0, 1, 2, 4, 6, 7, 9, 12, 13, 14, 15, 21] mixed ?_; (repeat (first | refine RW.ro (e3) (h := ?_) | refine RW.skip (h := ?_) | refine RW.op (e3) (h := ?_) | refine RW.opN (e3) (h := ?_) | refine RW.skip0 (h := ?_))); refine RW.nil ⟨by kernel_rfl, Pruned.mk (h := ?_)⟩)
      refine SW.condF rfl (SW.skip ?_)
      (refine SW.regL [0, 1, 2, 4, 6, 7, 9, 12, 13, 14, 15, 21] mixed ?_; (repeat (first | refine RW.ro (e2) (h := ?_) | refine RW.skip (h := ?_) | refine RW.op (e2) (h := ?_) | refine RW.opN (e2) (h := ?_) | refine RW.skip0 (h := ?_))); refine RW.nil ⟨by kernel_rfl, Pruned.mk (h := ?_)⟩)
      dsimp only
      exact ⟨⟨i + 1, by omega⟩, id, by show A.length - (i + 1) < _; omega, Weak.mk (And.intro hsn (mapsF a m))⟩
    · rw [if_pos (by simpa using hd)] at hsn
      rw [hd] at e3
      refine SW.seq ?_
      (refine SW.regL [0, 1, 2, 4, 6, 7, 9, 12, 13, 14, 15, 21] mixed ?_; (repeat (first | refine RW.ro (e3) (h := ?_) | refine RW.skip (h := ?_) | refine RW.op (e3) (h := ?_) | refine RW.opN (e3) (h := ?_) | refine RW.skip0 (h := ?_))); refine RW.nil ⟨by kernel_rfl, Pruned.mk (h := ?_)⟩)
      refine SW.condT rfl ?_
      (refine SW.regL [0, 1, 2, 4, 6, 7, 9, 12, 13, 14, 15, 21] mixed ?_; (repeat (first | refine RW.ro (edt) (h := ?_) | refine RW.skip (h := ?_) | refine RW.op (edt) (h := ?_) | refine RW.opN (edt) (h := ?_) | refine RW.skip0 (h := ?_))); refine RW.nil ⟨by kernel_rfl, Pruned.mk (h := ?_)⟩)
      (refine SW.regL [0, 1, 2, 4, 6, 7, 9, 12, 13, 14, 15, 21] mixed ?_; (repeat (first | refine RW.ro (e2) (h := ?_) | refine RW.skip (h := ?_) | refine RW.op (e2) (h := ?_) | refine RW.opN (e2) (h := ?_) | refine RW.skip0 (h := ?_))); refine RW.nil ⟨by kernel_rfl, Pruned.mk (h := ?_)⟩)
      dsimp only
      refine ⟨⟨i + 1, by omega⟩, fun n => if n = 4 then 6 else n, by show A.length - (i + 1) < _; omega, ⟨by show 3 ≤ 5; decide, fun n hn => if_neg (by omega), ?_, ?_, ?_⟩⟩
      · simp [EnvW, List.lookup, SV.ren, SV.ok, hsn]
      · simp [HpW, lk, List.lookup, Ob.ren, SV.rens, SV.ren, SV.rens_d, SV.oks_d, Ob.ok, SV.oks, SV.ok, Dt.cells_ren, Dt.cells_ok, cmap_ren, cmap_ok, omap_ren, omap_ok, hsn, Dt.map_ds, SV.rens_append, SV.oks_append]
      · intro u hu v hv e
        simp only [List.map_cons, List.map_nil, List.mem_cons, List.not_mem_nil, or_false] at hu hv
        rcases hu with rfl | rfl | rfl | rfl <;> rcases hv with rfl | rfl | rfl | rfl <;> simp at e <;> rfl
  · have h1 : decide ((i : Int) < A.length) = false := by simp; omega
    have h2 : i = A.length := by omega
    refine SW.seq ?_
    (refine SW.regL [0, 1, 2, 4, 6, 7, 9, 12, 13, 14, 15, 21] mixed ?_; (repeat (first | refine RW.ro (h1) (h := ?_) | refine RW.skip (h := ?_) | refine RW.op (h1) (h := ?_) | refine RW.opN (h1) (h := ?_) | refine RW.skip0 (h := ?_))); refine RW.nil ⟨by kernel_rfl, Pruned.mk (h := ?_)⟩)
    refine SW.seq (SW.condF rfl (SW.exit ?_))
    rw [h2, List.take_length]
    refine SW.seq ?_
    (refine SW.regL [0, 1, 2, 4, 6, 7, 9, 12, 13, 14, 15, 21] mixed ?_; (repeat (first | refine RW.ro bq_tt (h := ?_) | refine RW.skip (h := ?_) | refine RW.op bq_tt (h := ?_) | refine RW.opN bq_tt (h := ?_) | refine RW.skip0 (h := ?_))); refine RW.nil ⟨by kernel_rfl, Pruned.mk (h := ?_)⟩)
    refine SW.freeze 4 ((heldOf A who).flatMap Dt.ds) rfl rfl (SW.ret ?_)
    exact End.mk (hp0 a ca m cm) (h3 := fun _ _ h => h) (h4 := ⟨by simp [retV, SV.frz], rfl⟩) (h5 := by simp [retV, SV.frz, SV.ok, SV.oks]) (h6 := hp0_ok a ca m cm (by omega))
theorem held_at {T : Tr} (hs : T.sep) (hw : MM.wf T.at_ T.ca) (hk : Keyed T.at_) (ha : T.at_.length < 1000000) (cart : Dt) (who : Nat) (k : Nat) : SCd Try.prog tree_Tree_Held.f [.ptr T.bx 0, .agg cart.cells, u32 who] T.hp k 0 (dots (heldOf (allOf T.at_ cart) who)) T.hp := by
  have h := SB.atL [T.bx, T.ma, T.mm] (held_sb T.at_ T.ca T.made T.cm hw hk ha cart who) (Tr.nd3 hs) (hp0_ne _ _ _ _) k
  rw [hp0_ren] at h
  simp only [SV.rens, SV.ren, Dt.cells_ren] at h
  exact h
end Go.Proofs.Ytmmonbnlleeloaa

/-
  Trees of credentials: the law of who holds what.
-/
set_option linter.unusedSectionVars false
set_option linter.unusedVariables false
set_option linter.unusedSimpArgs false
namespace Go.Proofs.Ytmmonbnlleeloaa
open Go.Sl Go.Proofs
attribute [local irreducible] SW RW SCd SC CallP Pruned

section
variable {l : List OpD} {a : MM Dt Cr} {ca : Nat} {m : MM Dt OpD} {cm : Nat} (h : Tn l a ca m cm)
include h
theorem Tn.keyed : Keyed a := h.tok.keyed h.wf.keys
theorem Tn.len : a.length ≤ l.length := by
  have hk := h.wf.keys
  have := hk.length_le_of_subset (l₂ := l.map (·.dot)) (fun d hd => by
    have hg : MM.has a d = true := MM.has_iff.2 hd
    obtain ⟨c, hc⟩ := Option.isSome_iff_exists.1 (show (MM.get a d).isSome = true from hg)
    obtain ⟨o, _, ho⟩ := h.tok.cr d c hc
    exact List.mem_map.2 ⟨o, findO_mem ho.fd, findO_dot ho.fd⟩)
  simpa [MM.keys] using this
theorem Tn.allC (hl : l.length < 1000) (cart : Dt) (k : Nat) : SCd Try.prog tree_Tree_All.f [.ptr 2 0, .agg cart.cells] (H2 a ca m cm) k 0 (crs (allOf a cart)) (H2 a ca m cm) := all_at h.sep h.wf h.keyed (by have := h.len; show a.length < _; omega) cart k
theorem Tn.heldC (hl : l.length < 1000) (cart : Dt) (who : Nat) (k : Nat) : SCd Try.prog tree_Tree_Held.f [.ptr 2 0, .agg cart.cells, .d (.int .u32 (who : Int))] (H2 a ca m cm) k 0 (dots (heldOf (allOf a cart) who)) (H2 a ca m cm) := held_at h.sep h.wf h.keyed (by have := h.len; show a.length < _; omega) cart who k
/-- Just one credential has a dot. -/
theorem Tn.one {d : Dt} {c x : Cr} (hc : MM.get a d = some c) {cart : Dt} (hx : x ∈ allOf a cart) (e : x.dot = c.dot) : x = c := by
  obtain ⟨⟨t, k, hm⟩, _⟩ := mem_allOf.1 hx
  obtain ⟨t', hm'⟩ := MM.get_mem hc
  have := h.keyed.inj h.wf.keys hm hm' e
  injection this with _ h2
  injection h2
theorem Tn.inAll {d : Dt} {c : Cr} (hc : MM.get a d = some c) (cart : Dt) : c ∈ allOf a cart ↔ c.cart = cart := by
  obtain ⟨t, hm⟩ := MM.get_mem hc
  rw [mem_allOf]
  exact ⟨fun h => h.2, fun h => ⟨⟨t, d, hm⟩, h⟩⟩
theorem Tn.inHeld {d : Dt} {c : Cr} (hc : MM.get a d = some c) (who : Nat) : decide (c.dot ∈ heldOf (allOf a c.cart) who) = decide (c.hold = who) := by
  rw [decide_eq_decide]
  unfold heldOf
  rw [List.mem_map]
  constructor
  · rintro ⟨x, hx, e⟩
    obtain ⟨h1, h2⟩ := List.mem_filter.1 hx
    rw [h.one hc h1 e] at h2
    simpa using h2
  · intro e
    exact ⟨c, List.mem_filter.2 ⟨(h.inAll hc _).2 rfl, by simpa using e⟩, rfl⟩
/-- How often a dot is told. -/
theorem Tn.count {d : Dt} {c : Cr} (hc : MM.get a d = some c) (cart : Dt) : (allOf a cart).countP (fun x => decide (x.dot = c.dot)) = if c.cart = cart then 1 else 0 := by
  have hnd : (allOf a cart).Nodup := by
    unfold allOf
    rw [(Cr.sorted_perm _).nodup_iff]
    refine List.Pairwise.filter _ ?_
    have hk0 : a.Pairwise (fun x y => x.2.1 ≠ y.2.1) := List.pairwise_map.1 h.wf.keys
    exact List.pairwise_map.2 (hk0.imp_of_mem fun {x y} hx hy hne e => hne (by rw [h.keyed.inj h.wf.keys hx hy (by rw [e])]))
  by_cases hcart : c.cart = cart
  · rw [if_pos hcart]
    have hm := (h.inAll hc cart).2 hcart
    have e : (allOf a cart).countP (fun x => decide (x.dot = c.dot)) = (allOf a cart).count c := by
      unfold List.count
      refine List.countP_congr fun x hx => ?_
      simp only [decide_eq_true_eq, beq_iff_eq]
      exact ⟨fun e => h.one hc hx e, fun e => by rw [e]⟩
    rw [e, hnd.count, if_pos hm]
  · rw [if_neg hcart, List.countP_eq_zero]
    intro x hx e
    have := h.one hc hx (by simpa using e)
    rw [this] at hx
    exact hcart ((h.inAll hc cart).1 hx)
end
theorem TOk.hold {l : List OpD} {T : Tr} (h : TOk l T) (hw : ∀ x, x ∈ l → x.who < 4294967296 ∧ x.to < 4294967296) {d : Dt} {c : Cr} (hc : MM.get T.at_ d = some c) : c.hold < 4294967296 := by
  obtain ⟨o, _, ho⟩ := h.cr d c hc
  rcases ho.how with ⟨_, _, e⟩ | ⟨p, q, h1, h2, hb⟩
  · rw [e]; exact (hw o (findO_mem ho.fd)).1
  · rw [hb.is]; exact (hw o (findO_mem ho.fd)).2
theorem next_who (n : Nat) (h : n < 4294967296) : ∃ w : Nat, IntKind.u32.wrap ((n + 1 : Nat) : Int) = w ∧ n ≠ w := by
  by_cases e : n + 1 < 4294967296
  · exact ⟨n + 1, wrap_u32 _ e, by omega⟩
  · have : n = 4294967295 := by omega
    subst this
    exact ⟨0, rfl, by omega⟩
def cntD (l : List Cr) (d : Dt) : Nat := l.countP (fun x => decide (x.dot = d))
theorem cntD_snoc (l : List Cr) (x : Cr) (d : Dt) : cntD (l ++ [x]) d = if x.dot = d then cntD l d + 1 else cntD l d := by
  unfold cntD
  rw [List.countP_append]
  by_cases h : x.dot = d <;> simp [h]

theorem cr_dot {l : List Cr} {i : Nat} {x : Cr} (h : l[i]? = some x) : List.take 2 (List.drop (i * 11) (List.map SV.d (l.flatMap Cr.ds))) = x.dot.cells := by
  have := cr_part h (j := 0) (n := 2) (by omega)
  rw [Nat.add_zero, List.drop_zero, Cr.gDot] at this
  exact this
theorem cr_room {l : List Cr} {i : Nat} {x : Cr} (h : l[i]? = some x) : (i * 11 + 2 ≤ (List.map SV.d (l.flatMap Cr.ds)).length) = True := eq_true (by
  have := lt_of_get h
  rw [List.length_map, crs_len]
  omega)
end Go.Proofs.Ytmmonbnlleeloaa
