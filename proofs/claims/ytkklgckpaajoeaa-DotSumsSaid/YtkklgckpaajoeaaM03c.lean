/-
  Dots: slices.SortedFunc(maps.Keys(s), Compare), Sort.
-/
import Derived.Test.YtkklgckpaajoeaaM03b
set_option linter.unusedSectionVars false
set_option linter.unusedVariables false
set_option linter.unusedSimpArgs false
namespace Go.Proofs.Ytkklgckpaajoeaa
open Go.Sl Go.Proofs Go.Sort
attribute [local irreducible] SW RW SCd SC CallP Pruned

theorem mapH_out (L : DMap) (c n : Nat) (h : decide (n < 2) = true) : lk (mapH 0 1 L c) n ≠ none := by
  match n, h with
  | 0, _ | 1, _ => simp [mapH, lk_cons]
  | n + 2, h => have : n + 2 < 2 := by simpa using h
                omega
theorem mapH_ok (q : Nat → Bool) (b m : Nat) (L : DMap) (c : Nat) (hb : q b = true) (hm : q m = true) : (mapH b m L c).ok q = true := by
  simp [mapH, Hp.ok, Ob.ok, SV.oks, SV.ok, dmap_ok, hb, hm]

theorem appendSeq_at {L : DMap} {c : Nat} (hwf : MM.wf L c) (hL : L.length < 1000000000) :
    SC Try.prog slices_AppendSeq_Lapi_Dot_api_Dot.f [.d .nils, .fn (.func maps_Keys_dot_set_api_Dot_int_1.f) [] [.ptr 0 0]] (mapH 0 1 L c) 2 1
      fun r F => r = .gs 2 L.length ∧ ∃ l : List Dt, l.Perm (MM.keys L) ∧ F = (2, .arr 24 2 L.length ((l.flatMap Dt.ds).map .d)) :: mapH 0 1 L c :=
  (appendSeq_ok hwf hL).here (fun n => decide (n < 2)) (mapH_out L c) (by simp [SV.oks, SV.ok]) (mapH_ok _ _ _ _ _ rfl rfl) fun r F' _ h1 h2 => ⟨SV.ok_more (fun n hn => by simp at hn ⊢; omega) _ h1, Hp.ok_mono (fun n hn => by simp at hn ⊢; omega) h2⟩

theorem collect_ok {L : DMap} {c : Nat} (hwf : MM.wf L c) (hL : L.length < 1000000000) :
    SB Try.prog slices_Collect_api_Dot.f [.fn (.func maps_Keys_dot_set_api_Dot_int_1.f) [] [.ptr 0 0]] (mapH 0 1 L c) 2 1
      fun r F => r = .gs 2 L.length ∧ ∃ l : List Dt, l.Perm (MM.keys L) ∧ F = (2, .arr 24 2 L.length ((l.flatMap Dt.ds).map .d)) :: mapH 0 1 L c := by
  refine slices_Collect_api_Dot.enter (by simp [SV.ok, SV.oks]) (mapH_ok _ _ _ _ _ rfl rfl) (by simp) ?_
  unfold slices_Collect_api_Dot.s
  refine SW.seq ?_
  (refine SW.regL [0, 2] mixed ?_; (repeat (first | refine RW.ro bq_tt (h := ?_) | refine RW.skip (h := ?_) | refine RW.op bq_tt (h := ?_) | refine RW.opN bq_tt (h := ?_) | refine RW.skip0 (h := ?_))); refine RW.nil ⟨by kernel_rfl, Pruned.mk (h := ?_)⟩)
  refine SW.seq (SW.ofN ?_)
  (repeat (first | refine SWn.op bq_tt (h := ?_) | refine SWn.opN bq_tt (h := ?_) | refine SWn.skip (h := ?_)))
  refine SWn.callC (appendSeq_at hwf hL) (fun _ _ h => h) (h := ?_)
  rintro v F' ⟨rfl, l, hl, rfl⟩
  simp only [hmrg, hsets, hdels, hset, hrep, hdel, lk, List.lookup, Nat.reduceBEq, BEq.rfl, beq_self_eq_true, if_true, if_false, reduceIte, Nat.reduceEqDiff, Bool.false_eq_true, Option.isSome_some, Option.isSome_none, Nat.reduceAdd, mapH]
  (repeat (first | refine SWn.op bq_tt (h := ?_) | refine SWn.opN bq_tt (h := ?_) | refine SWn.skip (h := ?_)))
  refine SWn.nil (SW.ret ?_)
  exact End.mk ((2, .arr 24 2 L.length ((l.flatMap Dt.ds).map .d)) :: mapH 0 1 L c) (h4 := ⟨rfl, l, hl, rfl⟩) (h6 := by simp [mapH, Hp.ok, Ob.ok, SV.oks, SV.ok, SV.oks_d, dmap_ok])
theorem collect_at {L : DMap} {c : Nat} (hwf : MM.wf L c) (hL : L.length < 1000000000) :
    SC Try.prog slices_Collect_api_Dot.f [.fn (.func maps_Keys_dot_set_api_Dot_int_1.f) [] [.ptr 0 0]] (mapH 0 1 L c) 2 1
      fun r F => r = .gs 2 L.length ∧ ∃ l : List Dt, l.Perm (MM.keys L) ∧ F = (2, .arr 24 2 L.length ((l.flatMap Dt.ds).map .d)) :: mapH 0 1 L c :=
  (collect_ok hwf hL).here (fun n => decide (n < 2)) (mapH_out L c) (by simp [SV.oks, SV.ok]) (mapH_ok _ _ _ _ _ rfl rfl) fun r F' _ h1 h2 => ⟨SV.ok_more (fun n hn => by simp at hn ⊢; omega) _ h1, Hp.ok_mono (fun n hn => by simp at hn ⊢; omega) h2⟩

theorem sortedFunc_ok {L : DMap} {c : Nat} (hwf : MM.wf L c) (hL : L.length < 1000000000) :
    SB Try.prog slices_SortedFunc_api_Dot.f [.fn (.func maps_Keys_dot_set_api_Dot_int_1.f) [] [.ptr 0 0], .fn (.func dot_Compare.f) [] []] (mapH 0 1 L c) 2 0
      fun r F => r = dots (Dt.sorted (MM.keys L)) ∧ F = mapH 0 1 L c := by
  refine slices_SortedFunc_api_Dot.enter (by simp [SV.ok, SV.oks]) (mapH_ok _ _ _ _ _ rfl rfl) (by simp) ?_
  unfold slices_SortedFunc_api_Dot.s
  refine SW.seq ?_
  (refine SW.regL [0, 1, 4, 5] mixed ?_; (repeat (first | refine RW.ro bq_tt (h := ?_) | refine RW.skip (h := ?_) | refine RW.op bq_tt (h := ?_) | refine RW.opN bq_tt (h := ?_) | refine RW.skip0 (h := ?_))); refine RW.nil ⟨by kernel_rfl, Pruned.mk (h := ?_)⟩)
  refine SW.seq (SW.ofN ?_)
  (repeat (first | refine SWn.op bq_tt (h := ?_) | refine SWn.opN bq_tt (h := ?_) | refine SWn.skip (h := ?_)))
  refine SWn.callC (collect_at hwf hL) (fun _ _ h => h) (h := ?_)
  rintro v F' ⟨rfl, l, hl, rfl⟩
  simp only [hmrg, hsets, hdels, hset, hrep, hdel, lk, List.lookup, Nat.reduceBEq, BEq.rfl, beq_self_eq_true, if_true, if_false, reduceIte, Nat.reduceEqDiff, Bool.false_eq_true, Option.isSome_some, Option.isSome_none, Nat.reduceAdd, mapH]
  (repeat (first | refine SWn.op bq_tt (h := ?_) | refine SWn.opN bq_tt (h := ?_) | refine SWn.skip (h := ?_)))
  refine SWn.nil ?_
  have hlen : l.length = L.length := by rw [hl.length_eq]; simp [MM.keys]
  refine SW.seq (SW.ofN ?_)
  (repeat (first | refine SWn.op bq_tt (h := ?_) | refine SWn.opN bq_tt (h := ?_) | refine SWn.skip (h := ?_)))
  rw [← hlen]
  refine SWn.callD bq_tt (sortFunc_at 2 l (by omega) 3) (h := ?_)
  refine SWn.nil ?_
  refine SW.seq ?_
  (refine SW.regL [0, 1, 4, 5] mixed ?_; (repeat (first | refine RW.ro bq_tt (h := ?_) | refine RW.skip (h := ?_) | refine RW.op bq_tt (h := ?_) | refine RW.opN bq_tt (h := ?_) | refine RW.skip0 (h := ?_))); refine RW.nil ⟨by kernel_rfl, Pruned.mk (h := ?_)⟩)
  have hsl : (Dt.sorted l).length = l.length := (Dt.sorted_perm l).length_eq
  have hse : Dt.sorted l = Dt.sorted (MM.keys L) := Dt.sorted_unique ((Dt.sorted_perm l).trans hl) (Dt.sorted_pairwise l)
  refine SW.weak id (st1 := ⟨[(4, .gs 2 l.length)], [(2, .arr 24 2 l.length (((Dt.sorted l).flatMap Dt.ds).map .d)), (0, .box 56 [.mp 1]), (1, .map (mapE Dt.cells iv L) c)], 3⟩) (Weak.same (by simp) (by simp [EnvW, List.lookup, SV.ren, SV.ok]) (by simp [Hp.ok, Ob.ok, SV.oks, SV.ok, SV.oks_d, dmap_ok]) (by simp [lk_cons])) ?_
  refine SW.freeze 2 ((Dt.sorted l).flatMap Dt.ds) rfl rfl ?_
  have e1 : frzE 2 l.length ((Dt.sorted l).flatMap Dt.ds) [(4, .gs 2 l.length)] = [(4, dots (Dt.sorted (MM.keys L)))] := by
    rw [← hse]
    simp only [frzE, List.map_cons, List.map_nil, SV.frz, if_true, dots, hsl]
  show Go.Sl.SW _ _ _ _ ⟨frzE 2 l.length ((Dt.sorted l).flatMap Dt.ds) [(4, .gs 2 l.length)], mapH 0 1 L c, 3⟩ _
  rw [e1]
  refine SW.ret ?_
  exact End.mk (mapH 0 1 L c) (h3 := fun _ _ h => h) (h4 := ⟨rfl, rfl⟩) (h5 := rfl) (h6 := mapH_ok _ _ _ _ _ rfl rfl)

theorem sortedFunc_at {L : DMap} {c : Nat} (hwf : MM.wf L c) (hL : L.length < 1000000000) (k : Nat) (b m : Nat) (hbm : b ≠ m) :
    SCd Try.prog slices_SortedFunc_api_Dot.f [.fn (.func maps_Keys_dot_set_api_Dot_int_1.f) [] [.ptr b 0], .fn (.func dot_Compare.f) [] []] (mapH b m L c) k 0 (dots (Dt.sorted (MM.keys L))) (mapH b m L c) := by
  have h := SB.atL [b, m] (sortedFunc_ok hwf hL) (by simp [hbm]) (fun i hi => mapH_out L c i (by simpa using hi)) k
  simpa [SV.rens, SV.ren, atN, mapH, Hp.ren, Ob.ren, dmap_ren] using h

theorem keys_ok (L : DMap) (c : Nat) : SB Try.prog maps_Keys_dot_set_api_Dot_int.f [.mp 0] [(0, .map (mapE Dt.cells iv L) c)] 1 1 fun r F => r = .fn (.func maps_Keys_dot_set_api_Dot_int_1.f) [] [.ptr 1 0] ∧ F = [(1, .box 56 [.mp 0]), (0, .map (mapE Dt.cells iv L) c)] := by
  refine maps_Keys_dot_set_api_Dot_int.enter rfl (by simp [Hp.ok, Ob.ok, dmap_ok]) (by simp) ?_
  unfold maps_Keys_dot_set_api_Dot_int.s
  (repeat (first | refine SW.seq ?_ | refine SW.block ?_ | (refine SW.regL [0, 1, 2] mixed ?_; (repeat (first | refine RW.ro bq_tt (h := ?_) | refine RW.skip (h := ?_) | refine RW.op bq_tt (h := ?_) | refine RW.opN bq_tt (h := ?_) | refine RW.skip0 (h := ?_))); refine RW.nil ⟨by kernel_rfl, Pruned.mk (h := ?_)⟩) | refine SW.skip ?_ | refine SW.exit ?_ | refine SW.ret ?_ | refine SW.condT rfl ?_ | refine SW.condF rfl ?_))
  exact End.mk [(1, .box 56 [.mp 0]), (0, .map (mapE Dt.cells iv L) c)] (h4 := ⟨rfl, rfl⟩) (h6 := by simp [Hp.ok, Ob.ok, SV.oks, SV.ok, dmap_ok])
theorem keys_at (L : DMap) (c : Nat) (n k : Nat) : SCd Try.prog maps_Keys_dot_set_api_Dot_int.f [.mp n] [(n, .map (mapE Dt.cells iv L) c)] k 1 (.fn (.func maps_Keys_dot_set_api_Dot_int_1.f) [] [.ptr k 0]) [(k, .box 56 [.mp n]), (n, .map (mapE Dt.cells iv L) c)] := by
  have h := SB.atL [n] (keys_ok L c) (by simp) (fun i hi => by cases i with | zero => simp [lk_cons] | succ i => simp at hi) k
  simpa [SV.rens, SV.ren, atN, Hp.ren, Ob.ren, dmap_ren] using h

theorem list_ok {L : DMap} {c : Nat} (hwf : MM.wf L c) (hL : L.length < 1000000000) : SB Try.prog dot_set_list.f [.mp 0] [(0, .map (mapE Dt.cells iv L) c)] 1 0 fun r F => r = dots (Dt.sorted (MM.keys L)) ∧ F = [(0, .map (mapE Dt.cells iv L) c)] := by
  refine dot_set_list.enter rfl (by simp [Hp.ok, Ob.ok, dmap_ok]) (by simp) ?_
  unfold dot_set_list.s
  refine SW.seq ?_
  (refine SW.regL [0, 2] mixed ?_; (repeat (first | refine RW.ro bq_tt (h := ?_) | refine RW.skip (h := ?_) | refine RW.op bq_tt (h := ?_) | refine RW.opN bq_tt (h := ?_) | refine RW.skip0 (h := ?_))); refine RW.nil ⟨by kernel_rfl, Pruned.mk (h := ?_)⟩)
  refine SW.seq (SW.ofN ?_)
  (repeat (first | refine SWn.op bq_tt (h := ?_) | refine SWn.opN bq_tt (h := ?_) | refine SWn.skip (h := ?_)))
  refine SWn.callD bq_tt (keys_at L c 0 1) (h := ?_)
  refine SWn.callD bq_tt (sortedFunc_at hwf hL 2 1 0 (by decide)) (h := ?_)
  (repeat (first | refine SWn.op bq_tt (h := ?_) | refine SWn.opN bq_tt (h := ?_) | refine SWn.skip (h := ?_)))
  refine SWn.nil (SW.ret ?_)
  exact End.mk [(0, .map (mapE Dt.cells iv L) c)] (h4 := ⟨rfl, rfl⟩) (h6 := by simp [Hp.ok, Ob.ok, SV.oks, SV.ok, dmap_ok])
theorem list_at {L : DMap} {c : Nat} (hwf : MM.wf L c) (hL : L.length < 1000000000) (n k : Nat) : SCd Try.prog dot_set_list.f [.mp n] [(n, .map (mapE Dt.cells iv L) c)] k 0 (dots (Dt.sorted (MM.keys L))) [(n, .map (mapE Dt.cells iv L) c)] := by
  have h := SB.atL [n] (list_ok hwf hL) (by simp) (fun i hi => by cases i with | zero => simp [lk_cons] | succ i => simp at hi) k
  simpa [SV.rens, SV.ren, atN, Hp.ren, Ob.ren, dmap_ren] using h
end Go.Proofs.Ytkklgckpaajoeaa

/-
  Dots: rows as sets: Sort, Union, Both, Minus.
-/
set_option linter.unusedSectionVars false
set_option linter.unusedVariables false
set_option linter.unusedSimpArgs false
namespace Go.Proofs.Ytkklgckpaajoeaa
open Go.Sl Go.Proofs Go.Sort
attribute [local irreducible] SW RW SCd SC CallP Pruned

theorem snocRec {α : Type} {motive : List α → Prop} (nil : motive []) (snoc : ∀ l x, motive l → motive (l ++ [x])) (l : List α) : motive l := by
  have key : ∀ r : List α, motive r.reverse := fun r => by
    induction r with
    | nil => exact nil
    | cons x r ih => rw [List.reverse_cons]; exact snoc _ _ ih
  simpa using key l.reverse
theorem setM_wf (l : List Dt) : MM.wf (setM l).1 (setM l).2 := by
  induction l using snocRec with
  | nil => exact MM.wf_nil
  | snoc l d ih => rw [setM_snoc]; exact MM.wf_put ih d 1
theorem setM_has (l : List Dt) (d : Dt) : MM.has (setM l).1 d = decide (d ∈ l) := by
  induction l using snocRec with
  | nil => rfl
  | snoc l x ih => rw [setM_snoc, MM.has_put, ih, Bool.eq_iff_iff]; simp [or_comm]
theorem setM_get (l : List Dt) (d : Dt) : (MM.get (setM l).1 d).getD 0 = if d ∈ l then 1 else 0 := by
  induction l using snocRec with
  | nil => rfl
  | snoc l x ih =>
    rw [setM_snoc, MM.get_put]
    by_cases h : d = x
    · simp [h]
    · simp only [h, if_false, ih, List.mem_append, List.mem_singleton, or_false]
theorem setM_len (l : List Dt) : (setM l).1.length ≤ l.length := by
  induction l using snocRec with
  | nil => exact Nat.le_refl _
  | snoc l x ih =>
    rw [setM_snoc]
    have := congrArg List.length (MM.keys_put (L := (setM l).1) (c := (setM l).2) (a := x) (v := 1))
    simp only [MM.keys, List.length_map] at this
    rw [this]
    split <;> simp <;> omega
/-- A row as a set: each of its dots once, rising. -/
def Dt.set (l : List Dt) : List Dt := Dt.sorted (MM.keys (setM l).1)
/-- Rising. -/
def Dt.rises (l : List Dt) : Prop := l.Pairwise fun a b => Dt.cmp a b < 0
theorem Dt.rises_unique {l m : List Dt} (h1 : Dt.rises l) (h2 : Dt.rises m) (h : ∀ d, d ∈ l ↔ d ∈ m) : l = m := by
  have nd : ∀ {l : List Dt}, Dt.rises l → l.Nodup := fun h => h.imp fun {a b} hab e => by
    subst e; rw [(Dt.cmp_zero a a).2 rfl] at hab; omega
  refine List.Perm.eq_of_pairwise (le := fun a b => Dt.cmp a b < 0) (fun a b _ _ h1 h2 => ?_) h1 h2 ((List.perm_ext_iff_of_nodup (nd h1) (nd h2)).2 h)
  rw [Dt.cmp_swap] at h1; omega
theorem Dt.sorted_rises {l : List Dt} (h : l.Nodup) : Dt.rises (Dt.sorted l) := by
  have h1 := Dt.sorted_pairwise l
  have h2 : (Dt.sorted l).Nodup := (Dt.sorted_perm l).nodup_iff.2 h
  unfold Dt.rises
  have := h1.and h2
  refine this.imp fun {a b} hab => ?_
  obtain ⟨e1, e2⟩ := hab
  rw [Dt.le_iff] at e1
  rw [Dt.cmp_lt]
  obtain ⟨a1, a2⟩ := a
  obtain ⟨b1, b2⟩ := b
  simp only [ne_eq, Dt.mk.injEq] at *
  omega
theorem Dt.set_rises (l : List Dt) : Dt.rises (Dt.set l) := Dt.sorted_rises (setM_wf l).keys
theorem Dt.mem_set {l : List Dt} {d : Dt} : d ∈ Dt.set l ↔ d ∈ l := by
  unfold Dt.set
  rw [(Dt.sorted_perm _).mem_iff, ← MM.has_iff, setM_has]; simp
/-- Whatever map has the same dots, it is the same set. -/
theorem Dt.sorted_set {L : DMap} {c : Nat} (hwf : MM.wf L c) {l : List Dt} (h : ∀ d, MM.has L d = true ↔ d ∈ l) : Dt.sorted (MM.keys L) = Dt.set l :=
  Dt.rises_unique (Dt.sorted_rises hwf.keys) (Dt.set_rises l) fun d => by rw [(Dt.sorted_perm _).mem_iff, ← MM.has_iff, h, Dt.mem_set]

theorem setOf_at (l : List Dt) (hl : l.length < 4611686018427387904) (k : Nat) : SCd Try.prog dot_setOf.f [dots l] [] k 1 (.mp k) [(k, .map (mapE Dt.cells iv (setM l).1) (setM l).2)] := by
  have h := SB.new (setOf_ok l hl) k
  simpa [SV.ren, setH, Hp.ren, Ob.ren, dmap_ren, atN] using h

theorem sort_ok (l : List Dt) (hl : l.length < 1000000000) : Go.Sl.Pure Try.prog dot_Sort.f [dots l] (dots (Dt.set l)) := by
  refine dot_Sort.enter (by first | rfl | simp [SV.ok, SV.oks]) (by first | rfl | simp [Hp.ok, Ob.ok, SV.ok, SV.oks, Vec.cells_ok]) (by simp) ?_
  unfold dot_Sort.s
  refine SW.seq ?_
  (refine SW.regL [0, 2] mixed ?_; (repeat (first | refine RW.ro bq_tt (h := ?_) | refine RW.skip (h := ?_) | refine RW.op bq_tt (h := ?_) | refine RW.opN bq_tt (h := ?_) | refine RW.skip0 (h := ?_))); refine RW.nil ⟨by kernel_rfl, Pruned.mk (h := ?_)⟩)
  refine SW.seq (SW.ofN ?_)
  (repeat (first | refine SWn.op bq_tt (h := ?_) | refine SWn.opN bq_tt (h := ?_) | refine SWn.skip (h := ?_)))
  refine SWn.callD bq_tt (setOf_at l (by omega) 0) (h := ?_)
  refine SWn.callD bq_tt (list_at (setM_wf l) (Nat.lt_of_le_of_lt (setM_len l) hl) 0 1) (h := ?_)
  (repeat (first | refine SWn.op bq_tt (h := ?_) | refine SWn.opN bq_tt (h := ?_) | refine SWn.skip (h := ?_)))
  refine SWn.nil (SW.ret ?_)
  exact End.mk [] (h4 := ⟨rfl, rfl⟩)
theorem sort_at (l : List Dt) (hl : l.length < 1000000000) (k : Nat) : SCd Try.prog dot_Sort.f [dots l] [] k 0 (dots (Dt.set l)) [] := (sort_ok l hl).sc rfl k

/-! ### those that are in another set, or are not -/
def inB (L2 : DMap) (want : Bool) (d : Dt) : Bool := decide ((MM.get L2 d).getD 0 > 0) != want
theorem some1_ok (L2 : DMap) (c2 : Nat) (want : Bool) (d : Dt) (v : Int) : SB Try.prog dot_some_1.f [.agg d.cells, iv v, .ptr 0 0, .ptr 1 0] [(0, .box 56 [.mp 2]), (1, .box 4 [.d (.bool want)]), (2, .map (mapE Dt.cells iv L2) c2)] 3 0
    fun r F => r = bl (inB L2 want d) ∧ F = [(0, .box 56 [.mp 2]), (1, .box 4 [.d (.bool want)]), (2, .map (mapE Dt.cells iv L2) c2)] := by
  refine dot_some_1.enter rfl (by simp [Hp.ok, Ob.ok, SV.oks, SV.ok, dmap_ok]) (by simp) ?_
  unfold dot_some_1.s
  (repeat (first | refine SW.seq ?_ | refine SW.block ?_ | (refine SW.regL [0, 2, 3, 4, 6] mixed ?_; (repeat (first | refine RW.ro bq_tt (h := ?_) | refine RW.skip (h := ?_) | refine RW.op bq_tt (h := ?_) | refine RW.opN bq_tt (h := ?_) | refine RW.skip0 (h := ?_))); refine RW.nil ⟨by kernel_rfl, Pruned.mk (h := ?_)⟩) | refine SW.skip ?_ | refine SW.exit ?_ | refine SW.ret ?_ | refine SW.condT rfl ?_ | refine SW.condF rfl ?_))
  exact End.mk [(0, .box 56 [.mp 2]), (1, .box 4 [.d (.bool want)]), (2, .map (mapE Dt.cells iv L2) c2)] (h4 := ⟨by simp [retV, inB, bl, bne], rfl⟩) (h6 := by simp [Hp.ok, Ob.ok, SV.oks, SV.ok, dmap_ok])
theorem some1_at (L2 : DMap) (c2 : Nat) (want : Bool) (d : Dt) (v : Int) (a b m k : Nat) (hab : [a, b, m].Nodup) : SCd Try.prog dot_some_1.f [.agg d.cells, iv v, .ptr a 0, .ptr b 0] [(a, .box 56 [.mp m]), (b, .box 4 [.d (.bool want)]), (m, .map (mapE Dt.cells iv L2) c2)] k 0
    (bl (inB L2 want d)) [(a, .box 56 [.mp m]), (b, .box 4 [.d (.bool want)]), (m, .map (mapE Dt.cells iv L2) c2)] := by
  have h := SB.atL [a, b, m] (some1_ok L2 c2 want d v) hab (fun i hi => by
    match i, hi with
    | 0, _ | 1, _ | 2, _ => simp [lk_cons]
    | i + 3, hi => exact absurd hi (by simp)) k
  simpa [SV.rens, SV.ren, atN, Hp.ren, Ob.ren, dmap_ren, iv, bl, Dt.cells_ren] using h

theorem keyInj {K V : Type} [DecidableEq K] : ∀ {L : MM K V} (h : (MM.keys L).Nodup) {x y : Nat × K × V}, x ∈ L → y ∈ L → x.2.1 = y.2.1 → x = y
  | [], _, x, y, hx, _, _ => by cases hx
  | z :: L, h, x, y, hx, hy, e => by
    simp only [MM.keys, List.map_cons, List.nodup_cons] at h
    rcases List.mem_cons.1 hx with hx | hx <;> rcases List.mem_cons.1 hy with hy | hy
    · rw [hx, hy]
    · exact absurd (List.mem_map.2 ⟨y, hy, by rw [← e, hx]⟩) h.1
    · exact absurd (List.mem_map.2 ⟨x, hx, by rw [e, hy]⟩) h.1
    · exact keyInj (L := L) h.2 hx hy e
/-- What is left behind those that were seen. -/
def leftOf (L : DMap) (p : Dt → Bool) (xs : DMap) : DMap := L.filter fun x => !(decide (x ∈ xs) && p x.2.1)
theorem leftOf_snoc_no {L : DMap} {p : Dt → Bool} {xs : DMap} {x : Nat × Dt × Int} (h : p x.2.1 = false) : leftOf L p (xs ++ [x]) = leftOf L p xs := by
  unfold leftOf
  refine List.filter_congr fun y _ => ?_
  by_cases e : y = x
  · subst e; simp [h]
  · simp [e]
theorem leftOf_snoc_yes {L : DMap} {c : Nat} (hwf : MM.wf L c) {p : Dt → Bool} {xs : DMap} {x : Nat × Dt × Int} (hx : x ∈ L) (h : p x.2.1 = true) : MM.del (leftOf L p xs) x.2.1 = leftOf L p (xs ++ [x]) := by
  have hw : MM.wf (leftOf L p xs) c := MM.wf_filter hwf _
  rw [MM.del_filter hw.keys]
  unfold leftOf
  rw [List.filter_filter]
  refine List.filter_congr fun y hy => ?_
  have hyx : x.2.1 = y.2.1 ↔ y = x := by
    refine ⟨fun e => ?_, fun e => by rw [e]⟩
    obtain ⟨yt, yk, yv⟩ := y
    obtain ⟨xt, xk, xv⟩ := x
    simp only at e
    subst e
    have := MM.get_of_mem hwf.keys hx
    have h2 := MM.get_of_mem hwf.keys hy
    rw [this] at h2
    have hk := hwf.keys
    exact keyInj hk hy hx rfl
  by_cases e : y = x
  · subst e; simp [h]
  · have : ¬ x.2.1 = y.2.1 := fun h => e (hyx.1 h)
    simp [e, this]
theorem leftOf_all {L : DMap} {c : Nat} (hwf : MM.wf L c) {p : Dt → Bool} {xs : DMap} (hxs : ∀ x, x ∈ xs → x ∈ L) (h : ∀ e, e ∈ mapE Dt.cells iv (leftOf L p xs) → (xs.map (·.1)).contains e.1 = true) : leftOf L p xs = L.filter fun x => !p x.2.1 := by
  refine List.filter_congr fun x hx => ?_
  by_cases hp : p x.2.1 = true
  · have : x ∈ xs := Classical.byContradiction fun hn => by
      have := h (x.1, .agg x.2.1.cells, iv x.2.2) (List.mem_map.2 ⟨x, List.mem_filter.2 ⟨hx, by simp [hn]⟩, rfl⟩)
      simp only [List.contains_iff_mem] at this
      obtain ⟨z, hz, e⟩ := List.mem_map.1 this
      have : z = x := MM.time_inj hwf.times (hxs z hz) hx e
      rw [this] at hz; exact hn hz
    simp [hp, this]
  · simp [hp]

set_option maxHeartbeats 1000000 in
theorem deleteFunc_ok {L : DMap} {c : Nat} (hwf : MM.wf L c) (L2 : DMap) (c2 : Nat) (want : Bool) : SB Try.prog maps_DeleteFunc_dot_set_api_Dot_int.f [.mp 0, .fn (.func dot_some_1.f) [] [.ptr 1 0, .ptr 2 0]]
    [(0, .map (mapE Dt.cells iv L) c), (1, .box 56 [.mp 3]), (2, .box 4 [.d (.bool want)]), (3, .map (mapE Dt.cells iv L2) c2)] 4 0
    fun r F => r = .tup [] ∧ F = [(0, .map (mapE Dt.cells iv (L.filter fun x => !inB L2 want x.2.1)) c), (1, .box 56 [.mp 3]), (2, .box 4 [.d (.bool want)]), (3, .map (mapE Dt.cells iv L2) c2)] := by
  refine maps_DeleteFunc_dot_set_api_Dot_int.enter (by simp [SV.oks, SV.ok]) (by simp [Hp.ok, Ob.ok, SV.oks, SV.ok, dmap_ok]) (by simp) ?_
  unfold maps_DeleteFunc_dot_set_api_Dot_int.s
  refine SW.seq ?_
  (refine SW.regL [0, 1, 4, 5, 7, 9, 16] mixed ?_; (repeat (first | refine RW.ro bq_tt (h := ?_) | refine RW.skip (h := ?_) | refine RW.op bq_tt (h := ?_) | refine RW.opN bq_tt (h := ?_) | refine RW.skip0 (h := ?_) | (refine RW.callC (h := ?_); (first | refine CallP.mk bq_tt (hc := some1_at _ _ _ _ _ _ _ _ _ (by decide)) (h := ?_))))); refine RW.nil ⟨by kernel_rfl, Pruned.mk (h := ?_)⟩)
  refine SW.block (SW.mapLoop (es := fun i => mapE Dt.cells iv (leftOf L (inB L2 want) i.1)) (c := fun _ => c) (nit := fun _ => 4) (nm := fun _ => 0) (since := fun _ => c) (sst := fun _ => c) (seen := fun i => i.1.map (·.1))
    (α := {xs : DMap // (∀ x, x ∈ xs → x ∈ L)})
    (fun i => ⟨[(7, .it 4), (0, .mp 0), (1, .fn (.func dot_some_1.f) [] [.ptr 1 0, .ptr 2 0])], [(4, .iter (some 0) c (i.1.map (·.1)) c), (0, .map (mapE Dt.cells iv (leftOf L (inB L2 want) i.1)) c), (1, .box 56 [.mp 3]), (2, .box 4 [.d (.bool want)]), (3, .map (mapE Dt.cells iv L2) c2)], 5⟩)
    (fun i => unseen (mapE Dt.cells iv L) (i.1.map (·.1))) ⟨[], by simp⟩ id ?_ (fun i => by simp [List.lookup]) (fun i => by simp [lk_cons]) (fun i => by simp [lk_cons]) (fun i => by decide) (fun i e he => ?_) (fun i => Nat.le_refl _) (fun i hall => ?_) (fun i e he hs => ?_))
  · have : leftOf L (inB L2 want) [] = L := by simp [leftOf]
    refine Weak.same (by simp) (by simp [EnvW, argE, List.lookup, SV.ren, SV.rens, SV.ok, SV.oks]) (by simp [Hp.ok, Ob.ok, SV.oks, SV.ok, dmap_ok]) (by simp [lk_cons, this])
  · obtain ⟨x, hx, rfl⟩ := mapE_mem he
    exact hwf.old x (List.mem_filter.1 hx).1
  · obtain ⟨xs, hxs⟩ := i
    dsimp only at hall ⊢
    rw [leftOf_all hwf hxs hall]
    refine ⟨⟨[], [(0, .map (mapE Dt.cells iv (L.filter fun x => !inB L2 want x.2.1)) c), (1, .box 56 [.mp 3]), (2, .box 4 [.d (.bool want)]), (3, .map (mapE Dt.cells iv L2) c2)], 5⟩, id, Weak.same (by simp) trivial (by simp [Hp.ok, Ob.ok, SV.oks, SV.ok, dmap_ok]) (by simp [lk_cons]), ?_⟩
    rw [if_pos rfl]
    exact End.mk _ (h3 := fun _ _ h => h) (h4 := ⟨rfl, rfl⟩) (h6 := by simp [Hp.ok, Ob.ok, SV.oks, SV.ok, dmap_ok])
  · obtain ⟨xs, hxs⟩ := i
    dsimp only at he hs ⊢
    obtain ⟨x, hx, rfl⟩ := mapE_mem he
    have hxL := (List.mem_filter.1 hx).1
    have hw : MM.wf (leftOf L (inB L2 want) xs) c := MM.wf_filter hwf _
    have g5 : (xs.map (·.1) ++ [x.1]).getLast? = some x.1 := by simp
    have g6 := mapE_find (kc := Dt.cells) (vs := iv) hw.times hx
    have hm : unseen (mapE Dt.cells iv L) (xs.map (·.1) ++ [x.1]) < unseen (mapE Dt.cells iv L) (xs.map (·.1)) := unseen_lt (e := (x.1, .agg x.2.1.cells, iv x.2.2)) (List.mem_map.2 ⟨x, hxL, rfl⟩) hs
    have hxs' : ∀ y, y ∈ xs ++ [x] → y ∈ L := fun y hy => by
      rcases List.mem_append.1 hy with h | h
      · exact hxs y h
      · rw [List.mem_singleton.1 h]; exact hxL
    rw [hset_head]
    dsimp only
    rcases hb : inB L2 want x.2.1 with _ | _
    · (repeat (first | refine SW.seq ?_ | refine SW.block ?_ | (refine SW.regL [0, 1, 4, 5, 7, 9, 16] mixed ?_; (repeat (first | refine RW.ro (And.intro (g5) (And.intro (g6) (hb))) (h := ?_) | refine RW.skip (h := ?_) | refine RW.op (And.intro (g5) (And.intro (g6) (hb))) (h := ?_) | refine RW.opN (And.intro (g5) (And.intro (g6) (hb))) (h := ?_) | refine RW.skip0 (h := ?_) | (refine RW.callC (h := ?_); (first | refine CallP.mk (And.intro (g5) (And.intro (g6) (hb))) (hc := some1_at _ _ _ _ _ _ _ _ _ (by decide)) (h := ?_))))); refine RW.nil ⟨by kernel_rfl, Pruned.mk (h := ?_)⟩) | refine SW.skip ?_ | refine SW.exit ?_ | refine SW.ret ?_ | refine SW.condT rfl ?_ | refine SW.condF rfl ?_))
      refine ⟨⟨xs ++ [x], hxs'⟩, id, by simpa using hm, Weak.same (by simp) (by simp [EnvW, List.lookup, SV.ren, SV.rens, SV.ok, SV.oks]) (by simp [Hp.ok, Ob.ok, SV.oks, SV.ok, dmap_ok]) (by simp [lk_cons, leftOf_snoc_no hb])⟩
    · have hd := leftOf_snoc_yes (xs := xs) hwf hxL hb
      (repeat (first | refine SW.seq ?_ | refine SW.block ?_ | (refine SW.regL [0, 1, 4, 5, 7, 9, 16] mixed ?_; (repeat (first | refine RW.ro (And.intro (g5) (And.intro (g6) (And.intro (hb) (hd)))) (h := ?_) | refine RW.skip (h := ?_) | refine RW.op (And.intro (g5) (And.intro (g6) (And.intro (hb) (hd)))) (h := ?_) | refine RW.opN (And.intro (g5) (And.intro (g6) (And.intro (hb) (hd)))) (h := ?_) | refine RW.skip0 (h := ?_) | (refine RW.callC (h := ?_); (first | refine CallP.mk (And.intro (g5) (And.intro (g6) (And.intro (hb) (hd)))) (hc := some1_at _ _ _ _ _ _ _ _ _ (by decide)) (h := ?_))))); refine RW.nil ⟨by kernel_rfl, Pruned.mk (h := ?_)⟩) | refine SW.skip ?_ | refine SW.exit ?_ | refine SW.ret ?_ | refine SW.condT rfl ?_ | refine SW.condF rfl ?_))
      refine ⟨⟨xs ++ [x], hxs'⟩, id, by simpa using hm, Weak.same (by simp) (by simp [EnvW, List.lookup, SV.ren, SV.rens, SV.ok, SV.oks]) (by simp [Hp.ok, Ob.ok, SV.oks, SV.ok, dmap_ok]) (by simp [lk_cons])⟩
end Go.Proofs.Ytkklgckpaajoeaa

/-
  Dots: Union, Both, Minus.
-/
set_option linter.unusedSectionVars false
set_option linter.unusedVariables false
set_option linter.unusedSimpArgs false
namespace Go.Proofs.Ytkklgckpaajoeaa
open Go.Sl Go.Proofs Go.Sort
attribute [local irreducible] SW RW SCd SC CallP Pruned

theorem deleteFunc_at {L : DMap} {c : Nat} (hwf : MM.wf L c) (L2 : DMap) (c2 : Nat) (want : Bool) (s a b m k : Nat) (hab : [s, a, b, m].Nodup) : SCd Try.prog maps_DeleteFunc_dot_set_api_Dot_int.f [.mp s, .fn (.func dot_some_1.f) [] [.ptr a 0, .ptr b 0]]
    [(s, .map (mapE Dt.cells iv L) c), (a, .box 56 [.mp m]), (b, .box 4 [.d (.bool want)]), (m, .map (mapE Dt.cells iv L2) c2)] k 0
    (.tup []) [(s, .map (mapE Dt.cells iv (L.filter fun x => !inB L2 want x.2.1)) c), (a, .box 56 [.mp m]), (b, .box 4 [.d (.bool want)]), (m, .map (mapE Dt.cells iv L2) c2)] := by
  have h := SB.atL [s, a, b, m] (deleteFunc_ok hwf L2 c2 want) hab (fun i hi => by
    match i, hi with
    | 0, _ | 1, _ | 2, _ | 3, _ => simp [lk_cons]
    | i + 4, hi => exact absurd hi (by simp)) k
  simpa [SV.rens, SV.ren, atN, Hp.ren, Ob.ren, dmap_ren] using h

theorem set_of_filter (a b : List Dt) (want : Bool) : Dt.sorted (MM.keys ((setM a).1.filter fun x => !inB (setM b).1 want x.2.1)) = Dt.set (a.filter fun d => decide (d ∈ b) == want) := by
  refine Dt.sorted_set (MM.wf_filter (setM_wf a) _) fun d => ?_
  rw [MM.has_iff, MM.keys, List.mem_map, List.mem_filter]
  have hin : ∀ d, inB (setM b).1 want d = (decide (d ∈ b) != want) := fun d => by
    unfold inB
    rw [setM_get]
    by_cases h : d ∈ b <;> simp [h]
  constructor
  · rintro ⟨x, hx, rfl⟩
    obtain ⟨h1, h2⟩ := List.mem_filter.1 hx
    have h3 : MM.has (setM a).1 x.2.1 = true := MM.has_iff.2 (List.mem_map.2 ⟨x, h1, rfl⟩)
    rw [setM_has] at h3
    refine ⟨by simpa using h3, ?_⟩
    rw [hin] at h2
    revert h2
    cases decide (x.2.1 ∈ b) <;> cases want <;> simp
  · rintro ⟨h1, h2⟩
    have h3 : MM.has (setM a).1 d = true := by rw [setM_has]; simpa using h1
    obtain ⟨x, hx, rfl⟩ := List.mem_map.1 (MM.has_iff.1 h3)
    refine ⟨x, List.mem_filter.2 ⟨hx, ?_⟩, rfl⟩
    rw [hin]
    revert h2
    cases decide (x.2.1 ∈ b) <;> cases want <;> simp

theorem some_ok (a b : List Dt) (want : Bool) (ha : a.length < 1000000000) (hb : b.length < 1000000000) : Go.Sl.Pure Try.prog dot_some.f [dots a, dots b, bl want] (dots (Dt.set (a.filter fun d => decide (d ∈ b) == want))) := by
  refine dot_some.enter (by first | rfl | simp [SV.ok, SV.oks]) (by first | rfl | simp [Hp.ok, Ob.ok, SV.ok, SV.oks, Vec.cells_ok]) (by simp) ?_
  unfold dot_some.s
  refine SW.seq ?_
  (refine SW.regL [0, 1, 2, 5, 6, 7, 8] mixed ?_; (repeat (first | refine RW.ro bq_tt (h := ?_) | refine RW.skip (h := ?_) | refine RW.op bq_tt (h := ?_) | refine RW.opN bq_tt (h := ?_) | refine RW.skip0 (h := ?_))); refine RW.nil ⟨by kernel_rfl, Pruned.mk (h := ?_)⟩)
  refine SW.seq (SW.ofN ?_)
  (repeat (first | refine SWn.op bq_tt (h := ?_) | refine SWn.opN bq_tt (h := ?_) | refine SWn.skip (h := ?_)))
  refine SWn.callD bq_tt (setOf_at a (by omega) 1) (h := ?_)
  (repeat (first | refine SWn.op bq_tt (h := ?_) | refine SWn.opN bq_tt (h := ?_) | refine SWn.skip (h := ?_)))
  refine SWn.callD bq_tt (setOf_at b (by omega) 2) (h := ?_)
  (repeat (first | refine SWn.op bq_tt (h := ?_) | refine SWn.opN bq_tt (h := ?_) | refine SWn.skip (h := ?_)))
  refine SWn.nil ?_
  refine SW.seq (SW.ofN ?_)
  (repeat (first | refine SWn.op bq_tt (h := ?_) | refine SWn.opN bq_tt (h := ?_) | refine SWn.skip (h := ?_)))
  refine SWn.callD bq_tt (deleteFunc_at (setM_wf a) (setM b).1 (setM b).2 want 1 3 0 2 4 (by decide)) (h := ?_)
  refine SWn.nil ?_
  refine SW.seq (SW.ofN ?_)
  (repeat (first | refine SWn.op bq_tt (h := ?_) | refine SWn.opN bq_tt (h := ?_) | refine SWn.skip (h := ?_)))
  have hl : ((setM a).1.filter fun x => !inB (setM b).1 want x.2.1).length < 1000000000 := Nat.lt_of_le_of_lt (Nat.le_trans (List.length_filter_le _ _) (setM_len a)) ha
  refine SWn.callD bq_tt (list_at (MM.wf_filter (setM_wf a) _) hl 1 4) (h := ?_)
  (repeat (first | refine SWn.op bq_tt (h := ?_) | refine SWn.opN bq_tt (h := ?_) | refine SWn.skip (h := ?_)))
  refine SWn.nil (SW.ret ?_)
  exact End.mk [] (h4 := ⟨by rw [set_of_filter]; rfl, rfl⟩)
theorem some_at (a b : List Dt) (want : Bool) (ha : a.length < 1000000000) (hb : b.length < 1000000000) (k : Nat) : SCd Try.prog dot_some.f [dots a, dots b, .d (.bool want)] [] k 0 (dots (Dt.set (a.filter fun d => decide (d ∈ b) == want))) [] := (some_ok a b want ha hb).sc rfl k
theorem both_ok (a b : List Dt) (ha : a.length < 1000000000) (hb : b.length < 1000000000) : Go.Sl.Pure Try.prog dot_Both.f [dots a, dots b] (dots (Dt.set (a.filter fun d => decide (d ∈ b) == true))) := by
  refine dot_Both.enter (by first | rfl | simp [SV.ok, SV.oks]) (by first | rfl | simp [Hp.ok, Ob.ok, SV.ok, SV.oks, Vec.cells_ok]) (by simp) ?_
  unfold dot_Both.s
  (repeat (first | refine SW.seq ?_ | refine SW.block ?_ | (refine SW.regL [0, 1, 4] mixed ?_; (repeat (first | refine RW.ro bq_tt (h := ?_) | refine RW.skip (h := ?_) | refine RW.op bq_tt (h := ?_) | refine RW.opN bq_tt (h := ?_) | refine RW.skip0 (h := ?_) | (refine RW.callC (h := ?_); (first | refine CallP.mk bq_tt (hc := some_at _ _ _ (by first | assumption | omega) (by first | assumption | omega) _) (h := ?_))))); refine RW.nil ⟨by kernel_rfl, Pruned.mk (h := ?_)⟩) | refine SW.skip ?_ | refine SW.exit ?_ | refine SW.ret ?_ | refine SW.condT rfl ?_ | refine SW.condF rfl ?_))
  exact End.mk [] (h4 := ⟨rfl, rfl⟩)
theorem minus_ok (a b : List Dt) (ha : a.length < 1000000000) (hb : b.length < 1000000000) : Go.Sl.Pure Try.prog dot_Minus.f [dots a, dots b] (dots (Dt.set (a.filter fun d => decide (d ∈ b) == false))) := by
  refine dot_Minus.enter (by first | rfl | simp [SV.ok, SV.oks]) (by first | rfl | simp [Hp.ok, Ob.ok, SV.ok, SV.oks, Vec.cells_ok]) (by simp) ?_
  unfold dot_Minus.s
  (repeat (first | refine SW.seq ?_ | refine SW.block ?_ | (refine SW.regL [0, 1, 4] mixed ?_; (repeat (first | refine RW.ro bq_tt (h := ?_) | refine RW.skip (h := ?_) | refine RW.op bq_tt (h := ?_) | refine RW.opN bq_tt (h := ?_) | refine RW.skip0 (h := ?_) | (refine RW.callC (h := ?_); (first | refine CallP.mk bq_tt (hc := some_at _ _ _ (by first | assumption | omega) (by first | assumption | omega) _) (h := ?_))))); refine RW.nil ⟨by kernel_rfl, Pruned.mk (h := ?_)⟩) | refine SW.skip ?_ | refine SW.exit ?_ | refine SW.ret ?_ | refine SW.condT rfl ?_ | refine SW.condF rfl ?_))
  exact End.mk [] (h4 := ⟨rfl, rfl⟩)
theorem both_at (a b : List Dt) (ha : a.length < 1000000000) (hb : b.length < 1000000000) (k : Nat) : SCd Try.prog dot_Both.f [dots a, dots b] [] k 0 (dots (Dt.set (a.filter fun d => decide (d ∈ b) == true))) [] := (both_ok a b ha hb).sc rfl k
theorem minus_at (a b : List Dt) (ha : a.length < 1000000000) (hb : b.length < 1000000000) (k : Nat) : SCd Try.prog dot_Minus.f [dots a, dots b] [] k 0 (dots (Dt.set (a.filter fun d => decide (d ∈ b) == false))) [] := (minus_ok a b ha hb).sc rfl k

/-! ### all of two rows -/
/-- What a map has when another one's entries were laid in. -/
structure Laid (L L2 : DMap) (xs L1 : DMap) (c1 : Nat) : Prop where
  wf : MM.wf L1 c1
  has : ∀ d, MM.has L1 d = (MM.has L d || decide (d ∈ MM.keys xs))
  len : L1.length ≤ L.length + xs.length
  sub : ∀ x, x ∈ xs → x ∈ L2
  nd : (xs.map (·.1)).Nodup

set_option maxHeartbeats 1000000 in
theorem copy_ok {L L2 : DMap} {c c2 : Nat} (hwf : MM.wf L c) (hwf2 : MM.wf L2 c2) : SB Try.prog maps_Copy_dot_set_dot_set_api_Dot_int.f [.mp 0, .mp 1] [(0, .map (mapE Dt.cells iv L) c), (1, .map (mapE Dt.cells iv L2) c2)] 2 0
    fun r F => r = .tup [] ∧ ∃ L' c', MM.wf L' c' ∧ (∀ d, MM.has L' d = (MM.has L d || MM.has L2 d)) ∧ L'.length ≤ L.length + L2.length ∧ F = [(0, .map (mapE Dt.cells iv L') c'), (1, .map (mapE Dt.cells iv L2) c2)] := by
  refine maps_Copy_dot_set_dot_set_api_Dot_int.enter (by simp [SV.oks, SV.ok]) (by simp [Hp.ok, Ob.ok, SV.oks, SV.ok, dmap_ok]) (by simp) ?_
  unfold maps_Copy_dot_set_dot_set_api_Dot_int.s
  refine SW.seq ?_
  (refine SW.regL [0, 1, 4, 5, 7, 9] mixed ?_; (repeat (first | refine RW.ro bq_tt (h := ?_) | refine RW.skip (h := ?_) | refine RW.op bq_tt (h := ?_) | refine RW.opN bq_tt (h := ?_) | refine RW.skip0 (h := ?_))); refine RW.nil ⟨by kernel_rfl, Pruned.mk (h := ?_)⟩)
  refine SW.block (SW.mapLoop (es := fun i => mapE Dt.cells iv L2) (c := fun _ => c2) (nit := fun _ => 2) (nm := fun _ => 1) (since := fun _ => c2) (sst := fun _ => c2) (seen := fun i => i.1.1.map (·.1))
    (α := {i : DMap × DMap × Nat // Laid L L2 i.1 i.2.1 i.2.2})
    (fun i => ⟨[(7, .it 2), (0, .mp 0)], [(2, .iter (some 1) c2 (i.1.1.map (·.1)) c2), (0, .map (mapE Dt.cells iv i.1.2.1) i.1.2.2), (1, .map (mapE Dt.cells iv L2) c2)], 3⟩)
    (fun i => unseen (mapE Dt.cells iv L2) (i.1.1.map (·.1))) ⟨([], L, c), hwf, by simp [MM.keys], by simp, by simp, by simp⟩ id ?_ (fun i => by simp [List.lookup]) (fun i => by simp [lk_cons]) (fun i => by simp [lk_cons]) (fun i => by decide) (fun i e he => ?_) (fun i => Nat.le_refl _) (fun i hall => ?_) (fun i e he hs => ?_))
  · refine Weak.same (by simp) (by simp [EnvW, argE, List.lookup, SV.ren, SV.rens, SV.ok, SV.oks]) (by simp [Hp.ok, Ob.ok, SV.oks, SV.ok, dmap_ok]) (by simp [lk_cons])
  · obtain ⟨x, hx, rfl⟩ := mapE_mem he
    exact hwf2.old x hx
  · obtain ⟨⟨xs, L1, c1⟩, hi⟩ := i
    have hi : Laid L L2 xs L1 c1 := hi
    dsimp only at hall ⊢
    have hall' : ∀ x, x ∈ L2 → x ∈ xs := fun x hx => by
      have := hall _ (List.mem_map.2 ⟨x, hx, rfl⟩)
      simp only [List.contains_iff_mem] at this
      obtain ⟨z, hz, e⟩ := List.mem_map.1 this
      have : z = x := MM.time_inj hwf2.times (hi.sub z hz) hx e
      rw [← this]; exact hz
    have hp := perm_of_seen hwf2 hi.sub hi.nd hall'
    refine ⟨⟨[], [(0, .map (mapE Dt.cells iv L1) c1), (1, .map (mapE Dt.cells iv L2) c2)], 3⟩, id, Weak.same (by simp) trivial (by simp [Hp.ok, Ob.ok, SV.oks, SV.ok, dmap_ok]) (by simp [lk_cons]), ?_⟩
    rw [if_pos rfl]
    refine End.mk _ (h3 := fun _ _ h => h) (h4 := ⟨rfl, L1, c1, hi.wf, fun d => ?_, ?_, rfl⟩) (h6 := by simp [Hp.ok, Ob.ok, SV.oks, SV.ok, dmap_ok])
    · rw [hi.has, Bool.eq_iff_iff, Bool.or_eq_true, Bool.or_eq_true, decide_eq_true_eq, hp.mem_iff, MM.has_iff (L := L2)]
    · have := hi.len
      have h2 := hp.length_eq
      simp only [MM.keys, List.length_map] at h2
      omega
  · obtain ⟨⟨xs, L1, c1⟩, hi⟩ := i
    have hi : Laid L L2 xs L1 c1 := hi
    dsimp only at he hs ⊢
    obtain ⟨x, hx, rfl⟩ := mapE_mem he
    have g5 : (xs.map (·.1) ++ [x.1]).getLast? = some x.1 := by simp
    have g6 := mapE_find (kc := Dt.cells) (vs := iv) hwf2.times hx
    have hm := unseen_lt he hs
    rw [hset_head]
    dsimp only
    have g7 : ∀ n : Int, iv n = .d (.int .i64 n) := fun _ => rfl
    (repeat (first | refine SW.seq ?_ | refine SW.block ?_ | (refine SW.regL [0, 1, 4, 5, 7, 9] mixed ?_; (repeat (first | refine RW.ro (And.intro (g5) (And.intro (g6) (g7))) (h := ?_) | refine RW.skip (h := ?_) | refine RW.op (And.intro (g5) (And.intro (g6) (g7))) (h := ?_) | refine RW.opN (And.intro (g5) (And.intro (g6) (g7))) (h := ?_) | refine RW.skip0 (h := ?_))); refine RW.nil ⟨by kernel_rfl, Pruned.mk (h := ?_)⟩) | refine SW.skip ?_ | refine SW.exit ?_ | refine SW.ret ?_ | refine SW.condT rfl ?_ | refine SW.condF rfl ?_))
    refine ⟨⟨(xs ++ [x], MM.put L1 c1 x.2.1 x.2.2, MM.clk L1 c1 x.2.1), MM.wf_put hi.wf _ _, fun d => ?_, ?_, fun y hy => ?_, ?_⟩, id, by simpa using hm, Weak.same (by simp) (by simp [EnvW, List.lookup, SV.ren, SV.rens, SV.ok, SV.oks]) (by simp [Hp.ok, Ob.ok, SV.oks, SV.ok, dmap_ok]) (by simp [lk_cons])⟩
    · rw [MM.has_put, hi.has, Bool.eq_iff_iff]
      simp only [MM.keys, List.map_append, List.map_cons, List.map_nil, List.mem_append, List.mem_singleton, decide_eq_true_eq, Bool.or_eq_true]
      constructor
      · rintro (h | h | h)
        · exact .inr (.inr h)
        · exact .inl h
        · exact .inr (.inl (of_decide_eq_true h))
      · rintro (h | h | h)
        · exact .inr (.inl h)
        · exact .inr (.inr (decide_eq_true h))
        · exact .inl h
    · have := congrArg List.length (MM.keys_put (L := L1) (c := c1) (a := x.2.1) (v := x.2.2))
      simp only [MM.keys, List.length_map] at this
      have h2 := hi.len
      show (MM.put L1 c1 x.2.1 x.2.2).length ≤ L.length + (xs ++ [x]).length
      rw [this]
      split <;> simp <;> omega
    · rcases List.mem_append.1 hy with h | h
      · exact hi.sub y h
      · rw [List.mem_singleton.1 h]; exact hx
    · show ((xs ++ [x]).map (·.1)).Nodup
      rw [List.map_append, List.nodup_append]
      refine ⟨hi.nd, by simp, fun a ha b' hb' => ?_⟩
      simp only [List.map_cons, List.map_nil, List.mem_singleton] at hb'
      intro e
      have : (xs.map (·.1)).contains x.1 = true := by simp only [List.contains_iff_mem]; rw [← hb', ← e]; exact ha
      rw [this] at hs; cases hs
theorem copy_at {L L2 : DMap} {c c2 : Nat} (hwf : MM.wf L c) (hwf2 : MM.wf L2 c2) : SC Try.prog maps_Copy_dot_set_dot_set_api_Dot_int.f [.mp 0, .mp 1] [(0, .map (mapE Dt.cells iv L) c), (1, .map (mapE Dt.cells iv L2) c2)] 2 0
    fun r F => r = .tup [] ∧ ∃ L' c', MM.wf L' c' ∧ (∀ d, MM.has L' d = (MM.has L d || MM.has L2 d)) ∧ L'.length ≤ L.length + L2.length ∧ F = [(0, .map (mapE Dt.cells iv L') c'), (1, .map (mapE Dt.cells iv L2) c2)] :=
  (copy_ok hwf hwf2).here (fun n => decide (n < 2)) (fun n hn => by
    match n, hn with
    | 0, _ | 1, _ => simp [lk_cons]
    | n + 2, h => exact absurd (of_decide_eq_true h) (by omega)) (by simp [SV.oks, SV.ok]) (by simp [Hp.ok, Ob.ok, SV.oks, SV.ok, dmap_ok]) fun r F' _ h1 h2 => ⟨SV.ok_more (fun n hn => by simp at hn ⊢; omega) _ h1, Hp.ok_mono (fun n hn => by simp at hn ⊢; omega) h2⟩

theorem toN {P : Program} {N k0 : Nat} {st : St} {sis : List SI} {K : St → Prop} {st1 : St} {ρ : Nat → Nat} (hw : Weak k0 st st1 ρ) (h : SWn P N k0 sis st1 K) : SWn P N k0 sis st K :=
  fun ops i h1 h2 h3 rd μ0 M0 w0 c0 a w hSt => h ops i h1 h2 h3 rd μ0 M0 w0 c0 a w (hSt.weak hw)
theorem union_ok (a b : List Dt) (ha : a.length < 100000000) (hb : b.length < 100000000) : Go.Sl.Pure Try.prog dot_Union.f [dots a, dots b] (dots (Dt.set (a ++ b))) := by
  refine dot_Union.enter (by first | rfl | simp [SV.ok, SV.oks]) (by first | rfl | simp [Hp.ok, Ob.ok, SV.ok, SV.oks, Vec.cells_ok]) (by simp) ?_
  unfold dot_Union.s
  refine SW.seq ?_
  (refine SW.regL [0, 1, 4, 5] mixed ?_; (repeat (first | refine RW.ro bq_tt (h := ?_) | refine RW.skip (h := ?_) | refine RW.op bq_tt (h := ?_) | refine RW.opN bq_tt (h := ?_) | refine RW.skip0 (h := ?_))); refine RW.nil ⟨by kernel_rfl, Pruned.mk (h := ?_)⟩)
  refine SW.seq (SW.ofN ?_)
  (repeat (first | refine SWn.op bq_tt (h := ?_) | refine SWn.opN bq_tt (h := ?_) | refine SWn.skip (h := ?_)))
  refine SWn.callD bq_tt (setOf_at a (by omega) 0) (h := ?_)
  (repeat (first | refine SWn.op bq_tt (h := ?_) | refine SWn.opN bq_tt (h := ?_) | refine SWn.skip (h := ?_)))
  refine SWn.nil ?_
  refine SW.seq (SW.ofN ?_)
  (repeat (first | refine SWn.op bq_tt (h := ?_) | refine SWn.opN bq_tt (h := ?_) | refine SWn.skip (h := ?_)))
  refine SWn.callD bq_tt (setOf_at b (by omega) 1) (h := ?_)
  refine toN (st1 := ⟨[(8, .mp 0), (10, .mp 1), (5, .mp 0)], [(0, .map (mapE Dt.cells iv (setM a).1) (setM a).2), (1, .map (mapE Dt.cells iv (setM b).1) (setM b).2)], 2⟩) (Weak.same (by simp) (by simp [EnvW, List.lookup, SV.ren, SV.ok]) (by simp [Hp.ok, Ob.ok, SV.oks, SV.ok, dmap_ok]) (by simp [lk_cons])) ?_
  refine SWn.callC (copy_at (setM_wf a) (setM_wf b)) (fun _ _ h => h) (h := ?_)
  rintro v F' ⟨rfl, L', c', hwf', hhas, hlen, rfl⟩
  simp only [hmrg, hsets, hdels, hset, hrep, hdel, lk, List.lookup, Nat.reduceBEq, BEq.rfl, beq_self_eq_true, if_true, if_false, reduceIte, Nat.reduceEqDiff, Bool.false_eq_true, Option.isSome_some, Option.isSome_none, Nat.reduceAdd]
  refine SWn.nil ?_
  have h1 := setM_len a
  have h2 := setM_len b
  refine SW.seq (SW.ofN ?_)
  (repeat (first | refine SWn.op bq_tt (h := ?_) | refine SWn.opN bq_tt (h := ?_) | refine SWn.skip (h := ?_)))
  refine SWn.callD bq_tt (list_at hwf' (by omega) 0 2) (h := ?_)
  (repeat (first | refine SWn.op bq_tt (h := ?_) | refine SWn.opN bq_tt (h := ?_) | refine SWn.skip (h := ?_)))
  refine SWn.nil (SW.ret ?_)
  exact End.mk [] (h4 := ⟨by rw [Dt.sorted_set hwf' (l := a ++ b) (fun d => by rw [hhas, setM_has, setM_has]; simp)]; rfl, rfl⟩)
theorem union_at (a b : List Dt) (ha : a.length < 100000000) (hb : b.length < 100000000) (k : Nat) : SCd Try.prog dot_Union.f [dots a, dots b] [] k 0 (dots (Dt.set (a ++ b))) [] := (union_ok a b ha hb).sc rfl k
end Go.Proofs.Ytkklgckpaajoeaa
