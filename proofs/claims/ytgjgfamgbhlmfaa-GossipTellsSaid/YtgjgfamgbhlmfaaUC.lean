/-
  Gossip: which frames may be.
-/
import Derived.Test.YtgjgfamgbhlmfaaUB
import Derived.Test.YtgjgfamgbhlmfaaUL
set_option linter.unusedSectionVars false
set_option linter.unusedVariables false
set_option linter.unusedSimpArgs false
namespace Go.Proofs.Ytgjgfamgbhlmfaa
open Go.Sl Go.Proofs
attribute [local irreducible] SW RW SCd SC CallP Pruned

/-- Has an operation too many lines? -/
def longL (o : OpD) : Bool := decide (o.cl.length > 16)
theorem long_ok (o : OpD) (h : o.lin) : Go.Sl.Pure Try.prog frame_May_1.f [.agg o.cells] (bl (longL o)) := by
  have e : longL o = decide ((o.cl.length : Int) > 16) := by unfold longL; rw [Bool.eq_iff_iff]; simp only [decide_eq_true_eq]; omega
  rw [e]
  have hn := h.eq
  generalize o.cl = cl at hn ⊢
  refine frame_May_1.enter (by first | rfl | simp [SV.ok, SV.oks]) (by first | rfl | simp [Hp.ok, Ob.ok, SV.ok, SV.oks, Vec.cells_ok]) (by simp) ?_
  dsimp only [frame_May_1.s, Co.M, Co.G, Co.J, Co.H, Co.N, Co.F, Co.C, Co.Z, Co.B, Co.b8, Co.b32, Co.b64, Co.i6, Co.z8, Co.z29]
  (repeat (first | refine SW.seq ?_ | refine SW.block ?_ | (refine SW.regL [0, 1, 2] mixed ?_; (repeat (first | refine RW.ro (hn) (h := ?_) | refine RW.skip (h := ?_) | refine RW.op (hn) (h := ?_) | refine RW.opN (hn) (h := ?_) | refine RW.skip0 (h := ?_))); refine RW.nil ⟨by kernel_rfl, Pruned.mk (h := ?_)⟩) | refine SW.skip ?_ | refine SW.exit ?_ | refine SW.ret ?_ | refine SW.condT rfl ?_ | refine SW.condF rfl ?_))
  exact End.mk [] (h4 := ⟨rfl, rfl⟩)
theorem long_at (o : OpD) (h : o.lin) (k : Nat) : SCd Try.prog frame_May_1.f [.agg o.cells] [] k 0 (bl (longL o)) [] := (long_ok o h).sc rfl k
/-- Where the first one is; -1: nowhere. -/
def idxZ (l : List OpD) : Int := match l.findIdx? longL with
  | some i => (i : Int)
  | none => -1
set_option maxHeartbeats 1000000 in
theorem index_ok (l : List OpD) (hl : l.length < 4611686018427387904) (hw : ∀ x, x ∈ l → x.lin) : Go.Sl.Pure Try.prog slices_IndexFunc_Lapi_Op_api_Op.f [ops l, .fn (.func frame_May_1.f) [] []] (.d (.int .i64 (idxZ l))) := by
  refine slices_IndexFunc_Lapi_Op_api_Op.enter (by first | rfl | simp [SV.ok, SV.oks]) (by first | rfl | simp [Hp.ok, Ob.ok, SV.ok, SV.oks, Vec.cells_ok]) (by simp) ?_
  dsimp only [slices_IndexFunc_Lapi_Op_api_Op.s, Co.M, Co.G, Co.J, Co.H, Co.N, Co.F, Co.C, Co.Z, Co.B, Co.b8, Co.b32, Co.b64, Co.i6, Co.z8, Co.z29]
  (repeat (first | refine SW.seq ?_ | refine SW.block ?_ | (refine SW.regL [0, 1, 4, 5, 7, 8, 9, 16] mixed ?_; (repeat (first | refine RW.ro bq_tt (h := ?_) | refine RW.skip (h := ?_) | refine RW.op bq_tt (h := ?_) | refine RW.opN bq_tt (h := ?_) | refine RW.skip0 (h := ?_))); refine RW.nil ⟨by kernel_rfl, Pruned.mk (h := ?_)⟩) | refine SW.skip ?_ | refine SW.exit ?_ | refine SW.ret ?_ | refine SW.condT rfl ?_ | refine SW.condF rfl ?_))
  refine SW.loopA (α := {i : Nat // i ≤ l.length ∧ ∀ j x, j < i → l[j]? = some x → longL x = false}) (fun i => ⟨[(8, i64 i.1), (7, i64 l.length), (0, ops l), (1, .fn (.func frame_May_1.f) [] [])], [], 0⟩) (fun i => l.length - i.1) ⟨0, by omega, by omega⟩ id bq_tt (round := ?_)
  rintro ⟨i, hi, hs⟩
  by_cases h : i < l.length
  · have h1 : decide ((i : Int) < l.length) = true := by simp only [decide_eq_true_eq]; omega
    obtain ⟨x, hx⟩ := get_of_lt h
    have hxl := hw x (List.mem_of_getElem? hx)
    have e2 : IntKind.i64.wrap ((i : Int) + 1) = ((i + 1 : Nat) : Int) := wrap_i64 _ (by omega)
    have hc := long_at x hxl
    rcases hg : longL x with _ | _
    · rw [hg] at hc
      (repeat (first | refine SW.seq ?_ | refine SW.block ?_ | (refine SW.regL [0, 1, 4, 5, 7, 8, 9, 16] mixed ?_; (repeat (first | refine RW.ro (And.intro (h1) (And.intro (op_at hx) (And.intro (op_room0 hx) (e2)))) (h := ?_) | refine RW.skip (h := ?_) | refine RW.op (And.intro (h1) (And.intro (op_at hx) (And.intro (op_room0 hx) (e2)))) (h := ?_) | refine RW.opN (And.intro (h1) (And.intro (op_at hx) (And.intro (op_room0 hx) (e2)))) (h := ?_) | refine RW.skip0 (h := ?_) | (refine RW.callC (h := ?_); (first | refine CallP.mk (And.intro (h1) (And.intro (op_at hx) (And.intro (op_room0 hx) (e2)))) (hc := hc _) (h := ?_))))); refine RW.nil ⟨by kernel_rfl, Pruned.mk (h := ?_)⟩) | refine SW.skip ?_ | refine SW.exit ?_ | refine SW.ret ?_ | refine SW.condT rfl ?_ | refine SW.condF rfl ?_))
      refine Next.mk ⟨i + 1, by omega, fun j y hj hy => ?_⟩ id bq_tt
      rcases Nat.lt_or_ge j i with h2 | h2
      · exact hs j y h2 hy
      · have : j = i := by omega
        subst this
        rw [hx] at hy; injection hy with hy; rw [← hy]; exact hg
    · rw [hg] at hc
      have e : idxZ l = (i : Int) := by
        unfold idxZ
        have : l.findIdx? longL = some i := by
          rw [List.findIdx?_eq_some_iff_getElem]
          refine ⟨h, ?_, fun j hj => ?_⟩
          · rw [List.getElem?_eq_getElem h] at hx; injection hx with hx; rw [hx, hg]
          · have := hs j l[j] hj (List.getElem?_eq_getElem _); simp [this]
        rw [this]
      rw [e]
      (repeat (first | refine SW.seq ?_ | refine SW.block ?_ | (refine SW.regL [0, 1, 4, 5, 7, 8, 9, 16] mixed ?_; (repeat (first | refine RW.ro (And.intro (h1) (And.intro (op_at hx) (And.intro (op_room0 hx) (e2)))) (h := ?_) | refine RW.skip (h := ?_) | refine RW.op (And.intro (h1) (And.intro (op_at hx) (And.intro (op_room0 hx) (e2)))) (h := ?_) | refine RW.opN (And.intro (h1) (And.intro (op_at hx) (And.intro (op_room0 hx) (e2)))) (h := ?_) | refine RW.skip0 (h := ?_) | (refine RW.callC (h := ?_); (first | refine CallP.mk (And.intro (h1) (And.intro (op_at hx) (And.intro (op_room0 hx) (e2)))) (hc := hc _) (h := ?_))))); refine RW.nil ⟨by kernel_rfl, Pruned.mk (h := ?_)⟩) | refine SW.skip ?_ | refine SW.exit ?_ | refine SW.ret ?_ | refine SW.condT rfl ?_ | refine SW.condF rfl ?_))
      exact End.mk [] (h4 := ⟨rfl, rfl⟩)
  · have h1 : decide ((i : Int) < l.length) = false := by simp only [decide_eq_false_iff_not]; omega
    have e : idxZ l = -1 := by
      unfold idxZ
      have : l.findIdx? longL = none := by
        rw [List.findIdx?_eq_none_iff]
        intro x hx
        obtain ⟨j, hj⟩ := List.mem_iff_getElem?.1 hx
        exact hs j x (by have := lt_of_get hj; omega) hj
      rw [this]
    rw [e]
    (repeat (first | refine SW.seq ?_ | refine SW.block ?_ | (refine SW.regL [0, 1, 4, 5, 7, 8, 9, 16] mixed ?_; (repeat (first | refine RW.ro (h1) (h := ?_) | refine RW.skip (h := ?_) | refine RW.op (h1) (h := ?_) | refine RW.opN (h1) (h := ?_) | refine RW.skip0 (h := ?_))); refine RW.nil ⟨by kernel_rfl, Pruned.mk (h := ?_)⟩) | refine SW.skip ?_ | refine SW.exit ?_ | refine SW.ret ?_ | refine SW.condT rfl ?_ | refine SW.condF rfl ?_))
    exact End.mk [] (h4 := ⟨rfl, rfl⟩)
theorem index_at (l : List OpD) (hl : l.length < 4611686018427387904) (hw : ∀ x, x ∈ l → x.lin) (k : Nat) : SCd Try.prog slices_IndexFunc_Lapi_Op_api_Op.f [ops l, .fn (.func frame_May_1.f) [] []] [] k 0 (.d (.int .i64 (idxZ l))) [] := (index_ok l hl hw).sc rfl k
theorem idxZ_any (l : List OpD) : decide (idxZ l ≥ 0) = l.any longL := by
  unfold idxZ
  cases h : l.findIdx? longL with
  | none =>
    rw [List.findIdx?_eq_none_iff] at h
    have : l.any longL = false := by rw [List.any_eq_false]; exact fun x hx => by rw [h x hx]; decide
    rw [this]; rfl
  | some i =>
    rw [List.findIdx?_eq_some_iff_getElem] at h
    obtain ⟨h1, h2, _⟩ := h
    have : l.any longL = true := by rw [List.any_eq_true]; exact ⟨_, List.getElem_mem h1, h2⟩
    rw [this]
    simp
theorem containsF_ok (l : List OpD) (hl : l.length < 4611686018427387904) (hw : ∀ x, x ∈ l → x.lin) : Go.Sl.Pure Try.prog slices_ContainsFunc_Lapi_Op_api_Op.f [ops l, .fn (.func frame_May_1.f) [] []] (bl (l.any longL)) := by
  rw [← idxZ_any]
  refine slices_ContainsFunc_Lapi_Op_api_Op.enter (by first | rfl | simp [SV.ok, SV.oks]) (by first | rfl | simp [Hp.ok, Ob.ok, SV.ok, SV.oks, Vec.cells_ok]) (by simp) ?_
  dsimp only [slices_ContainsFunc_Lapi_Op_api_Op.s, Co.M, Co.G, Co.J, Co.H, Co.N, Co.F, Co.C, Co.Z, Co.B, Co.b8, Co.b32, Co.b64, Co.i6, Co.z8, Co.z29]
  (repeat (first | refine SW.seq ?_ | refine SW.block ?_ | (refine SW.regL [0, 1, 4] mixed ?_; (repeat (first | refine RW.ro bq_tt (h := ?_) | refine RW.skip (h := ?_) | refine RW.op bq_tt (h := ?_) | refine RW.opN bq_tt (h := ?_) | refine RW.skip0 (h := ?_) | (refine RW.callC (h := ?_); (first | refine CallP.mk bq_tt (hc := index_at _ (by first | assumption | omega) (by first | assumption | omega) _) (h := ?_))))); refine RW.nil ⟨by kernel_rfl, Pruned.mk (h := ?_)⟩) | refine SW.skip ?_ | refine SW.exit ?_ | refine SW.ret ?_ | refine SW.condT rfl ?_ | refine SW.condF rfl ?_))
  exact End.mk [] (h4 := ⟨rfl, rfl⟩)
theorem containsF_at (l : List OpD) (hl : l.length < 4611686018427387904) (hw : ∀ x, x ∈ l → x.lin) (k : Nat) : SCd Try.prog slices_ContainsFunc_Lapi_Op_api_Op.f [ops l, .fn (.func frame_May_1.f) [] []] [] k 0 (bl (l.any longL)) [] := (containsF_ok l hl hw).sc rfl k
theorem containsF_nil (k : Nat) : SCd Try.prog slices_ContainsFunc_Lapi_Op_api_Op.f [.d .nils, .fn (.func frame_May_1.f) [] []] [] k 0 (.d (.bool false)) [] := by
  have hc := containsF_at [] (by decide) (by simp) k
  unfold SCd at hc ⊢
  refine SC.args (fun p μ M vs h => ?_) hc
  obtain ⟨u, us, rfl, h1, h2⟩ := Rps.cons_iff.1 h
  exact Rps.cons_iff.2 ⟨u, us, rfl, nils_sl p μ M u h1, h2⟩

/-! ### all of some bools -/
set_option maxHeartbeats 1000000 in
theorem indexB_ok (l : List Bool) (hl : l.length < 1000) : Go.Sl.Pure Try.prog slices_Index_Lbool_bool.f [.d (.sl l.length (l.map .bool)), .d (.bool false)] (.d (.int .i64 (match l.findIdx? (! ·) with
  | some i => (i : Int)
  | none => -1))) := by
  refine slices_Index_Lbool_bool.enter (by first | rfl | simp [SV.ok, SV.oks]) (by first | rfl | simp [Hp.ok, Ob.ok, SV.ok, SV.oks, Vec.cells_ok]) (by simp) ?_
  dsimp only [slices_Index_Lbool_bool.s, Co.M, Co.G, Co.J, Co.H, Co.N, Co.F, Co.C, Co.Z, Co.B, Co.b8, Co.b32, Co.b64, Co.i6, Co.z8, Co.z29]
  (repeat (first | refine SW.seq ?_ | refine SW.block ?_ | (refine SW.regL [0, 1, 4, 5, 7, 8, 9, 16] mixed ?_; (repeat (first | refine RW.ro bq_tt (h := ?_) | refine RW.skip (h := ?_) | refine RW.op bq_tt (h := ?_) | refine RW.opN bq_tt (h := ?_) | refine RW.skip0 (h := ?_))); refine RW.nil ⟨by kernel_rfl, Pruned.mk (h := ?_)⟩) | refine SW.skip ?_ | refine SW.exit ?_ | refine SW.ret ?_ | refine SW.condT rfl ?_ | refine SW.condF rfl ?_))
  refine SW.loopA (α := {i : Nat // i ≤ l.length ∧ ∀ j x, j < i → l[j]? = some x → x = true}) (fun i => ⟨[(8, i64 i.1), (7, i64 l.length), (0, .d (.sl l.length (l.map .bool))), (1, .d (.bool false))], [], 0⟩) (fun i => l.length - i.1) ⟨0, by omega, by omega⟩ id bq_tt (round := ?_)
  rintro ⟨i, hi, hs⟩
  by_cases h : i < l.length
  · have h1 : decide ((i : Int) < l.length) = true := by simp only [decide_eq_true_eq]; omega
    obtain ⟨x, hx⟩ := get_of_lt h
    have e2 : IntKind.i64.wrap ((i : Int) + 1) = ((i + 1 : Nat) : Int) := wrap_i64 _ (by omega)
    have e3 : (List.map SV.d (l.map DV.bool))[i]? = some (.d (.bool x)) := by rw [List.getElem?_map, List.getElem?_map, hx]; rfl
    cases x with
    | true =>
      have e4 : (false == true) = false := rfl
      (repeat (first | refine SW.seq ?_ | refine SW.block ?_ | (refine SW.regL [0, 1, 4, 5, 7, 8, 9, 16] mixed ?_; (repeat (first | refine RW.ro (And.intro (h1) (And.intro (e2) (And.intro (e3) (e4)))) (h := ?_) | refine RW.skip (h := ?_) | refine RW.op (And.intro (h1) (And.intro (e2) (And.intro (e3) (e4)))) (h := ?_) | refine RW.opN (And.intro (h1) (And.intro (e2) (And.intro (e3) (e4)))) (h := ?_) | refine RW.skip0 (h := ?_))); refine RW.nil ⟨by kernel_rfl, Pruned.mk (h := ?_)⟩) | refine SW.skip ?_ | refine SW.exit ?_ | refine SW.ret ?_ | refine SW.condT rfl ?_ | refine SW.condF rfl ?_))
      refine Next.mk ⟨i + 1, by omega, fun j y hj hy => ?_⟩ id bq_tt
      rcases Nat.lt_or_ge j i with h2 | h2
      · exact hs j y h2 hy
      · have : j = i := by omega
        subst this
        rw [hx] at hy; injection hy with hy; exact hy.symm
    | false =>
      have e4 : (false == false) = true := rfl
      have e : l.findIdx? (! ·) = some i := by
        rw [List.findIdx?_eq_some_iff_getElem]
        refine ⟨h, ?_, fun j hj => ?_⟩
        · rw [List.getElem?_eq_getElem h] at hx; injection hx with hx; rw [hx]; rfl
        · have := hs j l[j] hj (List.getElem?_eq_getElem _); simp [this]
      rw [e]
      (repeat (first | refine SW.seq ?_ | refine SW.block ?_ | (refine SW.regL [0, 1, 4, 5, 7, 8, 9, 16] mixed ?_; (repeat (first | refine RW.ro (And.intro (h1) (And.intro (e2) (And.intro (e3) (e4)))) (h := ?_) | refine RW.skip (h := ?_) | refine RW.op (And.intro (h1) (And.intro (e2) (And.intro (e3) (e4)))) (h := ?_) | refine RW.opN (And.intro (h1) (And.intro (e2) (And.intro (e3) (e4)))) (h := ?_) | refine RW.skip0 (h := ?_))); refine RW.nil ⟨by kernel_rfl, Pruned.mk (h := ?_)⟩) | refine SW.skip ?_ | refine SW.exit ?_ | refine SW.ret ?_ | refine SW.condT rfl ?_ | refine SW.condF rfl ?_))
      exact End.mk [] (h4 := ⟨rfl, rfl⟩)
  · have h1 : decide ((i : Int) < l.length) = false := by simp only [decide_eq_false_iff_not]; omega
    have e : l.findIdx? (! ·) = none := by
      rw [List.findIdx?_eq_none_iff]
      intro x hx
      obtain ⟨j, hj⟩ := List.mem_iff_getElem?.1 hx
      rw [hs j x (by have := lt_of_get hj; omega) hj]; rfl
    rw [e]
    (repeat (first | refine SW.seq ?_ | refine SW.block ?_ | (refine SW.regL [0, 1, 4, 5, 7, 8, 9, 16] mixed ?_; (repeat (first | refine RW.ro (h1) (h := ?_) | refine RW.skip (h := ?_) | refine RW.op (h1) (h := ?_) | refine RW.opN (h1) (h := ?_) | refine RW.skip0 (h := ?_))); refine RW.nil ⟨by kernel_rfl, Pruned.mk (h := ?_)⟩) | refine SW.skip ?_ | refine SW.exit ?_ | refine SW.ret ?_ | refine SW.condT rfl ?_ | refine SW.condF rfl ?_))
    exact End.mk [] (h4 := ⟨rfl, rfl⟩)
theorem indexB_all (l : List Bool) : (!decide ((match l.findIdx? (! ·) with
  | some i => (i : Int)
  | none => -1) ≥ 0)) = l.all id := by
  cases h : l.findIdx? (! ·) with
  | none =>
    rw [List.findIdx?_eq_none_iff] at h
    have : l.all id = true := by rw [List.all_eq_true]; exact fun x hx => by simpa using h x hx
    rw [this]; rfl
  | some i =>
    rw [List.findIdx?_eq_some_iff_getElem] at h
    obtain ⟨h1, h2, _⟩ := h
    have : l.all id = false := by rw [List.all_eq_false]; exact ⟨_, List.getElem_mem h1, by simpa using h2⟩
    rw [this]
    simp
theorem indexB_at (l : List Bool) (hl : l.length < 1000) (k : Nat) : SCd Try.prog slices_Index_Lbool_bool.f [.d (.sl l.length (l.map .bool)), .d (.bool false)] [] k 0 (.d (.int .i64 (match l.findIdx? (! ·) with
  | some i => (i : Int)
  | none => -1))) [] := (indexB_ok l hl).sc rfl k
theorem containsB_ok (l : List Bool) (hl : l.length < 1000) : Go.Sl.Pure Try.prog slices_Contains_Lbool_bool.f [.d (.sl l.length (l.map .bool)), .d (.bool false)] (bl (!(l.all id))) := by
  rw [← indexB_all, Bool.not_not]
  refine slices_Contains_Lbool_bool.enter (by first | rfl | simp [SV.ok, SV.oks]) (by first | rfl | simp [Hp.ok, Ob.ok, SV.ok, SV.oks, Vec.cells_ok]) (by simp) ?_
  dsimp only [slices_Contains_Lbool_bool.s, Co.M, Co.G, Co.J, Co.H, Co.N, Co.F, Co.C, Co.Z, Co.B, Co.b8, Co.b32, Co.b64, Co.i6, Co.z8, Co.z29]
  (repeat (first | refine SW.seq ?_ | refine SW.block ?_ | (refine SW.regL [0, 1, 4] mixed ?_; (repeat (first | refine RW.ro bq_tt (h := ?_) | refine RW.skip (h := ?_) | refine RW.op bq_tt (h := ?_) | refine RW.opN bq_tt (h := ?_) | refine RW.skip0 (h := ?_) | (refine RW.callC (h := ?_); (first | refine CallP.mk bq_tt (hc := indexB_at _ (by first | assumption | omega) _) (h := ?_))))); refine RW.nil ⟨by kernel_rfl, Pruned.mk (h := ?_)⟩) | refine SW.skip ?_ | refine SW.exit ?_ | refine SW.ret ?_ | refine SW.condT rfl ?_ | refine SW.condF rfl ?_))
  exact End.mk [] (h4 := ⟨rfl, rfl⟩)
theorem containsB_at (l : List Bool) (hl : l.length < 1000) (k : Nat) : SCd Try.prog slices_Contains_Lbool_bool.f [.d (.sl l.length (l.map .bool)), .d (.bool false)] [] k 0 (bl (!(l.all id))) [] := (containsB_ok l hl).sc rfl k
theorem all_ok (l : List Bool) (hl : l.length < 1000) : Go.Sl.Pure Try.prog frame_all.f [.d (.sl l.length (l.map .bool))] (bl (l.all id)) := by
  rw [← Bool.not_not (l.all id)]
  refine frame_all.enter (by first | rfl | simp [SV.ok, SV.oks]) (by first | rfl | simp [Hp.ok, Ob.ok, SV.ok, SV.oks, Vec.cells_ok]) (by simp) ?_
  dsimp only [frame_all.s, Co.M, Co.G, Co.J, Co.H, Co.N, Co.F, Co.C, Co.Z, Co.B, Co.b8, Co.b32, Co.b64, Co.i6, Co.z8, Co.z29]
  (repeat (first | refine SW.seq ?_ | refine SW.block ?_ | (refine SW.regL [0, 2] mixed ?_; (repeat (first | refine RW.ro bq_tt (h := ?_) | refine RW.skip (h := ?_) | refine RW.op bq_tt (h := ?_) | refine RW.opN bq_tt (h := ?_) | refine RW.skip0 (h := ?_) | (refine RW.callC (h := ?_); (first | refine CallP.mk bq_tt (hc := containsB_at _ (by first | assumption | omega) _) (h := ?_))))); refine RW.nil ⟨by kernel_rfl, Pruned.mk (h := ?_)⟩) | refine SW.skip ?_ | refine SW.exit ?_ | refine SW.ret ?_ | refine SW.condT rfl ?_ | refine SW.condF rfl ?_))
  exact End.mk [] (h4 := ⟨rfl, rfl⟩)
theorem all6_at (a b c d e f : Bool) (k : Nat) : SCd Try.prog frame_all.f [.d (.sl 6 [.bool a, .bool b, .bool c, .bool d, .bool e, .bool f])] [] k 0 (bl (a && (b && (c && (d && (e && (f && true))))))) [] := (all_ok [a, b, c, d, e, f] (by simp)).sc rfl k
end Go.Proofs.Ytgjgfamgbhlmfaa

/-
  Gossip: which frames may be, by the program and by the document.
-/
set_option linter.unusedSectionVars false
set_option linter.unusedVariables false
set_option linter.unusedSimpArgs false
namespace Go.Proofs.Ytgjgfamgbhlmfaa
open Go.Sl Go.Proofs
attribute [local irreducible] SW RW SCd SC CallP Pruned

/-- A frame's cells. -/
def frD (kd fr to : Nat) (h : Vec) (o : SV) : List SV := u8 kd :: u8 fr :: u8 to :: (h.cells ++ [o])
theorem frD0 (kd fr to : Nat) (h : Vec) (o : SV) : (frD kd fr to h o)[0]? = some (u8 kd) := rfl
theorem frD1 (kd fr to : Nat) (h : Vec) (o : SV) : (frD kd fr to h o)[1]? = some (u8 fr) := rfl
theorem frD2 (kd fr to : Nat) (h : Vec) (o : SV) : (frD kd fr to h o)[2]? = some (u8 to) := rfl
theorem frDh (kd fr to : Nat) (h : Vec) (o : SV) : List.take 8 (List.drop 3 (frD kd fr to h o)) = h.cells := rfl
theorem frDo (kd fr to : Nat) (h : Vec) (o : SV) : (frD kd fr to h o)[11]? = some o := rfl
theorem frDl (kd fr to : Nat) (h : Vec) (o : SV) : (frD kd fr to h o).length = 12 := rfl
theorem frDone (kd fr to : Nat) (h : Vec) (o : SV) (ho : o.isOne = true) : (frD kd fr to h o).all SV.isOne = true := by
  show (true && (true && (true && ((h.cells ++ [o]).all SV.isOne)))) = true
  rw [List.all_append, Vec.cells_one]; simp [ho]
theorem frDok (kd fr to : Nat) (h : Vec) (x : DV) (q : Nat → Bool) : SV.oks q (frD kd fr to h (.d x)) = true := SV.oks_d (q := q) (.int .u8 kd :: .int .u8 fr :: .int .u8 to :: (h.ds ++ [x]))
theorem frDren (kd fr to : Nat) (h : Vec) (x : DV) (r : Nat → Nat) : SV.rens r (frD kd fr to h (.d x)) = frD kd fr to h (.d x) := SV.rens_d (ρ := r) (.int .u8 kd :: .int .u8 fr :: .int .u8 to :: (h.ds ++ [x]))
/-- May a frame be? -/
def mayV (kd fr to : Nat) (l : List OpD) : Bool :=
  decide ((kd : Int) ≤ 1) && (decide ((if (to : Int) > fr then (to : Int) else fr) < 8) && (((fr : Int) != to) && ((((kd : Int) == 1) || (((l.length : Nat) : Int) == 0)) && (decide (((l.length : Nat) : Int) ≤ 64) && ((!(l.any longL)) && true)))))
/-- A row of operations, nil perhaps. -/
def RowOf (o : DV) (l : List OpD) : Prop := (o = .nils ∧ l = []) ∨ o = .sl l.length (l.flatMap OpD.ds)
theorem spl6 : ∀ (z0 z1 z2 z3 z4 z5 a b c d e f : SV), spl (spl (spl (spl (spl (spl [z0, z1, z2, z3, z4, z5] 0 [a]) 1 [b]) 2 [c]) 3 [d]) 4 [e]) 5 [f] = [a, b, c, d, e, f] := fun _ _ _ _ _ _ _ _ _ _ _ _ => rfl
set_option maxHeartbeats 4000000 in
theorem fmay_ok (kd fr to : Nat) (h : Vec) (o : DV) (l : List OpD) (ho : RowOf o l) (hl : l.length < 4611686018427387904) (hw : ∀ x, x ∈ l → x.lin) : Go.Sl.Pure Try.prog frame_May.f [.agg (frD kd fr to h (.d o))] (bl (mayV kd fr to l)) := by
  have hone := frDone kd fr to h (.d o) rfl
  have g0 := frD0 kd fr to h (.d o)
  have g1 := frD1 kd fr to h (.d o)
  have g2 := frD2 kd fr to h (.d o)
  have g3 := frDo kd fr to h (.d o)
  have g4 := frDl kd fr to h (.d o)
  unfold mayV
  refine frame_May.enter (by simp [SV.ok, SV.oks, frDok]) (by simp [Hp.ok]) (by simp) ?_
  dsimp only [frame_May.s, Co.M, Co.G, Co.J, Co.H, Co.N, Co.F, Co.C, Co.Z, Co.B, Co.b8, Co.b32, Co.b64, Co.i6, Co.z8, Co.z29]
  rcases ho with ⟨rfl, rfl⟩ | rfl
  · generalize frD kd fr to h (.d .nils) = fc at hone g0 g1 g2 g3 g4 ⊢
    refine SW.seq ?_
    (refine SW.regL [0, 1, 2, 3] mixed ?_; (repeat (first | refine RW.ro (hone) (h := ?_) | refine RW.skip (h := ?_) | refine RW.op (hone) (h := ?_) | refine RW.opN (hone) (h := ?_) | refine RW.skip0 (h := ?_))); refine RW.nil ⟨by kernel_rfl, Pruned.mk (h := ?_)⟩)
    refine SW.seq ?_
    (refine SW.regL [0, 1, 2, 3] mixed ?_; (repeat (first | refine RW.ro (g3) (h := ?_) | refine RW.skip (h := ?_) | refine RW.op (g3) (h := ?_) | refine RW.opN (g3) (h := ?_) | refine RW.skip0 (h := ?_) | (refine RW.callC (h := ?_); (first | refine CallP.mk (g3) (hc := containsF_nil _) (h := ?_) | refine CallP.mk (g3) (hc := all6_at _ _ _ _ _ _ _) (h := ?_))))); refine RW.nil ⟨by kernel_rfl, Pruned.mk (h := ?_)⟩)
    refine SW.seq ?_
    rcases c1 : ((kd : Int) == 1) with _ | _
    · (refine SW.regL [0, 1, 2, 3] mixed ?_; (repeat (first | refine RW.ro (And.intro (g0) (And.intro (g1) (And.intro (g2) (And.intro (g3) (And.intro (c1) (spl6)))))) (h := ?_) | refine RW.skip (h := ?_) | refine RW.op (And.intro (g0) (And.intro (g1) (And.intro (g2) (And.intro (g3) (And.intro (c1) (spl6)))))) (h := ?_) | refine RW.opN (And.intro (g0) (And.intro (g1) (And.intro (g2) (And.intro (g3) (And.intro (c1) (spl6)))))) (h := ?_) | refine RW.skip0 (h := ?_) | (refine RW.callC (h := ?_); (first | refine CallP.mk (And.intro (g0) (And.intro (g1) (And.intro (g2) (And.intro (g3) (And.intro (c1) (spl6)))))) (hc := containsF_nil _) (h := ?_) | refine CallP.mk (And.intro (g0) (And.intro (g1) (And.intro (g2) (And.intro (g3) (And.intro (c1) (spl6)))))) (hc := all6_at _ _ _ _ _ _ _) (h := ?_))))); refine RW.nil ⟨by kernel_rfl, Pruned.mk (h := ?_)⟩)
      refine SW.ret ?_
      exact End.mk [] (h4 := ⟨by simp [retV], rfl⟩)
    · (refine SW.regL [0, 1, 2, 3] mixed ?_; (repeat (first | refine RW.ro (And.intro (g0) (And.intro (g1) (And.intro (g2) (And.intro (g3) (And.intro (c1) (spl6)))))) (h := ?_) | refine RW.skip (h := ?_) | refine RW.op (And.intro (g0) (And.intro (g1) (And.intro (g2) (And.intro (g3) (And.intro (c1) (spl6)))))) (h := ?_) | refine RW.opN (And.intro (g0) (And.intro (g1) (And.intro (g2) (And.intro (g3) (And.intro (c1) (spl6)))))) (h := ?_) | refine RW.skip0 (h := ?_) | (refine RW.callC (h := ?_); (first | refine CallP.mk (And.intro (g0) (And.intro (g1) (And.intro (g2) (And.intro (g3) (And.intro (c1) (spl6)))))) (hc := containsF_nil _) (h := ?_) | refine CallP.mk (And.intro (g0) (And.intro (g1) (And.intro (g2) (And.intro (g3) (And.intro (c1) (spl6)))))) (hc := all6_at _ _ _ _ _ _ _) (h := ?_))))); refine RW.nil ⟨by kernel_rfl, Pruned.mk (h := ?_)⟩)
      refine SW.ret ?_
      exact End.mk [] (h4 := ⟨by simp [retV], rfl⟩)
  · generalize frD kd fr to h (.d (.sl l.length (l.flatMap OpD.ds))) = fc at hone g0 g1 g2 g3 g4 ⊢
    refine SW.seq ?_
    (refine SW.regL [0, 1, 2, 3] mixed ?_; (repeat (first | refine RW.ro (hone) (h := ?_) | refine RW.skip (h := ?_) | refine RW.op (hone) (h := ?_) | refine RW.opN (hone) (h := ?_) | refine RW.skip0 (h := ?_) | (refine RW.callC (h := ?_); (first | refine CallP.mk (hone) (hc := containsF_nil _) (h := ?_) | refine CallP.mk (hone) (hc := all6_at _ _ _ _ _ _ _) (h := ?_))))); refine RW.nil ⟨by kernel_rfl, Pruned.mk (h := ?_)⟩)
    refine SW.seq ?_
    (refine SW.regL [0, 1, 2, 3] mixed ?_; (repeat (first | refine RW.ro (g3) (h := ?_) | refine RW.skip (h := ?_) | refine RW.op (g3) (h := ?_) | refine RW.opN (g3) (h := ?_) | refine RW.skip0 (h := ?_) | (refine RW.callC (h := ?_); (first | refine CallP.mk (g3) (hc := containsF_at _ (by first | assumption | omega) (by first | assumption | omega) _) (h := ?_) | refine CallP.mk (g3) (hc := all6_at _ _ _ _ _ _ _) (h := ?_))))); refine RW.nil ⟨by kernel_rfl, Pruned.mk (h := ?_)⟩)
    refine SW.seq ?_
    rcases c1 : ((kd : Int) == 1) with _ | _
    · (refine SW.regL [0, 1, 2, 3] mixed ?_; (repeat (first | refine RW.ro (And.intro (g0) (And.intro (g1) (And.intro (g2) (And.intro (g3) (And.intro (c1) (spl6)))))) (h := ?_) | refine RW.skip (h := ?_) | refine RW.op (And.intro (g0) (And.intro (g1) (And.intro (g2) (And.intro (g3) (And.intro (c1) (spl6)))))) (h := ?_) | refine RW.opN (And.intro (g0) (And.intro (g1) (And.intro (g2) (And.intro (g3) (And.intro (c1) (spl6)))))) (h := ?_) | refine RW.skip0 (h := ?_) | (refine RW.callC (h := ?_); (first | refine CallP.mk (And.intro (g0) (And.intro (g1) (And.intro (g2) (And.intro (g3) (And.intro (c1) (spl6)))))) (hc := containsF_at _ (by first | assumption | omega) (by first | assumption | omega) _) (h := ?_) | refine CallP.mk (And.intro (g0) (And.intro (g1) (And.intro (g2) (And.intro (g3) (And.intro (c1) (spl6)))))) (hc := all6_at _ _ _ _ _ _ _) (h := ?_))))); refine RW.nil ⟨by kernel_rfl, Pruned.mk (h := ?_)⟩)
      refine SW.ret ?_
      exact End.mk [] (h4 := ⟨by simp [retV], rfl⟩)
    · (refine SW.regL [0, 1, 2, 3] mixed ?_; (repeat (first | refine RW.ro (And.intro (g0) (And.intro (g1) (And.intro (g2) (And.intro (g3) (And.intro (c1) (spl6)))))) (h := ?_) | refine RW.skip (h := ?_) | refine RW.op (And.intro (g0) (And.intro (g1) (And.intro (g2) (And.intro (g3) (And.intro (c1) (spl6)))))) (h := ?_) | refine RW.opN (And.intro (g0) (And.intro (g1) (And.intro (g2) (And.intro (g3) (And.intro (c1) (spl6)))))) (h := ?_) | refine RW.skip0 (h := ?_) | (refine RW.callC (h := ?_); (first | refine CallP.mk (And.intro (g0) (And.intro (g1) (And.intro (g2) (And.intro (g3) (And.intro (c1) (spl6)))))) (hc := containsF_at _ (by first | assumption | omega) (by first | assumption | omega) _) (h := ?_) | refine CallP.mk (And.intro (g0) (And.intro (g1) (And.intro (g2) (And.intro (g3) (And.intro (c1) (spl6)))))) (hc := all6_at _ _ _ _ _ _ _) (h := ?_))))); refine RW.nil ⟨by kernel_rfl, Pruned.mk (h := ?_)⟩)
      refine SW.ret ?_
      exact End.mk [] (h4 := ⟨by simp [retV], rfl⟩)
end Go.Proofs.Ytgjgfamgbhlmfaa

/-
  Gossip: which frames may be, by the document; frames that are the same.
-/
set_option linter.unusedSectionVars false
set_option linter.unusedVariables false
set_option linter.unusedSimpArgs false
namespace Go.Proofs.Ytgjgfamgbhlmfaa
open Go.Sl Go.Proofs
attribute [local irreducible] SW RW SCd SC CallP Pruned

theorem mayV_iff {kd fr to : Nat} {l : List OpD} : mayV kd fr to l = true ↔ kd ≤ 1 ∧ fr < 8 ∧ to < 8 ∧ fr ≠ to ∧ (kd = 1 ∨ l.length = 0) ∧ l.length ≤ 64 ∧ l.any longL = false := by
  unfold mayV
  simp only [Bool.and_eq_true, decide_eq_true_eq, bne_iff_ne, ne_eq, Bool.or_eq_true, beq_iff_eq, Bool.not_eq_true', and_true]
  constructor
  · rintro ⟨a, b, c, d, e, f⟩
    refine ⟨by omega, by split at b <;> omega, by split at b <;> omega, by omega, by omega, by omega, f⟩
  · rintro ⟨a, b, c, d, e, f, g⟩
    refine ⟨by omega, by split <;> omega, by omega, by omega, by omega, g⟩
theorem mayV_no {kd fr to : Nat} {l : List OpD} (h : ¬ (kd ≤ 1 ∧ fr < 8 ∧ to < 8 ∧ fr ≠ to ∧ (kd = 1 ∨ l.length = 0) ∧ l.length ≤ 64 ∧ l.any longL = false)) : mayV kd fr to l = false := by
  rw [Bool.eq_false_iff, ne_eq, mayV_iff]; exact h
theorem op_line {l : List OpD} {i : Nat} {x : OpD} (h : l[i]? = some x) : (List.map SV.d (l.flatMap OpD.ds))[i * 29 + 28]? = some (.d x.lines) := by
  rw [op_get h (by omega)]; rfl
set_option maxHeartbeats 4000000 in
theorem rmay_ok (kd fr to : Nat) (h : Vec) (o : DV) (l : List OpD) (ho : RowOf o l) (hl : l.length < 4611686018427387904) (hw : ∀ x, x ∈ l → x.lin) : Go.Sl.Pure Try.prog ref06_May.f [.agg (frD kd fr to h (.d o))] (bl (mayV kd fr to l)) := by
  have hone := frDone kd fr to h (.d o) rfl
  have g0 := frD0 kd fr to h (.d o)
  have g1 := frD1 kd fr to h (.d o)
  have g2 := frD2 kd fr to h (.d o)
  have g3 := frDo kd fr to h (.d o)
  have g4 := frDl kd fr to h (.d o)
  refine ref06_May.enter (by simp [SV.ok, SV.oks, frDok]) (by simp [Hp.ok]) (by simp) ?_
  dsimp only [ref06_May.s, Co.M, Co.G, Co.J, Co.H, Co.N, Co.F, Co.C, Co.Z, Co.B, Co.b8, Co.b32, Co.b64, Co.i6, Co.z8, Co.z29]
  refine SW.slot 0 (s := .agg (frD kd fr to h (.d o))) (.agg (frD kd fr to h (.d (.sl l.length (l.flatMap OpD.ds))))) rfl ?_ ?_
  · intro p μ M v hv
    rcases ho with ⟨rfl, rfl⟩ | rfl
    · obtain ⟨vs, rfl, h1⟩ := Rp.agg_iff.1 hv
      refine Rp.agg_iff.2 ⟨vs, rfl, ?_⟩
      have key : ∀ (cs : List SV) (vs : List Value), Rps p μ M (cs ++ [.d .nils]) vs → Rps p μ M (cs ++ [.d (.sl 0 [])]) vs := by
        intro cs
        induction cs with
        | nil =>
          intro vs h
          obtain ⟨u, us, rfl, h1, h2⟩ := Rps.cons_iff.1 h
          exact Rps.cons_iff.2 ⟨u, us, rfl, nils_sl p μ M u h1, h2⟩
        | cons c cs ih =>
          intro vs h
          obtain ⟨u, us, rfl, h1, h2⟩ := Rps.cons_iff.1 h
          exact Rps.cons_iff.2 ⟨u, us, rfl, h1, ih us h2⟩
      exact key (u8 kd :: u8 fr :: u8 to :: h.cells) vs.toList h1
    · exact hv
  clear hone g0 g1 g2 g3 g4 ho
  have hone := frDone kd fr to h (.d (.sl l.length (l.flatMap OpD.ds))) rfl
  have g0 := frD0 kd fr to h (.d (.sl l.length (l.flatMap OpD.ds)))
  have g1 := frD1 kd fr to h (.d (.sl l.length (l.flatMap OpD.ds)))
  have g2 := frD2 kd fr to h (.d (.sl l.length (l.flatMap OpD.ds)))
  have g3 := frDo kd fr to h (.d (.sl l.length (l.flatMap OpD.ds)))
  have g4 := frDl kd fr to h (.d (.sl l.length (l.flatMap OpD.ds)))
  have hok : ∀ q : Nat → Bool, SV.oks q (frD kd fr to h (.d (.sl l.length (l.flatMap OpD.ds)))) = true := fun q => frDok kd fr to h _ q
  have hren : ∀ r : Nat → Nat, SV.rens r (frD kd fr to h (.d (.sl l.length (l.flatMap OpD.ds)))) = frD kd fr to h (.d (.sl l.length (l.flatMap OpD.ds))) := fun r => frDren kd fr to h _ r
  generalize frD kd fr to h (.d (.sl l.length (l.flatMap OpD.ds))) = fc at hone g0 g1 g2 g3 g4 hok hren ⊢
  refine SW.seq ?_
  (refine SW.regL [0, 1, 2, 3, 40, 45, 55] mixed ?_; (repeat (first | refine RW.ro (hone) (h := ?_) | refine RW.skip (h := ?_) | refine RW.op (hone) (h := ?_) | refine RW.opN (hone) (h := ?_) | refine RW.skip0 (h := ?_))); refine RW.nil ⟨by kernel_rfl, Pruned.mk (h := ?_)⟩)
  refine SW.seq (SW.seq ?_)
  rcases b1 : decide ((kd : Int) > 1) with _ | _
  rotate_left
  · rw [mayV_no (by simp only [decide_eq_true_eq] at b1; omega)]
    (refine SW.regL [0, 1, 2, 3, 40, 45, 55] mixed ?_; (repeat (first | refine RW.ro (And.intro (g0) (And.intro (g1) (And.intro (g2) (And.intro (g3) (b1))))) (h := ?_) | refine RW.skip (h := ?_) | refine RW.op (And.intro (g0) (And.intro (g1) (And.intro (g2) (And.intro (g3) (b1))))) (h := ?_) | refine RW.opN (And.intro (g0) (And.intro (g1) (And.intro (g2) (And.intro (g3) (b1))))) (h := ?_) | refine RW.skip0 (h := ?_))); refine RW.nil ⟨by kernel_rfl, Pruned.mk (h := ?_)⟩)
    refine SW.condT rfl ?_
    (repeat (first | refine SW.seq ?_ | refine SW.block ?_ | (refine SW.regL [0, 1, 2, 3, 40, 45, 55] mixed ?_; (repeat (first | refine RW.ro bq_tt (h := ?_) | refine RW.skip (h := ?_) | refine RW.op bq_tt (h := ?_) | refine RW.opN bq_tt (h := ?_) | refine RW.skip0 (h := ?_))); refine RW.nil ⟨by kernel_rfl, Pruned.mk (h := ?_)⟩) | refine SW.skip ?_ | refine SW.exit ?_ | refine SW.ret ?_ | refine SW.condT rfl ?_ | refine SW.condF rfl ?_))
    exact End.mk [] (h4 := ⟨rfl, rfl⟩)
  rcases b2 : decide ((fr : Int) > 7) with _ | _
  rotate_left
  · rw [mayV_no (by simp only [decide_eq_true_eq] at b2; omega)]
    (refine SW.regL [0, 1, 2, 3, 40, 45, 55] mixed ?_; (repeat (first | refine RW.ro (And.intro (g0) (And.intro (g1) (And.intro (g2) (And.intro (g3) (And.intro (b1) (b2)))))) (h := ?_) | refine RW.skip (h := ?_) | refine RW.op (And.intro (g0) (And.intro (g1) (And.intro (g2) (And.intro (g3) (And.intro (b1) (b2)))))) (h := ?_) | refine RW.opN (And.intro (g0) (And.intro (g1) (And.intro (g2) (And.intro (g3) (And.intro (b1) (b2)))))) (h := ?_) | refine RW.skip0 (h := ?_))); refine RW.nil ⟨by kernel_rfl, Pruned.mk (h := ?_)⟩)
    refine SW.condT rfl ?_
    (repeat (first | refine SW.seq ?_ | refine SW.block ?_ | (refine SW.regL [0, 1, 2, 3, 40, 45, 55] mixed ?_; (repeat (first | refine RW.ro bq_tt (h := ?_) | refine RW.skip (h := ?_) | refine RW.op bq_tt (h := ?_) | refine RW.opN bq_tt (h := ?_) | refine RW.skip0 (h := ?_))); refine RW.nil ⟨by kernel_rfl, Pruned.mk (h := ?_)⟩) | refine SW.skip ?_ | refine SW.exit ?_ | refine SW.ret ?_ | refine SW.condT rfl ?_ | refine SW.condF rfl ?_))
    exact End.mk [] (h4 := ⟨rfl, rfl⟩)
  rcases b3 : decide ((to : Int) > 7) with _ | _
  rotate_left
  · rw [mayV_no (by simp only [decide_eq_true_eq] at b3; omega)]
    (refine SW.regL [0, 1, 2, 3, 40, 45, 55] mixed ?_; (repeat (first | refine RW.ro (And.intro (g0) (And.intro (g1) (And.intro (g2) (And.intro (g3) (And.intro (b1) (And.intro (b2) (b3))))))) (h := ?_) | refine RW.skip (h := ?_) | refine RW.op (And.intro (g0) (And.intro (g1) (And.intro (g2) (And.intro (g3) (And.intro (b1) (And.intro (b2) (b3))))))) (h := ?_) | refine RW.opN (And.intro (g0) (And.intro (g1) (And.intro (g2) (And.intro (g3) (And.intro (b1) (And.intro (b2) (b3))))))) (h := ?_) | refine RW.skip0 (h := ?_))); refine RW.nil ⟨by kernel_rfl, Pruned.mk (h := ?_)⟩)
    refine SW.condT rfl ?_
    (repeat (first | refine SW.seq ?_ | refine SW.block ?_ | (refine SW.regL [0, 1, 2, 3, 40, 45, 55] mixed ?_; (repeat (first | refine RW.ro bq_tt (h := ?_) | refine RW.skip (h := ?_) | refine RW.op bq_tt (h := ?_) | refine RW.opN bq_tt (h := ?_) | refine RW.skip0 (h := ?_))); refine RW.nil ⟨by kernel_rfl, Pruned.mk (h := ?_)⟩) | refine SW.skip ?_ | refine SW.exit ?_ | refine SW.ret ?_ | refine SW.condT rfl ?_ | refine SW.condF rfl ?_))
    exact End.mk [] (h4 := ⟨rfl, rfl⟩)
  rcases b4 : ((fr : Int) == to) with _ | _
  rotate_left
  · rw [mayV_no (by simp only [beq_iff_eq] at b4; omega)]
    (refine SW.regL [0, 1, 2, 3, 40, 45, 55] mixed ?_; (repeat (first | refine RW.ro (And.intro (g0) (And.intro (g1) (And.intro (g2) (And.intro (g3) (And.intro (b1) (And.intro (b2) (And.intro (b3) (b4)))))))) (h := ?_) | refine RW.skip (h := ?_) | refine RW.op (And.intro (g0) (And.intro (g1) (And.intro (g2) (And.intro (g3) (And.intro (b1) (And.intro (b2) (And.intro (b3) (b4)))))))) (h := ?_) | refine RW.opN (And.intro (g0) (And.intro (g1) (And.intro (g2) (And.intro (g3) (And.intro (b1) (And.intro (b2) (And.intro (b3) (b4)))))))) (h := ?_) | refine RW.skip0 (h := ?_))); refine RW.nil ⟨by kernel_rfl, Pruned.mk (h := ?_)⟩)
    refine SW.condT rfl ?_
    (repeat (first | refine SW.seq ?_ | refine SW.block ?_ | (refine SW.regL [0, 1, 2, 3, 40, 45, 55] mixed ?_; (repeat (first | refine RW.ro bq_tt (h := ?_) | refine RW.skip (h := ?_) | refine RW.op bq_tt (h := ?_) | refine RW.opN bq_tt (h := ?_) | refine RW.skip0 (h := ?_))); refine RW.nil ⟨by kernel_rfl, Pruned.mk (h := ?_)⟩) | refine SW.skip ?_ | refine SW.exit ?_ | refine SW.ret ?_ | refine SW.condT rfl ?_ | refine SW.condF rfl ?_))
    exact End.mk [] (h4 := ⟨rfl, rfl⟩)
  simp only [decide_eq_false_iff_not] at b1 b2 b3
  have b4' : fr ≠ to := by intro e; rw [e] at b4; simp at b4
  have c1 : decide ((kd : Int) > 1) = false := decide_eq_false b1
  have c2 : decide ((fr : Int) > 7) = false := decide_eq_false b2
  have c3 : decide ((to : Int) > 7) = false := decide_eq_false b3
  rcases b5 : ((kd : Int) == 0) with _ | _
  · have b5' : kd ≠ 0 := by intro e; rw [e] at b5; simp at b5
    rcases b7 : decide (((l.length : Nat) : Int) > 64) with _ | _
    rotate_left
    · rw [mayV_no (by simp only [decide_eq_true_eq] at b7; omega)]
      (refine SW.regL [0, 1, 2, 3, 40, 45, 55] mixed ?_; (repeat (first | refine RW.ro (And.intro (g0) (And.intro (g1) (And.intro (g2) (And.intro (g3) (And.intro (c1) (And.intro (c2) (And.intro (c3) (And.intro (b4) (And.intro (b5) (b7)))))))))) (h := ?_) | refine RW.skip (h := ?_) | refine RW.op (And.intro (g0) (And.intro (g1) (And.intro (g2) (And.intro (g3) (And.intro (c1) (And.intro (c2) (And.intro (c3) (And.intro (b4) (And.intro (b5) (b7)))))))))) (h := ?_) | refine RW.opN (And.intro (g0) (And.intro (g1) (And.intro (g2) (And.intro (g3) (And.intro (c1) (And.intro (c2) (And.intro (c3) (And.intro (b4) (And.intro (b5) (b7)))))))))) (h := ?_) | refine RW.skip0 (h := ?_))); refine RW.nil ⟨by kernel_rfl, Pruned.mk (h := ?_)⟩)
      refine SW.condT rfl ?_
      (repeat (first | refine SW.seq ?_ | refine SW.block ?_ | (refine SW.regL [0, 1, 2, 3, 40, 45, 55] mixed ?_; (repeat (first | refine RW.ro bq_tt (h := ?_) | refine RW.skip (h := ?_) | refine RW.op bq_tt (h := ?_) | refine RW.opN bq_tt (h := ?_) | refine RW.skip0 (h := ?_))); refine RW.nil ⟨by kernel_rfl, Pruned.mk (h := ?_)⟩) | refine SW.skip ?_ | refine SW.exit ?_ | refine SW.ret ?_ | refine SW.condT rfl ?_ | refine SW.condF rfl ?_))
      exact End.mk [] (h4 := ⟨rfl, rfl⟩)
    have b7' : l.length ≤ 64 := by simp only [decide_eq_false_iff_not] at b7; omega
    (refine SW.regL [0, 1, 2, 3, 40, 45, 55] mixed ?_; (repeat (first | refine RW.ro (And.intro (g0) (And.intro (g1) (And.intro (g2) (And.intro (g3) (And.intro (c1) (And.intro (c2) (And.intro (c3) (And.intro (b4) (And.intro (b5) (b7)))))))))) (h := ?_) | refine RW.skip (h := ?_) | refine RW.op (And.intro (g0) (And.intro (g1) (And.intro (g2) (And.intro (g3) (And.intro (c1) (And.intro (c2) (And.intro (c3) (And.intro (b4) (And.intro (b5) (b7)))))))))) (h := ?_) | refine RW.opN (And.intro (g0) (And.intro (g1) (And.intro (g2) (And.intro (g3) (And.intro (c1) (And.intro (c2) (And.intro (c3) (And.intro (b4) (And.intro (b5) (b7)))))))))) (h := ?_) | refine RW.skip0 (h := ?_))); refine RW.nil ⟨by kernel_rfl, Pruned.mk (h := ?_)⟩)
    refine SW.condF rfl (SW.skip ?_)
    refine SW.seq (SW.seq ?_)
    (refine SW.regL [0, 1, 2, 3, 40, 45, 55] mixed ?_; (repeat (first | refine RW.ro bq_tt (h := ?_) | refine RW.skip (h := ?_) | refine RW.op bq_tt (h := ?_) | refine RW.opN bq_tt (h := ?_) | refine RW.skip0 (h := ?_))); refine RW.nil ⟨by kernel_rfl, Pruned.mk (h := ?_)⟩)
    refine SW.block ?_
    refine SW.loopA (α := {i : Nat // i ≤ l.length ∧ ∀ j x, j < i → l[j]? = some x → longL x = false}) (fun i => ⟨[(3, i64 i.1), (1, .ptr 0 0)], [(0, .box 31 fc)], 1⟩) (fun i => l.length - i.1) ⟨0, by omega, by omega⟩ id (And.intro hok hren) (round := ?_)
    rintro ⟨i, hi, hs⟩
    by_cases h : i < l.length
    · have h1 : decide ((i : Int) < l.length) = true := by simp only [decide_eq_true_eq]; omega
      obtain ⟨x, hx⟩ := get_of_lt h
      have hxl := hw x (List.mem_of_getElem? hx)
      have e2 : IntKind.i64.wrap ((i : Int) + 1) = ((i + 1 : Nat) : Int) := wrap_i64 _ (by omega)
      have e3 := op_line hx
      rw [hxl.eq] at e3
      rcases hg : longL x with _ | _
      · have e4 : decide (((x.cl.length : Nat) : Int) > 16) = false := by unfold longL at hg; simp only [decide_eq_false_iff_not] at hg ⊢; omega
        (repeat (first | refine SW.seq ?_ | refine SW.block ?_ | (refine SW.regL [0, 1, 2, 3, 40, 45, 55] mixed ?_; (repeat (first | refine RW.ro (And.intro (h1) (And.intro (e2) (And.intro (e3) (And.intro (e4) (g3))))) (h := ?_) | refine RW.skip (h := ?_) | refine RW.op (And.intro (h1) (And.intro (e2) (And.intro (e3) (And.intro (e4) (g3))))) (h := ?_) | refine RW.opN (And.intro (h1) (And.intro (e2) (And.intro (e3) (And.intro (e4) (g3))))) (h := ?_) | refine RW.skip0 (h := ?_))); refine RW.nil ⟨by kernel_rfl, Pruned.mk (h := ?_)⟩) | refine SW.skip ?_ | refine SW.exit ?_ | refine SW.ret ?_ | refine SW.condT rfl ?_ | refine SW.condF rfl ?_))
        refine Next.mk ⟨i + 1, by omega, fun j y hj hy => ?_⟩ id (And.intro hok hren)
        rcases Nat.lt_or_ge j i with h2 | h2
        · exact hs j y h2 hy
        · have : j = i := by omega
          subst this
          rw [hx] at hy; injection hy with hy; rw [← hy]; exact hg
      · have e4 : decide (((x.cl.length : Nat) : Int) > 16) = true := by unfold longL at hg; simp only [decide_eq_true_eq] at hg ⊢; omega
        have : l.any longL = true := by rw [List.any_eq_true]; exact ⟨x, List.mem_of_getElem? hx, hg⟩
        rw [mayV_no (by rw [this]; simp)]
        (repeat (first | refine SW.seq ?_ | refine SW.block ?_ | (refine SW.regL [0, 1, 2, 3, 40, 45, 55] mixed ?_; (repeat (first | refine RW.ro (And.intro (h1) (And.intro (e2) (And.intro (e3) (And.intro (e4) (g3))))) (h := ?_) | refine RW.skip (h := ?_) | refine RW.op (And.intro (h1) (And.intro (e2) (And.intro (e3) (And.intro (e4) (g3))))) (h := ?_) | refine RW.opN (And.intro (h1) (And.intro (e2) (And.intro (e3) (And.intro (e4) (g3))))) (h := ?_) | refine RW.skip0 (h := ?_))); refine RW.nil ⟨by kernel_rfl, Pruned.mk (h := ?_)⟩) | refine SW.skip ?_ | refine SW.exit ?_ | refine SW.ret ?_ | refine SW.condT rfl ?_ | refine SW.condF rfl ?_))
        exact End.mk [] (h4 := ⟨rfl, rfl⟩)
    · have h1 : decide ((i : Int) < l.length) = false := by simp only [decide_eq_false_iff_not]; omega
      have : l.any longL = false := by
        rw [List.any_eq_false]
        intro x hx
        obtain ⟨j, hj⟩ := List.mem_iff_getElem?.1 hx
        rw [hs j x (by have := lt_of_get hj; omega) hj]; decide
      rw [show mayV kd fr to l = true from mayV_iff.2 ⟨by omega, by omega, by omega, by omega, by omega, by omega, this⟩]
      (repeat (first | refine SW.seq ?_ | refine SW.block ?_ | (refine SW.regL [0, 1, 2, 3, 40, 45, 55] mixed ?_; (repeat (first | refine RW.ro (And.intro (h1) (g3)) (h := ?_) | refine RW.skip (h := ?_) | refine RW.op (And.intro (h1) (g3)) (h := ?_) | refine RW.opN (And.intro (h1) (g3)) (h := ?_) | refine RW.skip0 (h := ?_))); refine RW.nil ⟨by kernel_rfl, Pruned.mk (h := ?_)⟩) | refine SW.skip ?_ | refine SW.exit ?_ | refine SW.ret ?_ | refine SW.condT rfl ?_ | refine SW.condF rfl ?_))
      exact End.mk [] (h4 := ⟨rfl, rfl⟩)
  · have b5' : kd = 0 := by simp only [beq_iff_eq] at b5; omega
    rcases b6 : decide (((l.length : Nat) : Int) > 0) with _ | _
    rotate_left
    · rw [mayV_no (by simp only [decide_eq_true_eq] at b6; omega)]
      (refine SW.regL [0, 1, 2, 3, 40, 45, 55] mixed ?_; (repeat (first | refine RW.ro (And.intro (g0) (And.intro (g1) (And.intro (g2) (And.intro (g3) (And.intro (c1) (And.intro (c2) (And.intro (c3) (And.intro (b4) (And.intro (b5) (b6)))))))))) (h := ?_) | refine RW.skip (h := ?_) | refine RW.op (And.intro (g0) (And.intro (g1) (And.intro (g2) (And.intro (g3) (And.intro (c1) (And.intro (c2) (And.intro (c3) (And.intro (b4) (And.intro (b5) (b6)))))))))) (h := ?_) | refine RW.opN (And.intro (g0) (And.intro (g1) (And.intro (g2) (And.intro (g3) (And.intro (c1) (And.intro (c2) (And.intro (c3) (And.intro (b4) (And.intro (b5) (b6)))))))))) (h := ?_) | refine RW.skip0 (h := ?_))); refine RW.nil ⟨by kernel_rfl, Pruned.mk (h := ?_)⟩)
      refine SW.condT rfl ?_
      (repeat (first | refine SW.seq ?_ | refine SW.block ?_ | (refine SW.regL [0, 1, 2, 3, 40, 45, 55] mixed ?_; (repeat (first | refine RW.ro bq_tt (h := ?_) | refine RW.skip (h := ?_) | refine RW.op bq_tt (h := ?_) | refine RW.opN bq_tt (h := ?_) | refine RW.skip0 (h := ?_))); refine RW.nil ⟨by kernel_rfl, Pruned.mk (h := ?_)⟩) | refine SW.skip ?_ | refine SW.exit ?_ | refine SW.ret ?_ | refine SW.condT rfl ?_ | refine SW.condF rfl ?_))
      exact End.mk [] (h4 := ⟨rfl, rfl⟩)
    have b6' : l.length = 0 := by simp only [decide_eq_false_iff_not] at b6; omega
    have b7 : decide (((l.length : Nat) : Int) > 64) = false := by simp only [decide_eq_false_iff_not]; omega
    (refine SW.regL [0, 1, 2, 3, 40, 45, 55] mixed ?_; (repeat (first | refine RW.ro (And.intro (g0) (And.intro (g1) (And.intro (g2) (And.intro (g3) (And.intro (c1) (And.intro (c2) (And.intro (c3) (And.intro (b4) (And.intro (b5) (And.intro (b6) (b7))))))))))) (h := ?_) | refine RW.skip (h := ?_) | refine RW.op (And.intro (g0) (And.intro (g1) (And.intro (g2) (And.intro (g3) (And.intro (c1) (And.intro (c2) (And.intro (c3) (And.intro (b4) (And.intro (b5) (And.intro (b6) (b7))))))))))) (h := ?_) | refine RW.opN (And.intro (g0) (And.intro (g1) (And.intro (g2) (And.intro (g3) (And.intro (c1) (And.intro (c2) (And.intro (c3) (And.intro (b4) (And.intro (b5) (And.intro (b6) (b7))))))))))) (h := ?_) | refine RW.skip0 (h := ?_))); refine RW.nil ⟨by kernel_rfl, Pruned.mk (h := ?_)⟩)
    refine SW.condF rfl (SW.skip ?_)
    refine SW.seq (SW.seq ?_)
    (refine SW.regL [0, 1, 2, 3, 40, 45, 55] mixed ?_; (repeat (first | refine RW.ro bq_tt (h := ?_) | refine RW.skip (h := ?_) | refine RW.op bq_tt (h := ?_) | refine RW.opN bq_tt (h := ?_) | refine RW.skip0 (h := ?_))); refine RW.nil ⟨by kernel_rfl, Pruned.mk (h := ?_)⟩)
    refine SW.block ?_
    refine SW.loopA (α := {i : Nat // i ≤ l.length ∧ ∀ j x, j < i → l[j]? = some x → longL x = false}) (fun i => ⟨[(3, i64 i.1), (1, .ptr 0 0)], [(0, .box 31 fc)], 1⟩) (fun i => l.length - i.1) ⟨0, by omega, by omega⟩ id (And.intro hok hren) (round := ?_)
    rintro ⟨i, hi, hs⟩
    by_cases h : i < l.length
    · have h1 : decide ((i : Int) < l.length) = true := by simp only [decide_eq_true_eq]; omega
      obtain ⟨x, hx⟩ := get_of_lt h
      have hxl := hw x (List.mem_of_getElem? hx)
      have e2 : IntKind.i64.wrap ((i : Int) + 1) = ((i + 1 : Nat) : Int) := wrap_i64 _ (by omega)
      have e3 := op_line hx
      rw [hxl.eq] at e3
      rcases hg : longL x with _ | _
      · have e4 : decide (((x.cl.length : Nat) : Int) > 16) = false := by unfold longL at hg; simp only [decide_eq_false_iff_not] at hg ⊢; omega
        (repeat (first | refine SW.seq ?_ | refine SW.block ?_ | (refine SW.regL [0, 1, 2, 3, 40, 45, 55] mixed ?_; (repeat (first | refine RW.ro (And.intro (h1) (And.intro (e2) (And.intro (e3) (And.intro (e4) (g3))))) (h := ?_) | refine RW.skip (h := ?_) | refine RW.op (And.intro (h1) (And.intro (e2) (And.intro (e3) (And.intro (e4) (g3))))) (h := ?_) | refine RW.opN (And.intro (h1) (And.intro (e2) (And.intro (e3) (And.intro (e4) (g3))))) (h := ?_) | refine RW.skip0 (h := ?_))); refine RW.nil ⟨by kernel_rfl, Pruned.mk (h := ?_)⟩) | refine SW.skip ?_ | refine SW.exit ?_ | refine SW.ret ?_ | refine SW.condT rfl ?_ | refine SW.condF rfl ?_))
        refine Next.mk ⟨i + 1, by omega, fun j y hj hy => ?_⟩ id (And.intro hok hren)
        rcases Nat.lt_or_ge j i with h2 | h2
        · exact hs j y h2 hy
        · have : j = i := by omega
          subst this
          rw [hx] at hy; injection hy with hy; rw [← hy]; exact hg
      · have e4 : decide (((x.cl.length : Nat) : Int) > 16) = true := by unfold longL at hg; simp only [decide_eq_true_eq] at hg ⊢; omega
        have : l.any longL = true := by rw [List.any_eq_true]; exact ⟨x, List.mem_of_getElem? hx, hg⟩
        rw [mayV_no (by rw [this]; simp)]
        (repeat (first | refine SW.seq ?_ | refine SW.block ?_ | (refine SW.regL [0, 1, 2, 3, 40, 45, 55] mixed ?_; (repeat (first | refine RW.ro (And.intro (h1) (And.intro (e2) (And.intro (e3) (And.intro (e4) (g3))))) (h := ?_) | refine RW.skip (h := ?_) | refine RW.op (And.intro (h1) (And.intro (e2) (And.intro (e3) (And.intro (e4) (g3))))) (h := ?_) | refine RW.opN (And.intro (h1) (And.intro (e2) (And.intro (e3) (And.intro (e4) (g3))))) (h := ?_) | refine RW.skip0 (h := ?_))); refine RW.nil ⟨by kernel_rfl, Pruned.mk (h := ?_)⟩) | refine SW.skip ?_ | refine SW.exit ?_ | refine SW.ret ?_ | refine SW.condT rfl ?_ | refine SW.condF rfl ?_))
        exact End.mk [] (h4 := ⟨rfl, rfl⟩)
    · have h1 : decide ((i : Int) < l.length) = false := by simp only [decide_eq_false_iff_not]; omega
      have : l.any longL = false := by
        rw [List.any_eq_false]
        intro x hx
        obtain ⟨j, hj⟩ := List.mem_iff_getElem?.1 hx
        rw [hs j x (by have := lt_of_get hj; omega) hj]; decide
      rw [show mayV kd fr to l = true from mayV_iff.2 ⟨by omega, by omega, by omega, by omega, by omega, by omega, this⟩]
      (repeat (first | refine SW.seq ?_ | refine SW.block ?_ | (refine SW.regL [0, 1, 2, 3, 40, 45, 55] mixed ?_; (repeat (first | refine RW.ro (And.intro (h1) (g3)) (h := ?_) | refine RW.skip (h := ?_) | refine RW.op (And.intro (h1) (g3)) (h := ?_) | refine RW.opN (And.intro (h1) (g3)) (h := ?_) | refine RW.skip0 (h := ?_))); refine RW.nil ⟨by kernel_rfl, Pruned.mk (h := ?_)⟩) | refine SW.skip ?_ | refine SW.exit ?_ | refine SW.ret ?_ | refine SW.condT rfl ?_ | refine SW.condF rfl ?_))
      exact End.mk [] (h4 := ⟨rfl, rfl⟩)
theorem rmay_at (kd fr to : Nat) (h : Vec) (o : DV) (l : List OpD) (ho : RowOf o l) (hl : l.length < 4611686018427387904) (hw : ∀ x, x ∈ l → x.lin) (k : Nat) : SCd Try.prog ref06_May.f [.agg (frD kd fr to h (.d o))] [] k 0 (bl (mayV kd fr to l)) [] :=
  (rmay_ok kd fr to h o l ho hl hw).sc (by simp [SV.oks, SV.ok, frDok]) k
theorem fmay_at (kd fr to : Nat) (h : Vec) (o : DV) (l : List OpD) (ho : RowOf o l) (hl : l.length < 4611686018427387904) (hw : ∀ x, x ∈ l → x.lin) (k : Nat) : SCd Try.prog frame_May.f [.agg (frD kd fr to h (.d o))] [] k 0 (bl (mayV kd fr to l)) [] :=
  (fmay_ok kd fr to h o l ho hl hw).sc (by simp [SV.oks, SV.ok, frDok]) k
end Go.Proofs.Ytgjgfamgbhlmfaa

/-
  Gossip: frames that are the same; digests.
-/
set_option linter.unusedSectionVars false
set_option linter.unusedVariables false
set_option linter.unusedSimpArgs false
namespace Go.Proofs.Ytgjgfamgbhlmfaa
open Go.Sl Go.Proofs
attribute [local irreducible] SW RW SCd SC CallP Pruned

/-- A frame whose row may be nil is held against one whose row is not. -/
theorem frW {kd fr to : Nat} {h : Vec} {o : DV} {l : List OpD} (ho : RowOf o l) (p : Nat → Prop) (μ : Nat → Nm) (M : Mem) (v : Value) (hv : Rp p μ M (.agg (frD kd fr to h (.d o))) v) : Rp p μ M (.agg (frD kd fr to h (ops l))) v := by
  rcases ho with ⟨rfl, rfl⟩ | rfl
  · obtain ⟨vs, rfl, h1⟩ := Rp.agg_iff.1 hv
    refine Rp.agg_iff.2 ⟨vs, rfl, ?_⟩
    have key : ∀ (cs : List SV) (vs : List Value), Rps p μ M (cs ++ [.d .nils]) vs → Rps p μ M (cs ++ [.d (.sl 0 [])]) vs := by
      intro cs
      induction cs with
      | nil =>
        intro vs h
        obtain ⟨u, us, rfl, h1, h2⟩ := Rps.cons_iff.1 h
        exact Rps.cons_iff.2 ⟨u, us, rfl, nils_sl p μ M u h1, h2⟩
      | cons c cs ih =>
        intro vs h
        obtain ⟨u, us, rfl, h1, h2⟩ := Rps.cons_iff.1 h
        exact Rps.cons_iff.2 ⟨u, us, rfl, h1, ih us h2⟩
    exact key (u8 kd :: u8 fr :: u8 to :: h.cells) vs.toList h1
  · exact hv
theorem opsOk_ln {l : List OpD} (h : ∀ x, x ∈ l → x.lin) : ∀ x, x ∈ l → lnOk x := fun x hx => .inr (h x hx)
set_option maxHeartbeats 4000000 in
theorem fsame_ok (kd fr to : Nat) (h : Vec) (l : List OpD) (hl : l.length < 4611686018427387904) (hw : ∀ x, x ∈ l → lnOk x) : Go.Sl.Pure Try.prog ref06_Same.f [.agg (frD kd fr to h (ops l)), .agg (frD kd fr to h (ops l))] (bl true) := by
  have hone := frDone kd fr to h (ops l) rfl
  have g0 := frD0 kd fr to h (ops l)
  have g1 := frD1 kd fr to h (ops l)
  have g2 := frD2 kd fr to h (ops l)
  have g3 := frDo kd fr to h (ops l)
  have g4 := frDl kd fr to h (ops l)
  have g5 := frDh kd fr to h (ops l)
  refine ref06_Same.enter (by simp [SV.ok, SV.oks, frDok]) (by simp [Hp.ok]) (by simp) ?_
  dsimp only [ref06_Same.s, Co.M, Co.G, Co.J, Co.H, Co.N, Co.F, Co.C, Co.Z, Co.B, Co.b8, Co.b32, Co.b64, Co.i6, Co.z8, Co.z29]
  generalize frD kd fr to h (ops l) = fc at hone g0 g1 g2 g3 g4 g5 ⊢
  have d2 : ∀ d : Vec, decide (d = d) = true := fun d => by simp
  have d3 : ∀ d : Int, (d == d) = true := fun d => by simp
  have g6 : (3 + 8 ≤ fc.length) = True := eq_true (by omega)
  refine SW.seq ?_
  (refine SW.regL [0, 1, 2, 3, 4] mixed ?_; (repeat (first | refine RW.ro (hone) (h := ?_) | refine RW.skip (h := ?_) | refine RW.op (hone) (h := ?_) | refine RW.opN (hone) (h := ?_) | refine RW.skip0 (h := ?_) | (refine RW.callC (h := ?_); (first | refine CallP.mk (hone) (hc := sameAll_at _ (by first | assumption | omega) (by first | assumption | omega) _) (h := ?_))))); refine RW.nil ⟨by kernel_rfl, Pruned.mk (h := ?_)⟩)
  refine SW.seq ?_
  (refine SW.regL [0, 1, 2, 3, 4] mixed ?_; (repeat (first | refine RW.ro (And.intro (g0) (And.intro (g1) (And.intro (g2) (And.intro (g3) (And.intro (g4) (And.intro (g5) (And.intro (g6) (And.intro (d2) (d3))))))))) (h := ?_) | refine RW.skip (h := ?_) | refine RW.op (And.intro (g0) (And.intro (g1) (And.intro (g2) (And.intro (g3) (And.intro (g4) (And.intro (g5) (And.intro (g6) (And.intro (d2) (d3))))))))) (h := ?_) | refine RW.opN (And.intro (g0) (And.intro (g1) (And.intro (g2) (And.intro (g3) (And.intro (g4) (And.intro (g5) (And.intro (g6) (And.intro (d2) (d3))))))))) (h := ?_) | refine RW.skip0 (h := ?_) | (refine RW.callC (h := ?_); (first | refine CallP.mk (And.intro (g0) (And.intro (g1) (And.intro (g2) (And.intro (g3) (And.intro (g4) (And.intro (g5) (And.intro (g6) (And.intro (d2) (d3))))))))) (hc := sameAll_at _ (by first | assumption | omega) (by first | assumption | omega) _) (h := ?_))))); refine RW.nil ⟨by kernel_rfl, Pruned.mk (h := ?_)⟩)
  refine SW.ret ?_
  exact End.mk [] (h4 := ⟨rfl, rfl⟩)
theorem fsame_at (kd fr to : Nat) (h : Vec) (o o' : DV) (l : List OpD) (ho : RowOf o l) (ho' : RowOf o' l) (hl : l.length < 4611686018427387904) (hw : ∀ x, x ∈ l → lnOk x) (k : Nat) : SCd Try.prog ref06_Same.f [.agg (frD kd fr to h (.d o)), .agg (frD kd fr to h (.d o'))] [] k 0 (bl true) [] := by
  have hc := (fsame_ok kd fr to h l hl hw).sc (by simp [SV.oks, SV.ok, frDok]) k
  unfold SCd at hc ⊢
  refine SC.args (fun p μ M vs hv => ?_) hc
  obtain ⟨u, us, rfl, h1, h2⟩ := Rps.cons_iff.1 hv
  obtain ⟨u2, us2, rfl, h3, h4⟩ := Rps.cons_iff.1 h2
  exact Rps.cons_iff.2 ⟨u, _, rfl, frW ho p μ M u h1, Rps.cons_iff.2 ⟨u2, us2, rfl, frW ho' p μ M u2 h3, h4⟩⟩

abbrev zFr : List SV := frD 0 0 0 Vec.zero (.d .nils)
/-- What is handed back of a frame that may be, or not. -/
def mayR (b : Bool) (fc : List SV) (e : Int) : SV := .tup [.agg (if b then fc else zFr), i64 (if b then 0 else e)]
theorem zfr_lit : [SV.d (.int .u8 0), .d (.int .u8 0), .d (.int .u8 0), .d (.int .u32 0), .d (.int .u32 0), .d (.int .u32 0), .d (.int .u32 0), .d (.int .u32 0), .d (.int .u32 0), .d (.int .u32 0), .d (.int .u32 0), .d .nils] = zFr := rfl
theorem gmay_ok (kd fr to : Nat) (h : Vec) (o : DV) (l : List OpD) (e : Int) (ho : RowOf o l) (hl : l.length < 4611686018427387904) (hw : ∀ x, x ∈ l → x.lin) : Go.Sl.Pure Try.prog gossip_may.f [.agg (frD kd fr to h (.d o)), .d (.int .i64 e)] (mayR (mayV kd fr to l) (frD kd fr to h (.d o)) e) := by
  have hone := frDone kd fr to h (.d o) rfl
  have g4 := frDl kd fr to h (.d o)
  have hm := fmay_at kd fr to h o l ho hl hw
  have ht : List.take 12 (frD kd fr to h (.d o)) = frD kd fr to h (.d o) := rfl
  have hz : spl zFr 0 (frD kd fr to h (.d o)) = frD kd fr to h (.d o) := rfl
  have hok := fun q => frDok kd fr to h o q
  refine gossip_may.enter (by simp [SV.ok, SV.oks, frDok]) (by simp [Hp.ok]) (by simp) ?_
  dsimp only [gossip_may.s, Co.M, Co.G, Co.J, Co.H, Co.N, Co.F, Co.C, Co.Z, Co.B, Co.b8, Co.b32, Co.b64, Co.i6, Co.z8, Co.z29]
  generalize frD kd fr to h (.d o) = fc at hone g4 hm ht hz hok ⊢
  have z0 : zFr.all SV.isOne = true := rfl
  have z1 : zFr.length = 12 := rfl
  have z2 : spl zFr 0 zFr = zFr := rfl
  have z3 : List.take 12 zFr = zFr := rfl
  refine SW.seq ?_
  (refine SW.regL [0, 1, 2, 4, 5, 8] mixed ?_; (repeat (first | refine RW.ro (And.intro (hone) (zfr_lit)) (h := ?_) | refine RW.skip (h := ?_) | refine RW.op (And.intro (hone) (zfr_lit)) (h := ?_) | refine RW.opN (And.intro (hone) (zfr_lit)) (h := ?_) | refine RW.skip0 (h := ?_) | (refine RW.callC (h := ?_); (first | refine CallP.mk (And.intro (hone) (zfr_lit)) (hc := sameAll_at _ (by first | assumption | omega) (by first | assumption | omega) _) (h := ?_))))); refine RW.nil ⟨by kernel_rfl, Pruned.mk (h := ?_)⟩)
  rcases hg : mayV kd fr to l with _ | _
  · rw [hg] at hm
    refine SW.seq (SW.seq ?_)
    (refine SW.regL [0, 1, 2, 4, 5, 8] mixed ?_; (repeat (first | refine RW.ro (And.intro (ht) (And.intro (g4) (And.intro (hone) (zfr_lit)))) (h := ?_) | refine RW.skip (h := ?_) | refine RW.op (And.intro (ht) (And.intro (g4) (And.intro (hone) (zfr_lit)))) (h := ?_) | refine RW.opN (And.intro (ht) (And.intro (g4) (And.intro (hone) (zfr_lit)))) (h := ?_) | refine RW.skip0 (h := ?_) | (refine RW.callC (h := ?_); (first | refine CallP.mk (And.intro (ht) (And.intro (g4) (And.intro (hone) (zfr_lit)))) (hc := hm _) (h := ?_))))); refine RW.nil ⟨by kernel_rfl, Pruned.mk (h := ?_)⟩)
    refine SW.condT rfl ?_
    (repeat (first | refine SW.seq ?_ | refine SW.block ?_ | (refine SW.regL [0, 1, 2, 4, 5, 8] mixed ?_; (repeat (first | refine RW.ro (And.intro (ht) (And.intro (g4) (And.intro (hone) (And.intro (zfr_lit) (And.intro (z0) (And.intro (z1) (And.intro (z2) (z3)))))))) (h := ?_) | refine RW.skip (h := ?_) | refine RW.op (And.intro (ht) (And.intro (g4) (And.intro (hone) (And.intro (zfr_lit) (And.intro (z0) (And.intro (z1) (And.intro (z2) (z3)))))))) (h := ?_) | refine RW.opN (And.intro (ht) (And.intro (g4) (And.intro (hone) (And.intro (zfr_lit) (And.intro (z0) (And.intro (z1) (And.intro (z2) (z3)))))))) (h := ?_) | refine RW.skip0 (h := ?_) | (refine RW.callC (h := ?_); (first | refine CallP.mk (And.intro (ht) (And.intro (g4) (And.intro (hone) (And.intro (zfr_lit) (And.intro (z0) (And.intro (z1) (And.intro (z2) (z3)))))))) (hc := hm _) (h := ?_))))); refine RW.nil ⟨by kernel_rfl, Pruned.mk (h := ?_)⟩) | refine SW.skip ?_ | refine SW.exit ?_ | refine SW.ret ?_ | refine SW.condT rfl ?_ | refine SW.condF rfl ?_))
    exact End.mk [] (h2 := by simp [ldo]; omega) (h4 := ⟨by simp only [mayR, Bool.false_eq_true, if_false]; rfl, rfl⟩) (h5 := by simp [retV, SV.ok, SV.oks]; exact frDok 0 0 0 Vec.zero .nils _)
  · rw [hg] at hm
    refine SW.seq (SW.seq ?_)
    (refine SW.regL [0, 1, 2, 4, 5, 8] mixed ?_; (repeat (first | refine RW.ro (And.intro (ht) (And.intro (g4) (And.intro (hone) (zfr_lit)))) (h := ?_) | refine RW.skip (h := ?_) | refine RW.op (And.intro (ht) (And.intro (g4) (And.intro (hone) (zfr_lit)))) (h := ?_) | refine RW.opN (And.intro (ht) (And.intro (g4) (And.intro (hone) (zfr_lit)))) (h := ?_) | refine RW.skip0 (h := ?_) | (refine RW.callC (h := ?_); (first | refine CallP.mk (And.intro (ht) (And.intro (g4) (And.intro (hone) (zfr_lit)))) (hc := hm _) (h := ?_))))); refine RW.nil ⟨by kernel_rfl, Pruned.mk (h := ?_)⟩)
    refine SW.condF rfl (SW.skip ?_)
    (repeat (first | refine SW.seq ?_ | refine SW.block ?_ | (refine SW.regL [0, 1, 2, 4, 5, 8] mixed ?_; (repeat (first | refine RW.ro (And.intro (ht) (And.intro (g4) (And.intro (hone) (And.intro (zfr_lit) (And.intro (z0) (And.intro (z1) (And.intro (z2) (And.intro (z3) (hz))))))))) (h := ?_) | refine RW.skip (h := ?_) | refine RW.op (And.intro (ht) (And.intro (g4) (And.intro (hone) (And.intro (zfr_lit) (And.intro (z0) (And.intro (z1) (And.intro (z2) (And.intro (z3) (hz))))))))) (h := ?_) | refine RW.opN (And.intro (ht) (And.intro (g4) (And.intro (hone) (And.intro (zfr_lit) (And.intro (z0) (And.intro (z1) (And.intro (z2) (And.intro (z3) (hz))))))))) (h := ?_) | refine RW.skip0 (h := ?_) | (refine RW.callC (h := ?_); (first | refine CallP.mk (And.intro (ht) (And.intro (g4) (And.intro (hone) (And.intro (zfr_lit) (And.intro (z0) (And.intro (z1) (And.intro (z2) (And.intro (z3) (hz))))))))) (hc := hm _) (h := ?_))))); refine RW.nil ⟨by kernel_rfl, Pruned.mk (h := ?_)⟩) | refine SW.skip ?_ | refine SW.exit ?_ | refine SW.ret ?_ | refine SW.condT rfl ?_ | refine SW.condF rfl ?_))
    exact End.mk [] (h2 := by simp [ldo]; omega) (h4 := ⟨by simp only [mayR, if_true, retV, List.drop_zero, ht, g4], rfl⟩) (h5 := by simp [retV, SV.ok, SV.oks, ht, hok])
end Go.Proofs.Ytgjgfamgbhlmfaa

/-
  Gossip: a delta's frame, that operations are appended to, one by one, until it is full.
-/
set_option linter.unusedSectionVars false
set_option linter.unusedVariables false
set_option linter.unusedSimpArgs false
namespace Go.Proofs.Ytgjgfamgbhlmfaa
open Go.Sl Go.Proofs
attribute [local irreducible] SW RW SCd SC CallP Pruned

theorem frDokS (kd fr to : Nat) (h : Vec) (o : SV) (q : Nat → Bool) : SV.oks q (frD kd fr to h o) = o.ok q := by
  simp [frD, SV.oks, SV.oks_append, Vec.cells_ok, SV.ok]
theorem frDrenS (kd fr to : Nat) (h : Vec) (o : SV) (r : Nat → Nat) : SV.rens r (frD kd fr to h o) = frD kd fr to h (o.ren r) := by
  simp [frD, SV.rens, SV.rens_append, Vec.cells_ren, SV.ren]
theorem frDset (kd fr to : Nat) (h : Vec) (o o' : SV) : spl (frD kd fr to h o) 11 [o'] = frD kd fr to h o' := rfl
/-- A frame's row that grows, or is nil; what is pending. -/
structure DF (y fb mb : Nat) where
  row : Option (List OpD × Nat)
  pe : Option Code
  ne : ∀ p, row = some p → y < p.2 ∧ p.2 ≠ fb ∧ p.2 ≠ mb
section
variable {y fb mb : Nat}
def DF.l (s : DF y fb mb) : List OpD := match s.row with | none => [] | some p => p.1
def DF.v (s : DF y fb mb) : SV := match s.row with | none => .d .nils | some p => .gs p.2 p.1.length
def DF.hp (s : DF y fb mb) : Hp := match s.row with | none => [] | some p => [(p.2, .arr 48 29 p.1.length ((p.1.flatMap OpD.ds).map .d))]
def dfH (fr to : Nat) (h : Vec) (m : Nat) (ca cb : Code) (s : DF y fb mb) : Hp :=
  (y, .rcd 56 [9, 12] [.ptr mb 0, .ptr fb 0] [40] ca cb (recSt s.pe) s.pe) :: (fb, .box 31 (frD 1 fr to h s.v)) :: (mb, .box 3 [i64 m]) :: s.hp
def DF.to (m : Nat) (s : DF y fb mb) (x : OpD) (s' : DF y fb mb) : Prop := s.pe = none ∧ (s.l.length = m → s'.pe = some (.exit 1) ∧ s'.l = s.l) ∧ (s.l.length ≠ m → s'.pe = none ∧ s'.l = s.l ++ [x])
theorem DF.lens {m : Nat} {s0 s : DF y fb mb} {xs : List OpD} (h : OnBy (DF.to m) s0 xs s) : s.l.length ≤ s0.l.length + xs.length := by
  induction h with
  | nil => simp
  | @snoc xs s1 s2 x _ h ih =>
    obtain ⟨_, h1, h2⟩ := h
    refine Classical.byCases (p := s1.l.length = m) (fun e => ?_) fun e => ?_
    · rw [(h1 e).2]; simp; omega
    · rw [(h2 e).2]; simp; omega
end

set_option maxHeartbeats 2000000 in
theorem deltaBody {y fb mb B : Nat} (d1 : y ≠ fb) (d2 : y ≠ mb) (d3 : fb ≠ mb) (fr to : Nat) (h : Vec) (m : Nat) (hm0 : 1 ≤ m) (hm : m < 1000) (s0 : DF y fb mb) (hB : s0.l.length + B < 2097152) {ca cb : Code} (hca : cK Try.prog 56 ca = some (.reg [⟨some 14, .alloc 48 zOp, none⟩, ⟨none, .store 29 (.t 14) (.t 40), none⟩] (fullB 2) false))
    (hcb : cK Try.prog 56 cb = some (.block 2 (.seq (.seq (.reg [⟨some 41, .fld 11 (.t 12), none⟩, ⟨some 42, .load none (.t 41), none⟩, ⟨some 43, .len (.t 42), none⟩, ⟨some 44, .load none (.t 9), none⟩, ⟨some 45, .bin .eql (.t 43) (.t 44), none⟩] (fullB 5) false) (.cond (.t 45) (.exit 1) .skip)) (.reg [⟨some 46, .fld 11 (.t 12), none⟩, ⟨some 47, .load none (.t 46), none⟩, ⟨some 48, .load (some 29) (.t 14), none⟩, ⟨some 49, .bsl 48 29 1 zOp [(0, 29, .t 48)], none⟩, ⟨some 50, .app 48 29 144 (.t 47) (.t 49), none⟩, ⟨some 51, .fld 11 (.t 12), none⟩, ⟨none, .store 1 (.t 51) (.t 50), none⟩] (fullB 7) false)))) :
    YieldOk Try.prog y (fun x : OpD => .agg x.cells) 2 (dfH (y := y) (fb := fb) (mb := mb) fr to h m ca cb) (DF.to m) (fun s => s.pe.isNone) s0 B := by
  have f1 := ne4 d1
  have f2 := ne4 d2
  have f3 := ne4 d3
  refine ⟨fun s => by simp [dfH, lk_cons], fun s x hx => ?_, fun s xs x k hon hlt hok hgo => ?_⟩
  · obtain ⟨row, pe, hne⟩ := s
    rcases row with _ | ⟨l, rn⟩
    · simp only [dfH, DF.hp, List.mem_cons, List.not_mem_nil, or_false] at hx
      rcases hx with rfl | rfl | rfl <;> simp [dfH, lk_cons, f1, f2, f3]
    · obtain ⟨n1', n2, n3⟩ := hne _ rfl
      have n1 : rn ≠ y := Nat.ne_of_gt n1'
      have f4 := ne4 n1
      have f5 := ne4 n2
      have f6 := ne4 n3
      simp only [dfH, DF.hp, List.mem_cons, List.not_mem_nil, or_false] at hx
      rcases hx with rfl | rfl | rfl | rfl <;> simp [dfH, DF.hp, lk_cons, f1, f2, f3, f4, f5, f6]
  · have hlen := DF.lens hon
    have hle : s.l.length < 2097152 := by omega
    clear hon hlen hlt
    obtain ⟨row, pe, hne⟩ := s
    simp only [Option.isNone_iff_eq_none] at hgo
    subst hgo
    have g0 := frDo 1 fr to h
    have g1 := frDset 1 fr to h
    have g2 := frDl 1 fr to h
    have g3 := frDokS 1 fr to h
    rcases row with _ | ⟨l, rn⟩
    · simp only [dfH, DF.v, DF.hp, Hp.ok, List.all_cons, List.all_nil, Ob.ok, SV.oks, SV.ok, g3, Bool.and_true, Bool.and_eq_true, decide_eq_true_eq] at hok
      obtain ⟨⟨k1, _⟩, k2, k3⟩ := hok
      have e1 := ne4 (show k ≠ y by omega)
      have e2 := ne4 (show k ≠ fb by omega)
      have e3 := ne4 (show k ≠ mb by omega)
      have e4 := ne4 (show k + 1 ≠ k by omega)
      have e5 := ne4 (show k + 1 ≠ y by omega)
      have e6 := ne4 (show k + 1 ≠ fb by omega)
      have e7 := ne4 (show k + 1 ≠ mb by omega)
      refine SYB.here (fun n => n == y || n == fb || n == mb) (SYB.of_code (cs := [.ptr mb 0, .ptr fb 0]) (H := [(fb, .box 31 (frD 1 fr to h (.d .nils))), (mb, .box 3 [i64 m])]) hca hcb rfl rfl rfl (by simp) k1 (by simp [lk_cons, lk_nil, f1, f2]) (by simp [SV.oks, SV.ok]) (by simp [Hp.ok, Ob.ok, SV.oks, SV.ok, g3]; omega) (by simp [SV.oks, SV.ok]; omega) ?_) ?_ (by simp [SV.oks, SV.ok]) (by simp [dfH, DF.v, DF.hp, Hp.ok, Ob.ok, SV.oks, SV.ok, g3]) ?_
      · skip
        show Go.Sl.SW _ _ _ _ ⟨[(40, .agg x.cells), (9, .ptr mb 0), (12, .ptr fb 0)], _, _⟩ _
        (refine SW.regL [9, 12, 14, 40, 45] mixed ?_; (repeat (first | refine RW.ro (And.intro (f1) (And.intro (f2) (And.intro (f3) (And.intro (e1) (And.intro (e2) (e3)))))) (h := ?_) | refine RW.skip (h := ?_) | refine RW.op (And.intro (f1) (And.intro (f2) (And.intro (f3) (And.intro (e1) (And.intro (e2) (e3)))))) (h := ?_) | refine RW.opN (And.intro (f1) (And.intro (f2) (And.intro (f3) (And.intro (e1) (And.intro (e2) (e3)))))) (h := ?_) | refine RW.skip0 (h := ?_) | refine lit1 rfl rfl (h := ?_))); refine RW.nil ⟨by kernel_rfl, Pruned.mk (h := ?_)⟩)
        have q1 : ((0 : Int) == (m : Int)) = false := by simp; omega
        refine ⟨rfl, SW.block (SW.seq (SW.seq ?_))⟩
        (refine SW.regL [9, 12, 14, 40, 45] mixed ?_; (repeat (first | refine RW.ro (And.intro (f1) (And.intro (f2) (And.intro (f3) (And.intro (e1) (And.intro (e2) (And.intro (e3) (And.intro (e4) (And.intro (e5) (And.intro (e6) (And.intro (e7) (And.intro (g0) (And.intro (g1) (And.intro (g2) (q1)))))))))))))) (h := ?_) | refine RW.skip (h := ?_) | refine RW.op (And.intro (f1) (And.intro (f2) (And.intro (f3) (And.intro (e1) (And.intro (e2) (And.intro (e3) (And.intro (e4) (And.intro (e5) (And.intro (e6) (And.intro (e7) (And.intro (g0) (And.intro (g1) (And.intro (g2) (q1)))))))))))))) (h := ?_) | refine RW.opN (And.intro (f1) (And.intro (f2) (And.intro (f3) (And.intro (e1) (And.intro (e2) (And.intro (e3) (And.intro (e4) (And.intro (e5) (And.intro (e6) (And.intro (e7) (And.intro (g0) (And.intro (g1) (And.intro (g2) (q1)))))))))))))) (h := ?_) | refine RW.skip0 (h := ?_) | refine lit1 rfl rfl (h := ?_))); refine RW.nil ⟨by kernel_rfl, Pruned.mk (h := ?_)⟩)
        refine SW.condF rfl (SW.skip ?_)
        (refine SW.regL [9, 12, 14, 40, 45] mixed ?_; (repeat (first | refine RW.ro (And.intro (f1) (And.intro (f2) (And.intro (f3) (And.intro (e1) (And.intro (e2) (And.intro (e3) (And.intro (e4) (And.intro (e5) (And.intro (e6) (And.intro (e7) (And.intro (g0) (And.intro (g1) (g2))))))))))))) (h := ?_) | refine RW.skip (h := ?_) | refine RW.op (And.intro (f1) (And.intro (f2) (And.intro (f3) (And.intro (e1) (And.intro (e2) (And.intro (e3) (And.intro (e4) (And.intro (e5) (And.intro (e6) (And.intro (e7) (And.intro (g0) (And.intro (g1) (g2))))))))))))) (h := ?_) | refine RW.opN (And.intro (f1) (And.intro (f2) (And.intro (f3) (And.intro (e1) (And.intro (e2) (And.intro (e3) (And.intro (e4) (And.intro (e5) (And.intro (e6) (And.intro (e7) (And.intro (g0) (And.intro (g1) (g2))))))))))))) (h := ?_) | refine RW.skip0 (h := ?_) | refine lit1 rfl rfl (h := ?_))); refine RW.nil ⟨by kernel_rfl, Pruned.mk (h := ?_)⟩)
        refine ⟨none, true, [(fb, .box 31 (frD 1 fr to h (.gs (k + 1) 1))), (mb, .box 3 [i64 m]), (k + 1, .arr 48 29 1 (([x].flatMap OpD.ds).map .d))], ⟨rfl, rfl⟩, ?_, ?_, by simp, ⟨⟨some ([x], k + 1), none, fun p hp => by cases hp; exact ⟨by show y < k + 1; omega, by show k + 1 ≠ fb; omega, by show k + 1 ≠ mb; omega⟩⟩, ⟨rfl, fun h => by simp [DF.l] at h; omega, fun _ => ⟨rfl, rfl⟩⟩, rfl, rfl, ?_, ?_⟩⟩
        · refine HSub.cons ?_ (HSub.cons ?_ (HSub.cons ?_ (HSub.nil _)))
          · simp [lk_cons, f1, f2, f3, e1, e2, e3, e4, e5, e6, e7]
          · simp [lk_cons, f1, f2, f3, e1, e2, e3, e4, e5, e6, e7]
          · simp [lk_cons]
        · simp [Hp.ok, Ob.ok, SV.oks, SV.ok, SV.oks_d, g3]; omega
        · simp [dfH, DF.v, DF.hp, Hp.ok, Ob.ok, SV.oks, SV.ok, SV.oks_d, g3]; omega
        · intro n hn
          by_cases hy' : n = y
          · exact .inl (by simp [dfH, lk_cons, hy'])
          · by_cases hfb : n = fb
            · exact .inl (by simp [dfH, lk_cons, hfb, f1])
            · by_cases hmb : n = mb
              · exact .inl (by simp [dfH, lk_cons, hmb, f2, f3])
              · refine .inr ?_
                have : n = k + 1 := Classical.byContradiction fun hne => hn (by simp [dfH, DF.hp, lk_cons, lk_nil, hy', hfb, hmb, hne])
                omega
      · intro n hn
        simp only [Bool.or_eq_true, beq_iff_eq] at hn
        rcases hn with (rfl | rfl) | rfl <;> simp [dfH, lk_cons, f1, f2, f3]
      · rintro r F' ⟨s', hs', rfl, rfl, hok', hnm⟩ _ _
        obtain ⟨row', pe', hne'⟩ := s'
        refine ⟨rfl, ?_⟩
        rcases row' with _ | ⟨l', rn'⟩
        · simp [dfH, DF.v, DF.hp, Hp.ok, Ob.ok, SV.oks, SV.ok, SV.oks_d, g3]
        · obtain ⟨w1', w2, w3⟩ := hne' _ rfl
          have w1 : rn' ≠ y := Nat.ne_of_gt w1'
          simp [dfH, DF.v, DF.hp, Hp.ok, Ob.ok, SV.oks, SV.ok, SV.oks_d, g3]
          have hh := hnm rn' (by simp [dfH, DF.hp, lk_cons, w1, w2, w3])
          rcases hh with hh | ⟨hh1, hh2⟩
          · exfalso; apply hh
            simp [dfH, DF.hp, lk_cons, lk_nil, w1, w2, w3]
          · simp [hh1]; omega
    · obtain ⟨n1', n2, n3⟩ := hne _ rfl
      have n1 : rn ≠ y := Nat.ne_of_gt n1'
      have f4 := ne4 n1
      have f5 := ne4 n2
      have f6 := ne4 n3
      simp only [dfH, DF.v, DF.hp, Hp.ok, List.all_cons, List.all_nil, Ob.ok, SV.oks, SV.ok, SV.oks_d, g3, Bool.and_true, Bool.and_eq_true, decide_eq_true_eq] at hok
      obtain ⟨⟨k1, _⟩, ⟨k2, _⟩, k3, k4⟩ := hok
      have hle : l.length < 2097152 := hle
      have e1 := ne4 (show k ≠ y by omega)
      have e2 := ne4 (show k ≠ fb by omega)
      have e3 := ne4 (show k ≠ mb by omega)
      have e4 := ne4 (show k + 1 ≠ k by omega)
      have e5 := ne4 (show k + 1 ≠ y by omega)
      have e6 := ne4 (show k + 1 ≠ fb by omega)
      have e7 := ne4 (show k + 1 ≠ mb by omega)
      have e8 := ne4 (show k ≠ rn by omega)
      have e9 := ne4 (show k + 1 ≠ rn by omega)
      have hH : ∀ (k' : Nat), k ≤ k' → Hp.ok (fun n => decide (n < k')) [(fb, .box 31 (frD 1 fr to h (.gs rn l.length))), (mb, .box 3 [i64 m]), (rn, .arr 48 29 l.length ((l.flatMap OpD.ds).map .d))] = true := fun k' hk' => by
        simp [Hp.ok, Ob.ok, SV.oks, SV.ok, SV.oks_d, g3]; omega
      refine SYB.here (fun n => n == y || n == fb || n == mb || n == rn) (SYB.of_code (cs := [.ptr mb 0, .ptr fb 0]) (H := [(fb, .box 31 (frD 1 fr to h (.gs rn l.length))), (mb, .box 3 [i64 m]), (rn, .arr 48 29 l.length ((l.flatMap OpD.ds).map .d))]) hca hcb rfl rfl rfl (by simp) k1 (by simp [lk_cons, lk_nil, f1, f2, f4]) (by simp [SV.oks, SV.ok]) (hH k (Nat.le_refl _)) (by simp [SV.oks, SV.ok]; omega) ?_) ?_ (by simp [SV.oks, SV.ok]) (by simp [dfH, DF.v, DF.hp, Hp.ok, Ob.ok, SV.oks, SV.ok, SV.oks_d, g3]) ?_
      · skip
        show Go.Sl.SW _ _ _ _ ⟨[(40, .agg x.cells), (9, .ptr mb 0), (12, .ptr fb 0)], _, _⟩ _
        (refine SW.regL [9, 12, 14, 40, 45] mixed ?_; (repeat (first | refine RW.ro (And.intro (f1) (And.intro (f2) (And.intro (f3) (And.intro (f4) (And.intro (f5) (And.intro (f6) (And.intro (e1) (And.intro (e2) (And.intro (e3) (e8)))))))))) (h := ?_) | refine RW.skip (h := ?_) | refine RW.op (And.intro (f1) (And.intro (f2) (And.intro (f3) (And.intro (f4) (And.intro (f5) (And.intro (f6) (And.intro (e1) (And.intro (e2) (And.intro (e3) (e8)))))))))) (h := ?_) | refine RW.opN (And.intro (f1) (And.intro (f2) (And.intro (f3) (And.intro (f4) (And.intro (f5) (And.intro (f6) (And.intro (e1) (And.intro (e2) (And.intro (e3) (e8)))))))))) (h := ?_) | refine RW.skip0 (h := ?_) | refine lit1 rfl rfl (h := ?_))); refine RW.nil ⟨by kernel_rfl, Pruned.mk (h := ?_)⟩)
        refine ⟨rfl, SW.block (SW.seq (SW.seq ?_))⟩
        refine Classical.byCases (fun hlm : l.length = m => ?_) fun hlm => ?_
        · have q1 : ((l.length : Int) == (m : Int)) = true := by simp; omega
          (refine SW.regL [9, 12, 14, 40, 45] mixed ?_; (repeat (first | refine RW.ro (And.intro (f1) (And.intro (f2) (And.intro (f3) (And.intro (f4) (And.intro (f5) (And.intro (f6) (And.intro (e1) (And.intro (e2) (And.intro (e3) (And.intro (e4) (And.intro (e5) (And.intro (e6) (And.intro (e7) (And.intro (e8) (And.intro (e9) (And.intro (g0) (And.intro (g1) (And.intro (g2) (q1))))))))))))))))))) (h := ?_) | refine RW.skip (h := ?_) | refine RW.op (And.intro (f1) (And.intro (f2) (And.intro (f3) (And.intro (f4) (And.intro (f5) (And.intro (f6) (And.intro (e1) (And.intro (e2) (And.intro (e3) (And.intro (e4) (And.intro (e5) (And.intro (e6) (And.intro (e7) (And.intro (e8) (And.intro (e9) (And.intro (g0) (And.intro (g1) (And.intro (g2) (q1))))))))))))))))))) (h := ?_) | refine RW.opN (And.intro (f1) (And.intro (f2) (And.intro (f3) (And.intro (f4) (And.intro (f5) (And.intro (f6) (And.intro (e1) (And.intro (e2) (And.intro (e3) (And.intro (e4) (And.intro (e5) (And.intro (e6) (And.intro (e7) (And.intro (e8) (And.intro (e9) (And.intro (g0) (And.intro (g1) (And.intro (g2) (q1))))))))))))))))))) (h := ?_) | refine RW.skip0 (h := ?_) | refine lit1 rfl rfl (h := ?_))); refine RW.nil ⟨by kernel_rfl, Pruned.mk (h := ?_)⟩)
          refine SW.condT rfl ?_
          refine SW.weak id (st1 := ⟨[], [(fb, .box 31 (frD 1 fr to h (.gs rn l.length))), (mb, .box 3 [i64 m]), (rn, .arr 48 29 l.length ((l.flatMap OpD.ds).map .d))], k + 2⟩) (Weak.same (Nat.le_add_right _ _) trivial (hH (k + 2) (by omega)) fun z hz => ?_) ?_
          · simp only [List.mem_cons, List.not_mem_nil, or_false] at hz
            rcases hz with rfl | rfl | rfl <;> simp [lk_cons, f1, f2, f3, f4, f5, f6, e1, e2, e3, e8]
          · refine SW.exit ?_
            refine ⟨some (.exit 1), false, [(fb, .box 31 (frD 1 fr to h (.gs rn l.length))), (mb, .box 3 [i64 m]), (rn, .arr 48 29 l.length ((l.flatMap OpD.ds).map .d))], ⟨rfl, rfl⟩, fun _ _ h => h, hH _ (by omega), Nat.le_refl _, ⟨⟨some (l, rn), some (.exit 1), hne⟩, ⟨rfl, fun _ => ⟨rfl, rfl⟩, fun h => absurd hlm h⟩, rfl, rfl, ?_, fun n hn => .inl fun h0 => hn ?_⟩⟩
            · simp [dfH, DF.v, DF.hp, Hp.ok, Ob.ok, SV.oks, SV.ok, SV.oks_d, g3]; omega
            · by_cases hy' : n = y
              · simp [dfH, lk_cons, hy'] at h0
              · simpa [dfH, DF.v, DF.hp, lk_cons, hy'] using h0
        · have q1 : ((l.length : Int) == (m : Int)) = false := by simp; omega
          (refine SW.regL [9, 12, 14, 40, 45] mixed ?_; (repeat (first | refine RW.ro (And.intro (f1) (And.intro (f2) (And.intro (f3) (And.intro (f4) (And.intro (f5) (And.intro (f6) (And.intro (e1) (And.intro (e2) (And.intro (e3) (And.intro (e4) (And.intro (e5) (And.intro (e6) (And.intro (e7) (And.intro (e8) (And.intro (e9) (And.intro (g0) (And.intro (g1) (And.intro (g2) (q1))))))))))))))))))) (h := ?_) | refine RW.skip (h := ?_) | refine RW.op (And.intro (f1) (And.intro (f2) (And.intro (f3) (And.intro (f4) (And.intro (f5) (And.intro (f6) (And.intro (e1) (And.intro (e2) (And.intro (e3) (And.intro (e4) (And.intro (e5) (And.intro (e6) (And.intro (e7) (And.intro (e8) (And.intro (e9) (And.intro (g0) (And.intro (g1) (And.intro (g2) (q1))))))))))))))))))) (h := ?_) | refine RW.opN (And.intro (f1) (And.intro (f2) (And.intro (f3) (And.intro (f4) (And.intro (f5) (And.intro (f6) (And.intro (e1) (And.intro (e2) (And.intro (e3) (And.intro (e4) (And.intro (e5) (And.intro (e6) (And.intro (e7) (And.intro (e8) (And.intro (e9) (And.intro (g0) (And.intro (g1) (And.intro (g2) (q1))))))))))))))))))) (h := ?_) | refine RW.skip0 (h := ?_) | refine lit1 rfl rfl (h := ?_))); refine RW.nil ⟨by kernel_rfl, Pruned.mk (h := ?_)⟩)
          refine SW.condF rfl (SW.skip ?_)
          (refine SW.regL [9, 12, 14, 40, 45] mixed ?_; (repeat (first | refine RW.ro (And.intro (f1) (And.intro (f2) (And.intro (f3) (And.intro (f4) (And.intro (f5) (And.intro (f6) (And.intro (e1) (And.intro (e2) (And.intro (e3) (And.intro (e4) (And.intro (e5) (And.intro (e6) (And.intro (e7) (And.intro (e8) (And.intro (e9) (And.intro (g0) (And.intro (g1) (g2)))))))))))))))))) (h := ?_) | refine RW.skip (h := ?_) | refine RW.op (And.intro (f1) (And.intro (f2) (And.intro (f3) (And.intro (f4) (And.intro (f5) (And.intro (f6) (And.intro (e1) (And.intro (e2) (And.intro (e3) (And.intro (e4) (And.intro (e5) (And.intro (e6) (And.intro (e7) (And.intro (e8) (And.intro (e9) (And.intro (g0) (And.intro (g1) (g2)))))))))))))))))) (h := ?_) | refine RW.opN (And.intro (f1) (And.intro (f2) (And.intro (f3) (And.intro (f4) (And.intro (f5) (And.intro (f6) (And.intro (e1) (And.intro (e2) (And.intro (e3) (And.intro (e4) (And.intro (e5) (And.intro (e6) (And.intro (e7) (And.intro (e8) (And.intro (e9) (And.intro (g0) (And.intro (g1) (g2)))))))))))))))))) (h := ?_) | refine RW.skip0 (h := ?_) | refine lit1 rfl rfl (h := ?_))); refine RW.nil ⟨by kernel_rfl, Pruned.mk (h := ?_)⟩)
          have e10 : ((l ++ [x]).flatMap OpD.ds).map SV.d = (List.flatMap OpD.ds l).map SV.d ++ x.ds.map SV.d := by simp
          refine ⟨none, true, [(fb, .box 31 (frD 1 fr to h (.gs (k + 1) (l ++ [x]).length))), (mb, .box 3 [i64 m]), (k + 1, .arr 48 29 (l ++ [x]).length (((l ++ [x]).flatMap OpD.ds).map .d))], ⟨rfl, rfl⟩, ?_, ?_, by simp, ⟨⟨some (l ++ [x], k + 1), none, fun p hp => by cases hp; exact ⟨by show y < k + 1; omega, by show k + 1 ≠ fb; omega, by show k + 1 ≠ mb; omega⟩⟩, ⟨rfl, fun h => absurd h hlm, fun _ => ⟨rfl, rfl⟩⟩, rfl, rfl, ?_, ?_⟩⟩
          · refine HSub.cons ?_ (HSub.cons ?_ (HSub.cons ?_ (HSub.nil _)))
            · simp [lk_cons, f1, f2, f3, f4, f5, f6, e1, e2, e3, e4, e5, e6, e7, e8, e9]
            · simp [lk_cons, f1, f2, f3, f4, f5, f6, e1, e2, e3, e4, e5, e6, e7, e8, e9]
            · rw [e10]; simp [lk_cons]
          · simp [Hp.ok, Ob.ok, SV.oks, SV.ok, SV.oks_d, g3, -List.flatMap_append, -List.map_append]; omega
          · simp [dfH, DF.v, DF.hp, Hp.ok, Ob.ok, SV.oks, SV.ok, SV.oks_d, g3, -List.flatMap_append, -List.map_append]; omega
          · intro n hn
            by_cases hy' : n = y
            · exact .inl (by simp [dfH, lk_cons, hy'])
            · by_cases hfb : n = fb
              · exact .inl (by simp [dfH, lk_cons, hfb, f1])
              · by_cases hmb : n = mb
                · exact .inl (by simp [dfH, lk_cons, hmb, f2, f3])
                · refine .inr ?_
                  have : n = k + 1 := Classical.byContradiction fun hne => hn (by simp [dfH, DF.hp, lk_cons, lk_nil, hy', hfb, hmb, hne])
                  omega
      · intro n hn
        simp only [Bool.or_eq_true, beq_iff_eq] at hn
        rcases hn with ((rfl | rfl) | rfl) | rfl <;> simp [dfH, DF.hp, lk_cons, f1, f2, f3, f4, f5, f6]
      · rintro r F' ⟨s', hs', rfl, rfl, hok', hnm⟩ _ _
        obtain ⟨row', pe', hne'⟩ := s'
        refine ⟨rfl, ?_⟩
        rcases row' with _ | ⟨l', rn'⟩
        · simp [dfH, DF.v, DF.hp, Hp.ok, Ob.ok, SV.oks, SV.ok, SV.oks_d, g3]
        · obtain ⟨w1', w2, w3⟩ := hne' _ rfl
          have w1 : rn' ≠ y := Nat.ne_of_gt w1'
          simp [dfH, DF.v, DF.hp, Hp.ok, Ob.ok, SV.oks, SV.ok, SV.oks_d, g3]
          have hh := hnm rn' (by simp [dfH, DF.hp, lk_cons, w1, w2, w3])
          rcases hh with hh | ⟨hh1, hh2⟩
          · have : rn' = rn := by
              refine Classical.byContradiction fun hne => hh ?_
              simp [dfH, DF.hp, lk_cons, lk_nil, w1, w2, w3, hne]
            simp [this]
          · simp [hh1]; omega
end Go.Proofs.Ytgjgfamgbhlmfaa
