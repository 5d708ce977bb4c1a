/-
  Order: where operations stand, by their dots.
-/
import Derived.Test.YtnakpdoioammhaaDoorUK
import Derived.Test.YtnakpdoioammhaaDoorUA
import Derived.Test.YtnakpdoioammhaaDoorUL
import Derived.Test.YtnakpdoioammhaaDoorUB
import Derived.Test.YtnakpdoioammhaaDoorUC
set_option linter.unusedSectionVars false
set_option linter.unusedVariables false
set_option linter.unusedSimpArgs false
namespace Go.Proofs.YtnakpdoioammhaaDoor
open Go.Sl Go.Proofs
attribute [local irreducible] SW RW SCd SC CallP Pruned
def ixO (t : List OpD) (d : Dt) : Option Int := (t.findIdx? fun o => decide (o.dot = d)).map fun i => (i : Int)
def AtO (M : MM Dt Int) (t : List OpD) : Prop := ∀ d, MM.get M d = ixO t d
theorem ixO_snoc (t : List OpD) (x : OpD) (d : Dt) : ixO (t ++ [x]) d = match ixO t d with
    | some i => some i
    | none => if x.dot = d then some (t.length : Int) else none := by
  unfold ixO
  rw [List.findIdx?_append]
  cases h : t.findIdx? fun o => decide (o.dot = d) with
  | some i => simp
  | none =>
    by_cases hx : x.dot = d
    · simp [List.findIdx?_cons, hx]
    · simp [List.findIdx?_cons, hx]
theorem keys_nd {M : MM Dt Int} {c : Nat} {d : Dt} {i : Int} (h : (MM.keys M).Nodup) (hh : MM.has M d = false) : (MM.keys (MM.put M c d i)).Nodup := by
  rw [MM.keys_put, hh]
  simp only [Bool.false_eq_true, if_false]
  rw [List.nodup_append]
  refine ⟨h, by simp, fun a ha b hb e => ?_⟩
  simp only [List.mem_singleton] at hb
  have := MM.has_iff.2 (e ▸ ha : b ∈ MM.keys M)
  rw [hb, hh] at this; cases this
def XO (l : List OpD) : Type := {x : Nat × MM Dt Int × Nat // x.1 ≤ l.length ∧ AtO x.2.1 (l.take x.1) ∧ (MM.keys x.2.1).Nodup}
def xo0 (l : List OpD) : XO l := ⟨(0, [], 0), ⟨Nat.zero_le _, fun d => rfl, List.nodup_nil⟩⟩
def idxS (l : List OpD) (m : Nat) : SV := .agg [ops l, .mp m]
set_option maxHeartbeats 1000000 in
theorem indexOf_sb (l : List OpD) (hl : l.length < 4611686018427387904) : SB Tryd.prog order_indexOf.f [ops l] [] 0 3 fun r F => r = idxS l 1 ∧ ∃ M c, (AtO M l ∧ (MM.keys M).Nodup) ∧ F = [(1, .map (mapE Dt.cells iv M) c)] := by
  refine order_indexOf.enter (by first | rfl | simp [SV.ok, SV.oks]) (by first | rfl | simp [Hp.ok, Ob.ok, SV.ok, SV.oks, Vec.cells_ok]) (by simp) ?_
  dsimp only [order_indexOf.s, Co.M, Co.G, Co.J, Co.H, Co.N, Co.F, Co.C, Co.Z, Co.B, Co.b8, Co.b32, Co.b64, Co.i6, Co.z8, Co.z29]
  have s1 : spl (spl [SV.d .nils, SV.d .nilm] 0 [ops l]) 1 [SV.mp 1] = [ops l, .mp 1] := rfl
  have s2 : spl [SV.d .nils, SV.d .nilm] 0 [ops l, .mp 1] = [ops l, .mp 1] := rfl
  refine SW.seq ?_
  refine SW.g0 [0, 2, 3, 4, 5, 7, 11, 12, 13, 14, 27] mixed bq_tt ?_
  refine SW.seq ?_
  refine SW.g0 [0, 2, 3, 4, 5, 7, 11, 12, 13, 14, 27] mixed (And.intro (s1) (s2)) ?_
  refine SW.seq (SW.seq ?_)
  refine SW.g0 [0, 2, 3, 4, 5, 7, 11, 12, 13, 14, 27] mixed bq_tt ?_
  refine SW.block ?_
  refine SW.loopA (α := XO l) (fun x => ⟨[(13, i64 x.1.1), (11, ops l), (12, i64 l.length), (3, .ptr 2 0), (2, .ptr 0 0), (0, ops l)], [(2, .box 79 [ops l, .mp 1]), (1, .map (mapE Dt.cells iv x.1.2.1) x.1.2.2), (0, .box 79 [.d .nils, .d .nilm])], 3⟩) (fun x => l.length - x.1.1) (xo0 l) id (And.intro (show (xo0 l).val = (0, [], 0) from rfl) (show mapE Dt.cells iv ([] : MM Dt Int) = [] from rfl)) (round := ?_)
  rintro ⟨⟨i, M, c⟩, hi, hM, hK⟩
  dsimp only at *
  by_cases h : i < l.length
  · have h1 : decide ((i : Int) < l.length) = true := by simp only [decide_eq_true_eq]; omega
    obtain ⟨x, hx⟩ := get_of_lt h
    have e2 : IntKind.i64.wrap ((i : Int) + 1) = ((i + 1 : Nat) : Int) := wrap_i64 _ (by omega)
    have e1 : l.take (i + 1) = l.take i ++ [x] := take_snoc hx
    have hsn := ixO_snoc (l.take i) x
    rw [← e1] at hsn
    have u1 := find_dt x.dot iv M
    have u3 := look_int (kc := Dt.cells) M x.dot
    have u4 := mset_int (kc := Dt.cells) M c x.dot (i : Int)
    refine SW.seq ?_
    refine SW.g0 [0, 2, 3, 4, 5, 7, 11, 12, 13, 14, 27] mixed (h1) ?_
    refine SW.seq (SW.condT rfl (SW.skip ?_))
    refine SW.seq (SW.block (SW.seq ?_))
    refine SW.g0 [0, 2, 3, 4, 5, 7, 11, 12, 13, 14, 27] mixed (And.intro (op_at hx) (op_room0 hx)) ?_
    refine SW.seq ?_
    rcases hh : MM.has M x.dot with _ | _
    · have hn : MM.get M x.dot = none := by
        rw [← MM.idx_none]
        rw [← MM.idx_isSome] at hh
        cases hz : MM.idx M x.dot with
        | none => rfl
        | some j => rw [hz] at hh; cases hh
      refine SW.g0 [0, 2, 3, 4, 5, 7, 11, 12, 13, 14, 27] mixed (And.intro (u1) (And.intro (u3) (And.intro (x.gDot) (hh)))) ?_
      refine SW.seq ?_
      refine SW.g0 [0, 2, 3, 4, 5, 7, 11, 12, 13, 14, 27] mixed bq_tt ?_
      refine SW.condT rfl ?_
      refine SW.g0 [0, 2, 3, 4, 5, 7, 11, 12, 13, 14, 27] mixed (And.intro (u1) (And.intro (u4) (x.gDot))) ?_
      refine SW.g0 [0, 2, 3, 4, 5, 7, 11, 12, 13, 14, 27] mixed (e2) ?_
      have hA : AtO (MM.put M c x.dot (i : Int)) (l.take (i + 1)) := fun d => by
        rw [MM.get_put, e1, ixO_snoc, ← hM d]
        have hti : (l.take i).length = i := by simp; omega
        by_cases hd : d = x.dot
        · subst hd
          rw [if_pos rfl, hn, hti]; simp
        · rw [if_neg hd]
          cases MM.get M d with
          | some j => rfl
          | none => rw [if_neg (fun e => hd e.symm)]
      exact ⟨⟨(i + 1, MM.put M c x.dot (i : Int), MM.clk M c x.dot), ⟨by show i + 1 ≤ _; omega, hA, keys_nd hK hh⟩⟩, id, by show l.length - (i + 1) < _; omega, Weak.mk (Φ := ((mapE Dt.cells iv (MM.put M c x.dot (i : Int))).all fun e => e.2.1.ok (fun n => decide (n < 3)) && e.2.2.ok (fun n => decide (n < 3))) = true) (mapE_ok _ _ (fun _ => rfl) (fun _ => rfl))⟩
    · refine SW.g0 [0, 2, 3, 4, 5, 7, 11, 12, 13, 14, 27] mixed (And.intro (u1) (And.intro (u3) (And.intro (x.gDot) (hh)))) ?_
      refine SW.seq ?_
      refine SW.g0 [0, 2, 3, 4, 5, 7, 11, 12, 13, 14, 27] mixed bq_tt ?_
      refine SW.condF rfl (SW.skip ?_)
      refine SW.g0 [0, 2, 3, 4, 5, 7, 11, 12, 13, 14, 27] mixed (e2) ?_
      have hA : AtO M (l.take (i + 1)) := fun d => by
        rw [e1, ixO_snoc, ← hM d]
        cases hg : MM.get M d with
        | some j => rfl
        | none =>
          by_cases hd : x.dot = d
          · subst hd
            rw [← MM.idx_isSome] at hh
            rw [← MM.idx_none] at hg
            rw [hg] at hh; cases hh
          · rw [if_neg hd]
      exact ⟨⟨(i + 1, M, c), ⟨by show i + 1 ≤ _; omega, hA, hK⟩⟩, id, by show l.length - (i + 1) < _; omega, Weak.mk (Φ := ((mapE Dt.cells iv M).all fun e => e.2.1.ok (fun n => decide (n < 3)) && e.2.2.ok (fun n => decide (n < 3))) = true) (mapE_ok _ _ (fun _ => rfl) (fun _ => rfl))⟩
  · have h1 : decide ((i : Int) < l.length) = false := by simp only [decide_eq_false_iff_not]; omega
    have h2 : i = l.length := by omega
    subst h2
    rw [List.take_length] at hM
    refine SW.seq ?_
    refine SW.g0 [0, 2, 3, 4, 5, 7, 11, 12, 13, 14, 27] mixed (h1) ?_
    refine SW.seq (SW.condF rfl (SW.exit ?_))
    refine SW.seq ?_
    refine SW.g0 [0, 2, 3, 4, 5, 7, 11, 12, 13, 14, 27] mixed (s2) ?_
    refine SW.ret ?_
    exact End.mk [(1, .map (mapE Dt.cells iv M) c)] (h4 := ⟨rfl, M, c, ⟨hM, hK⟩, rfl⟩) (h6 := by simp only [Hp.ok, List.all_cons, List.all_nil, Ob.ok, Bool.and_true]; rw [Bool.and_eq_true]; exact ⟨by simp, mapE_ok _ _ (fun _ => rfl) (fun _ => rfl)⟩)
end Go.Proofs.YtnakpdoioammhaaDoor
namespace Go.Proofs.YtnakpdoioammhaaDoor
open Go.Sl Go.Proofs
attribute [local irreducible] SW RW SCd SC CallP Pruned
theorem Rp.mp_p {p : Nat → Prop} {μ : Nat → Nm} {M : Mem} {n : Nat} {v : Value} (h : Rp p μ M (.mp n) v) : p n := Classical.byContradiction fun hn => by
  have h1 := h (fun m => if m = n then ⟨0, 0, true⟩ else μ m) (fun m hm => if_neg (fun (e : m = n) => hn (by rw [← e]; exact hm)))
  have h2 := h (fun m => if m = n then ⟨1, 0, true⟩ else μ m) (fun m hm => if_neg (fun (e : m = n) => hn (by rw [← e]; exact hm)))
  simp [Rep] at h1 h2
  rw [h1] at h2
  simp at h2
theorem imap_ok (q : Nat → Bool) (M : MM Dt Int) : ((mapE Dt.cells iv M).all fun e => e.2.1.ok q && e.2.2.ok q) = true := mapE_ok q M (fun _ => rfl) (fun _ => rfl)
theorem indexOf_at (l : List OpD) (hl : l.length < 4611686018427387904) : SC Tryd.prog order_indexOf.f [ops l] [] 0 3 fun r F => r = idxS l 1 ∧ ∃ M c, (AtO M l ∧ (MM.keys M).Nodup) ∧ F = [(1, .map (mapE Dt.cells iv M) c)] :=
  (indexOf_sb l hl).here (fun _ => false) (fun n hn => by cases hn) (by simp [SV.oks, SV.ok, SV.oks_d]) (by simp [Hp.ok]) (by
    rintro r F ⟨rfl, M, c, _, rfl⟩ _ _
    exact ⟨by simp [idxS, SV.ok, SV.oks], by simp [Hp.ok, Ob.ok, imap_ok]⟩)
end Go.Proofs.YtnakpdoioammhaaDoor
namespace Go.Proofs.YtnakpdoioammhaaDoor
open Go.Sl Go.Proofs
attribute [local irreducible] SW RW SCd SC CallP Pruned
theorem before_ok (a b : OpD) : Go.Sl.Pure Tryd.prog order_Before.f [.agg a.cells, .agg b.cells] (bl (a.before b)) := by
  refine order_Before.enter (by first | rfl | simp [SV.ok, SV.oks]) (by first | rfl | simp [Hp.ok, Ob.ok, SV.ok, SV.oks, Vec.cells_ok]) (by simp) ?_
  dsimp only [order_Before.s, Co.M, Co.G, Co.J, Co.H, Co.N, Co.F, Co.C, Co.Z, Co.B, Co.b8, Co.b32, Co.b64, Co.i6, Co.z8, Co.z29]
  refine SW.seq ?_
  (refine SW.regL [0, 1, 2, 3, 4] mixed ?_; (repeat (first | refine RW.ro bq_tt (h := ?_) | refine RW.skip (h := ?_) | refine RW.op bq_tt (h := ?_) | refine RW.opN bq_tt (h := ?_) | refine RW.skip0 (h := ?_) | (refine RW.callC (h := ?_); (first | refine CallP.mk bq_tt (hc := covers_at _ _ _) (h := ?_))))); refine RW.nil ⟨by kernel_rfl, Pruned.mk (h := ?_)⟩)
  refine SW.seq ?_
  (have fx := (And.intro (a.gDot) (b.gDep)); refine SW.regL [0, 1, 2, 3, 4] mixed ?_; (repeat (first | refine RW.ro fx (h := ?_) | refine RW.skip (h := ?_) | refine RW.op fx (h := ?_) | refine RW.opN fx (h := ?_) | refine RW.skip0 (h := ?_) | (refine RW.callC (h := ?_); (first | refine CallP.mk fx (hc := covers_at _ _ _) (h := ?_))))); refine RW.nil ⟨by kernel_rfl, Pruned.mk (h := ?_)⟩)
  refine SW.ret ?_
  exact End.mk [] (h4 := ⟨rfl, rfl⟩)
theorem before_at (a b : OpD) (k : Nat) : SCd Tryd.prog order_Before.f [.agg a.cells, .agg b.cells] [] k 0 (bl (a.before b)) [] := (before_ok a b).sc rfl k
set_option maxHeartbeats 1000000 in
theorem known_ok (l : List OpD) (hl : l.length < 4611686018427387904) (hw : ∀ x, x ∈ l → x.dot.wf) : Go.Sl.Pure Tryd.prog order_Known.f [ops l] (.agg (knownV l).cells) := by
  refine order_Known.enter (by first | rfl | simp [SV.ok, SV.oks]) (by first | rfl | simp [Hp.ok, Ob.ok, SV.ok, SV.oks, Vec.cells_ok]) (by simp) ?_
  dsimp only [order_Known.s, Co.M, Co.G, Co.J, Co.H, Co.N, Co.F, Co.C, Co.Z, Co.B, Co.b8, Co.b32, Co.b64, Co.i6, Co.z8, Co.z29]
  (repeat (first | refine SW.seq ?_ | refine SW.block ?_ | refine SW.g0 [0, 2, 3, 5, 6, 7, 8, 9, 16] mixed bq_tt ?_ | refine SW.skip ?_ | refine SW.exit ?_ | refine SW.ret ?_ | refine SW.condT rfl ?_ | refine SW.condF rfl ?_))
  refine SW.loopA (α := {i : Nat // i ≤ l.length}) (fun i => ⟨[(8, i64 i.1), (6, ops l), (7, i64 l.length), (2, .ptr 0 0), (3, .ptr 1 0)], [(1, .box 29 (knownV (l.take i.1)).cells), (0, .box 29 Vec.zero.cells)], 2⟩) (fun i => l.length - i.1) ⟨0, by omega⟩ id (And.intro (show knownV [] = Vec.zero from rfl) bq_tt) (round := ?_)
  rintro ⟨i, hi⟩
  dsimp only
  by_cases h : i < l.length
  · have h1 : decide ((i : Int) < l.length) = true := by simp only [decide_eq_true_eq]; omega
    obtain ⟨x, hx⟩ := get_of_lt h
    have hxw := hw x (List.mem_of_getElem? hx)
    have e2 : IntKind.i64.wrap ((i : Int) + 1) = ((i + 1 : Nat) : Int) := wrap_i64 _ (by omega)
    have e3 : IntKind.i64.wrap (x.dot.r : Int) = (x.dot.r : Int) := wrap_i64 _ (by have := hxw.1; omega)
    have e1 : l.take (i + 1) = l.take i ++ [x] := take_snoc hx
    have hsn := knownV_snoc (l.take i) x
    rw [← e1] at hsn
    unfold knStep at hsn
    generalize knownV (l.take i) = v at hsn ⊢
    by_cases hr : x.dot.r < 8
    · have e4 : decide ((x.dot.r : Int) < 8) = true := by simp; omega
      rw [if_pos hr] at hsn
      have e5 : (if (x.dot.n : Int) > ((v.get x.dot.r : Nat) : Int) then (x.dot.n : Int) else ((v.get x.dot.r : Nat) : Int)) = ((max (v.get x.dot.r) x.dot.n : Nat) : Int) := by split <;> omega
      have e6 : spl v.cells x.dot.r [.d (.int .u32 ((max (v.get x.dot.r) x.dot.n : Nat) : Int))] = (v.set x.dot.r (max (v.get x.dot.r) x.dot.n)).cells := by rw [spl_one]; exact Vec.cells_set v hr _
      (repeat (first | refine SW.seq ?_ | refine SW.block ?_ | refine SW.g0 [0, 2, 3, 5, 6, 7, 8, 9, 16] mixed (And.intro (h1) (And.intro (op_at hx) (And.intro (op_room0 hx) (And.intro (e2) (And.intro (e3) (And.intro (e4) (And.intro (Vec.cells_get v hr) (And.intro (e5) (e6))))))))) ?_ | refine SW.skip ?_ | refine SW.exit ?_ | refine SW.ret ?_ | refine SW.condT rfl ?_ | refine SW.condF rfl ?_))
      dsimp only
      exact ⟨⟨i + 1, by omega⟩, id, by show l.length - (i + 1) < _; omega, Weak.mk (And.intro hsn bq_tt)⟩
    · have e4 : decide ((x.dot.r : Int) < 8) = false := by simp; omega
      rw [if_neg hr] at hsn
      (repeat (first | refine SW.seq ?_ | refine SW.block ?_ | refine SW.g0 [0, 2, 3, 5, 6, 7, 8, 9, 16] mixed (And.intro (h1) (And.intro (op_at hx) (And.intro (op_room0 hx) (And.intro (e2) (And.intro (e3) (e4)))))) ?_ | refine SW.skip ?_ | refine SW.exit ?_ | refine SW.ret ?_ | refine SW.condT rfl ?_ | refine SW.condF rfl ?_))
      dsimp only
      exact ⟨⟨i + 1, by omega⟩, id, by show l.length - (i + 1) < _; omega, Weak.mk (And.intro hsn bq_tt)⟩
  · have h1 : decide ((i : Int) < l.length) = false := by simp only [decide_eq_false_iff_not]; omega
    have h2 : i = l.length := by omega
    subst h2
    rw [List.take_length]
    (repeat (first | refine SW.seq ?_ | refine SW.block ?_ | refine SW.g0 [0, 2, 3, 5, 6, 7, 8, 9, 16] mixed (h1) ?_ | refine SW.skip ?_ | refine SW.exit ?_ | refine SW.ret ?_ | refine SW.condT rfl ?_ | refine SW.condF rfl ?_))
    exact End.mk [] (h4 := ⟨rfl, rfl⟩)
theorem known_at (l : List OpD) (hl : l.length < 4611686018427387904) (hw : ∀ x, x ∈ l → x.dot.wf) (k : Nat) : SCd Tryd.prog order_Known.f [ops l] [] k 0 (.agg (knownV l).cells) [] := (known_ok l hl hw).sc rfl k
def idxP (p : OpD → Bool) (l : List OpD) : Int := match l.findIdx? p with
  | some i => (i : Int)
  | none => -1
theorem idxP_any (p : OpD → Bool) (l : List OpD) : decide (idxP p l ≥ 0) = l.any p := by
  unfold idxP
  cases h : l.findIdx? p with
  | none =>
    rw [List.findIdx?_eq_none_iff] at h
    have : l.any p = false := by rw [List.any_eq_false]; exact fun x hx => by rw [h x hx]; decide
    rw [this]; rfl
  | some i =>
    rw [List.findIdx?_eq_some_iff_getElem] at h
    obtain ⟨h1, h2, _⟩ := h
    have : l.any p = true := by rw [List.any_eq_true]; exact ⟨_, List.getElem_mem h1, h2⟩
    rw [this]
    simp
def TellsP (g t : Nat) (ds : List DV) (p : OpD → Bool) (l : List OpD) : Prop := ∀ x, x ∈ l → ∀ q k, SCd Tryd.prog g [.agg x.cells, .ptr q 0] [(q, .box t (ds.map .d))] k 0 (bl (p x)) [(q, .box t (ds.map .d))]
set_option maxHeartbeats 2000000 in
theorem indexP_sb {g t : Nat} {ds : List DV} {p : OpD → Bool} {l : List OpD} (hp : TellsP g t ds p l) (hl : l.length < 4611686018427387904) :
    SB Tryd.prog slices_IndexFunc_Lapi_Op_api_Op.f [ops l, .fn (.func g) [] [.ptr 0 0]] [(0, .box t (ds.map .d))] 1 0 fun r F => r = i64 (idxP p l) ∧ F = [(0, .box t (ds.map .d))] := by
  have ok1 : ∀ q : Nat → Bool, SV.oks q (ds.map SV.d) = true := fun q => SV.oks_d _
  have rn1 : ∀ ρ : Nat → Nat, SV.rens ρ (ds.map SV.d) = ds.map SV.d := fun ρ => SV.rens_d _
  refine slices_IndexFunc_Lapi_Op_api_Op.enter (by simp [SV.ok, SV.oks]) (by simp [Hp.ok, Ob.ok, ok1]) (by simp) ?_
  dsimp only [slices_IndexFunc_Lapi_Op_api_Op.s, Co.M, Co.G, Co.J, Co.H, Co.N, Co.F, Co.C, Co.Z, Co.B, Co.b8, Co.b32, Co.b64, Co.i6, Co.z8, Co.z29]
  refine SW.seq ?_
  refine SW.g0 [0, 1, 4, 5, 7, 8, 9, 16] mixed bq_tt ?_
  refine SW.seq (SW.seq ?_)
  refine SW.g0 [0, 1, 4, 5, 7, 8, 9, 16] mixed bq_tt ?_
  refine SW.block ?_
  refine SW.loopA (α := {i : Nat // i ≤ l.length ∧ ∀ j x, j < i → l[j]? = some x → p x = false}) (fun i => ⟨[(8, i64 i.1), (7, i64 l.length), (0, ops l), (1, .fn (.func g) [] [.ptr 0 0])], [(0, .box t (ds.map .d))], 1⟩) (fun i => l.length - i.1) ⟨0, by omega, by omega⟩ id (And.intro (ok1 (fun n => decide (n < 1))) (rn1 id)) (round := ?_)
  rintro ⟨i, hi, hs⟩
  dsimp only
  by_cases h : i < l.length
  · have h1 : decide ((i : Int) < l.length) = true := by simp only [decide_eq_true_eq]; omega
    obtain ⟨x, hx⟩ := get_of_lt h
    have e2 : IntKind.i64.wrap ((i : Int) + 1) = ((i + 1 : Nat) : Int) := wrap_i64 _ (by omega)
    have hc := hp x (List.mem_of_getElem? hx) 0
    refine SW.seq ?_
    refine SW.g0 [0, 1, 4, 5, 7, 8, 9, 16] mixed (h1) ?_
    refine SW.seq (SW.condT rfl (SW.skip ?_))
    refine SW.seq (SW.block (SW.seq ?_))
    refine SW.g0 [0, 1, 4, 5, 7, 8, 9, 16] mixed bq_tt ?_
    refine SW.seq ?_
    rcases hg : p x with _ | _ <;> rw [hg] at hc
    · refine SW.g1 [0, 1, 4, 5, 7, 8, 9, 16] mixed (And.intro (op_at hx) (op_room0 hx)) hc ?_
      refine SW.condF rfl (SW.skip ?_)
      refine SW.g0 [0, 1, 4, 5, 7, 8, 9, 16] mixed (e2) ?_
      refine ⟨⟨i + 1, by omega, fun j y hj hy => ?_⟩, id, by show l.length - (i + 1) < l.length - i; omega, ?_⟩
      · rcases Nat.lt_or_ge j i with h2 | h2
        · exact hs j y h2 hy
        · have : j = i := by omega
          subst this
          rw [hx] at hy; injection hy with hy; rw [← hy]; exact hg
      · exact Weak.mk (And.intro (ok1 (fun n => decide (n < 1))) (rn1 id))
    · have e : idxP p l = (i : Int) := by
        unfold idxP
        have : l.findIdx? p = some i := by
          rw [List.findIdx?_eq_some_iff_getElem]
          refine ⟨h, ?_, fun j hj => ?_⟩
          · rw [List.getElem?_eq_getElem h] at hx; injection hx with hx; rw [hx, hg]
          · have := hs j l[j] hj (List.getElem?_eq_getElem _); simp [this]
        rw [this]
      rw [e]
      refine SW.g1 [0, 1, 4, 5, 7, 8, 9, 16] mixed (And.intro (op_at hx) (op_room0 hx)) hc ?_
      refine SW.condT rfl (SW.seq ?_)
      refine SW.g0 [0, 1, 4, 5, 7, 8, 9, 16] mixed bq_tt ?_
      refine SW.ret ?_
      exact End.mk [(0, .box t (ds.map .d))] (h4 := ⟨rfl, rfl⟩) (h6 := by simp [Hp.ok, Ob.ok, ok1])
  · have h1 : decide ((i : Int) < l.length) = false := by simp only [decide_eq_false_iff_not]; omega
    have e : idxP p l = -1 := by
      unfold idxP
      have : l.findIdx? p = none := by
        rw [List.findIdx?_eq_none_iff]
        intro x hx
        obtain ⟨j, hj⟩ := List.mem_iff_getElem?.1 hx
        exact hs j x (by have := lt_of_get hj; omega) hj
      rw [this]
    rw [e]
    refine SW.seq ?_
    refine SW.g0 [0, 1, 4, 5, 7, 8, 9, 16] mixed (h1) ?_
    refine SW.seq (SW.condF rfl (SW.exit ?_))
    refine SW.seq ?_
    refine SW.g0 [0, 1, 4, 5, 7, 8, 9, 16] mixed bq_tt ?_
    refine SW.ret ?_
    exact End.mk [(0, .box t (ds.map .d))] (h4 := ⟨rfl, rfl⟩) (h6 := by simp [Hp.ok, Ob.ok, ok1])
theorem indexP_at {g t : Nat} {ds : List DV} {p : OpD → Bool} {l : List OpD} (hp : TellsP g t ds p l) (hl : l.length < 4611686018427387904) (q k : Nat) :
    SCd Tryd.prog slices_IndexFunc_Lapi_Op_api_Op.f [ops l, .fn (.func g) [] [.ptr q 0]] [(q, .box t (ds.map .d))] k 0 (i64 (idxP p l)) [(q, .box t (ds.map .d))] := by
  have := SB.atL [q] (indexP_sb hp hl) (by simp) (by simp [lk]) k
  simpa [SV.ren, SV.rens, Hp.ren, Ob.ren, atN, SV.rens_d] using this
theorem containsP_sb {g t : Nat} {ds : List DV} {p : OpD → Bool} {l : List OpD} (hp : TellsP g t ds p l) (hl : l.length < 4611686018427387904) :
    SB Tryd.prog slices_ContainsFunc_Lapi_Op_api_Op.f [ops l, .fn (.func g) [] [.ptr 0 0]] [(0, .box t (ds.map .d))] 1 0 fun r F => r = bl (l.any p) ∧ F = [(0, .box t (ds.map .d))] := by
  have ok1 : ∀ q : Nat → Bool, SV.oks q (ds.map SV.d) = true := fun q => SV.oks_d _
  refine slices_ContainsFunc_Lapi_Op_api_Op.enter (by simp [SV.ok, SV.oks]) (by simp [Hp.ok, Ob.ok, ok1]) (by simp) ?_
  dsimp only [slices_ContainsFunc_Lapi_Op_api_Op.s, Co.M, Co.G, Co.J, Co.H, Co.N, Co.F, Co.C, Co.Z, Co.B, Co.b8, Co.b32, Co.b64, Co.i6, Co.z8, Co.z29]
  rw [← idxP_any]
  have hi := indexP_at hp hl 0
  refine SW.seq ?_
  refine SW.g0 [0, 1, 4] mixed bq_tt ?_
  refine SW.seq ?_
  refine SW.g1 [0, 1, 4] mixed bq_tt hi ?_
  refine SW.ret ?_
  exact End.mk [(0, .box t (ds.map .d))] (h4 := ⟨rfl, rfl⟩) (h6 := by simp [Hp.ok, Ob.ok, ok1])
theorem containsP_at {g t : Nat} {ds : List DV} {p : OpD → Bool} {l : List OpD} (hp : TellsP g t ds p l) (hl : l.length < 4611686018427387904) (q k : Nat) :
    SCd Tryd.prog slices_ContainsFunc_Lapi_Op_api_Op.f [ops l, .fn (.func g) [] [.ptr q 0]] [(q, .box t (ds.map .d))] k 0 (bl (l.any p)) [(q, .box t (ds.map .d))] := by
  have := SB.atL [q] (containsP_sb hp hl) (by simp) (by simp [lk]) k
  simpa [SV.ren, SV.rens, Hp.ren, Ob.ren, atN, SV.rens_d] using this
end Go.Proofs.YtnakpdoioammhaaDoor
namespace Go.Proofs.YtnakpdoioammhaaDoor
open Go.Sl Go.Proofs
attribute [local irreducible] SW RW SCd SC CallP Pruned
theorem AtO.len {M : MM Dt Int} {l : List OpD} (h : AtO M l) (hk : (MM.keys M).Nodup) : M.length = (fstO l).length := by
  have hp : (MM.keys M).Perm ((fstO l).map (·.dot)) := by
    rw [List.perm_ext_iff_of_nodup hk (fstO_uniq l)]
    intro d
    rw [← MM.has_iff]
    unfold MM.has
    rw [h d]
    have e : (ixO l d).isSome = (l.findIdx? fun o => decide (o.dot = d)).isSome := by
      unfold ixO
      cases l.findIdx? fun o => decide (o.dot = d) <;> rfl
    rw [e, List.findIdx?_isSome, List.any_eq_true]
    constructor
    · rintro ⟨o, ho, e⟩
      have hs : (findO l d).isSome = true := findO_isSome.2 ⟨o, ho, of_decide_eq_true e⟩
      obtain ⟨x, hx⟩ := Option.isSome_iff_exists.1 hs
      obtain ⟨h1, h2⟩ := findO_some hx
      exact List.mem_map.2 ⟨x, fstO_mem.2 (by rw [h2]; exact hx), h2⟩
    · intro hm
      obtain ⟨x, hx, e⟩ := List.mem_map.1 hm
      exact ⟨x, (fstO_sub l).subset hx, by simp [e]⟩
  have := hp.length_eq
  simpa [MM.keys] using this
theorem uniq_len (l : List OpD) : (fstO l).length = l.length ↔ Uniq l := by
  constructor
  · intro h
    have := (fstO_sub l).eq_of_length h
    rw [← this]; exact fstO_uniq l
  · intro h; rw [h.fst]
theorem knStep_wf {v : Vec} {o : OpD} (hv : v.wf) (ho : o.dot.wf) : (knStep v o).wf := by
  unfold knStep
  split
  · refine Vec.set_wf hv ?_
    rename_i hr
    have := hv _ hr
    have := ho.2
    omega
  · exact hv
theorem known_wf : ∀ (l : List OpD) (v : Vec), v.wf → (∀ o, o ∈ l → o.dot.wf) → (l.foldl knStep v).wf
  | [], v, hv, _ => hv
  | o :: l, v, hv, h => known_wf l _ (knStep_wf hv (h o (by simp))) fun x hx => h x (by simp [hx])
theorem knownV_wf {l : List OpD} (h : ∀ o, o ∈ l → o.dot.wf) : (knownV l).wf := known_wf l _ Vec.zero_wf h
def badP (o a : OpD) : Bool := a.before o && (decide ((a.time : Int) ≥ o.time) || !o.dep.above a.dep)
set_option maxHeartbeats 2000000 in
theorem fits1_sb (o a : OpD) : SB Tryd.prog order_index_fits_1.f [.agg a.cells, .ptr 0 0] [(0, .box 37 (o.ds.map .d))] 1 0 fun r F => r = bl (badP o a) ∧ F = [(0, .box 37 (o.ds.map .d))] := by
  rw [OpD.map_ds]
  have ok1 : ∀ q : Nat → Bool, SV.oks q o.cells = true := fun q => OpD.cells_ok o q
  have ok2 : ∀ q : Nat → Bool, SV.oks q a.cells = true := fun q => OpD.cells_ok a q
  refine order_index_fits_1.enter (by simp [SV.ok, SV.oks, ok2]) (by simp [Hp.ok, Ob.ok, ok1]) (by simp) ?_
  dsimp only [order_index_fits_1.s, Co.M, Co.G, Co.J, Co.H, Co.N, Co.F, Co.C, Co.Z, Co.B, Co.b8, Co.b32, Co.b64, Co.i6, Co.z8, Co.z29]
  have hA := fun k => before_at a o k
  have hB := fun k => above_at4 o.dep a.dep k
  unfold badP
  refine SW.seq ?_
  refine SW.g0 [0, 1, 2, 3] mixed bq_tt ?_
  refine SW.seq ?_
  rcases h1 : a.before o with _ | _ <;> rw [h1] at hA
  · refine SW.g1 [0, 1, 2, 3] mixed bq_tt hA ?_
    refine SW.ret ?_
    exact End.mk [(0, .box 37 o.cells)] (h4 := ⟨rfl, rfl⟩) (h6 := by simp [Hp.ok, Ob.ok, ok1])
  rcases h2 : decide ((a.time : Int) ≥ o.time) with _ | _
  · refine SW.g2 [0, 1, 2, 3] mixed (And.intro (h2) (And.intro (a.gDep) (o.gDep))) hA hB ?_
    refine SW.ret ?_
    exact End.mk [(0, .box 37 o.cells)] (h4 := ⟨rfl, rfl⟩) (h6 := by simp [Hp.ok, Ob.ok, ok1])
  · refine SW.g2 [0, 1, 2, 3] mixed (h2) hA hB ?_
    refine SW.ret ?_
    exact End.mk [(0, .box 37 o.cells)] (h4 := ⟨rfl, rfl⟩) (h6 := by simp [Hp.ok, Ob.ok, ok1])
theorem fits1_at (o : OpD) (l : List OpD) : TellsP order_index_fits_1.f 37 o.ds (badP o) l := fun a _ q k => by
  have := SB.atL [q] (fits1_sb o a) (by simp) (by simp [lk]) k
  have e : SV.rens (atN [q] k) a.cells = a.cells := SV.rens_d _
  simpa [SV.ren, SV.rens, Hp.ren, Ob.ren, atN, SV.rens_d, e] using this
def fitsV (l : List OpD) (v : Vec) (o : OpD) : Bool := v.above o.dep && !l.any (badP o)
set_option maxHeartbeats 2000000 in
theorem fits_sb (l : List OpD) (hl : l.length < 4611686018427387904) (o : OpD) (v : Vec) : SB Tryd.prog order_index_fits.f [.agg [ops l, .mp 0], .agg o.cells, .agg v.cells] [] 1 0 fun r F => r = bl (fitsV l v o) ∧ F = [] := by
  have ok2 : ∀ q : Nat → Bool, SV.oks q o.cells = true := fun q => OpD.cells_ok o q
  have ok3 : ∀ q : Nat → Bool, SV.oks q v.cells = true := fun q => Vec.cells_ok v q
  refine order_index_fits.enter (by simp [SV.ok, SV.oks, ok2, ok3]) (by simp [Hp.ok]) (by simp) ?_
  dsimp only [order_index_fits.s, Co.M, Co.G, Co.J, Co.H, Co.N, Co.F, Co.C, Co.Z, Co.B, Co.b8, Co.b32, Co.b64, Co.i6, Co.z8, Co.z29]
  have hA := fun k => above_at4 v o.dep k
  have hB := fun k => containsP_at (fits1_at o l) hl 2 k
  rw [OpD.map_ds] at hB
  unfold fitsV
  refine SW.seq ?_
  refine SW.g0 [0, 1, 2, 3, 4, 5, 6] mixed bq_tt ?_
  refine SW.seq ?_
  rcases h1 : v.above o.dep with _ | _ <;> rw [h1] at hA
  · refine SW.g1 [0, 1, 2, 3, 4, 5, 6] mixed (o.gDep) hA ?_
    refine SW.ret ?_
    exact End.mk [] (h4 := ⟨rfl, rfl⟩)
  · refine SW.g2 [0, 1, 2, 3, 4, 5, 6] mixed (o.gDep) hA hB ?_
    refine SW.ret ?_
    exact End.mk [] (h4 := ⟨rfl, rfl⟩)
theorem fits_at (l : List OpD) (hl : l.length < 4611686018427387904) (o : OpD) (v : Vec) (q k : Nat) : SCd Tryd.prog order_index_fits.f [.agg [ops l, .mp q], .agg o.cells, .agg v.cells] [] k 0 (bl (fitsV l v o)) [] := by
  have h := SB.at (fits_sb l hl o v) (fun n => if n = 0 then q else k) k (fun n m h1 h2 _ => by omega) (fun n hn p μ M w vals hr hS => by
    obtain ⟨u, us, e, r1, r2⟩ := Rps.cons_iff.1 hr
    obtain ⟨vs, _, r3⟩ := Rp.agg_iff.1 r1
    obtain ⟨u1, us1, e1, r4, r5⟩ := Rps.cons_iff.1 r3
    obtain ⟨u2, us2, e2, r6, r7⟩ := Rps.cons_iff.1 r5
    have := Rp.mp_p r6
    have hn0 : n = 0 := by omega
    subst hn0
    simpa using this) (fun i hi => by omega)
  have e : ∀ ρ, SV.rens ρ o.cells = o.cells := fun ρ => SV.rens_d _
  have e2 : ∀ ρ, SV.rens ρ v.cells = v.cells := fun ρ => Vec.cells_ren v ρ
  unfold SCd
  simp only [SV.ren, SV.rens, e, e2, if_true, reduceIte, Hp.ren, List.map_nil] at h
  refine SC.mono h ?_
  rintro r F ⟨r0, F0, ⟨rfl, rfl⟩, rfl, rfl⟩
  exact ⟨by simp [SV.ren], by simp [Hp.ren]⟩
end Go.Proofs.YtnakpdoioammhaaDoor
namespace Go.Proofs.YtnakpdoioammhaaDoor
open Go.Sl Go.Proofs
attribute [local irreducible] SW RW SCd SC CallP Pruned
def restH (l : List OpD) : Bool := (decide ((fstO l).length = l.length) && decide ((knownV l).count = l.length)) && l.all (fitsV l (knownV l))
theorem restH_iff {l : List OpD} (hd : ∀ o, o ∈ l → o.dot.r < 8 ∧ 0 < o.dot.n) : restH l = true ↔ ∀ o, o ∈ l → OneOf l o := by
  rw [oneOf_iff hd]
  unfold restH
  simp only [Bool.and_eq_true, decide_eq_true_eq, uniq_len, List.all_eq_true]
  rw [and_assoc]
  refine and_congr_right fun _ => and_congr_right fun _ => forall_congr' fun o => forall_congr' fun ho => ?_
  unfold fitsV
  simp only [Bool.and_eq_true, Bool.not_eq_true', List.any_eq_false]
  refine and_congr_right fun _ => forall_congr' fun a => forall_congr' fun ha => ?_
  unfold badP
  rcases a.before o <;> rcases o.dep.above a.dep <;> simp <;> omega
theorem histV_form {n : Int} {l : List OpD} (h1 : ¬ (n < 1 ∨ 8 < n)) (hf : ∀ o, o ∈ l → checkV n o = 0) : histV n l = if restH l then 0 else 9 := by
  have hF : ∀ o, o ∈ l → Go.Sl.Form n.toNat o := fun o ho => (checkV_zero.1 (hf o ho)).2.2
  have hd : ∀ o, o ∈ l → o.dot.r < 8 ∧ 0 < o.dot.n := fun o ho => ⟨by have := (hF o ho).r; omega, (hF o ho).pos⟩
  unfold histV
  rw [if_neg h1, if_pos hF]
  by_cases hr : restH l = true
  · rw [if_pos hr, if_pos ((restH_iff hd).1 hr)]
  · rw [if_neg hr, if_neg (fun hh => hr ((restH_iff hd).2 hh))]
theorem histV_bad {n : Int} {l : List OpD} {o : OpD} (h1 : ¬ (n < 1 ∨ 8 < n)) (ho : o ∈ l) (hf : checkV n o ≠ 0) : histV n l = 5 := by
  unfold histV
  rw [if_neg h1, if_neg]
  intro hh
  exact hf (checkV_zero.2 ⟨by omega, by omega, hh o ho⟩)
set_option maxHeartbeats 8000000 in
theorem history_ok (n : Int) (hn : -9223372036854775808 ≤ n) (hn2 : n ≤ 9223372036854775807) (l : List OpD) (hl : l.length < 4611686018427387904) (hw : ∀ o, o ∈ l → OpR o ∧ o.cl.length < 4611686018427387904) : Go.Sl.Pure Tryd.prog order_History.f [ops l, i64 n] (i64 (histV n l)) := by
  refine order_History.enter (by first | rfl | simp [SV.ok, SV.oks]) (by first | rfl | simp [Hp.ok, Ob.ok, SV.ok, SV.oks, Vec.cells_ok]) (by simp) ?_
  dsimp only [order_History.s, Co.M, Co.G, Co.J, Co.H, Co.N, Co.F, Co.C, Co.Z, Co.B, Co.b8, Co.b32, Co.b64, Co.i6, Co.z8, Co.z29]
  have fin : ∀ (env : List (Nat × SV)) (hp : Hp) (kk : Nat) (b : Int), env.lookup 4 = some (i64 b) → histV n l = b → Go.Sl.Fin 0 0 order_History.rv (fun r F => r = i64 (histV n l) ∧ F = []) ⟨env, hp, kk⟩ := fun env hp kk b he hb => by
    rw [hb]
    exact End.mk [] (h1 := by show rvV _ [.tmp 4] = _; simp only [rvV, he]; rfl) (h2 := by trivial) (h4 := ⟨rfl, rfl⟩) (h5 := rfl) (h7 := Nat.zero_le _)
  have hwf : ∀ x, x ∈ l → x.dot.wf := fun x hx => ⟨(hw x hx).1.dr, (hw x hx).1.dn⟩
  have hkw := knownV_wf hwf
  refine SW.seq ?_
  refine SW.g0 [0, 1, 4, 6, 7, 8, 10, 16, 17, 18, 19, 20, 26, 45, 46, 47, 48, 49, 56] mixed bq_tt ?_
  refine SW.seq (SW.seq ?_)
  by_cases h1 : n < 1
  · have d1 : decide (n < 1) = true := by simp [h1]
    refine SW.g0 [0, 1, 4, 6, 7, 8, 10, 16, 17, 18, 19, 20, 26, 45, 46, 47, 48, 49, 56] mixed (d1) ?_
    refine SW.condT rfl (SW.seq ?_)
    refine SW.g0 [0, 1, 4, 6, 7, 8, 10, 16, 17, 18, 19, 20, 26, 45, 46, 47, 48, 49, 56] mixed bq_tt ?_
    refine SW.ret ?_
    exact fin _ _ _ 2 rfl (by unfold histV; rw [if_pos (.inl h1)])
  have d1 : decide (n < 1) = false := by simp [h1]
  by_cases h8 : 8 < n
  · have d2 : decide (n > 8) = true := by simp; omega
    refine SW.g0 [0, 1, 4, 6, 7, 8, 10, 16, 17, 18, 19, 20, 26, 45, 46, 47, 48, 49, 56] mixed (And.intro (d1) (d2)) ?_
    refine SW.condT rfl (SW.seq ?_)
    refine SW.g0 [0, 1, 4, 6, 7, 8, 10, 16, 17, 18, 19, 20, 26, 45, 46, 47, 48, 49, 56] mixed bq_tt ?_
    refine SW.ret ?_
    exact fin _ _ _ 2 rfl (by unfold histV; rw [if_pos (.inr h8)])
  have d2 : decide (n > 8) = false := by simp; omega
  have hnn : ¬ (n < 1 ∨ 8 < n) := by omega
  refine SW.g0 [0, 1, 4, 6, 7, 8, 10, 16, 17, 18, 19, 20, 26, 45, 46, 47, 48, 49, 56] mixed (And.intro (d1) (d2)) ?_
  refine SW.condF rfl (SW.skip (SW.seq (SW.seq ?_)))
  refine SW.g0 [0, 1, 4, 6, 7, 8, 10, 16, 17, 18, 19, 20, 26, 45, 46, 47, 48, 49, 56] mixed bq_tt ?_
  refine SW.block ?_
  refine SW.loopA (α := {i : Nat // i ≤ l.length ∧ ∀ j x, j < i → l[j]? = some x → checkV n x = 0}) (fun i => ⟨[(19, i64 i.1), (18, i64 l.length), (17, ops l), (0, ops l), (1, i64 n)], [], 0⟩) (fun i => l.length - i.1) ⟨0, by omega, by omega⟩ id bq_tt (round := ?_)
  rintro ⟨i, hi, hs⟩
  dsimp only
  by_cases h : i < l.length
  · have q1 : decide ((i : Int) < l.length) = true := by simp only [decide_eq_true_eq]; omega
    obtain ⟨x, hx⟩ := get_of_lt h
    have hxm := List.mem_of_getElem? hx
    have e2 : IntKind.i64.wrap ((i : Int) + 1) = ((i + 1 : Nat) : Int) := wrap_i64 _ (by omega)
    have hc := check_at n hn hn2 x (hw x hxm).1 (hw x hxm).2
    refine SW.seq ?_
    refine SW.g0 [0, 1, 4, 6, 7, 8, 10, 16, 17, 18, 19, 20, 26, 45, 46, 47, 48, 49, 56] mixed (q1) ?_
    refine SW.seq (SW.condT rfl (SW.skip ?_))
    refine SW.seq (SW.block (SW.seq ?_))
    refine SW.g0 [0, 1, 4, 6, 7, 8, 10, 16, 17, 18, 19, 20, 26, 45, 46, 47, 48, 49, 56] mixed (And.intro (op_at hx) (op_room0 hx)) ?_
    refine SW.seq ?_
    by_cases hz : checkV n x = 0
    · rw [hz] at hc
      refine SW.g1 [0, 1, 4, 6, 7, 8, 10, 16, 17, 18, 19, 20, 26, 45, 46, 47, 48, 49, 56] mixed bq_tt hc ?_
      refine SW.condF rfl (SW.skip ?_)
      refine SW.g0 [0, 1, 4, 6, 7, 8, 10, 16, 17, 18, 19, 20, 26, 45, 46, 47, 48, 49, 56] mixed (e2) ?_
      refine ⟨⟨i + 1, by omega, fun j y hj hy => ?_⟩, id, by show l.length - (i + 1) < l.length - i; omega, ?_⟩
      · rcases Nat.lt_or_ge j i with h2 | h2
        · exact hs j y h2 hy
        · have : j = i := by omega
          subst this
          rw [hx] at hy; injection hy with hy; rw [← hy]; exact hz
      · exact Weak.mk bq_tt
    · have hz2 : (checkV n x != 0) = true := by rw [bne_iff_ne]; exact hz
      generalize hv : checkV n x = v at hc hz2
      refine SW.g1 [0, 1, 4, 6, 7, 8, 10, 16, 17, 18, 19, 20, 26, 45, 46, 47, 48, 49, 56] mixed (hz2) hc ?_
      refine SW.condT rfl (SW.seq ?_)
      refine SW.g0 [0, 1, 4, 6, 7, 8, 10, 16, 17, 18, 19, 20, 26, 45, 46, 47, 48, 49, 56] mixed bq_tt ?_
      refine SW.ret ?_
      exact fin _ _ _ 5 rfl (histV_bad hnn hxm hz)
  have q1 : decide ((i : Int) < l.length) = false := by simp only [decide_eq_false_iff_not]; omega
  have hall : ∀ o, o ∈ l → checkV n o = 0 := fun o ho => by
    obtain ⟨j, hj⟩ := List.mem_iff_getElem?.1 ho
    exact hs j o (by have := lt_of_get hj; omega) hj
  have hv := histV_form hnn hall
  have hxd : ∀ o, o ∈ l → o.dot.r < 8 ∧ 0 < o.dot.n := fun o ho => by
    have := (checkV_zero.1 (hall o ho)).2.2
    exact ⟨by have := this.r; omega, this.pos⟩
  refine SW.seq ?_
  refine SW.g0 [0, 1, 4, 6, 7, 8, 10, 16, 17, 18, 19, 20, 26, 45, 46, 47, 48, 49, 56] mixed (q1) ?_
  refine SW.seq (SW.condF rfl (SW.exit ?_))
  refine SW.seq (SW.ofN ?_)
  (repeat (first | refine SWn.op bq_tt (h := ?_) | refine SWn.opN bq_tt (h := ?_) | refine SWn.skip (h := ?_)))
  refine SWn.callC (indexOf_at l hl) (HSub.nil _) (h := ?_)
  rintro _ _ ⟨rfl, M, c, ⟨hM, hK⟩, rfl⟩
  simp only [idxS]
  simp only [hmrg, hsets, hdels, hset, hrep, hdel, lk, List.lookup, Nat.reduceBEq, BEq.rfl, beq_self_eq_true, if_true, if_false, reduceIte, Nat.reduceEqDiff, Bool.false_eq_true, Option.isSome_some, Option.isSome_none, Nat.reduceAdd]
  have s1 : spl [SV.d .nils, SV.d .nilm] 0 [ops l, .mp 1] = [ops l, .mp 1] := rfl
  (repeat (first | refine SWn.op bq_tt (h := ?_) | refine SWn.opN bq_tt (h := ?_) | refine SWn.skip (h := ?_)))
  have hkn := known_at l hl hwf
  unfold SCd at hkn
  refine SWn.callC (hkn _) (HSub.nil _) (h := ?_)
  rintro _ _ ⟨rfl, rfl⟩
  simp only [hmrg, hsets, hdels, hset, hrep, hdel, lk, List.lookup, Nat.reduceBEq, BEq.rfl, beq_self_eq_true, if_true, if_false, reduceIte, Nat.reduceEqDiff, Bool.false_eq_true, Option.isSome_some, Option.isSome_none, Nat.reduceAdd]
  (repeat (first | refine SWn.op (And.intro (s1) (Vec.spl_all)) (h := ?_) | refine SWn.opN (And.intro (s1) (Vec.spl_all)) (h := ?_) | refine SWn.skip (h := ?_)))
  refine SWn.nil ?_
  have ml : (mapE Dt.cells iv M).length = (fstO l).length := by rw [← hM.len hK]; simp [mapE]
  have bad : ∀ (env : List (Nat × SV)) (hp : Hp) (kk : Nat), env.lookup 4 = some (i64 9) → restH l = false → Go.Sl.Fin 0 0 order_History.rv (fun r F => r = i64 (histV n l) ∧ F = []) ⟨env, hp, kk⟩ := fun env hp kk he hb => fin env hp kk 9 he (by rw [hv, hb]; rfl)
  refine SW.seq (SW.seq ?_)
  rcases hq : decide ((fstO l).length = l.length) with _ | _
  · have d3 : (((fstO l).length : Int) != (l.length : Int)) = true := by
      have := of_decide_eq_false hq
      rw [bne_iff_ne]; omega
    refine SW.g0 [0, 1, 4, 6, 7, 8, 10, 16, 17, 18, 19, 20, 26, 45, 46, 47, 48, 49, 56] mixed (And.intro (ml) (d3)) ?_
    refine SW.condT rfl (SW.seq ?_)
    refine SW.g0 [0, 1, 4, 6, 7, 8, 10, 16, 17, 18, 19, 20, 26, 45, 46, 47, 48, 49, 56] mixed bq_tt ?_
    refine SW.ret ?_
    exact bad _ _ _ rfl (by unfold restH; rw [hq]; rfl)
  have d3 : (((fstO l).length : Int) != (l.length : Int)) = false := by
    have := of_decide_eq_true hq
    rw [bne_eq_false_iff_eq]; omega
  have w1 : IntKind.u64.wrap (l.length : Int) = (l.length : Int) := wrap_u64 _ (by omega)
  rcases hq2 : decide ((knownV l).count = l.length) with _ | _
  · have d4 : (((knownV l).count : Int) != (l.length : Int)) = true := by
      have := of_decide_eq_false hq2
      rw [bne_iff_ne]; omega
    (have fx := (And.intro (ml) (And.intro (d3) (And.intro (d4) (w1)))); refine SW.regL [0, 1, 4, 6, 7, 8, 10, 16, 17, 18, 19, 20, 26, 45, 46, 47, 48, 49, 56] mixed ?_; (repeat (first | refine RW.ro fx (h := ?_) | refine RW.skip (h := ?_) | refine RW.op fx (h := ?_) | refine RW.opN fx (h := ?_) | refine RW.skip0 (h := ?_) | (refine RW.callC (h := ?_); (first | refine CallP.mk fx (hc := count_at _ hkw _) (h := ?_))))); refine RW.nil ⟨by kernel_rfl, Pruned.mk (h := ?_)⟩)
    refine SW.condT rfl (SW.seq ?_)
    refine SW.g0 [0, 1, 4, 6, 7, 8, 10, 16, 17, 18, 19, 20, 26, 45, 46, 47, 48, 49, 56] mixed bq_tt ?_
    refine SW.ret ?_
    exact bad _ _ _ rfl (by unfold restH; rw [hq, hq2]; rfl)
  have d4 : (((knownV l).count : Int) != (l.length : Int)) = false := by
    have := of_decide_eq_true hq2
    rw [bne_eq_false_iff_eq]; omega
  (have fx := (And.intro (ml) (And.intro (d3) (And.intro (d4) (w1)))); refine SW.regL [0, 1, 4, 6, 7, 8, 10, 16, 17, 18, 19, 20, 26, 45, 46, 47, 48, 49, 56] mixed ?_; (repeat (first | refine RW.ro fx (h := ?_) | refine RW.skip (h := ?_) | refine RW.op fx (h := ?_) | refine RW.opN fx (h := ?_) | refine RW.skip0 (h := ?_) | (refine RW.callC (h := ?_); (first | refine CallP.mk fx (hc := count_at _ hkw _) (h := ?_))))); refine RW.nil ⟨by kernel_rfl, Pruned.mk (h := ?_)⟩)
  refine SW.condF rfl (SW.skip (SW.seq (SW.seq ?_)))
  refine SW.g0 [0, 1, 4, 6, 7, 8, 10, 16, 17, 18, 19, 20, 26, 45, 46, 47, 48, 49, 56] mixed bq_tt ?_
  refine SW.block ?_
  refine SW.loopA (α := {i : Nat // i ≤ l.length ∧ ∀ j x, j < i → l[j]? = some x → fitsV l (knownV l) x = true}) (fun i => ⟨[(48, i64 i.1), (47, i64 l.length), (46, ops l), (8, .ptr 4 0), (7, .ptr 3 0)], [(4, .box 29 (knownV l).cells), (3, .box 79 [ops l, .mp 1]), (1, .map (mapE Dt.cells iv M) c)], 5⟩) (fun i => l.length - i.1) ⟨0, by omega, by omega⟩ id (And.intro (imap_ok (fun n => decide (n < 5)) M) (bq_tt)) (round := ?_)
  rintro ⟨i, hi, hs⟩
  dsimp only
  by_cases h : i < l.length
  · have q1 : decide ((i : Int) < l.length) = true := by simp only [decide_eq_true_eq]; omega
    obtain ⟨x, hx⟩ := get_of_lt h
    have hxm := List.mem_of_getElem? hx
    have e2 : IntKind.i64.wrap ((i : Int) + 1) = ((i + 1 : Nat) : Int) := wrap_i64 _ (by omega)
    have hc := fits_at l hl x (knownV l) 1
    refine SW.seq ?_
    refine SW.g0 [0, 1, 4, 6, 7, 8, 10, 16, 17, 18, 19, 20, 26, 45, 46, 47, 48, 49, 56] mixed (q1) ?_
    refine SW.seq (SW.condT rfl (SW.skip ?_))
    refine SW.seq (SW.block (SW.seq ?_))
    refine SW.g0 [0, 1, 4, 6, 7, 8, 10, 16, 17, 18, 19, 20, 26, 45, 46, 47, 48, 49, 56] mixed (And.intro (op_at hx) (op_room0 hx)) ?_
    refine SW.seq ?_
    rcases hz : fitsV l (knownV l) x with _ | _ <;> rw [hz] at hc
    · refine SW.g1 [0, 1, 4, 6, 7, 8, 10, 16, 17, 18, 19, 20, 26, 45, 46, 47, 48, 49, 56] mixed bq_tt hc ?_
      refine SW.condT rfl (SW.seq ?_)
      refine SW.g0 [0, 1, 4, 6, 7, 8, 10, 16, 17, 18, 19, 20, 26, 45, 46, 47, 48, 49, 56] mixed bq_tt ?_
      refine SW.ret ?_
      refine bad _ _ _ rfl ?_
      unfold restH
      rw [Bool.and_eq_false_iff]
      exact .inr (List.all_eq_false.2 ⟨x, hxm, by rw [hz]; decide⟩)
    · refine SW.g1 [0, 1, 4, 6, 7, 8, 10, 16, 17, 18, 19, 20, 26, 45, 46, 47, 48, 49, 56] mixed bq_tt hc ?_
      refine SW.condF rfl (SW.skip ?_)
      refine SW.g0 [0, 1, 4, 6, 7, 8, 10, 16, 17, 18, 19, 20, 26, 45, 46, 47, 48, 49, 56] mixed (e2) ?_
      refine ⟨⟨i + 1, by omega, fun j y hj hy => ?_⟩, id, by show l.length - (i + 1) < l.length - i; omega, ?_⟩
      · rcases Nat.lt_or_ge j i with h2 | h2
        · exact hs j y h2 hy
        · have : j = i := by omega
          subst this
          rw [hx] at hy; injection hy with hy; rw [← hy]; exact hz
      · exact Weak.mk (And.intro (imap_ok (fun n => decide (n < 5)) M) (bq_tt))
  have q1 : decide ((i : Int) < l.length) = false := by simp only [decide_eq_false_iff_not]; omega
  refine SW.seq ?_
  refine SW.g0 [0, 1, 4, 6, 7, 8, 10, 16, 17, 18, 19, 20, 26, 45, 46, 47, 48, 49, 56] mixed (q1) ?_
  refine SW.seq (SW.condF rfl (SW.exit ?_))
  refine SW.seq ?_
  refine SW.g0 [0, 1, 4, 6, 7, 8, 10, 16, 17, 18, 19, 20, 26, 45, 46, 47, 48, 49, 56] mixed bq_tt ?_
  refine SW.ret ?_
  refine fin _ _ _ 0 rfl ?_
  rw [hv]
  have : restH l = true := by
    unfold restH
    rw [hq, hq2, Bool.true_and, Bool.true_and, List.all_eq_true]
    intro o ho
    obtain ⟨j, hj⟩ := List.mem_iff_getElem?.1 ho
    exact hs j o (by have := lt_of_get hj; omega) hj
  rw [this]; rfl
theorem history_at (n : Int) (hn : -9223372036854775808 ≤ n) (hn2 : n ≤ 9223372036854775807) (l : List OpD) (hl : l.length < 4611686018427387904) (hw : ∀ o, o ∈ l → OpR o ∧ o.cl.length < 4611686018427387904) (k : Nat) : SCd Tryd.prog order_History.f [ops l, i64 n] [] k 0 (i64 (histV n l)) [] := (history_ok n hn hn2 l hl hw).sc rfl k
end Go.Proofs.YtnakpdoioammhaaDoor
