/-
  Ways that meet again.
-/
import Derived.Test.YtnakpdoioammhaaDoorUV
import Derived.Test.YtnakpdoioammhaaDoorUM
import Derived.Test.YtnakpdoioammhaaDoorUL
import Derived.Test.YtnakpdoioammhaaDoorUK
import Derived.Test.YtnakpdoioammhaaDoorU8
set_option linter.unusedSectionVars false
set_option linter.unusedVariables false
set_option linter.unusedSimpArgs false
namespace Go.Proofs.YtnakpdoioammhaaDoor
open Go.Sl Go.Proofs
attribute [local irreducible] SW RW SCd SC CallP Pruned
theorem SW.cutE {N k0 : Nat} {st : St} {Q : Exit → St → Prop} {x y : SCo} {α : Type} (S : α → St) (h1 : Sl.SW Tryd.prog N k0 x st fun e st' => match e with | .normal => ∃ a, Weak k0 st' (S a) id | e => Q e st') (h2 : ∀ a, Sl.SW Tryd.prog N k0 y (S a) Q) : Sl.SW Tryd.prog N k0 (.seq x y) st Q := by
  refine SW.seq (h1.mono fun e st' h => ?_)
  cases e <;> first
    | exact h
    | (obtain ⟨a, ha⟩ := h; exact SW.weak id ha (h2 a))
end Go.Proofs.YtnakpdoioammhaaDoor
namespace Go.Proofs.YtnakpdoioammhaaDoor
open Go.Sl Go.Proofs
attribute [local irreducible] SW RW SCd SC CallP Pruned
theorem dep_get (o : OpD) {r : Nat} (hr : r < 8) : o.cells[2 + r]? = some (.d (.int .u32 (o.dep.get r))) := by
  match r, hr with
  | 0, _ | 1, _ | 2, _ | 3, _ | 4, _ | 5, _ | 6, _ | 7, _ => rfl
theorem ocov_ok (o : OpD) (d : Dt) (hd : d.r < 256) : Go.Sl.Pure Tryd.prog op_Covers.f [.agg o.cells, .agg d.cells] (bl (o.dep.covers d)) := by
  refine op_Covers.enter (by first | rfl | simp [SV.ok, SV.oks]) (by first | rfl | simp [Hp.ok, Ob.ok, SV.ok, SV.oks, Vec.cells_ok]) (by simp) ?_
  dsimp only [op_Covers.s, Co.M, Co.G, Co.J, Co.H, Co.N, Co.F, Co.C, Co.Z, Co.B, Co.b8, Co.b32, Co.b64, Co.i6, Co.z8, Co.z29]
  have w1 : IntKind.i64.wrap (d.r : Int) = (d.r : Int) := wrap_i64 _ (by omega)
  refine SW.seq ?_
  refine SW.g0 [0, 1, 2, 3, 4] mixed bq_tt ?_
  by_cases hr : d.r < 8
  · have h1 : decide ((d.r : Int) < 8) = true := by simp; omega
    by_cases hn : 1 ≤ d.n
    · have h2 : decide ((d.n : Int) > 0) = true := by simp; omega
      have e : o.dep.covers d = decide (((o.dep.get d.r : Nat) : Int) ≥ ((d.n : Nat) : Int)) := by
        unfold Vec.covers Dt.may
        rw [Bool.eq_iff_iff]
        simp only [Bool.and_eq_true, decide_eq_true_eq]
        omega
      rw [e]
      refine SW.seq ?_
      refine SW.g0 [0, 1, 2, 3, 4] mixed (And.intro (w1) (And.intro (h1) (And.intro (h2) (dep_get o hr)))) ?_
      refine SW.ret ?_
      exact End.mk [] (h4 := ⟨rfl, rfl⟩)
    · have h2 : decide ((d.n : Int) > 0) = false := by simp; omega
      have e : o.dep.covers d = false := by
        unfold Vec.covers Dt.may
        rw [Bool.eq_false_iff]
        simp only [ne_eq, Bool.and_eq_true, decide_eq_true_eq]
        omega
      rw [e]
      refine SW.seq ?_
      refine SW.g0 [0, 1, 2, 3, 4] mixed (And.intro (w1) (And.intro (h1) (h2))) ?_
      refine SW.ret ?_
      exact End.mk [] (h4 := ⟨rfl, rfl⟩)
  · have h1 : decide ((d.r : Int) < 8) = false := by simp; omega
    have e : o.dep.covers d = false := by
      unfold Vec.covers Dt.may
      rw [Bool.eq_false_iff]
      simp only [ne_eq, Bool.and_eq_true, decide_eq_true_eq]
      omega
    rw [e]
    refine SW.seq ?_
    refine SW.g0 [0, 1, 2, 3, 4] mixed (And.intro (w1) (h1)) ?_
    refine SW.ret ?_
    exact End.mk [] (h4 := ⟨rfl, rfl⟩)
theorem ocov_at (o : OpD) (d : Dt) (hd : d.r < 256) (k : Nat) : SCd Tryd.prog op_Covers.f [.agg o.cells, .agg d.cells] [] k 0 (bl (o.dep.covers d)) [] := (ocov_ok o d hd).sc rfl k
def hasB (h w : Int) : Bool := bits .and .u8 h w == 0
theorem has_sb (q k : Nat) (hq : q < k) (h w : Int) (b : Bool) : SB Tryd.prog op_right_1.f [.d (.int .u8 w), bl b, .ptr q 0] [(q, .box 5 [.d (.int .u8 h)])] k 0 fun r F => r = bl (hasB h w || b) ∧ F = [(q, .box 5 [.d (.int .u8 h)])] := by
  refine op_right_1.enter (by simp [SV.ok, SV.oks, hq]) (by simp [Hp.ok, Ob.ok, SV.oks, SV.ok, hq]) (by simp [SV.oks]) ?_
  dsimp only [op_right_1.s, Co.M, Co.G, Co.J, Co.H, Co.N, Co.F, Co.C, Co.Z, Co.B, Co.b8, Co.b32, Co.b64, Co.i6, Co.z8, Co.z29]
  refine SW.seq ?_
  refine SW.g0 [0, 1, 2, 5] mixed bq_tt ?_
  refine SW.seq ?_
  rcases hh : (bits .and .u8 h w == 0) with _ | _
  · refine SW.g0 [0, 1, 2, 5] mixed (hh) ?_
    refine SW.ret ?_
    exact End.mk [(q, .box 5 [.d (.int .u8 h)])] (h3 := fun _ _ h => h) (h4 := ⟨by unfold hasB; rw [hh]; rfl, rfl⟩) (h6 := by simp [Hp.ok, Ob.ok, SV.oks, SV.ok, hq])
  · refine SW.g0 [0, 1, 2, 5] mixed (hh) ?_
    refine SW.ret ?_
    exact End.mk [(q, .box 5 [.d (.int .u8 h)])] (h3 := fun _ _ h => h) (h4 := ⟨by unfold hasB; rw [hh]; rfl, rfl⟩) (h6 := by simp [Hp.ok, Ob.ok, SV.oks, SV.ok, hq])
theorem has_at (q k : Nat) (hq : q < k) (h w : Int) (b : Bool) : SCd Tryd.prog op_right_1.f [.d (.int .u8 w), bl b, .ptr q 0] [(q, .box 5 [.d (.int .u8 h)])] k 0 (bl (hasB h w || b)) [(q, .box 5 [.d (.int .u8 h)])] := by
  have := (has_sb q k hq h w b).here (fun i => i == q) (fun i hi => by simp at hi; simp [hi, lk_cons]) (by simp [SV.oks, SV.ok]) (by simp [Hp.ok, Ob.ok, SV.oks, SV.ok]) (by
    rintro r F ⟨rfl, rfl⟩ _ _
    exact ⟨rfl, by simp [Hp.ok, Ob.ok, SV.oks, SV.ok]⟩)
  unfold SCd
  exact this
def ofc (o : OpD) : List SV := (o.ds.take 28).map SV.d
@[simp] theorem ofc_len (o : OpD) : (ofc o).length = 28 := rfl
abbrev zOf : List SV := [.d (.int .u8 0), .d (.int .u32 0), .d (.int .u32 0), .d (.int .u32 0), .d (.int .u32 0), .d (.int .u32 0), .d (.int .u32 0), .d (.int .u32 0), .d (.int .u32 0), .d (.int .u32 0), .d (.int .u64 0), .d (.int .u32 0), .d (.int .u8 0), .d (.int .u32 0), .d (.int .u8 0), .d (.int .u8 0), .d (.int .u32 0), .d (.int .u32 0), .d (.int .u8 0), .d (.int .u8 0), .d (.int .u64 0), .d (.int .u8 0), .d (.int .u32 0), .d (.int .u8 0), .d (.int .u32 0), .d (.int .u32 0), .d (.int .u32 0), .d (.int .u32 0)]
def partsOf (o : OpD) : List (Nat × Nat × SV) := [(0, 2, .agg o.dot.cells), (2, 8, .agg o.dep.cells), (10, 1, u64 o.time), (11, 1, u32 o.who), (12, 2, .agg o.cart.cells), (14, 1, u8 o.kind), (15, 2, .agg o.cred.cells), (17, 1, u32 o.to), (18, 1, u8 o.roles), (19, 1, u8 o.depth), (20, 1, u64 o.cap), (21, 2, .agg o.at_.cells), (23, 2, .agg o.ver.cells), (25, 1, u32 o.item), (26, 1, u32 o.qty), (27, 1, u32 o.price)]
set_option maxRecDepth 100000 in
set_option maxHeartbeats 4000000 in
theorem bldOf {P : Program} {env : List (Nat × SV)} {hp : Hp} {k d : Nat} {r : List SI} {K : St → List (Bool × List Nat) → Prop} {zs : List SV} {parts : List (Nat × Nat × X)} (o : OpD) (hz : zs = zOf)
    (hE : evp (fun t => env.lookup t) parts = some (partsOf o))
    (h : RW P r ⟨(d, .agg (ofc o)) :: env, hp, k⟩ fun st' ts => K st' ((true, []) :: ts)) : RW P (⟨some d, .bld zs parts, none⟩ :: r) ⟨env, hp, k⟩ K := by
  subst hz
  refine RW.cons (e := ⟨.agg (ofc o), [], [], 0, (2 = 2 ∧ 0 + 2 ≤ 28 ∧ 8 = 8 ∧ 2 + 8 ≤ 28 ∧ 1 = 1 ∧ 10 + 1 ≤ 28 ∧ 1 = 1 ∧ 11 + 1 ≤ 28 ∧ 2 = 2 ∧ 12 + 2 ≤ 28 ∧ 1 = 1 ∧ 14 + 1 ≤ 28 ∧ 2 = 2 ∧ 15 + 2 ≤ 28 ∧ 1 = 1 ∧ 17 + 1 ≤ 28 ∧ 1 = 1 ∧ 18 + 1 ≤ 28 ∧ 1 = 1 ∧ 19 + 1 ≤ 28 ∧ 1 = 1 ∧ 20 + 1 ≤ 28 ∧ 2 = 2 ∧ 21 + 2 ≤ 28 ∧ 2 = 2 ∧ 23 + 2 ≤ 28 ∧ 1 = 1 ∧ 25 + 1 ≤ 28 ∧ 1 = 1 ∧ 26 + 1 ≤ 28 ∧ 1 = 1 ∧ 27 + 1 ≤ 28 ∧ True)⟩) (fun crs => ⟨crs, runOp_some (.inl rfl) ?_⟩) (by show (2 = 2 ∧ 0 + 2 ≤ 28 ∧ 8 = 8 ∧ 2 + 8 ≤ 28 ∧ 1 = 1 ∧ 10 + 1 ≤ 28 ∧ 1 = 1 ∧ 11 + 1 ≤ 28 ∧ 2 = 2 ∧ 12 + 2 ≤ 28 ∧ 1 = 1 ∧ 14 + 1 ≤ 28 ∧ 2 = 2 ∧ 15 + 2 ≤ 28 ∧ 1 = 1 ∧ 17 + 1 ≤ 28 ∧ 1 = 1 ∧ 18 + 1 ≤ 28 ∧ 1 = 1 ∧ 19 + 1 ≤ 28 ∧ 1 = 1 ∧ 20 + 1 ≤ 28 ∧ 2 = 2 ∧ 21 + 2 ≤ 28 ∧ 2 = 2 ∧ 23 + 2 ≤ 28 ∧ 1 = 1 ∧ 25 + 1 ≤ 28 ∧ 1 = 1 ∧ 26 + 1 ≤ 28 ∧ 1 = 1 ∧ 27 + 1 ≤ 28 ∧ True); decide) ?_
  · have h2 : bldS zOf (partsOf o) = some (ofc o, (2 = 2 ∧ 0 + 2 ≤ 28 ∧ 8 = 8 ∧ 2 + 8 ≤ 28 ∧ 1 = 1 ∧ 10 + 1 ≤ 28 ∧ 1 = 1 ∧ 11 + 1 ≤ 28 ∧ 2 = 2 ∧ 12 + 2 ≤ 28 ∧ 1 = 1 ∧ 14 + 1 ≤ 28 ∧ 2 = 2 ∧ 15 + 2 ≤ 28 ∧ 1 = 1 ∧ 17 + 1 ≤ 28 ∧ 1 = 1 ∧ 18 + 1 ≤ 28 ∧ 1 = 1 ∧ 19 + 1 ≤ 28 ∧ 1 = 1 ∧ 20 + 1 ≤ 28 ∧ 2 = 2 ∧ 21 + 2 ≤ 28 ∧ 2 = 2 ∧ 23 + 2 ≤ 28 ∧ 1 = 1 ∧ 25 + 1 ≤ 28 ∧ 1 = 1 ∧ 26 + 1 ≤ 28 ∧ 1 = 1 ∧ 27 + 1 ≤ 28 ∧ True)) := by kernel_rfl
    simp only [goOp, sop, hE, h2]
  · exact h
set_option maxRecDepth 100000 in
set_option maxHeartbeats 4000000 in
theorem of_ok (o : OpD) : Go.Sl.Pure Tryd.prog op_of.f [.agg o.cells] (.agg (ofc o)) := by
  refine op_of.enter (by first | rfl | simp [SV.ok, SV.oks]) (by first | rfl | simp [Hp.ok, Ob.ok, SV.ok, SV.oks, Vec.cells_ok]) (by simp) ?_
  dsimp only [op_of.s, Co.M, Co.G, Co.J, Co.H, Co.N, Co.F, Co.C, Co.Z, Co.B, Co.b8, Co.b32, Co.b64, Co.i6, Co.z8, Co.z29]
  have f1 : (ofc o).all SV.isOne = true := rfl
  have f2 : (ofc o).length = 28 := rfl
  have f3 : spl zOf 0 (ofc o) = ofc o := rfl
  have f4 : List.take 28 (ofc o) = ofc o := rfl
  refine SW.seq ?_
  (refine SW.regL [0, 1, 2] mixed ?_; (repeat (first | refine bldOf o rfl rfl (h := ?_) | refine RW.ro bq_tt (h := ?_) | refine RW.skip (h := ?_) | refine RW.op bq_tt (h := ?_) | refine RW.opN bq_tt (h := ?_) | refine RW.skip0 (h := ?_))); refine RW.nil ⟨by kernel_rfl, Pruned.mk (h := ?_)⟩)
  refine SW.seq ?_
  (have fx := (And.intro (f1) (And.intro (f2) (And.intro (f3) (f4)))); refine SW.regL [0, 1, 2] mixed ?_; (repeat (first | refine bldOf o rfl rfl (h := ?_) | refine RW.ro fx (h := ?_) | refine RW.skip (h := ?_) | refine RW.op fx (h := ?_) | refine RW.opN fx (h := ?_) | refine RW.skip0 (h := ?_))); refine RW.nil ⟨by kernel_rfl, Pruned.mk (h := ?_)⟩)
  refine SW.ret ?_
  exact End.mk [] (h4 := ⟨rfl, rfl⟩)
theorem of_at (o : OpD) (k : Nat) : SCd Tryd.prog op_of.f [.agg o.cells] [] k 0 (.agg (ofc o)) [] := (of_ok o).sc rfl k
end Go.Proofs.YtnakpdoioammhaaDoor
namespace Go.Proofs.YtnakpdoioammhaaDoor
open Go.Sl Go.Proofs
attribute [local irreducible] SW RW SCd SC CallP Pruned
theorem cm_at {l : List Cm} {i : Nat} {x : Cm} (h : l[i]? = some x) : List.take 4 (List.drop (i * 4) (List.map SV.d (l.flatMap Cm.ds))) = x.line.cells ++ x.ver.cells := by
  rw [← List.map_drop, ← List.map_take, flat_take Cm.ds 4 (fun _ => rfl) l i x h]
  rfl
theorem cm_room0 {l : List Cm} {i : Nat} {x : Cm} (h : l[i]? = some x) : (i * 4 + 4 ≤ (List.map SV.d (l.flatMap Cm.ds)).length) = True := eq_true (by
  have := lt_of_get h
  rw [List.length_map, cms_len]
  omega)
theorem cm_self (x : Cm) : csqS [true, true, true, true] (x.line.cells ++ x.ver.cells) (x.line.cells ++ x.ver.cells) = some true := by simp [csqS, cqS, Dt.cells]
abbrev cms (l : List Cm) : SV := .d (.sl l.length (l.flatMap Cm.ds))
set_option maxHeartbeats 1000000 in
theorem eqself_ok (l : List Cm) (hl : l.length < 4611686018427387904) : Go.Sl.Pure Tryd.prog slices_Equal_Lapi_Claim_api_Claim.f [cms l, cms l] (bl true) := by
  refine slices_Equal_Lapi_Claim_api_Claim.enter (by first | rfl | simp [SV.ok, SV.oks]) (by first | rfl | simp [Hp.ok, Ob.ok, SV.ok, SV.oks, Vec.cells_ok]) (by simp) ?_
  dsimp only [slices_Equal_Lapi_Claim_api_Claim.s, Co.M, Co.G, Co.J, Co.H, Co.N, Co.F, Co.C, Co.Z, Co.B, Co.b8, Co.b32, Co.b64, Co.i6, Co.z8, Co.z29]
  have h0 : ((l.length : Int) != (l.length : Int)) = false := by simp
  refine SW.seq ?_
  refine SW.g0 [0, 1, 4, 5, 10, 12, 13, 14, 24] mixed bq_tt ?_
  refine SW.seq (SW.seq ?_)
  refine SW.g0 [0, 1, 4, 5, 10, 12, 13, 14, 24] mixed (h0) ?_
  refine SW.condF rfl (SW.skip ?_)
  refine SW.seq (SW.seq ?_)
  refine SW.g0 [0, 1, 4, 5, 10, 12, 13, 14, 24] mixed bq_tt ?_
  refine SW.block ?_
  refine SW.loopA (α := {i : Nat // i ≤ l.length}) (fun i => ⟨[(13, i64 i.1), (12, i64 l.length), (0, cms l), (1, cms l)], [], 0⟩) (fun i => l.length - i.1) ⟨0, Nat.zero_le _⟩ id bq_tt (round := ?_)
  rintro ⟨i, hi⟩
  dsimp only
  by_cases h : i < l.length
  · have h1 : decide ((i : Int) < l.length) = true := by simp only [decide_eq_true_eq]; omega
    obtain ⟨x, hx⟩ := get_of_lt h
    have e2 : IntKind.i64.wrap ((i : Int) + 1) = ((i + 1 : Nat) : Int) := wrap_i64 _ (by omega)
    refine SW.seq ?_
    refine SW.g0 [0, 1, 4, 5, 10, 12, 13, 14, 24] mixed (h1) ?_
    refine SW.seq (SW.condT rfl (SW.skip ?_))
    refine SW.seq (SW.block (SW.seq ?_))
    refine SW.g0 [0, 1, 4, 5, 10, 12, 13, 14, 24] mixed bq_tt ?_
    refine SW.seq ?_
    refine SW.g0 [0, 1, 4, 5, 10, 12, 13, 14, 24] mixed (And.intro (cm_at hx) (And.intro (cm_room0 hx) (cm_self))) ?_
    refine SW.condF rfl (SW.skip ?_)
    refine SW.g0 [0, 1, 4, 5, 10, 12, 13, 14, 24] mixed (e2) ?_
    refine ⟨⟨i + 1, by omega⟩, id, by show l.length - (i + 1) < l.length - i; omega, ?_⟩
    exact Weak.mk bq_tt
  · have h1 : decide ((i : Int) < l.length) = false := by simp only [decide_eq_false_iff_not]; omega
    refine SW.seq ?_
    refine SW.g0 [0, 1, 4, 5, 10, 12, 13, 14, 24] mixed (h1) ?_
    refine SW.seq (SW.condF rfl (SW.exit ?_))
    refine SW.seq ?_
    refine SW.g0 [0, 1, 4, 5, 10, 12, 13, 14, 24] mixed bq_tt ?_
    refine SW.ret ?_
    exact End.mk [] (h4 := ⟨rfl, rfl⟩)
theorem eqself_at (l : List Cm) (hl : l.length < 4611686018427387904) (k : Nat) : SCd Tryd.prog slices_Equal_Lapi_Claim_api_Claim.f [cms l, cms l] [] k 0 (bl true) [] := (eqself_ok l hl).sc rfl k
theorem eqnil_ok (l : List Cm) : Go.Sl.Pure Tryd.prog slices_Equal_Lapi_Claim_api_Claim.f [.d .nils, cms l] (bl (decide (l.length = 0))) := by
  refine slices_Equal_Lapi_Claim_api_Claim.enter (by first | rfl | simp [SV.ok, SV.oks]) (by first | rfl | simp [Hp.ok, Ob.ok, SV.ok, SV.oks, Vec.cells_ok]) (by simp) ?_
  dsimp only [slices_Equal_Lapi_Claim_api_Claim.s, Co.M, Co.G, Co.J, Co.H, Co.N, Co.F, Co.C, Co.Z, Co.B, Co.b8, Co.b32, Co.b64, Co.i6, Co.z8, Co.z29]
  by_cases h : l.length = 0
  · have h0 : ((0 : Int) != (l.length : Int)) = false := by rw [h]; rfl
    have h2 : decide (l.length = 0) = true := by simp [h]
    rw [h2]
    refine SW.seq ?_
    refine SW.g0 [0, 1, 4, 5, 10, 12, 13, 14, 24] mixed bq_tt ?_
    refine SW.seq (SW.seq ?_)
    refine SW.g0 [0, 1, 4, 5, 10, 12, 13, 14, 24] mixed (h0) ?_
    refine SW.condF rfl (SW.skip ?_)
    refine SW.seq (SW.seq ?_)
    refine SW.g0 [0, 1, 4, 5, 10, 12, 13, 14, 24] mixed bq_tt ?_
    refine SW.block ?_
    refine SW.loopA (α := Unit) (fun _ => ⟨[(13, i64 0), (12, i64 0)], [], 0⟩) (fun i => 0) () id bq_tt (round := ?_)
    rintro _
    have h1 : decide ((0 : Int) < 0) = false := by decide
    refine SW.seq ?_
    refine SW.g0 [0, 1, 4, 5, 10, 12, 13, 14, 24] mixed (h1) ?_
    refine SW.seq (SW.condF rfl (SW.exit ?_))
    refine SW.seq ?_
    refine SW.g0 [0, 1, 4, 5, 10, 12, 13, 14, 24] mixed bq_tt ?_
    refine SW.ret ?_
    exact End.mk [] (h4 := ⟨rfl, rfl⟩)
  · have h0 : ((0 : Int) != (l.length : Int)) = true := by simp; omega
    have h2 : decide (l.length = 0) = false := by simp [h]
    rw [h2]
    refine SW.seq ?_
    refine SW.g0 [0, 1, 4, 5, 10, 12, 13, 14, 24] mixed bq_tt ?_
    refine SW.seq (SW.seq ?_)
    refine SW.g0 [0, 1, 4, 5, 10, 12, 13, 14, 24] mixed (h0) ?_
    refine SW.condT rfl (SW.seq ?_)
    refine SW.g0 [0, 1, 4, 5, 10, 12, 13, 14, 24] mixed bq_tt ?_
    refine SW.ret ?_
    exact End.mk [] (h4 := ⟨rfl, rfl⟩)
theorem eqnil_at (l : List Cm) (k : Nat) : SCd Tryd.prog slices_Equal_Lapi_Claim_api_Claim.f [.d .nils, cms l] [] k 0 (bl (decide (l.length = 0))) [] := (eqnil_ok l).sc rfl k
abbrev k28 : List Bool := [true, true, true, true, true, true, true, true, true, true, true, true, true, true, true, true, true, true, true, true, true, true, true, true, true, true, true, true]
def eqF (a b : OpD) : Bool := (csqS k28 (ofc a) (ofc b)).getD false
set_option maxRecDepth 100000 in
theorem eqF_is (a b : OpD) : csqS k28 (ofc a) (ofc b) = some (eqF a b) := by kernel_rfl
theorem line_get (o : OpD) : o.cells[28]? = some (.d o.lines) := rfl
set_option maxHeartbeats 2000000 in
theorem osame_ok (a b : OpD) (eL : Bool) (hL : ∀ k, SCd Tryd.prog slices_Equal_Lapi_Claim_api_Claim.f [.d a.lines, .d b.lines] [] k 0 (bl eL) []) : Go.Sl.Pure Tryd.prog op_Same.f [.agg a.cells, .agg b.cells] (bl (eqF a b && eL)) := by
  refine op_Same.enter (by first | rfl | simp [SV.ok, SV.oks]) (by first | rfl | simp [Hp.ok, Ob.ok, SV.ok, SV.oks, Vec.cells_ok]) (by simp) ?_
  dsimp only [op_Same.s, Co.M, Co.G, Co.J, Co.H, Co.N, Co.F, Co.C, Co.Z, Co.B, Co.b8, Co.b32, Co.b64, Co.i6, Co.z8, Co.z29]
  have hq := eqF_is a b
  refine SW.seq ?_
  refine SW.g0 [0, 1, 2, 3, 4] mixed bq_tt ?_
  refine SW.seq ?_
  rcases he : eqF a b with _ | _ <;> rw [he] at hq
  · refine SW.g2 [0, 1, 2, 3, 4] mixed (And.intro (hq) (And.intro (line_get a) (line_get b))) (of_at a) (of_at b) ?_
    refine SW.ret ?_
    exact End.mk [] (h4 := ⟨rfl, rfl⟩)
  · refine SW.g4 [0, 1, 2, 3, 4] mixed (And.intro (hq) (And.intro (line_get a) (line_get b))) (of_at a) (of_at b) hL trivial ?_
    refine SW.ret ?_
    exact End.mk [] (h4 := ⟨rfl, rfl⟩)
theorem osame_at (a b : OpD) (eL : Bool) (hL : ∀ k, SCd Tryd.prog slices_Equal_Lapi_Claim_api_Claim.f [.d a.lines, .d b.lines] [] k 0 (bl eL) []) (k : Nat) : SCd Tryd.prog op_Same.f [.agg a.cells, .agg b.cells] [] k 0 (bl (eqF a b && eL)) [] := (osame_ok a b eL hL).sc rfl k
end Go.Proofs.YtnakpdoioammhaaDoor
namespace Go.Proofs.YtnakpdoioammhaaDoor
open Go.Sl Go.Proofs
attribute [local irreducible] SW RW SCd SC CallP Pruned
def kinds9 : List Int := [0, 3, 5, 49, 37, 5, 13, 13, 65]
def kindH (k : Nat) : Int := kinds9.getD k 0
theorem kind_get {k : Nat} (h : k < 9) : [SV.d (.int .u8 0), .d (.int .u8 3), .d (.int .u8 5), .d (.int .u8 49), .d (.int .u8 37), .d (.int .u8 5), .d (.int .u8 13), .d (.int .u8 13), .d (.int .u8 65)][k]? = some (.d (.int .u8 (kindH k))) := by
  match k, h with
  | 0, _ | 1, _ | 2, _ | 3, _ | 4, _ | 5, _ | 6, _ | 7, _ | 8, _ => rfl
def bare1 (h : Int) (o : OpD) : OpD := if hasB h 1 then { o with cred := ⟨0, 0⟩ } else o
def bare2 (h : Int) (o : OpD) : OpD := if hasB h 2 then { o with to := 0, roles := 0, depth := 0, cap := 0 } else o
def bare3 (h : Int) (o : OpD) : OpD := if hasB h 4 then { o with at_ := ⟨0, 0⟩ } else o
def bare4 (h : Int) (o : OpD) : OpD := if hasB h 8 then { o with ver := ⟨0, 0⟩ } else o
def bare5 (h : Int) (o : OpD) : OpD := if hasB h 16 then { o with item := 0, price := 0 } else o
def bare6 (h : Int) (o : OpD) : OpD := if hasB h 32 then { o with qty := 0 } else o
def bare7 (h : Int) (o : OpD) : OpD := if hasB h 64 then { o with lines := .nils } else o
def bareH (h : Int) (o : OpD) : OpD := bare7 h (bare6 h (bare5 h (bare4 h (bare3 h (bare2 h (bare1 h o))))))
set_option maxRecDepth 100000 in
set_option maxHeartbeats 8000000 in
theorem bare_ok (o : OpD) (hk : o.kind < 9) : Go.Sl.Pure Tryd.prog op_bare.f [.agg o.cells] (.agg (bareH (kindH o.kind) o).cells) := by
  refine op_bare.enter (by first | rfl | simp [SV.ok, SV.oks]) (by first | rfl | simp [Hp.ok, Ob.ok, SV.ok, SV.oks, Vec.cells_ok]) (by simp) ?_
  dsimp only [op_bare.s, Co.M, Co.G, Co.J, Co.H, Co.N, Co.F, Co.C, Co.Z, Co.B, Co.b8, Co.b32, Co.b64, Co.i6, Co.z8, Co.z29]
  have hg := kind_get hk
  unfold bareH
  generalize kindH o.kind = h at hg ⊢
  refine SW.seq ?_
  refine SW.g0 [0, 1, 2, 3, 10, 15, 22, 27, 32, 37, 41] mixed bq_tt ?_
  refine SW.seq ?_
  refine SW.g0 [0, 1, 2, 3, 10, 15, 22, 27, 32, 37, 41] mixed (hg) ?_
  clear hg hk
  have cok : ∀ o : OpD, SV.oks (fun n => decide (n < 2)) o.cells = true := fun o => OpD.cells_ok o _
  have crn : ∀ o : OpD, SV.rens id o.cells = o.cells := fun o => SV.rens_id _
  refine SW.cutE (α := Unit) (fun _ => ⟨[(3, .d (.int .u8 h)), (1, .ptr 0 0), (2, .ptr 1 0)], [(1, .box 37 OpD.zero.cells), (0, .box 37 (bare1 h o).cells)], 2⟩) ?_ ?_
  · refine SW.seq ?_
    unfold bare1
    rcases hb : hasB h 1 with _ | _
    · have hb2 : (bits .and .u8 h 1 == 0) = false := hb
      refine SW.g0 [0, 1, 2, 3, 10, 15, 22, 27, 32, 37, 41] mixed (hb2) ?_
      refine SW.condF rfl (SW.skip ?_)
      exact ⟨(), Weak.mk (And.intro cok crn)⟩
    · have hb2 : (bits .and .u8 h 1 == 0) = true := hb
      have q0 : spl o.cells 15 (⟨0, 0⟩ : Dt).cells = ({ o with cred := ⟨0, 0⟩ } : OpD).cells := rfl
      refine SW.g0 [0, 1, 2, 3, 10, 15, 22, 27, 32, 37, 41] mixed (hb2) ?_
      refine SW.condT rfl ?_
      refine SW.g0 [0, 1, 2, 3, 10, 15, 22, 27, 32, 37, 41] mixed (q0) ?_
      refine ⟨(), ?_⟩
      rw [if_pos rfl]
      exact Weak.mk (And.intro cok crn)
  rintro _
  generalize bare1 h o = o
  refine SW.cutE (α := Unit) (fun _ => ⟨[(3, .d (.int .u8 h)), (1, .ptr 0 0), (2, .ptr 1 0)], [(1, .box 37 OpD.zero.cells), (0, .box 37 (bare2 h o).cells)], 2⟩) ?_ ?_
  · refine SW.seq ?_
    unfold bare2
    rcases hb : hasB h 2 with _ | _
    · have hb2 : (bits .and .u8 h 2 == 0) = false := hb
      refine SW.g0 [0, 1, 2, 3, 10, 15, 22, 27, 32, 37, 41] mixed (hb2) ?_
      refine SW.condF rfl (SW.skip ?_)
      exact ⟨(), Weak.mk (And.intro cok crn)⟩
    · have hb2 : (bits .and .u8 h 2 == 0) = true := hb
      have q0 : spl o.cells 17 [.d (.int .u32 0)] = ({ o with to := 0 } : OpD).cells := rfl
      have q1 : spl ({ o with to := 0 } : OpD).cells 18 [.d (.int .u8 0)] = ({ o with to := 0, roles := 0 } : OpD).cells := rfl
      have q2 : spl ({ o with to := 0, roles := 0 } : OpD).cells 19 [.d (.int .u8 0)] = ({ o with to := 0, roles := 0, depth := 0 } : OpD).cells := rfl
      have q3 : spl ({ o with to := 0, roles := 0, depth := 0 } : OpD).cells 20 [.d (.int .u64 0)] = ({ o with to := 0, roles := 0, depth := 0, cap := 0 } : OpD).cells := rfl
      refine SW.g0 [0, 1, 2, 3, 10, 15, 22, 27, 32, 37, 41] mixed (hb2) ?_
      refine SW.condT rfl ?_
      refine SW.g0 [0, 1, 2, 3, 10, 15, 22, 27, 32, 37, 41] mixed (And.intro (q0) (And.intro (q1) (And.intro (q2) (q3)))) ?_
      refine ⟨(), ?_⟩
      rw [if_pos rfl]
      exact Weak.mk (And.intro cok crn)
  rintro _
  generalize bare2 h o = o
  refine SW.cutE (α := Unit) (fun _ => ⟨[(3, .d (.int .u8 h)), (1, .ptr 0 0), (2, .ptr 1 0)], [(1, .box 37 OpD.zero.cells), (0, .box 37 (bare3 h o).cells)], 2⟩) ?_ ?_
  · refine SW.seq ?_
    unfold bare3
    rcases hb : hasB h 4 with _ | _
    · have hb2 : (bits .and .u8 h 4 == 0) = false := hb
      refine SW.g0 [0, 1, 2, 3, 10, 15, 22, 27, 32, 37, 41] mixed (hb2) ?_
      refine SW.condF rfl (SW.skip ?_)
      exact ⟨(), Weak.mk (And.intro cok crn)⟩
    · have hb2 : (bits .and .u8 h 4 == 0) = true := hb
      have q0 : spl o.cells 21 (⟨0, 0⟩ : Dt).cells = ({ o with at_ := ⟨0, 0⟩ } : OpD).cells := rfl
      refine SW.g0 [0, 1, 2, 3, 10, 15, 22, 27, 32, 37, 41] mixed (hb2) ?_
      refine SW.condT rfl ?_
      refine SW.g0 [0, 1, 2, 3, 10, 15, 22, 27, 32, 37, 41] mixed (q0) ?_
      refine ⟨(), ?_⟩
      rw [if_pos rfl]
      exact Weak.mk (And.intro cok crn)
  rintro _
  generalize bare3 h o = o
  refine SW.cutE (α := Unit) (fun _ => ⟨[(3, .d (.int .u8 h)), (1, .ptr 0 0), (2, .ptr 1 0)], [(1, .box 37 OpD.zero.cells), (0, .box 37 (bare4 h o).cells)], 2⟩) ?_ ?_
  · refine SW.seq ?_
    unfold bare4
    rcases hb : hasB h 8 with _ | _
    · have hb2 : (bits .and .u8 h 8 == 0) = false := hb
      refine SW.g0 [0, 1, 2, 3, 10, 15, 22, 27, 32, 37, 41] mixed (hb2) ?_
      refine SW.condF rfl (SW.skip ?_)
      exact ⟨(), Weak.mk (And.intro cok crn)⟩
    · have hb2 : (bits .and .u8 h 8 == 0) = true := hb
      have q0 : spl o.cells 23 (⟨0, 0⟩ : Dt).cells = ({ o with ver := ⟨0, 0⟩ } : OpD).cells := rfl
      refine SW.g0 [0, 1, 2, 3, 10, 15, 22, 27, 32, 37, 41] mixed (hb2) ?_
      refine SW.condT rfl ?_
      refine SW.g0 [0, 1, 2, 3, 10, 15, 22, 27, 32, 37, 41] mixed (q0) ?_
      refine ⟨(), ?_⟩
      rw [if_pos rfl]
      exact Weak.mk (And.intro cok crn)
  rintro _
  generalize bare4 h o = o
  refine SW.cutE (α := Unit) (fun _ => ⟨[(3, .d (.int .u8 h)), (1, .ptr 0 0), (2, .ptr 1 0)], [(1, .box 37 OpD.zero.cells), (0, .box 37 (bare5 h o).cells)], 2⟩) ?_ ?_
  · refine SW.seq ?_
    unfold bare5
    rcases hb : hasB h 16 with _ | _
    · have hb2 : (bits .and .u8 h 16 == 0) = false := hb
      refine SW.g0 [0, 1, 2, 3, 10, 15, 22, 27, 32, 37, 41] mixed (hb2) ?_
      refine SW.condF rfl (SW.skip ?_)
      exact ⟨(), Weak.mk (And.intro cok crn)⟩
    · have hb2 : (bits .and .u8 h 16 == 0) = true := hb
      have q0 : spl o.cells 25 [.d (.int .u32 0)] = ({ o with item := 0 } : OpD).cells := rfl
      have q1 : spl ({ o with item := 0 } : OpD).cells 27 [.d (.int .u32 0)] = ({ o with item := 0, price := 0 } : OpD).cells := rfl
      refine SW.g0 [0, 1, 2, 3, 10, 15, 22, 27, 32, 37, 41] mixed (hb2) ?_
      refine SW.condT rfl ?_
      refine SW.g0 [0, 1, 2, 3, 10, 15, 22, 27, 32, 37, 41] mixed (And.intro (q0) (q1)) ?_
      refine ⟨(), ?_⟩
      rw [if_pos rfl]
      exact Weak.mk (And.intro cok crn)
  rintro _
  generalize bare5 h o = o
  refine SW.cutE (α := Unit) (fun _ => ⟨[(3, .d (.int .u8 h)), (1, .ptr 0 0), (2, .ptr 1 0)], [(1, .box 37 OpD.zero.cells), (0, .box 37 (bare6 h o).cells)], 2⟩) ?_ ?_
  · refine SW.seq ?_
    unfold bare6
    rcases hb : hasB h 32 with _ | _
    · have hb2 : (bits .and .u8 h 32 == 0) = false := hb
      refine SW.g0 [0, 1, 2, 3, 10, 15, 22, 27, 32, 37, 41] mixed (hb2) ?_
      refine SW.condF rfl (SW.skip ?_)
      exact ⟨(), Weak.mk (And.intro cok crn)⟩
    · have hb2 : (bits .and .u8 h 32 == 0) = true := hb
      have q0 : spl o.cells 26 [.d (.int .u32 0)] = ({ o with qty := 0 } : OpD).cells := rfl
      refine SW.g0 [0, 1, 2, 3, 10, 15, 22, 27, 32, 37, 41] mixed (hb2) ?_
      refine SW.condT rfl ?_
      refine SW.g0 [0, 1, 2, 3, 10, 15, 22, 27, 32, 37, 41] mixed (q0) ?_
      refine ⟨(), ?_⟩
      rw [if_pos rfl]
      exact Weak.mk (And.intro cok crn)
  rintro _
  generalize bare6 h o = o
  refine SW.cutE (α := Unit) (fun _ => ⟨[(3, .d (.int .u8 h)), (1, .ptr 0 0), (2, .ptr 1 0)], [(1, .box 37 OpD.zero.cells), (0, .box 37 (bare7 h o).cells)], 2⟩) ?_ ?_
  · refine SW.seq ?_
    unfold bare7
    rcases hb : hasB h 64 with _ | _
    · have hb2 : (bits .and .u8 h 64 == 0) = false := hb
      refine SW.g0 [0, 1, 2, 3, 10, 15, 22, 27, 32, 37, 41] mixed (hb2) ?_
      refine SW.condF rfl (SW.skip ?_)
      exact ⟨(), Weak.mk (And.intro cok crn)⟩
    · have hb2 : (bits .and .u8 h 64 == 0) = true := hb
      have q0 : spl o.cells 28 [.d .nils] = ({ o with lines := .nils } : OpD).cells := rfl
      refine SW.g0 [0, 1, 2, 3, 10, 15, 22, 27, 32, 37, 41] mixed (hb2) ?_
      refine SW.condT rfl ?_
      refine SW.g0 [0, 1, 2, 3, 10, 15, 22, 27, 32, 37, 41] mixed (q0) ?_
      refine ⟨(), ?_⟩
      rw [if_pos rfl]
      exact Weak.mk (And.intro cok crn)
  rintro _
  generalize bare7 h o = o
  refine SW.seq ?_
  have q : spl OpD.zero.cells 0 o.cells = o.cells := rfl
  refine SW.g0 [0, 1, 2, 3, 10, 15, 22, 27, 32, 37, 41] mixed (q) ?_
  refine SW.ret ?_
  exact End.mk [] (h4 := ⟨rfl, rfl⟩)
theorem bare_at (o : OpD) (hk : o.kind < 9) (k : Nat) : SCd Tryd.prog op_bare.f [.agg o.cells] [] k 0 (.agg (bareH (kindH o.kind) o).cells) [] := (bare_ok o hk).sc rfl k
end Go.Proofs.YtnakpdoioammhaaDoor
namespace Go.Proofs.YtnakpdoioammhaaDoor
open Go.Sl Go.Proofs
attribute [local irreducible] SW RW SCd SC CallP Pruned
structure ClI (o : OpD) (cl : List Cm) (i : Nat) (M : MM Dt Int) : Prop where
  c1 : i ≤ cl.length
  c2 : MM.keys M = (cl.take i).map (·.line)
  c3 : ∀ d v, MM.get M d = some v → v = 1
  c4 : ∀ j, j < i → okAt o cl j = true
theorem ctake {cl : List Cm} {i : Nat} {x : Cm} (h : cl[i]? = some x) : cl.take (i + 1) = cl.take i ++ [x] := by
  rw [List.take_add_one, h]; rfl
theorem linesV_no {o : OpD} {cl : List Cm} {i : Nat} (hi : i < cl.length) (h : okAt o cl i = false) : linesV o cl = false := by
  unfold linesV
  rw [Bool.and_eq_false_iff]
  right
  rw [Bool.eq_false_iff]
  intro ha
  have := List.all_eq_true.1 ha i (List.mem_range.2 hi)
  rw [h] at this; cases this
theorem linesV_yes {o : OpD} {cl : List Cm} (h : ∀ j, j < cl.length → okAt o cl j = true) : linesV o cl = decide (1 ≤ cl.length ∧ cl.length ≤ 16) := by
  unfold linesV
  have : (List.range cl.length).all (okAt o cl) = true := List.all_eq_true.2 fun j hj => h j (List.mem_range.1 hj)
  rw [this, Bool.and_true]
set_option maxHeartbeats 4000000 in
theorem claims_ok (o : OpD) (hl : o.lin) (hw : ∀ x, x ∈ o.cl → x.line.r < 256 ∧ x.ver.r < 256) : Go.Sl.Pure Tryd.prog op_claims.f [.agg o.cells] (bl (linesV o o.cl)) := by
  have hn := hl.eq
  have hlen := hl.le
  have hline : o.cells[28]? = some (.d (.sl o.cl.length (o.cl.flatMap Cm.ds))) := by rw [line_get, hn]
  generalize o.cl = cl at hw hlen hline ⊢
  refine op_claims.enter (by first | rfl | simp [SV.ok, SV.oks]) (by first | rfl | simp [Hp.ok, Ob.ok, SV.ok, SV.oks, Vec.cells_ok]) (by simp) ?_
  dsimp only [op_claims.s, Co.M, Co.G, Co.J, Co.H, Co.N, Co.F, Co.C, Co.Z, Co.B, Co.b8, Co.b32, Co.b64, Co.i6, Co.z8, Co.z29]
  refine SW.seq ?_
  refine SW.g0 [0, 1, 2, 3, 5, 8, 9, 10, 11, 32] mixed bq_tt ?_
  refine SW.seq ?_
  refine SW.g0 [0, 1, 2, 3, 5, 8, 9, 10, 11, 32] mixed bq_tt ?_
  refine SW.cutE (α := {M : MM Dt Int × Nat // ClI o cl cl.length M.1}) (fun M => ⟨[(3, .mp 1), (1, .ptr 0 0)], [(1, .map (mapE Dt.cells iv M.1.1) M.1.2), (0, .box 37 o.cells)], 2⟩) ?_ ?_
  · refine SW.seq ?_
    refine SW.g0 [0, 1, 2, 3, 5, 8, 9, 10, 11, 32] mixed (hline) ?_
    refine SW.block ?_
    refine SW.loopA (α := {x : Nat × MM Dt Int × Nat // ClI o cl x.1 x.2.1}) (fun x => ⟨[(10, i64 x.1.1), (8, .d (.sl cl.length (cl.flatMap Cm.ds))), (9, i64 cl.length), (3, .mp 1), (1, .ptr 0 0), (2, .d (.bool false))], [(1, .map (mapE Dt.cells iv x.1.2.1) x.1.2.2), (0, .box 37 o.cells)], 2⟩) (fun x => cl.length - x.1.1) ⟨(0, [], 0), ⟨Nat.zero_le _, rfl, fun d v h => (by cases h), fun j h => (by omega)⟩⟩ id (And.intro (show mapE Dt.cells iv ([] : MM Dt Int) = [] from rfl) (And.intro (fun o : OpD => OpD.cells_ok o (fun n => decide (n < 2))) (fun o : OpD => SV.rens_id o.cells))) (round := ?_)
    rintro ⟨⟨i, M, c⟩, hi, hk, hv, ha⟩
    simp only at hi hk hv ha
    dsimp only
    by_cases h : i < cl.length
    · have h1 : decide ((i : Int) < cl.length) = true := by simp only [decide_eq_true_eq]; omega
      obtain ⟨x, hx⟩ := get_of_lt h
      obtain ⟨hw1, hw2⟩ := hw x (List.mem_of_getElem? hx)
      have e2 : IntKind.i64.wrap ((i : Int) + 1) = ((i + 1 : Nat) : Int) := wrap_i64 _ (by omega)
      have hat : okAt o cl i = okL o x (cl.take i) := by unfold okAt; rw [hx]
      have u1 := find_dt x.line iv M
      have u3 := look_int (kc := Dt.cells) M x.line
      have u4 := mset_int (kc := Dt.cells) M c x.line 1
      have g1 : List.take 2 (x.line.cells ++ x.ver.cells) = x.line.cells := rfl
      have g2 : List.take 2 (List.drop 2 (x.line.cells ++ x.ver.cells)) = x.ver.cells := rfl
      have g3 : (x.line.cells ++ x.ver.cells).all SV.isOne = true := rfl
      have g4 : (x.line.cells ++ x.ver.cells).length = 4 := rfl
      have g5 : spl (SV.d (.int .u8 0) :: SV.d (.int .u32 0) :: (⟨0, 0⟩ : Dt).cells) 0 (x.line.cells ++ x.ver.cells) = x.line.cells ++ x.ver.cells := rfl
      have no : ∀ env hp kk, okAt o cl i = false → env.lookup 2 = some (.d (.bool false)) → Go.Sl.Fin 0 0 op_claims.rv (fun r F => r = bl (linesV o cl) ∧ F = []) ⟨env, hp, kk⟩ := fun env hp kk hno he => by
        rw [linesV_no h hno]
        exact End.mk [] (h1 := by show rvV _ [.tmp 2] = _; simp only [rvV, he]; rfl) (h2 := by trivial) (h4 := ⟨rfl, rfl⟩) (h5 := rfl) (h7 := Nat.zero_le _)
      refine SW.seq ?_
      refine SW.g0 [0, 1, 2, 3, 5, 8, 9, 10, 11, 32] mixed (h1) ?_
      refine SW.seq (SW.condT rfl (SW.skip ?_))
      refine SW.seq (SW.block (SW.seq ?_))
      refine SW.g0 [0, 1, 2, 3, 5, 8, 9, 10, 11, 32] mixed (And.intro (cm_at hx) (And.intro (cm_room0 hx) (And.intro (g3) (And.intro (g4) (g5))))) ?_
      refine SW.seq (SW.seq ?_)
      rcases hh : MM.has M x.line with _ | _
      · have hget : MM.get M x.line = none := by
          unfold MM.has at hh
          cases hz : MM.get M x.line with
          | none => rfl
          | some v => rw [hz] at hh; cases hh
        have hg0 : (MM.get M x.line).getD 0 = 0 := by rw [hget]; rfl
        have hpre : (cl.take i).all (fun y => !decide (y.line = x.line)) = true := by
          rw [List.all_eq_true]
          intro y hy
          simp only [Bool.not_eq_true', decide_eq_false_iff_not]
          intro e
          have : MM.has M x.line = true := MM.has_iff.2 (by rw [hk, ← e]; exact List.mem_map.2 ⟨y, hy, rfl⟩)
          rw [hh] at this; cases this
        rcases hc1 : o.dep.covers x.line with _ | _
        · have hno : okAt o cl i = false := by rw [hat]; unfold okL; rw [hc1]; rfl
          have c1 := fun k => ocov_at o x.line hw1 k
          rw [hc1] at c1
          refine SW.g1 [0, 1, 2, 3, 5, 8, 9, 10, 11, 32] mixed (And.intro (u1) (And.intro (u3) (And.intro (hg0) (And.intro (g1) (And.intro (g2) (And.intro (g3) (g4))))))) c1 ?_
          refine SW.condT rfl (SW.seq ?_)
          refine SW.g0 [0, 1, 2, 3, 5, 8, 9, 10, 11, 32] mixed bq_tt ?_
          refine SW.ret ?_
          exact no _ _ _ hno rfl
        · have c1 := fun k => ocov_at o x.line hw1 k
          rw [hc1] at c1
          have c2 := fun k => ocov_at o x.ver hw2 k
          rcases hc2 : o.dep.covers x.ver with _ | _
          · have hno : okAt o cl i = false := by rw [hat]; unfold okL; rw [hc1, hc2]; rfl
            rw [hc2] at c2
            refine SW.g2 [0, 1, 2, 3, 5, 8, 9, 10, 11, 32] mixed (And.intro (u1) (And.intro (u3) (And.intro (hg0) (And.intro (g1) (And.intro (g2) (And.intro (g3) (g4))))))) c1 c2 ?_
            refine SW.condT rfl (SW.seq ?_)
            refine SW.g0 [0, 1, 2, 3, 5, 8, 9, 10, 11, 32] mixed bq_tt ?_
            refine SW.ret ?_
            exact no _ _ _ hno rfl
          · have hyes : okAt o cl i = true := by rw [hat]; unfold okL; rw [hc1, hc2, hpre]; rfl
            rw [hc2] at c2
            refine SW.g2 [0, 1, 2, 3, 5, 8, 9, 10, 11, 32] mixed (And.intro (u1) (And.intro (u3) (And.intro (hg0) (And.intro (g1) (And.intro (g2) (And.intro (g3) (g4))))))) c1 c2 ?_
            refine SW.condF rfl (SW.skip ?_)
            refine SW.g0 [0, 1, 2, 3, 5, 8, 9, 10, 11, 32] mixed (And.intro (u1) (And.intro (u4) (And.intro (g1) (And.intro (g3) (g4))))) ?_
            refine SW.g0 [0, 1, 2, 3, 5, 8, 9, 10, 11, 32] mixed (e2) ?_
            have hk2 : MM.keys (MM.put M c x.line (1 : Int)) = (cl.take (i + 1)).map (·.line) := by
              rw [MM.keys_put, hh, ctake hx, hk]; simp
            have hI : ClI o cl (i + 1) (MM.put M c x.line (1 : Int)) := ⟨by omega, hk2, fun d v hd => by
              rw [MM.get_put] at hd
              split at hd
              · injection hd with hd; exact hd.symm
              · exact hv d v hd, fun j hj => by
              by_cases e : j = i
              · rw [e]; exact hyes
              · exact ha j (by omega)⟩
            refine ⟨⟨(i + 1, MM.put M c x.line (1 : Int), MM.clk M c x.line), hI⟩, id, by show cl.length - (i + 1) < cl.length - i; omega, ?_⟩
            exact Weak.mk (And.intro (OpD.cells_ok o (fun n => decide (n < 2))) (SV.rens_id o.cells))
      · obtain ⟨v, hget⟩ : ∃ v, MM.get M x.line = some v := by
          unfold MM.has at hh
          exact Option.isSome_iff_exists.1 hh
        have hv1 := hv _ _ hget
        subst hv1
        have hg0 : (MM.get M x.line).getD 0 = 1 := by rw [hget]; rfl
        have hno : okAt o cl i = false := by
          rw [hat]; unfold okL
          rw [Bool.and_eq_false_iff]
          right
          rw [Bool.eq_false_iff]
          intro hall
          have hm : x.line ∈ MM.keys M := MM.has_iff.1 hh
          rw [hk] at hm
          obtain ⟨y, hy, e⟩ := List.mem_map.1 hm
          have := List.all_eq_true.1 hall y hy
          simp [e] at this
        refine SW.g0 [0, 1, 2, 3, 5, 8, 9, 10, 11, 32] mixed (And.intro (u1) (And.intro (u3) (And.intro (hg0) (And.intro (g1) (And.intro (g2) (And.intro (g3) (g4))))))) ?_
        refine SW.condT rfl (SW.seq ?_)
        refine SW.g0 [0, 1, 2, 3, 5, 8, 9, 10, 11, 32] mixed bq_tt ?_
        refine SW.ret ?_
        exact no _ _ _ hno rfl
    · have h1 : decide ((i : Int) < cl.length) = false := by simp only [decide_eq_false_iff_not]; omega
      have hil : i = cl.length := by omega
      subst hil
      refine SW.seq ?_
      refine SW.g0 [0, 1, 2, 3, 5, 8, 9, 10, 11, 32] mixed (h1) ?_
      refine SW.seq (SW.condF rfl (SW.exit ?_))
      refine ⟨⟨(M, c), ⟨hi, hk, hv, ha⟩⟩, ?_⟩
      exact Weak.mk (And.intro (OpD.cells_ok o (fun n => decide (n < 2))) (SV.rens_id o.cells))
  rintro ⟨⟨M, c⟩, hi, hk, hv, ha⟩
  simp only at hk ha
  dsimp only
  have hml : M.length = cl.length := by
    have := congrArg List.length hk
    rw [List.take_length] at this
    simpa [MM.keys] using this
  rw [linesV_yes ha]
  refine SW.seq ?_
  by_cases h0 : 1 ≤ cl.length
  · have d1 : decide ((M.length : Int) > 0) = true := decide_eq_true (by omega)
    by_cases h16 : cl.length ≤ 16
    · have d2 : decide ((M.length : Int) ≤ 16) = true := by simp; omega
      rw [show decide (1 ≤ cl.length ∧ cl.length ≤ 16) = true by simp [h0, h16]]
      refine SW.g0 [0, 1, 2, 3, 5, 8, 9, 10, 11, 32] mixed (And.intro (d1) (d2)) ?_
      refine SW.ret ?_
      exact End.mk [] (h4 := ⟨rfl, rfl⟩)
    · have d2 : decide ((M.length : Int) ≤ 16) = false := by simp; omega
      rw [show decide (1 ≤ cl.length ∧ cl.length ≤ 16) = false by simp [h16]]
      refine SW.g0 [0, 1, 2, 3, 5, 8, 9, 10, 11, 32] mixed (And.intro (d1) (d2)) ?_
      refine SW.ret ?_
      exact End.mk [] (h4 := ⟨rfl, rfl⟩)
  · have d1 : decide ((M.length : Int) > 0) = false := decide_eq_false (by omega)
    rw [show decide (1 ≤ cl.length ∧ cl.length ≤ 16) = false from decide_eq_false fun hh => h0 hh.1]
    refine SW.g0 [0, 1, 2, 3, 5, 8, 9, 10, 11, 32] mixed (d1) ?_
    refine SW.ret ?_
    exact End.mk [] (h4 := ⟨rfl, rfl⟩)
theorem claims_at (o : OpD) (hl : o.lin) (hw : ∀ x, x ∈ o.cl → x.line.r < 256 ∧ x.ver.r < 256) (k : Nat) : SCd Tryd.prog op_claims.f [.agg o.cells] [] k 0 (bl (linesV o o.cl)) [] := (claims_ok o hl hw).sc rfl k
end Go.Proofs.YtnakpdoioammhaaDoor
namespace Go.Proofs.YtnakpdoioammhaaDoor
open Go.Sl Go.Proofs
attribute [local irreducible] SW RW SCd SC CallP Pruned
theorem SWn.join {N k0 : Nat} {l : List SI} {st : St} {K : St → Prop} {α : Type} (n : Nat) (S : α → St) (h1 : ∀ K' : St → Prop, (∀ a st', Weak k0 st' (S a) id → SWn Tryd.prog N k0 (l.drop n) st' K') → SWn Tryd.prog N k0 l st K') (h2 : ∀ a, SWn Tryd.prog N k0 (l.drop n) (S a) K) : SWn Tryd.prog N k0 l st K :=
  h1 K fun a st' hw => SW.toN hw (h2 a)
theorem SWn.callG {N k0 : Nat} {K : St → Prop} {r : List SI} {d t : Nat} {f : X} {args : List X} {fid : FuncId} {as' first cap as'' : List SV} {env : List (Nat × SV)} {hp F : Hp} {k : Nat} {v : SV}
    (hgv : env.lookup t = some (.d (.bool true))) (hsc : SCd Tryd.prog fid as'' F k 0 v F) (hs : HSub F hp) (hF : hmrg false hp F F = hp)
    (hf : ev (fun t => env.lookup t) f = some (.fn (.func fid) first cap)) (ha : evs (fun t => env.lookup t) args = some as') (has : first ++ as' ++ cap = as'')
    (h : SWn Tryd.prog N k0 r ⟨(d, v) :: env, hp, k⟩ K) : SWn Tryd.prog N k0 (⟨some d, .call f args, some (t, true)⟩ :: r) ⟨env, hp, k⟩ K := by
  refine SWn.manyG (st := ⟨env, hp, k⟩) rfl hgv (fun o hc => sq_call hc hf ha (by rw [has]; unfold SCd at hsc; exact hsc) hs) rfl fun v' F' hq => ?_
  obtain ⟨rfl, rfl⟩ := hq
  show SWn Tryd.prog N k0 r ⟨(d, v') :: env, hmrg false hp F' F', k + 0⟩ K
  rw [hF]
  exact h
def grantV (o : OpD) : Bool := decide ((o.to : Int) > 0) && (decide ((o.roles : Int) > 0) && (decide ((o.roles : Int) ≤ 7) && (decide ((o.depth : Int) < 8) && decide ((o.cap : Int) ≤ 1099511627776))))
def qtyV (o : OpD) : Bool := decide ((o.qty : Int) > 0) && decide ((o.qty : Int) ≤ 65535)
def startV (o : OpD) : Bool := if o.kind = 0 then decide (o.cart = o.dot) else o.dep.covers o.cart
def rightV (h : Int) (o : OpD) : Bool := startV o && ((hasB h 1 || o.dep.covers o.cred) && ((hasB h 4 || o.dep.covers o.at_) && ((hasB h 8 || o.dep.covers o.ver) && ((hasB h 2 || grantV o) && ((hasB h 32 || qtyV o) && (decide ((o.price : Int) ≤ 16777215) && (hasB h 64 || linesV o o.cl)))))))
structure OpW (o : OpD) : Prop where
  lin : o.lin
  cl : ∀ x, x ∈ o.cl → x.line.r < 256 ∧ x.ver.r < 256
  cart : o.cart.r < 256
  cred : o.cred.r < 256
  at_ : o.at_.r < 256
  ver : o.ver.r < 256
abbrev rE (o : OpD) (h : Int) : Hp := [(1, .box 5 [.d (.int .u8 h)]), (0, .box 37 o.cells)]
abbrev rF : SV := .fn (.func op_right_1.f) [] [.ptr 1 0]
set_option maxRecDepth 100000 in
set_option maxHeartbeats 16000000 in
theorem right_ok (o : OpD) (hk : o.kind < 9) (hw : OpW o) : Go.Sl.Pure Tryd.prog op_right.f [.agg o.cells] (bl (rightV (kindH o.kind) o)) := by
  refine op_right.enter (by first | rfl | simp [SV.ok, SV.oks]) (by first | rfl | simp [Hp.ok, Ob.ok, SV.ok, SV.oks, Vec.cells_ok]) (by simp) ?_
  dsimp only [op_right.s, Co.M, Co.G, Co.J, Co.H, Co.N, Co.F, Co.C, Co.Z, Co.B, Co.b8, Co.b32, Co.b64, Co.i6, Co.z8, Co.z29]
  have hg := kind_get hk
  generalize kindH o.kind = h at hg ⊢
  have xs1 : ∀ a b : SV, spl [a] 0 [b] = [b] := fun _ _ => rfl
  refine SW.seq ?_
  refine SW.g0 [0, 1, 2, 3, 4, 5] mixed bq_tt ?_
  refine SW.seq ?_
  refine SW.g0 [0, 1, 2, 3, 4, 5] mixed (And.intro (hg) (xs1)) ?_
  refine SW.seq ?_
  refine SW.g0 [0, 1, 2, 3, 4, 5] mixed bq_tt ?_
  have fin : ∀ (env : List (Nat × SV)) (hp : Hp) (kk : Nat) (b : Bool), env.lookup 2 = some (bl b) → rightV h o = b → Go.Sl.Fin 0 0 op_right.rv (fun r F => r = bl (rightV h o) ∧ F = []) ⟨env, hp, kk⟩ := fun env hp kk b he hb => by
    rw [hb]
    exact End.mk [] (h1 := by show rvV _ [.tmp 2] = _; simp only [rvV, he]; rfl) (h2 := by trivial) (h4 := ⟨rfl, rfl⟩) (h5 := rfl) (h7 := Nat.zero_le _)
  have cok : ∀ o : OpD, SV.oks (fun n => decide (n < 2)) o.cells = true := fun o => OpD.cells_ok o _
  have crn : ∀ o : OpD, SV.rens id o.cells = o.cells := fun o => SV.rens_id _
  refine SW.cutE (α := {b : Bool // b = startV o}) (fun b => ⟨[(5, bl b.1), (4, rF), (1, .ptr 0 0)], rE o h, 2⟩) ?_ ?_
  · have cC := fun k => ocov_at o o.cart hw.cart k
    by_cases h0 : o.kind = 0
    · have e0 : ((o.kind : Int) == 0) = true := by rw [h0]; rfl
      have e1 : ((o.kind : Int) != 0) = false := by rw [h0]; rfl
      rcases he : decide (o.cart = o.dot) with _ | _
      · refine SW.g0 [0, 1, 2, 3, 4, 5] mixed (And.intro (e0) (And.intro (e1) (he))) ?_
        refine ⟨⟨false, by unfold startV; rw [if_pos h0, he]⟩, ?_⟩
        exact Weak.mk (And.intro cok crn)
      · refine SW.g0 [0, 1, 2, 3, 4, 5] mixed (And.intro (e0) (And.intro (e1) (he))) ?_
        refine ⟨⟨true, by unfold startV; rw [if_pos h0, he]⟩, ?_⟩
        exact Weak.mk (And.intro cok crn)
    · have e0 : ((o.kind : Int) == 0) = false := by rw [beq_eq_false_iff_ne]; omega
      have e1 : ((o.kind : Int) != 0) = true := by rw [bne_iff_ne]; omega
      rcases he : o.dep.covers o.cart with _ | _ <;> rw [he] at cC
      · refine SW.g1 [0, 1, 2, 3, 4, 5] mixed (And.intro (e0) (e1)) cC ?_
        refine ⟨⟨false, by unfold startV; rw [if_neg h0, he]⟩, ?_⟩
        exact Weak.mk (And.intro cok crn)
      · refine SW.g1 [0, 1, 2, 3, 4, 5] mixed (And.intro (e0) (e1)) cC ?_
        refine ⟨⟨true, by unfold startV; rw [if_neg h0, he]⟩, ?_⟩
        exact Weak.mk (And.intro cok crn)
  rintro ⟨b, hb⟩
  dsimp only
  refine SW.seq (SW.ofN ?_)
  rcases b with _ | _
  · refine SWn.runs (crs := []) (by rfl) (by simp) ?_
    refine SW.ret ?_
    exact fin _ _ _ false rfl (by unfold rightV; rw [← hb]; rfl)
  have hsub : HSub ([(1, .box 5 [.d (.int .u8 h)])] : Hp) (rE o h) := HSub.cons rfl (HSub.nil _)
  have hm0 : hmrg false (rE o h) [] [] = rE o h := rfl
  have hm1 : hmrg false (rE o h) [(1, .box 5 [.d (.int .u8 h)])] [(1, .box 5 [.d (.int .u8 h)])] = rE o h := rfl
  (repeat (first | refine SWn.op bq_tt (h := ?_) | refine SWn.opN bq_tt (h := ?_) | refine SWn.skip (h := ?_)))
  refine SWn.callG rfl (ocov_at o o.cred hw.cred 2) (HSub.nil _) hm0 rfl rfl rfl ?_
  refine SWn.callG rfl (has_at 1 2 (by decide) h 1 (o.dep.covers o.cred)) hsub hm1 rfl rfl rfl ?_
  rcases h1 : (hasB h 1 || o.dep.covers o.cred) with _ | _
  · refine SWn.runs (crs := []) (by rfl) (by simp) ?_
    refine SW.ret ?_
    exact fin _ _ _ false rfl (by unfold rightV; rw [h1]; simp)
  (repeat (first | refine SWn.op bq_tt (h := ?_) | refine SWn.opN bq_tt (h := ?_) | refine SWn.skip (h := ?_)))
  refine SWn.callG rfl (ocov_at o o.at_ hw.at_ 2) (HSub.nil _) hm0 rfl rfl rfl ?_
  refine SWn.callG rfl (has_at 1 2 (by decide) h 4 (o.dep.covers o.at_)) hsub hm1 rfl rfl rfl ?_
  rcases h2 : (hasB h 4 || o.dep.covers o.at_) with _ | _
  · refine SWn.runs (crs := []) (by rfl) (by simp) ?_
    refine SW.ret ?_
    exact fin _ _ _ false rfl (by unfold rightV; rw [h2]; simp)
  (repeat (first | refine SWn.op bq_tt (h := ?_) | refine SWn.opN bq_tt (h := ?_) | refine SWn.skip (h := ?_)))
  refine SWn.callG rfl (ocov_at o o.ver hw.ver 2) (HSub.nil _) hm0 rfl rfl rfl ?_
  refine SWn.callG rfl (has_at 1 2 (by decide) h 8 (o.dep.covers o.ver)) hsub hm1 rfl rfl rfl ?_
  rcases h3 : (hasB h 8 || o.dep.covers o.ver) with _ | _
  · refine SWn.runs (crs := []) (by rfl) (by simp) ?_
    refine SW.ret ?_
    exact fin _ _ _ false rfl (by unfold rightV; rw [h3]; simp)
  (repeat (first | refine SWn.op bq_tt (h := ?_) | refine SWn.opN bq_tt (h := ?_) | refine SWn.skip (h := ?_)))
  refine SWn.join (α := {g : Bool // g = grantV o}) 19 (fun g => ⟨[(81, bl g.1), (58, rF), (57, .d (.bool true)), (4, rF), (1, .ptr 0 0)], rE o h, 2⟩) ?_ ?_
  · intro K' tl
    rcases g1 : decide ((o.to : Int) > 0) with _ | _
    ·
      (repeat (first | refine SWn.op bq_tt (h := ?_) | refine SWn.opN bq_tt (h := ?_) | refine SWn.skip (h := ?_)))
      refine tl ⟨false, by unfold grantV; rw [g1]; rfl⟩ _ ?_
      exact Weak.mk (And.intro cok crn)
    (repeat (first | refine SWn.op (g1) (h := ?_) | refine SWn.opN (g1) (h := ?_) | refine SWn.skip (h := ?_)))
    rcases g2 : decide ((o.roles : Int) > 0) with _ | _
    ·
      (repeat (first | refine SWn.op bq_tt (h := ?_) | refine SWn.opN bq_tt (h := ?_) | refine SWn.skip (h := ?_)))
      refine tl ⟨false, by unfold grantV; rw [g1, g2]; rfl⟩ _ ?_
      exact Weak.mk (And.intro cok crn)
    (repeat (first | refine SWn.op (g2) (h := ?_) | refine SWn.opN (g2) (h := ?_) | refine SWn.skip (h := ?_)))
    rcases g3 : decide ((o.roles : Int) ≤ 7) with _ | _
    ·
      (repeat (first | refine SWn.op bq_tt (h := ?_) | refine SWn.opN bq_tt (h := ?_) | refine SWn.skip (h := ?_)))
      refine tl ⟨false, by unfold grantV; rw [g1, g2, g3]; rfl⟩ _ ?_
      exact Weak.mk (And.intro cok crn)
    (repeat (first | refine SWn.op (g3) (h := ?_) | refine SWn.opN (g3) (h := ?_) | refine SWn.skip (h := ?_)))
    rcases g4 : decide ((o.depth : Int) < 8) with _ | _
    ·
      (repeat (first | refine SWn.op bq_tt (h := ?_) | refine SWn.opN bq_tt (h := ?_) | refine SWn.skip (h := ?_)))
      refine tl ⟨false, by unfold grantV; rw [g1, g2, g3, g4]; rfl⟩ _ ?_
      exact Weak.mk (And.intro cok crn)
    (repeat (first | refine SWn.op (g4) (h := ?_) | refine SWn.opN (g4) (h := ?_) | refine SWn.skip (h := ?_)))
    refine tl ⟨decide ((o.cap : Int) ≤ 1099511627776), by unfold grantV; rw [g1, g2, g3, g4]; rfl⟩ _ ?_
    exact Weak.mk (And.intro cok crn)
  rintro ⟨g, hg⟩
  dsimp only [List.drop]
  refine SWn.callG rfl (has_at 1 2 (by decide) h 2 g) hsub hm1 rfl rfl rfl ?_
  rcases h4 : (hasB h 2 || g) with _ | _
  · refine SWn.runs (crs := []) (by rfl) (by simp) ?_
    refine SW.ret ?_
    exact fin _ _ _ false rfl (by unfold rightV; rw [← hg, h4]; simp)
  (repeat (first | refine SWn.op bq_tt (h := ?_) | refine SWn.opN bq_tt (h := ?_) | refine SWn.skip (h := ?_)))
  refine SWn.join (α := {g : Bool // g = qtyV o}) 4 (fun g => ⟨[(93, bl g.1), (85, rF), (84, .d (.bool true)), (4, rF), (1, .ptr 0 0)], rE o h, 2⟩) ?_ ?_
  · intro K' tl
    rcases g1 : decide ((o.qty : Int) > 0) with _ | _
    ·
      (repeat (first | refine SWn.op bq_tt (h := ?_) | refine SWn.opN bq_tt (h := ?_) | refine SWn.skip (h := ?_)))
      refine tl ⟨false, by unfold qtyV; rw [g1]; rfl⟩ _ ?_
      exact Weak.mk (And.intro cok crn)
    (repeat (first | refine SWn.op (g1) (h := ?_) | refine SWn.opN (g1) (h := ?_) | refine SWn.skip (h := ?_)))
    refine tl ⟨decide ((o.qty : Int) ≤ 65535), by unfold qtyV; rw [g1]; rfl⟩ _ ?_
    exact Weak.mk (And.intro cok crn)
  rintro ⟨q, hq⟩
  dsimp only [List.drop]
  refine SWn.callG rfl (has_at 1 2 (by decide) h 32 q) hsub hm1 rfl rfl rfl ?_
  rcases h5 : (hasB h 32 || q) with _ | _
  · refine SWn.runs (crs := []) (by rfl) (by simp) ?_
    refine SW.ret ?_
    exact fin _ _ _ false rfl (by unfold rightV; rw [← hg, ← hq, h5]; simp)
  (repeat (first | refine SWn.op bq_tt (h := ?_) | refine SWn.opN bq_tt (h := ?_) | refine SWn.skip (h := ?_)))
  rcases h6 : decide ((o.price : Int) ≤ 16777215) with _ | _
  · refine SWn.runs (crs := []) (by rfl) (by simp) ?_
    refine SW.ret ?_
    exact fin _ _ _ false rfl (by unfold rightV; rw [← hg, ← hq, h6]; simp)
  (repeat (first | refine SWn.op bq_tt (h := ?_) | refine SWn.opN bq_tt (h := ?_) | refine SWn.skip (h := ?_)))
  refine SWn.callG rfl (claims_at o hw.lin hw.cl 2) (HSub.nil _) hm0 rfl rfl rfl ?_
  refine SWn.callG rfl (has_at 1 2 (by decide) h 64 (linesV o o.cl)) hsub hm1 rfl rfl rfl ?_
  (repeat (first | refine SWn.op bq_tt (h := ?_) | refine SWn.opN bq_tt (h := ?_) | refine SWn.skip (h := ?_)))
  refine SWn.nil (SW.ret ?_)
  exact fin _ _ _ _ rfl (by unfold rightV; rw [← hb, ← hg, ← hq, h1, h2, h3, h4, h5, h6]; simp)
end Go.Proofs.YtnakpdoioammhaaDoor
namespace Go.Proofs.YtnakpdoioammhaaDoor
open Go.Sl Go.Proofs
attribute [local irreducible] SW RW SCd SC CallP Pruned
def farV (n : Nat) (v : Vec) : Bool := decide (Vec.upto n v Vec.zero = v)
def ownV (n : Nat) (o : OpD) : Bool := decide (o.dot.r < n) && (decide (o.dot.n ≠ 0) && decide (o.dep.get o.dot.r + 1 = o.dot.n))
def restV (n : Nat) (o : OpD) : Bool := farV n o.dep && (decide ((o.time : Int) > 0) && (decide ((o.time : Int) ≤ 281474976710656) && (decide ((o.who : Int) > 0) && decide ((o.kind : Int) ≤ 8))))
def headV (n : Nat) (o : OpD) : Bool := ownV n o && restV n o
theorem far_cells (o : OpD) {n : Nat} (h : n ≤ 8) : spl Vec.zero.cells 0 (List.take (n - 0) (List.drop 2 o.cells)) = (Vec.upto n o.dep Vec.zero).cells := by
  match n, h with
  | 0, _ | 1, _ | 2, _ | 3, _ | 4, _ | 5, _ | 6, _ | 7, _ | 8, _ => rfl
set_option maxRecDepth 100000 in
set_option maxHeartbeats 16000000 in
theorem head_ok (o : OpD) (n : Nat) (hn1 : 1 ≤ n) (hn8 : n ≤ 8) (hr : o.dot.r < 256) (hn : o.dot.n < 4294967296) : Go.Sl.Pure Tryd.prog op_head.f [.agg o.cells, i64 n] (bl (headV n o)) := by
  refine op_head.enter (by first | rfl | simp [SV.ok, SV.oks]) (by first | rfl | simp [Hp.ok, Ob.ok, SV.ok, SV.oks, Vec.cells_ok]) (by simp) ?_
  dsimp only [op_head.s, Co.M, Co.G, Co.J, Co.H, Co.N, Co.F, Co.C, Co.Z, Co.B, Co.b8, Co.b32, Co.b64, Co.i6, Co.z8, Co.z29]
  have cok : ∀ o : OpD, SV.oks (fun n => decide (n < 1)) o.cells = true := fun o => OpD.cells_ok o _
  have crn : ∀ o : OpD, SV.rens id o.cells = o.cells := fun o => SV.rens_id _
  have fin : ∀ (env : List (Nat × SV)) (hp : Hp) (kk : Nat) (b : Bool), env.lookup 4 = some (bl b) → headV n o = b → Go.Sl.Fin 0 0 op_head.rv (fun r F => r = bl (headV n o) ∧ F = []) ⟨env, hp, kk⟩ := fun env hp kk b he hb => by
    rw [hb]
    exact End.mk [] (h1 := by show rvV _ [.tmp 4] = _; simp only [rvV, he]; rfl) (h2 := by trivial) (h4 := ⟨rfl, rfl⟩) (h5 := rfl) (h7 := Nat.zero_le _)
  refine SW.seq ?_
  refine SW.g0 [0, 1, 2, 4, 5, 30] mixed bq_tt ?_
  have e1 : IntKind.i64.wrap (o.dot.r : Int) = (o.dot.r : Int) := wrap_i64 o.dot.r (by omega)
  refine SW.seq ?_
  refine SW.cutE (α := {b : Bool // b = ownV n o}) (fun b => ⟨[(30, bl (!b.1)), (1, i64 n), (2, .ptr 0 0)], [(0, .box 37 o.cells)], 1⟩) ?_ ?_
  · by_cases h1 : o.dot.r < n
    · have d1 : decide ((o.dot.r : Int) ≥ n) = false := by simp only [decide_eq_false_iff_not]; omega
      by_cases h2 : o.dot.n = 0
      · have d2 : ((o.dot.n : Int) == 0) = true := by rw [h2]; rfl
        refine SW.g0 [0, 1, 2, 4, 5, 30] mixed (And.intro (e1) (And.intro (d1) (d2))) ?_
        refine ⟨⟨false, by unfold ownV; simp [h2]⟩, ?_⟩
        exact Weak.mk (And.intro cok crn)
      · have d2 : ((o.dot.n : Int) == 0) = false := by rw [beq_eq_false_iff_ne]; omega
        have i1 : ((o.dot.r : Int) < 0) = False := by simp
        have i2 : o.dot.r < 8 := by omega
        have g1 := dep_get o i2
        have w1 : IntKind.u32.wrap ((o.dot.n : Int) - 1) = ((o.dot.n - 1 : Nat) : Int) := by
          have : (o.dot.n : Int) - 1 = ((o.dot.n - 1 : Nat) : Int) := by omega
          rw [this]; exact wrap_u32 _ (by omega)
        rcases h3 : decide (o.dep.get o.dot.r + 1 = o.dot.n) with _ | _
        · have d3 : ((o.dep.get o.dot.r : Int) != ((o.dot.n - 1 : Nat) : Int)) = true := by
            rw [bne_iff_ne]
            have := of_decide_eq_false h3
            omega
          refine SW.g0 [0, 1, 2, 4, 5, 30] mixed (And.intro (e1) (And.intro (d1) (And.intro (d2) (And.intro (i1) (And.intro (i2) (And.intro (g1) (And.intro (w1) (d3)))))))) ?_
          refine ⟨⟨false, by unfold ownV; simp [h3]⟩, ?_⟩
          exact Weak.mk (And.intro cok crn)
        · have d3 : ((o.dep.get o.dot.r : Int) != ((o.dot.n - 1 : Nat) : Int)) = false := by
            have := of_decide_eq_true h3
            rw [bne_eq_false_iff_eq]
            omega
          refine SW.g0 [0, 1, 2, 4, 5, 30] mixed (And.intro (e1) (And.intro (d1) (And.intro (d2) (And.intro (i1) (And.intro (i2) (And.intro (g1) (And.intro (w1) (d3)))))))) ?_
          refine ⟨⟨true, by unfold ownV; simp [h3, h1, h2]⟩, ?_⟩
          exact Weak.mk (And.intro cok crn)
    · have d1 : decide ((o.dot.r : Int) ≥ n) = true := by simp only [decide_eq_true_eq]; omega
      refine SW.g0 [0, 1, 2, 4, 5, 30] mixed (And.intro (e1) (d1)) ?_
      refine ⟨⟨false, by unfold ownV; simp [h1]⟩, ?_⟩
      exact Weak.mk (And.intro cok crn)
  rintro ⟨b, hb⟩
  dsimp only
  rcases b with _ | _
  · refine SW.condT rfl (SW.seq ?_)
    refine SW.g0 [0, 1, 2, 4, 5, 30] mixed bq_tt ?_
    refine SW.ret ?_
    exact fin _ _ _ false rfl (by unfold headV; rw [← hb]; rfl)
  refine SW.condF rfl (SW.skip ?_)
  refine SW.seq ?_
  refine SW.g0 [0, 1, 2, 4, 5, 30] mixed bq_tt ?_
  refine SW.seq ?_
  have b1 : ((n : Int) < 0) = False := by simp
  have b2 : n ≤ 8 := hn8
  have b3 : ((n : Int) ≤ 8) = True := by simp; omega
  refine SW.g0 [0, 1, 2, 4, 5, 30] mixed (And.intro (b1) (And.intro (b2) (b3))) ?_
  rw [far_cells o hn8]
  refine SW.seq (SW.ofN ?_)
  have q1 := Vec.eqb8 (Vec.upto n o.dep Vec.zero) o.dep
  have f0 : ∀ st' : St, restV n o = false → st'.env.lookup 4 = some (bl false) → Go.Sl.Fin 0 0 op_head.rv (fun r F => r = bl (headV n o) ∧ F = []) st' := fun st' h e => fin st'.env st'.hp st'.k false e (by unfold headV; rw [h, Bool.and_false])
  (repeat (first | refine SWn.op (q1) (h := ?_) | refine SWn.opN (q1) (h := ?_) | refine SWn.skip (h := ?_)))
  rcases g0 : decide (Vec.upto n o.dep Vec.zero = o.dep) with _ | _
  · refine SWn.runs (crs := []) (by rfl) (by simp) ?_
    refine SW.ret ?_
    exact f0 _ (by unfold restV farV; rw [g0]; rfl) rfl
  (repeat (first | refine SWn.op bq_tt (h := ?_) | refine SWn.opN bq_tt (h := ?_) | refine SWn.skip (h := ?_)))
  rcases g1 : decide ((o.time : Int) > 0) with _ | _
  · refine SWn.runs (crs := []) (by rfl) (by simp) ?_
    refine SW.ret ?_
    exact f0 _ (by unfold restV farV; rw [g0, g1]; rfl) rfl
  (repeat (first | refine SWn.op bq_tt (h := ?_) | refine SWn.opN bq_tt (h := ?_) | refine SWn.skip (h := ?_)))
  rcases g2 : decide ((o.time : Int) ≤ 281474976710656) with _ | _
  · refine SWn.runs (crs := []) (by rfl) (by simp) ?_
    refine SW.ret ?_
    exact f0 _ (by unfold restV farV; rw [g0, g1, g2]; rfl) rfl
  (repeat (first | refine SWn.op bq_tt (h := ?_) | refine SWn.opN bq_tt (h := ?_) | refine SWn.skip (h := ?_)))
  rcases g3 : decide ((o.who : Int) > 0) with _ | _
  · refine SWn.runs (crs := []) (by rfl) (by simp) ?_
    refine SW.ret ?_
    exact f0 _ (by unfold restV farV; rw [g0, g1, g2, g3]; rfl) rfl
  (repeat (first | refine SWn.op bq_tt (h := ?_) | refine SWn.opN bq_tt (h := ?_) | refine SWn.skip (h := ?_)))
  refine SWn.nil (SW.ret ?_)
  exact fin _ _ _ _ rfl (by unfold headV restV farV; rw [← hb, g0, g1, g2, g3]; rfl)
theorem head_at (o : OpD) (n : Nat) (hn1 : 1 ≤ n) (hn8 : n ≤ 8) (hr : o.dot.r < 256) (hn : o.dot.n < 4294967296) (k : Nat) : SCd Tryd.prog op_head.f [.agg o.cells, i64 n] [] k 0 (bl (headV n o)) [] := (head_ok o n hn1 hn8 hr hn).sc rfl k
theorem right_at (o : OpD) (hk : o.kind < 9) (hw : OpW o) (k : Nat) : SCd Tryd.prog op_right.f [.agg o.cells] [] k 0 (bl (rightV (kindH o.kind) o)) [] := (right_ok o hk hw).sc rfl k
end Go.Proofs.YtnakpdoioammhaaDoor
namespace Go.Proofs.YtnakpdoioammhaaDoor
open Go.Sl Go.Proofs
attribute [local irreducible] SW RW SCd SC CallP Pruned
def eqL (a b : OpD) : Bool := ((a.dot.r : Int) == b.dot.r) && (((a.dot.n : Int) == b.dot.n) && (
  ((a.dep.a0 : Int) == b.dep.a0) && (((a.dep.a1 : Int) == b.dep.a1) && (((a.dep.a2 : Int) == b.dep.a2) && (((a.dep.a3 : Int) == b.dep.a3) && (((a.dep.a4 : Int) == b.dep.a4) && (((a.dep.a5 : Int) == b.dep.a5) && (((a.dep.a6 : Int) == b.dep.a6) && (((a.dep.a7 : Int) == b.dep.a7) && (((a.time : Int) == b.time) && (((a.who : Int) == b.who) && (((a.cart.r : Int) == b.cart.r) && (((a.cart.n : Int) == b.cart.n) && (((a.kind : Int) == b.kind) && (((a.cred.r : Int) == b.cred.r) && (((a.cred.n : Int) == b.cred.n) && (((a.to : Int) == b.to) && (((a.roles : Int) == b.roles) && (((a.depth : Int) == b.depth) && (((a.cap : Int) == b.cap) && (((a.at_.r : Int) == b.at_.r) && (((a.at_.n : Int) == b.at_.n) && (((a.ver.r : Int) == b.ver.r) && (((a.ver.n : Int) == b.ver.n) && (((a.item : Int) == b.item) && (((a.qty : Int) == b.qty) && (((a.price : Int) == b.price) && true)))))))))))))))))))))))))))
set_option maxRecDepth 100000 in
theorem eqF_eq (a b : OpD) : eqF a b = eqL a b := by kernel_rfl
theorem hasB_k {k : Nat} (hk : k < 9) : hasB (kindH k) 1 = !decide (99 ∈ hasK k) ∧ hasB (kindH k) 2 = !decide (116 ∈ hasK k) ∧ hasB (kindH k) 4 = !decide (97 ∈ hasK k) ∧ hasB (kindH k) 8 = !decide (118 ∈ hasK k) ∧ hasB (kindH k) 32 = !decide (113 ∈ hasK k) ∧ hasB (kindH k) 64 = !decide (108 ∈ hasK k) := by
  match k, hk with
  | 0, _ | 1, _ | 2, _ | 3, _ | 4, _ | 5, _ | 6, _ | 7, _ | 8, _ => decide
def sameL (h : Int) (o : OpD) : Bool := if hasB h 64 then decide (o.cl.length = 0) else true
def sameV (h : Int) (o : OpD) : Bool := eqF (bareH h o) o && sameL h o
theorem dtz (d : Dt) : d = (⟨0, 0⟩ : Dt) ↔ d.r = 0 ∧ d.n = 0 := by
  obtain ⟨r, n⟩ := d
  simp
theorem same_0 (o : OpD) : sameV 0 o = zeroV (hasK 0) o o.cl.length := by
  have f1 : hasB 0 1 = true := by decide
  have f2 : hasB 0 2 = true := by decide
  have f4 : hasB 0 4 = true := by decide
  have f8 : hasB 0 8 = true := by decide
  have f16 : hasB 0 16 = true := by decide
  have f32 : hasB 0 32 = true := by decide
  have f64 : hasB 0 64 = true := by decide
  rw [Bool.eq_iff_iff]
  unfold sameV sameL bareH bare1 bare2 bare3 bare4 bare5 bare6 bare7
  simp only [eqF_eq, f1, f2, f4, f8, f16, f32, f64, if_true, if_false, Bool.false_eq_true, eqL, beq_self_eq_true, Bool.true_and, Bool.and_true]
  simp [zeroV, hasK, hasS, dtz]
  try omega
theorem same_1 (o : OpD) : sameV 3 o = zeroV (hasK 1) o o.cl.length := by
  have f1 : hasB 3 1 = false := by decide
  have f2 : hasB 3 2 = false := by decide
  have f4 : hasB 3 4 = true := by decide
  have f8 : hasB 3 8 = true := by decide
  have f16 : hasB 3 16 = true := by decide
  have f32 : hasB 3 32 = true := by decide
  have f64 : hasB 3 64 = true := by decide
  rw [Bool.eq_iff_iff]
  unfold sameV sameL bareH bare1 bare2 bare3 bare4 bare5 bare6 bare7
  simp only [eqF_eq, f1, f2, f4, f8, f16, f32, f64, if_true, if_false, Bool.false_eq_true, eqL, beq_self_eq_true, Bool.true_and, Bool.and_true]
  simp [zeroV, hasK, hasS, dtz]
  try omega
theorem same_2 (o : OpD) : sameV 5 o = zeroV (hasK 2) o o.cl.length := by
  have f1 : hasB 5 1 = false := by decide
  have f2 : hasB 5 2 = true := by decide
  have f4 : hasB 5 4 = false := by decide
  have f8 : hasB 5 8 = true := by decide
  have f16 : hasB 5 16 = true := by decide
  have f32 : hasB 5 32 = true := by decide
  have f64 : hasB 5 64 = true := by decide
  rw [Bool.eq_iff_iff]
  unfold sameV sameL bareH bare1 bare2 bare3 bare4 bare5 bare6 bare7
  simp only [eqF_eq, f1, f2, f4, f8, f16, f32, f64, if_true, if_false, Bool.false_eq_true, eqL, beq_self_eq_true, Bool.true_and, Bool.and_true]
  simp [zeroV, hasK, hasS, dtz]
  try omega
theorem same_3 (o : OpD) : sameV 49 o = zeroV (hasK 3) o o.cl.length := by
  have f1 : hasB 49 1 = false := by decide
  have f2 : hasB 49 2 = true := by decide
  have f4 : hasB 49 4 = true := by decide
  have f8 : hasB 49 8 = true := by decide
  have f16 : hasB 49 16 = false := by decide
  have f32 : hasB 49 32 = false := by decide
  have f64 : hasB 49 64 = true := by decide
  rw [Bool.eq_iff_iff]
  unfold sameV sameL bareH bare1 bare2 bare3 bare4 bare5 bare6 bare7
  simp only [eqF_eq, f1, f2, f4, f8, f16, f32, f64, if_true, if_false, Bool.false_eq_true, eqL, beq_self_eq_true, Bool.true_and, Bool.and_true]
  simp [zeroV, hasK, hasS, dtz]
  try omega
theorem same_4 (o : OpD) : sameV 37 o = zeroV (hasK 4) o o.cl.length := by
  have f1 : hasB 37 1 = false := by decide
  have f2 : hasB 37 2 = true := by decide
  have f4 : hasB 37 4 = false := by decide
  have f8 : hasB 37 8 = true := by decide
  have f16 : hasB 37 16 = true := by decide
  have f32 : hasB 37 32 = false := by decide
  have f64 : hasB 37 64 = true := by decide
  rw [Bool.eq_iff_iff]
  unfold sameV sameL bareH bare1 bare2 bare3 bare4 bare5 bare6 bare7
  simp only [eqF_eq, f1, f2, f4, f8, f16, f32, f64, if_true, if_false, Bool.false_eq_true, eqL, beq_self_eq_true, Bool.true_and, Bool.and_true]
  simp [zeroV, hasK, hasS, dtz]
  try omega
theorem same_5 (o : OpD) : sameV 5 o = zeroV (hasK 5) o o.cl.length := by
  have f1 : hasB 5 1 = false := by decide
  have f2 : hasB 5 2 = true := by decide
  have f4 : hasB 5 4 = false := by decide
  have f8 : hasB 5 8 = true := by decide
  have f16 : hasB 5 16 = true := by decide
  have f32 : hasB 5 32 = true := by decide
  have f64 : hasB 5 64 = true := by decide
  rw [Bool.eq_iff_iff]
  unfold sameV sameL bareH bare1 bare2 bare3 bare4 bare5 bare6 bare7
  simp only [eqF_eq, f1, f2, f4, f8, f16, f32, f64, if_true, if_false, Bool.false_eq_true, eqL, beq_self_eq_true, Bool.true_and, Bool.and_true]
  simp [zeroV, hasK, hasS, dtz]
  try omega
theorem same_6 (o : OpD) : sameV 13 o = zeroV (hasK 6) o o.cl.length := by
  have f1 : hasB 13 1 = false := by decide
  have f2 : hasB 13 2 = true := by decide
  have f4 : hasB 13 4 = false := by decide
  have f8 : hasB 13 8 = false := by decide
  have f16 : hasB 13 16 = true := by decide
  have f32 : hasB 13 32 = true := by decide
  have f64 : hasB 13 64 = true := by decide
  rw [Bool.eq_iff_iff]
  unfold sameV sameL bareH bare1 bare2 bare3 bare4 bare5 bare6 bare7
  simp only [eqF_eq, f1, f2, f4, f8, f16, f32, f64, if_true, if_false, Bool.false_eq_true, eqL, beq_self_eq_true, Bool.true_and, Bool.and_true]
  simp [zeroV, hasK, hasS, dtz]
  try omega
theorem same_7 (o : OpD) : sameV 13 o = zeroV (hasK 7) o o.cl.length := by
  have f1 : hasB 13 1 = false := by decide
  have f2 : hasB 13 2 = true := by decide
  have f4 : hasB 13 4 = false := by decide
  have f8 : hasB 13 8 = false := by decide
  have f16 : hasB 13 16 = true := by decide
  have f32 : hasB 13 32 = true := by decide
  have f64 : hasB 13 64 = true := by decide
  rw [Bool.eq_iff_iff]
  unfold sameV sameL bareH bare1 bare2 bare3 bare4 bare5 bare6 bare7
  simp only [eqF_eq, f1, f2, f4, f8, f16, f32, f64, if_true, if_false, Bool.false_eq_true, eqL, beq_self_eq_true, Bool.true_and, Bool.and_true]
  simp [zeroV, hasK, hasS, dtz]
  try omega
theorem same_8 (o : OpD) : sameV 65 o = zeroV (hasK 8) o o.cl.length := by
  have f1 : hasB 65 1 = false := by decide
  have f2 : hasB 65 2 = true := by decide
  have f4 : hasB 65 4 = true := by decide
  have f8 : hasB 65 8 = true := by decide
  have f16 : hasB 65 16 = true := by decide
  have f32 : hasB 65 32 = true := by decide
  have f64 : hasB 65 64 = false := by decide
  rw [Bool.eq_iff_iff]
  unfold sameV sameL bareH bare1 bare2 bare3 bare4 bare5 bare6 bare7
  simp only [eqF_eq, f1, f2, f4, f8, f16, f32, f64, if_true, if_false, Bool.false_eq_true, eqL, beq_self_eq_true, Bool.true_and, Bool.and_true]
  simp [zeroV, hasK, hasS, dtz]
  try omega
theorem same_k (o : OpD) (hk : o.kind < 9) : sameV (kindH o.kind) o = zeroV (hasK o.kind) o o.cl.length := by
  generalize o.kind = k at hk ⊢
  match k, hk with
  | 0, _ => exact same_0 o
  | 1, _ => exact same_1 o
  | 2, _ => exact same_2 o
  | 3, _ => exact same_3 o
  | 4, _ => exact same_4 o
  | 5, _ => exact same_5 o
  | 6, _ => exact same_6 o
  | 7, _ => exact same_7 o
  | 8, _ => exact same_8 o
theorem far_iff (n : Nat) (v : Vec) : farV n v = true ↔ ∀ r, n ≤ r → r < 8 → v.get r = 0 := by
  unfold farV
  rw [decide_eq_true_eq]
  constructor
  · intro h r h1 h2
    rw [← h]
    simp [Vec.upto, Vec.get_of _ h2, Nat.not_lt.2 h1, Vec.zero_get]
  · intro h
    refine Vec.ext' fun r hr => ?_
    simp only [Vec.upto, Vec.get_of _ hr, Vec.zero_get]
    split
    · rfl
    · rename_i hh
      exact (h r (by omega) hr).symm
theorem head_iff (n : Nat) (o : OpD) : headV n o = true ↔ (o.dot.r < n ∧ 0 < o.dot.n ∧ o.dep.get o.dot.r + 1 = o.dot.n) ∧ (∀ r, n ≤ r → r < 8 → o.dep.get r = 0) ∧ 1 ≤ o.time ∧ o.time ≤ 281474976710656 ∧ 0 < o.who ∧ o.kind ≤ 8 := by
  unfold headV ownV restV
  simp only [Bool.and_eq_true, far_iff, decide_eq_true_eq]
  constructor
  · rintro ⟨⟨a, b, c⟩, d, e, f, g, h⟩
    exact ⟨⟨a, by omega, c⟩, d, by omega, by omega, by omega, by omega⟩
  · rintro ⟨⟨a, b, c⟩, d, e, f, g, h⟩
    exact ⟨⟨a, by omega, c⟩, d, by omega, by omega, by omega, by omega⟩
theorem right_iff (o : OpD) (hk : o.kind < 9) : rightV (kindH o.kind) o = true ↔ (o.kind = 0 → o.cart = o.dot) ∧ (o.kind ≠ 0 → o.dep.covers o.cart = true) ∧ (99 ∈ hasK o.kind → o.dep.covers o.cred = true) ∧ (97 ∈ hasK o.kind → o.dep.covers o.at_ = true) ∧ (118 ∈ hasK o.kind → o.dep.covers o.ver = true) ∧ (116 ∈ hasK o.kind → 0 < o.to ∧ 1 ≤ o.roles ∧ o.roles ≤ 7 ∧ o.depth ≤ 7 ∧ o.cap ≤ 1099511627776) ∧ (113 ∈ hasK o.kind → 1 ≤ o.qty ∧ o.qty ≤ 65535) ∧ o.price ≤ 16777215 ∧ (108 ∈ hasK o.kind → linesV o o.cl = true) := by
  obtain ⟨e1, e2, e4, e8, e32, e64⟩ := hasB_k hk
  have hg : grantV o = true ↔ 0 < o.to ∧ 1 ≤ o.roles ∧ o.roles ≤ 7 ∧ o.depth ≤ 7 ∧ o.cap ≤ 1099511627776 := by
    unfold grantV
    simp only [Bool.and_eq_true, decide_eq_true_eq]
    omega
  have hq : qtyV o = true ↔ 1 ≤ o.qty ∧ o.qty ≤ 65535 := by
    unfold qtyV
    simp only [Bool.and_eq_true, decide_eq_true_eq]
    omega
  have hs : startV o = true ↔ (o.kind = 0 → o.cart = o.dot) ∧ (o.kind ≠ 0 → o.dep.covers o.cart = true) := by
    unfold startV
    by_cases h : o.kind = 0 <;> simp [h]
  have hp : decide ((o.price : Int) ≤ 16777215) = true ↔ o.price ≤ 16777215 := by
    rw [decide_eq_true_eq]; omega
  have hor : ∀ (p : Prop) [Decidable p] (b : Bool), (!decide p || b) = true ↔ (p → b = true) := fun p _ b => by
    by_cases h : p <;> simp [h]
  unfold rightV
  rw [e1, e2, e4, e8, e32, e64]
  simp only [Bool.and_eq_true, hor, hg, hq, hs, hp, and_assoc]
def formV (n : Nat) (o : OpD) : Bool := headV n o && (sameV (kindH o.kind) o && rightV (kindH o.kind) o)
theorem form_iff (n : Nat) (o : OpD) : formV n o = true ↔ Go.Sl.Form n o := by
  unfold formV
  simp only [Bool.and_eq_true]
  constructor
  · rintro ⟨h1, h2, h3⟩
    obtain ⟨⟨a, b, c⟩, d, e, f, g, h⟩ := (head_iff n o).1 h1
    rw [same_k o (by omega)] at h2
    obtain ⟨r1, r2, r3, r4, r5, r6, r7, r8, r9⟩ := (right_iff o (by omega)).1 h3
    exact ⟨a, b, c, e, f, g, h, h2, d, r1, r2, r3, r4, r5, r6, r7, r8, r9⟩
  · intro hf
    refine ⟨(head_iff n o).2 ⟨⟨hf.r, hf.pos, hf.own⟩, hf.far, hf.t1, hf.t2, hf.who, hf.kind⟩, ?_, ?_⟩
    · rw [same_k o (by have := hf.kind; omega)]; exact hf.zero
    · exact (right_iff o (by have := hf.kind; omega)).2 ⟨hf.gen, hf.cart, hf.cred, hf.at_, hf.ver, hf.grant, hf.qty, hf.price, hf.lines⟩
structure OpR (o : OpD) : Prop where
  w : OpW o
  dr : o.dot.r < 256
  dn : o.dot.n < 4294967296
set_option maxHeartbeats 4000000 in
theorem check_ok (n : Int) (hn : -9223372036854775808 ≤ n) (hn2 : n ≤ 9223372036854775807) (o : OpD) (hw : OpR o) (hlen : o.cl.length < 4611686018427387904) : Go.Sl.Pure Tryd.prog op_Check.f [.agg o.cells, i64 n] (i64 (checkV n o)) := by
  refine op_Check.enter (by first | rfl | simp [SV.ok, SV.oks]) (by first | rfl | simp [Hp.ok, Ob.ok, SV.ok, SV.oks, Vec.cells_ok]) (by simp) ?_
  dsimp only [op_Check.s, Co.M, Co.G, Co.J, Co.H, Co.N, Co.F, Co.C, Co.Z, Co.B, Co.b8, Co.b32, Co.b64, Co.i6, Co.z8, Co.z29]
  refine SW.seq ?_
  refine SW.g0 [0, 1, 2, 4, 5, 12] mixed bq_tt ?_
  have fin : ∀ (env : List (Nat × SV)) (hp : Hp) (kk : Nat) (b : Int), env.lookup 4 = some (i64 b) → checkV n o = b → Go.Sl.Fin 0 0 op_Check.rv (fun r F => r = i64 (checkV n o) ∧ F = []) ⟨env, hp, kk⟩ := fun env hp kk b he hb => by
    rw [hb]
    exact End.mk [] (h1 := by show rvV _ [.tmp 4] = _; simp only [rvV, he]; rfl) (h2 := by trivial) (h4 := ⟨rfl, rfl⟩) (h5 := rfl) (h7 := Nat.zero_le _)
  refine SW.seq (SW.block (SW.seq ?_))
  by_cases h1 : n < 1
  · have d1 : decide (n < 1) = true := by simp [h1]
    refine SW.g0 [0, 1, 2, 4, 5, 12] mixed (d1) ?_
    refine SW.condT rfl (SW.seq ?_)
    refine SW.g0 [0, 1, 2, 4, 5, 12] mixed bq_tt ?_
    refine SW.ret ?_
    exact fin _ _ _ 2 rfl (by unfold checkV; rw [if_pos (.inl h1)])
  have d1 : decide (n < 1) = false := by simp [h1]
  by_cases h8 : 8 < n
  · have d2 : decide (n > 8) = true := by simp; omega
    refine SW.g0 [0, 1, 2, 4, 5, 12] mixed (And.intro (d1) (d2)) ?_
    refine SW.condT rfl (SW.seq ?_)
    refine SW.g0 [0, 1, 2, 4, 5, 12] mixed bq_tt ?_
    refine SW.ret ?_
    exact fin _ _ _ 2 rfl (by unfold checkV; rw [if_pos (.inr h8)])
  have d2 : decide (n > 8) = false := by simp; omega
  refine SW.g0 [0, 1, 2, 4, 5, 12] mixed (And.intro (d1) (d2)) ?_
  refine SW.condF rfl (SW.seq ?_)
  obtain ⟨m, rfl⟩ : ∃ m : Nat, n = m := ⟨n.toNat, by omega⟩
  have c0 : checkV (m : Int) o = if formV m o then 0 else 5 := by
    unfold checkV
    rw [if_neg (by omega)]
    by_cases hf : Go.Sl.Form m o
    · rw [if_pos (by rw [Int.toNat_natCast]; exact hf), (form_iff m o).2 hf]; rfl
    · rw [if_neg (by rw [Int.toNat_natCast]; exact hf), Bool.eq_false_iff.2 (fun h => hf ((form_iff m o).1 h))]; rfl
  have hH := fun k => head_at o m (by omega) (by omega) hw.dr hw.dn k
  have bad : ∀ (env : List (Nat × SV)) (hp : Hp) (kk : Nat), formV m o = false → env.lookup 4 = some (i64 5) → Go.Sl.Fin 0 0 op_Check.rv (fun r F => r = i64 (checkV (m : Int) o) ∧ F = []) ⟨env, hp, kk⟩ := fun env hp kk hb he => fin env hp kk 5 he (by rw [c0, hb]; rfl)
  rcases hh : headV m o with _ | _ <;> rw [hh] at hH
  · refine SW.g1 [0, 1, 2, 4, 5, 12] mixed bq_tt hH ?_
    refine SW.condT rfl (SW.seq ?_)
    refine SW.g0 [0, 1, 2, 4, 5, 12] mixed bq_tt ?_
    refine SW.ret ?_
    exact bad _ _ _ (by unfold formV; rw [hh]; rfl) rfl
  have hk : o.kind < 9 := by have := ((head_iff m o).1 hh).2.2.2.2.2; omega
  have hB := fun k => bare_at o hk k
  have hL : ∀ k, SCd Tryd.prog slices_Equal_Lapi_Claim_api_Claim.f [.d (bareH (kindH o.kind) o).lines, .d o.lines] [] k 0 (bl (sameL (kindH o.kind) o)) [] := fun k => by
    have hb : (bareH (kindH o.kind) o).lines = if hasB (kindH o.kind) 64 then .nils else o.lines := by
      unfold bareH bare7
      split
      · rfl
      · unfold bare6; split <;> (unfold bare5; split <;> (unfold bare4; split <;> (unfold bare3; split <;> (unfold bare2; split <;> (unfold bare1; split <;> rfl)))))
    rw [hb, hw.w.lin.eq]
    unfold sameL
    split
    · exact eqnil_at o.cl k
    · exact eqself_at o.cl hlen k
  have hS := fun k => osame_at (bareH (kindH o.kind) o) o (sameL (kindH o.kind) o) hL k
  have hR := fun k => right_at o hk hw.w k
  have e5 : formV m o = ((eqF (bareH (kindH o.kind) o) o && sameL (kindH o.kind) o) && rightV (kindH o.kind) o) := by unfold formV sameV; rw [hh, Bool.true_and]
  rw [e5] at c0 bad
  rcases hs : (eqF (bareH (kindH o.kind) o) o && sameL (kindH o.kind) o) with _ | _ <;> rw [hs] at hS c0 bad
  · refine SW.g4 [0, 1, 2, 4, 5, 12] mixed bq_tt hH hB hS trivial ?_
    refine SW.condT rfl (SW.seq ?_)
    refine SW.g0 [0, 1, 2, 4, 5, 12] mixed bq_tt ?_
    refine SW.ret ?_
    exact bad _ _ _ rfl rfl
  rcases hr : rightV (kindH o.kind) o with _ | _ <;> rw [hr] at hR c0 bad
  · refine SW.g4 [0, 1, 2, 4, 5, 12] mixed bq_tt hH hB hS hR ?_
    refine SW.condT rfl (SW.seq ?_)
    refine SW.g0 [0, 1, 2, 4, 5, 12] mixed bq_tt ?_
    refine SW.ret ?_
    exact bad _ _ _ rfl rfl
  refine SW.g4 [0, 1, 2, 4, 5, 12] mixed bq_tt hH hB hS hR ?_
  refine SW.condF rfl (SW.skip ?_)
  refine SW.seq ?_
  refine SW.g0 [0, 1, 2, 4, 5, 12] mixed bq_tt ?_
  refine SW.ret ?_
  exact fin _ _ _ 0 rfl c0
theorem check_at (n : Int) (hn : -9223372036854775808 ≤ n) (hn2 : n ≤ 9223372036854775807) (o : OpD) (hw : OpR o) (hlen : o.cl.length < 4611686018427387904) (k : Nat) : SCd Tryd.prog op_Check.f [.agg o.cells, i64 n] [] k 0 (i64 (checkV n o)) [] := (check_ok n hn hn2 o hw hlen).sc rfl k
end Go.Proofs.YtnakpdoioammhaaDoor
