/-
  Gossip: how many deltas.
-/
import Derived.Test.YtpbfnenlbkjhgaaKC
set_option linter.unusedSectionVars false
set_option linter.unusedVariables false
set_option linter.unusedSimpArgs false
namespace Go.Proofs.Ytpbfnenlbkjhgaa
open Go.Sl Go.Proofs
attribute [local irreducible] SW RW SCd SC CallP Pruned

def rndV (n m : Int) : Int := if n ≤ 0 then 0 else if m ≤ 0 then n else (n - 1) / m + 1
theorem rnd_ref {n m : Int} (hn : 0 < n) (hm : 0 < m) : n / m + (if n % m > 0 then 1 else 0) = (n - 1) / m + 1 := by
  have h1 := Int.mul_ediv_add_emod n m
  have h2 := Int.emod_nonneg n (show m ≠ 0 by omega)
  have h3 := Int.emod_lt_of_pos n hm
  split
  · have e : n - 1 = (n % m - 1) + m * (n / m) := by omega
    have e2 : (n % m - 1) / m = 0 := Int.ediv_eq_zero_of_lt (by omega) (by omega)
    rw [e, Int.add_mul_ediv_left _ _ (show m ≠ 0 by omega), e2]; omega
  · have e : n - 1 = (m - 1) + m * (n / m - 1) := by rw [Int.mul_sub]; omega
    have e2 : (m - 1) / m = 0 := Int.ediv_eq_zero_of_lt (by omega) (by omega)
    rw [e, Int.add_mul_ediv_left _ _ (show m ≠ 0 by omega), e2]; omega
theorem rnd_le {n m : Int} (hn : 0 < n) (hm : 0 < m) : 0 ≤ (n - 1) / m ∧ (n - 1) / m ≤ n - 1 ∧ (n - 1) / m * m ≤ n - 1 ∧ n - 1 < (n - 1) / m * m + m := by
  have h1 := Int.mul_ediv_add_emod (n - 1) m
  have h2 := Int.emod_nonneg (n - 1) (show m ≠ 0 by omega)
  have h3 := Int.emod_lt_of_pos (n - 1) hm
  rw [Int.mul_comm] at h1
  exact ⟨Int.ediv_nonneg (by omega) (by omega), Int.ediv_le_self _ (by omega), by omega, by omega⟩
def i64ok (n : Int) : Prop := -9223372036854775808 ≤ n ∧ n ≤ 9223372036854775807
theorem rnd_ok (n m : Int) (hn : i64ok n) : Go.Sl.Pure Try.prog gossip_Rounds.f [i64 n, i64 m] (i64 (rndV n m)) := by
  obtain ⟨b1, b2⟩ := hn
  refine gossip_Rounds.enter (by first | rfl | simp [SV.ok, SV.oks]) (by first | rfl | simp [Hp.ok, Ob.ok, SV.ok, SV.oks, Vec.cells_ok]) (by simp) ?_
  unfold gossip_Rounds.s
  refine SW.seq ?_
  (refine SW.regL [0, 1, 4, 5, 8] mixed ?_; (repeat (first | refine RW.ro bq_tt (h := ?_) | refine RW.skip (h := ?_) | refine RW.op bq_tt (h := ?_) | refine RW.opN bq_tt (h := ?_) | refine RW.skip0 (h := ?_))); refine RW.nil ⟨by kernel_rfl, Pruned.mk (h := ?_)⟩)
  unfold rndV
  refine Classical.byCases (fun h1 : n ≤ 0 => ?_) fun h1 => ?_
  · have q1 : decide (n ≤ 0) = true := by simpa using h1
    rw [if_pos h1]
    (repeat (first | refine SW.seq ?_ | refine SW.block ?_ | (refine SW.regL [0, 1, 4, 5, 8] mixed ?_; (repeat (first | refine RW.ro (q1) (h := ?_) | refine RW.skip (h := ?_) | refine RW.op (q1) (h := ?_) | refine RW.opN (q1) (h := ?_) | refine RW.skip0 (h := ?_))); refine RW.nil ⟨by kernel_rfl, Pruned.mk (h := ?_)⟩) | refine SW.skip ?_ | refine SW.exit ?_ | refine SW.ret ?_ | refine SW.condT rfl ?_ | refine SW.condF rfl ?_))
    exact End.mk [] (h4 := ⟨rfl, rfl⟩)
  have q1 : decide (n ≤ 0) = false := by simpa using h1
  rw [if_neg h1]
  refine Classical.byCases (fun h2 : m ≤ 0 => ?_) fun h2 => ?_
  · have q2 : decide (m ≤ 0) = true := by simpa using h2
    rw [if_pos h2]
    (repeat (first | refine SW.seq ?_ | refine SW.block ?_ | (refine SW.regL [0, 1, 4, 5, 8] mixed ?_; (repeat (first | refine RW.ro (And.intro (q1) (q2)) (h := ?_) | refine RW.skip (h := ?_) | refine RW.op (And.intro (q1) (q2)) (h := ?_) | refine RW.opN (And.intro (q1) (q2)) (h := ?_) | refine RW.skip0 (h := ?_))); refine RW.nil ⟨by kernel_rfl, Pruned.mk (h := ?_)⟩) | refine SW.skip ?_ | refine SW.exit ?_ | refine SW.ret ?_ | refine SW.condT rfl ?_ | refine SW.condF rfl ?_))
    exact End.mk [] (h4 := ⟨rfl, rfl⟩)
  have q2 : decide (m ≤ 0) = false := by simpa using h2
  rw [if_neg h2]
  obtain ⟨r1, r2, r3, r4⟩ := rnd_le (n := n) (m := m) (by omega) (by omega)
  have t1 : IntKind.i64.wrap (n - 1) = n - 1 := wrap_i64 _ (by omega)
  have t2 : (n - 1).tdiv m = (n - 1) / m := Int.tdiv_eq_ediv_of_nonneg (by omega)
  have t3 : IntKind.i64.wrap ((n - 1) / m) = (n - 1) / m := wrap_i64 _ (by omega)
  have t4 : IntKind.i64.wrap ((n - 1) / m + 1) = (n - 1) / m + 1 := wrap_i64 _ (by omega)
  (repeat (first | refine SW.seq ?_ | refine SW.block ?_ | (refine SW.regL [0, 1, 4, 5, 8] mixed ?_; (repeat (first | refine RW.ro (And.intro (q1) (And.intro (q2) (And.intro (t1) (And.intro (t2) (And.intro (t3) (t4)))))) (h := ?_) | refine RW.skip (h := ?_) | refine RW.op (And.intro (q1) (And.intro (q2) (And.intro (t1) (And.intro (t2) (And.intro (t3) (t4)))))) (h := ?_) | refine RW.opN (And.intro (q1) (And.intro (q2) (And.intro (t1) (And.intro (t2) (And.intro (t3) (t4)))))) (h := ?_) | refine RW.skip0 (h := ?_))); refine RW.nil ⟨by kernel_rfl, Pruned.mk (h := ?_)⟩) | refine SW.skip ?_ | refine SW.exit ?_ | refine SW.ret ?_ | refine SW.condT rfl ?_ | refine SW.condF rfl ?_))
  exact End.mk [] (h4 := ⟨rfl, rfl⟩)
theorem rnd_at (n m : Int) (hn : i64ok n) (k : Nat) : SCd Try.prog gossip_Rounds.f [i64 n, i64 m] [] k 0 (i64 (rndV n m)) [] := (rnd_ok n m hn).sc rfl k
theorem rrnd_ok (n m : Int) (hn : i64ok n) : Go.Sl.Pure Try.prog ref14_Rounds.f [i64 n, i64 m] (i64 (rndV n m)) := by
  obtain ⟨b1, b2⟩ := hn
  refine ref14_Rounds.enter (by first | rfl | simp [SV.ok, SV.oks]) (by first | rfl | simp [Hp.ok, Ob.ok, SV.ok, SV.oks, Vec.cells_ok]) (by simp) ?_
  unfold ref14_Rounds.s
  refine SW.seq ?_
  (refine SW.regL [0, 1, 4, 5, 7, 9, 17] mixed ?_; (repeat (first | refine RW.ro bq_tt (h := ?_) | refine RW.skip (h := ?_) | refine RW.op bq_tt (h := ?_) | refine RW.opN bq_tt (h := ?_) | refine RW.skip0 (h := ?_))); refine RW.nil ⟨by kernel_rfl, Pruned.mk (h := ?_)⟩)
  unfold rndV
  refine Classical.byCases (fun h1 : n ≤ 0 => ?_) fun h1 => ?_
  · have q1 : decide (n ≤ 0) = true := by simpa using h1
    rw [if_pos h1]
    (repeat (first | refine SW.seq ?_ | refine SW.block ?_ | (refine SW.regL [0, 1, 4, 5, 7, 9, 17] mixed ?_; (repeat (first | refine RW.ro (q1) (h := ?_) | refine RW.skip (h := ?_) | refine RW.op (q1) (h := ?_) | refine RW.opN (q1) (h := ?_) | refine RW.skip0 (h := ?_))); refine RW.nil ⟨by kernel_rfl, Pruned.mk (h := ?_)⟩) | refine SW.skip ?_ | refine SW.exit ?_ | refine SW.ret ?_ | refine SW.condT rfl ?_ | refine SW.condF rfl ?_))
    exact End.mk [] (h4 := ⟨rfl, rfl⟩)
  have q1 : decide (n ≤ 0) = false := by simpa using h1
  rw [if_neg h1]
  refine Classical.byCases (fun h2 : m ≤ 0 => ?_) fun h2 => ?_
  · have q2 : decide (m ≤ 0) = true := by simpa using h2
    rw [if_pos h2]
    (repeat (first | refine SW.seq ?_ | refine SW.block ?_ | (refine SW.regL [0, 1, 4, 5, 7, 9, 17] mixed ?_; (repeat (first | refine RW.ro (And.intro (q1) (q2)) (h := ?_) | refine RW.skip (h := ?_) | refine RW.op (And.intro (q1) (q2)) (h := ?_) | refine RW.opN (And.intro (q1) (q2)) (h := ?_) | refine RW.skip0 (h := ?_))); refine RW.nil ⟨by kernel_rfl, Pruned.mk (h := ?_)⟩) | refine SW.skip ?_ | refine SW.exit ?_ | refine SW.ret ?_ | refine SW.condT rfl ?_ | refine SW.condF rfl ?_))
    exact End.mk [] (h4 := ⟨rfl, rfl⟩)
  have q2 : decide (m ≤ 0) = false := by simpa using h2
  rw [if_neg h2]
  obtain ⟨r1, r2, r3, r4⟩ := rnd_le (n := n) (m := m) (by omega) (by omega)
  have hr := rnd_ref (n := n) (m := m) (by omega) (by omega)
  have t2 : n.tdiv m = n / m := Int.tdiv_eq_ediv_of_nonneg (by omega)
  have t3 : n.tmod m = n % m := Int.tmod_eq_emod_of_nonneg (by omega)
  have r5 : 0 ≤ n / m := Int.ediv_nonneg (by omega) (by omega)
  have r6 : n / m ≤ n := Int.ediv_le_self _ (by omega)
  have t4 : IntKind.i64.wrap (n / m) = n / m := wrap_i64 _ (by omega)
  refine Classical.byCases (fun h3 : n % m > 0 => ?_) fun h3 => ?_
  · have q3 : decide (n % m > 0) = true := by simpa using h3
    rw [if_pos h3] at hr
    rw [← hr]
    have t5 : IntKind.i64.wrap (n / m + 1) = n / m + 1 := wrap_i64 _ (by omega)
    (repeat (first | refine SW.seq ?_ | refine SW.block ?_ | (refine SW.regL [0, 1, 4, 5, 7, 9, 17] mixed ?_; (repeat (first | refine RW.ro (And.intro (q1) (And.intro (q2) (And.intro (q3) (And.intro (t2) (And.intro (t3) (And.intro (t4) (t5))))))) (h := ?_) | refine RW.skip (h := ?_) | refine RW.op (And.intro (q1) (And.intro (q2) (And.intro (q3) (And.intro (t2) (And.intro (t3) (And.intro (t4) (t5))))))) (h := ?_) | refine RW.opN (And.intro (q1) (And.intro (q2) (And.intro (q3) (And.intro (t2) (And.intro (t3) (And.intro (t4) (t5))))))) (h := ?_) | refine RW.skip0 (h := ?_))); refine RW.nil ⟨by kernel_rfl, Pruned.mk (h := ?_)⟩) | refine SW.skip ?_ | refine SW.exit ?_ | refine SW.ret ?_ | refine SW.condT rfl ?_ | refine SW.condF rfl ?_))
    exact End.mk [] (h4 := ⟨rfl, rfl⟩)
  · have q3 : decide (n % m > 0) = false := by simpa using h3
    rw [if_neg h3, Int.add_zero] at hr
    rw [← hr]
    (repeat (first | refine SW.seq ?_ | refine SW.block ?_ | (refine SW.regL [0, 1, 4, 5, 7, 9, 17] mixed ?_; (repeat (first | refine RW.ro (And.intro (q1) (And.intro (q2) (And.intro (q3) (And.intro (t2) (And.intro (t3) (t4)))))) (h := ?_) | refine RW.skip (h := ?_) | refine RW.op (And.intro (q1) (And.intro (q2) (And.intro (q3) (And.intro (t2) (And.intro (t3) (t4)))))) (h := ?_) | refine RW.opN (And.intro (q1) (And.intro (q2) (And.intro (q3) (And.intro (t2) (And.intro (t3) (t4)))))) (h := ?_) | refine RW.skip0 (h := ?_))); refine RW.nil ⟨by kernel_rfl, Pruned.mk (h := ?_)⟩) | refine SW.skip ?_ | refine SW.exit ?_ | refine SW.ret ?_ | refine SW.condT rfl ?_ | refine SW.condF rfl ?_))
    exact End.mk [] (h4 := ⟨rfl, rfl⟩)
theorem rrnd_at (n m : Int) (hn : i64ok n) (k : Nat) : SCd Try.prog ref14_Rounds.f [i64 n, i64 m] [] k 0 (i64 (rndV n m)) [] := (rrnd_ok n m hn).sc rfl k
end Go.Proofs.Ytpbfnenlbkjhgaa

/-
  Gossip: calls whose answers the document fixes.
-/
set_option linter.unusedSectionVars false
set_option linter.unusedVariables false
set_option linter.unusedSimpArgs false
namespace Go.Proofs.Ytpbfnenlbkjhgaa
open Go.Sl Go.Proofs
attribute [local irreducible] SW RW SCd SC CallP Pruned

def vc (a b : Nat) : Vec := ⟨a, b, 0, 0, 0, 0, 0, 0⟩
def opT (r n : Nat) (dep : Vec) (t : Nat) (ln : DV) : OpD := ⟨⟨r, n⟩, dep, t, 1, ⟨r, n⟩, 0, ⟨0, 0⟩, 0, 0, 0, 0, ⟨0, 0⟩, ⟨0, 0⟩, 0, 0, 0, ln⟩
def opA (ln : DV) : OpD := opT 0 1 Vec.zero 1 ln
def opB (ln : DV) : OpD := opT 1 1 (vc 1 0) 2 ln
def opC (ln : DV) : OpD := opT 0 2 (vc 1 1) 3 ln
def threeL (ln : DV) : List OpD := [opC ln, opA ln, opB ln]
abbrev z0l : DV := .sl 0 []
theorem three_lin : OpsOk (threeL z0l) := by
  refine ⟨by simp [threeL], fun x hx => ?_⟩
  simp only [threeL, List.mem_cons, List.not_mem_nil, or_false] at hx
  have h0 : ∀ r n dep t, (opT r n dep t z0l).lin := fun r n dep t => (OpD.lin.of (l := []) rfl (by simp)).1
  rcases hx with rfl | rfl | rfl
  · exact ⟨h0 _ _ _ _, by rw [show (opC z0l).cl = [] from (OpD.lin.of (o := opC z0l) (l := []) rfl (by simp)).2]; simp, by simp [opC, opT, Dt.wf]⟩
  · exact ⟨h0 _ _ _ _, by rw [show (opA z0l).cl = [] from (OpD.lin.of (o := opA z0l) (l := []) rfl (by simp)).2]; simp, by simp [opA, opT, Dt.wf]⟩
  · exact ⟨h0 _ _ _ _, by rw [show (opB z0l).cl = [] from (OpD.lin.of (o := opB z0l) (l := []) rfl (by simp)).2]; simp, by simp [opB, opT, Dt.wf]⟩
theorem SC.resd {P : Program} {f : FuncId} {args : List SV} {F F' : Hp} {k nk : Nat} {r r' : SV} (h : SCd P f args F k nk r F') (hr : ∀ (p : Nat → Prop) μ M u, Rp p μ M r u → Rp p μ M r' u) : SCd P f args F k nk r' F' := by
  unfold SCd SC at h ⊢
  refine ⟨h.1, fun p μ M w vals h1 h2 h3 => (h.2 p μ M w vals h1 h2 h3).mono ?_⟩
  rintro e w' ⟨r0, F0, μ', M', u, a, ⟨rfl, rfl⟩, b, c⟩
  exact ⟨r', F0, μ', M', u, a, ⟨rfl, rfl⟩, hr _ _ _ _ b, c⟩
def nz : DV → DV
  | .nils => .sl 0 []
  | x => x
theorem repR_nz {M : Mem} {b : Nat} : ∀ (ds : List DV) (o : Nat), RepR M b o ds → RepR M b o (ds.map nz)
  | [], _, h => h
  | x :: ds, o, h => by
    simp only [RepR, List.map_cons] at h ⊢
    obtain ⟨⟨u, hu, hr⟩, h2⟩ := h
    refine ⟨⟨u, hu, ?_⟩, repR_nz ds _ h2⟩
    cases x <;> first | exact hr | exact hr.nils_sl
theorem zop_lit : [SV.d (.int .u8 0), .d (.int .u32 0), .d (.int .u32 0), .d (.int .u32 0), .d (.int .u32 0), .d (.int .u32 0), .d (.int .u32 0), .d (.int .u32 0), .d (.int .u32 0), .d (.int .u32 0), .d (.int .u64 0), .d (.int .u32 0), .d (.int .u8 0), .d (.int .u32 0), .d (.int .u8 0), .d (.int .u8 0), .d (.int .u32 0), .d (.int .u32 0), .d (.int .u8 0), .d (.int .u8 0), .d (.int .u64 0), .d (.int .u8 0), .d (.int .u32 0), .d (.int .u8 0), .d (.int .u32 0), .d (.int .u32 0), .d (.int .u32 0), .d (.int .u32 0), .d .nils] = zOp := rfl
set_option maxRecDepth 100000 in
theorem lit3 {P : Program} {env : List (Nat × SV)} {hp : Hp} {k d p p2 p3 : Nat} {r : List SI} {K : St → List (Bool × List Nat) → Prop} {a b c : OpD} {z : List SV} (hz : z = zOp ++ zOp ++ zOp)
    (ha : env.lookup p = some (.agg a.cells)) (hb : env.lookup p2 = some (.agg b.cells)) (hc : env.lookup p3 = some (.agg c.cells))
    (h : RW P r ⟨(d, ops [a, b, c]) :: env, hp, k⟩ fun st' ts => K st' ((false, []) :: ts)) : RW P (⟨some d, .bsl 50 29 3 z [(0, 29, .t p), (29, 29, .t p2), (58, 29, .t p3)], none⟩ :: r) ⟨env, hp, k⟩ K := by
  subst hz
  refine RW.cons (e := ⟨ops [a, b, c], [], [], 0, ((29 = 29 ∧ 0 + 29 ≤ 87 ∧ 29 = 29 ∧ 29 + 29 ≤ 87 ∧ 29 = 29 ∧ 58 + 29 ≤ 87 ∧ True))⟩) (fun crs => ⟨.frz :: crs, runOp_some (.inl rfl) ?_⟩) (by show 29 = 29 ∧ 0 + 29 ≤ 87 ∧ 29 = 29 ∧ 29 + 29 ≤ 87 ∧ 29 = 29 ∧ 58 + 29 ≤ 87 ∧ True; decide) ?_
  · have h1 : evp (fun t => env.lookup t) [(0, 29, X.t p), (29, 29, X.t p2), (58, 29, X.t p3)] = some [(0, 29, .agg a.cells), (29, 29, .agg b.cells), (58, 29, .agg c.cells)] := by
      simp only [evp, ev, ha, hb, hc]
    have h2 : bldS (zOp ++ zOp ++ zOp) [(0, 29, .agg a.cells), (29, 29, .agg b.cells), (58, 29, .agg c.cells)] = some (a.cells ++ b.cells ++ c.cells, ((29 = 29 ∧ 0 + 29 ≤ 87 ∧ 29 = 29 ∧ 29 + 29 ≤ 87 ∧ 29 = 29 ∧ 58 + 29 ≤ 87 ∧ True))) := rfl
    have h3 : datas (a.cells ++ b.cells ++ c.cells) = some ([a, b, c].flatMap OpD.ds) := rfl
    have h4 : (a.cells ++ b.cells ++ c.cells).all SV.isOne = true := rfl
    simp only [goOp, sop, h1, h2, h3, h4, if_true, Bool.false_or]
    rfl
  · exact h
set_option maxRecDepth 100000 in
theorem lit2 {P : Program} {env : List (Nat × SV)} {hp : Hp} {k d p p2 : Nat} {r : List SI} {K : St → List (Bool × List Nat) → Prop} {a b : OpD} {z : List SV} (hz : z = zOp ++ zOp)
    (ha : env.lookup p = some (.agg a.cells)) (hb : env.lookup p2 = some (.agg b.cells))
    (h : RW P r ⟨(d, ops [a, b]) :: env, hp, k⟩ fun st' ts => K st' ((false, []) :: ts)) : RW P (⟨some d, .bsl 50 29 2 z [(0, 29, .t p), (29, 29, .t p2)], none⟩ :: r) ⟨env, hp, k⟩ K := by
  subst hz
  refine RW.cons (e := ⟨ops [a, b], [], [], 0, ((29 = 29 ∧ 0 + 29 ≤ 58 ∧ 29 = 29 ∧ 29 + 29 ≤ 58 ∧ True))⟩) (fun crs => ⟨.frz :: crs, runOp_some (.inl rfl) ?_⟩) (by show 29 = 29 ∧ 0 + 29 ≤ 58 ∧ 29 = 29 ∧ 29 + 29 ≤ 58 ∧ True; decide) ?_
  · have h1 : evp (fun t => env.lookup t) [(0, 29, X.t p), (29, 29, X.t p2)] = some [(0, 29, .agg a.cells), (29, 29, .agg b.cells)] := by
      simp only [evp, ev, ha, hb]
    have h2 : bldS (zOp ++ zOp) [(0, 29, .agg a.cells), (29, 29, .agg b.cells)] = some (a.cells ++ b.cells, ((29 = 29 ∧ 0 + 29 ≤ 58 ∧ 29 = 29 ∧ 29 + 29 ≤ 58 ∧ True))) := rfl
    have h3 : datas (a.cells ++ b.cells) = some ([a, b].flatMap OpD.ds) := rfl
    have h4 : (a.cells ++ b.cells).all SV.isOne = true := rfl
    simp only [goOp, sop, h1, h2, h3, h4, if_true, Bool.false_or]
    rfl
  · exact h
set_option maxHeartbeats 1000000 in
theorem three_ok : Go.Sl.Pure Try.prog law14_three.f [] (ops (threeL .nils)) := by
  refine law14_three.enter (by first | rfl | simp [SV.ok, SV.oks]) (by first | rfl | simp [Hp.ok, Ob.ok, SV.ok, SV.oks, Vec.cells_ok]) (by simp) ?_
  unfold law14_three.s
  refine SW.seq ?_
  (refine SW.regL [0, 1, 2, 3] mixed ?_; (repeat (first | refine RW.ro bq_tt (h := ?_) | refine RW.skip (h := ?_) | refine RW.op bq_tt (h := ?_) | refine RW.opN bq_tt (h := ?_) | refine RW.skip0 (h := ?_) | refine lit3 rfl rfl rfl rfl (h := ?_))); refine RW.nil ⟨by kernel_rfl, Pruned.mk (h := ?_)⟩)
  have fA : spl (spl (spl (spl OpD.zero.cells 0 (Dt.mk 0 1).cells) 10 [SV.d (.int .u64 1)]) 11 [SV.d (.int .u32 1)]) 12 (Dt.mk 0 1).cells = (opA .nils).cells := rfl
  have fB : spl (spl (spl (spl (spl OpD.zero.cells 0 (Dt.mk 1 1).cells) 2 (vc 1 0).cells) 10 [SV.d (.int .u64 2)]) 11 [SV.d (.int .u32 1)]) 12 (Dt.mk 1 1).cells = (opB .nils).cells := rfl
  have fC : spl (spl (spl (spl (spl OpD.zero.cells 0 (Dt.mk 0 2).cells) 2 (vc 1 1).cells) 10 [SV.d (.int .u64 3)]) 11 [SV.d (.int .u32 1)]) 12 (Dt.mk 0 2).cells = (opC .nils).cells := rfl
  have v1 : spl Vec.zero.cells 0 [SV.d (.int .u32 1)] = (vc 1 0).cells := rfl
  have v2 : spl (vc 1 0).cells 1 [SV.d (.int .u32 1)] = (vc 1 1).cells := rfl
  have sa : ∀ x : OpD, spl OpD.zero.cells 0 x.cells = x.cells := fun _ => rfl
  have ta : ∀ x : OpD, List.take 29 x.cells = x.cells := fun _ => rfl
  have la : ∀ x : OpD, x.cells.length = 29 := fun _ => rfl
  have oa : ∀ x : OpD, x.cells.all SV.isOne = true := fun x => x.cells_one
  refine SW.seq ?_
  (refine SW.regL [0, 1, 2, 3] mixed ?_; (repeat (first | refine RW.ro (And.intro (fA) (And.intro (sa) (And.intro (oa) (la)))) (h := ?_) | refine RW.skip (h := ?_) | refine RW.op (And.intro (fA) (And.intro (sa) (And.intro (oa) (la)))) (h := ?_) | refine RW.opN (And.intro (fA) (And.intro (sa) (And.intro (oa) (la)))) (h := ?_) | refine RW.skip0 (h := ?_) | refine lit3 rfl rfl rfl rfl (h := ?_))); refine RW.nil ⟨by kernel_rfl, Pruned.mk (h := ?_)⟩)
  refine SW.seq ?_
  (refine SW.regL [0, 1, 2, 3] mixed ?_; (repeat (first | refine RW.ro (And.intro (fB) (And.intro (v1) (And.intro (v2) (And.intro (sa) (And.intro (oa) (la)))))) (h := ?_) | refine RW.skip (h := ?_) | refine RW.op (And.intro (fB) (And.intro (v1) (And.intro (v2) (And.intro (sa) (And.intro (oa) (la)))))) (h := ?_) | refine RW.opN (And.intro (fB) (And.intro (v1) (And.intro (v2) (And.intro (sa) (And.intro (oa) (la)))))) (h := ?_) | refine RW.skip0 (h := ?_) | refine lit3 rfl rfl rfl rfl (h := ?_))); refine RW.nil ⟨by kernel_rfl, Pruned.mk (h := ?_)⟩)
  refine SW.seq ?_
  (refine SW.regL [0, 1, 2, 3] mixed ?_; (repeat (first | refine RW.ro (And.intro (fC) (And.intro (v1) (And.intro (v2) (And.intro (sa) (And.intro (oa) (la)))))) (h := ?_) | refine RW.skip (h := ?_) | refine RW.op (And.intro (fC) (And.intro (v1) (And.intro (v2) (And.intro (sa) (And.intro (oa) (la)))))) (h := ?_) | refine RW.opN (And.intro (fC) (And.intro (v1) (And.intro (v2) (And.intro (sa) (And.intro (oa) (la)))))) (h := ?_) | refine RW.skip0 (h := ?_) | refine lit3 rfl rfl rfl rfl (h := ?_))); refine RW.nil ⟨by kernel_rfl, Pruned.mk (h := ?_)⟩)
  refine SW.seq ?_
  (refine SW.regL [0, 1, 2, 3] mixed ?_; (repeat (first | refine RW.ro (And.intro (ta) (And.intro (oa) (la))) (h := ?_) | refine RW.skip (h := ?_) | refine RW.op (And.intro (ta) (And.intro (oa) (la))) (h := ?_) | refine RW.opN (And.intro (ta) (And.intro (oa) (la))) (h := ?_) | refine RW.skip0 (h := ?_) | refine lit3 rfl rfl rfl rfl (h := ?_))); refine RW.nil ⟨by kernel_rfl, Pruned.mk (h := ?_)⟩)
  refine SW.ret ?_
  exact End.mk [] (h4 := ⟨rfl, rfl⟩)
theorem three_at (k : Nat) : SCd Try.prog law14_three.f [] [] k 0 (ops (threeL z0l)) [] := by
  have h0 : SCd Try.prog law14_three.f [] [] k 0 (ops (threeL .nils)) [] := three_ok.sc rfl k
  refine SC.resd h0 fun p μ M u hu => ?_
  rw [Rp.d_iff] at hu ⊢
  simp only [RepD] at hu ⊢
  obtain ⟨A, c, rfl, h1, h2, h3⟩ := hu
  refine ⟨A, c, rfl, h1, fun h => by simp [threeL] at h, fun h => ?_⟩
  obtain ⟨b, o, rfl, h4⟩ := h3 (by simp [threeL])
  exact ⟨b, o, rfl, repR_nz _ o h4⟩
end Go.Proofs.Ytpbfnenlbkjhgaa

/-
  Gossip: calls whose answers the document fixes.
-/
set_option linter.unusedSectionVars false
set_option linter.unusedVariables false
set_option linter.unusedSimpArgs false
namespace Go.Proofs.Ytpbfnenlbkjhgaa
open Go.Sl Go.Proofs
attribute [local irreducible] SW RW SCd SC CallP Pruned

def rAB : DV := .sl 2 ([opA z0l, opB z0l].flatMap OpD.ds)
theorem lackS_r (l : List OpD) (v : Vec) : lackS l v = sortedR (lackL l v) := (sortedR_eq (lackL_uniq l v)).symm
theorem lack1 : lackS (threeL z0l) (vc 1 0) = [opB z0l, opC z0l] := by rw [lackS_r]; kernel_rfl
theorem lack2 : lackS (threeL z0l) (vc 2 1) = [] := by rw [lackS_r]; kernel_rfl
theorem lack0 : dltL (threeL z0l) Vec.zero 2 = [opA z0l, opB z0l] := by rw [dltL, lackS_r]; kernel_rfl
theorem kn3 : knownV (threeL z0l) = vc 2 1 := by decide +kernel
theorem dlt1 : dltR 0 1 (threeL z0l) Vec.zero 2 = .tup [.agg (frD 1 0 1 (vc 2 1) (.d rAB)), i64 0] := by
  unfold dltR
  rw [if_neg (by decide), if_neg (by decide), lack0, kn3, mayR, if_pos (by decide), if_pos (by decide)]
  rfl
theorem dlt2 : dltR 0 0 (threeL z0l) Vec.zero 2 = .tup [.agg zFr, i64 2] := by
  unfold dltR
  rw [if_pos (by decide)]
theorem dlt3 : dltR 0 1 (threeL z0l) Vec.zero 65 = .tup [.agg zFr, i64 2] := by
  unfold dltR
  rw [if_neg (by decide), if_pos (by decide)]
theorem hd1 (k : Nat) : SCd Try.prog gossip_Delta.f [.d (.int .u8 0), .d (.int .u8 1), ops (threeL z0l), .agg Vec.zero.cells, .d (.int .i64 2)] [] k 0 (.tup [.agg (frD 1 0 1 (vc 2 1) (.d rAB)), i64 0]) [] := by
  have h := delta_at 0 1 (threeL z0l) Vec.zero 2 three_lin k
  rw [dlt1] at h; exact h
theorem hd2 (k : Nat) : SCd Try.prog gossip_Delta.f [.d (.int .u8 0), .d (.int .u8 0), ops (threeL z0l), .agg Vec.zero.cells, .d (.int .i64 2)] [] k 0 (.tup [.agg zFr, i64 2]) [] := by
  have h := delta_at 0 0 (threeL z0l) Vec.zero 2 three_lin k
  rw [dlt2] at h; exact h
theorem hd3 (k : Nat) : SCd Try.prog gossip_Delta.f [.d (.int .u8 0), .d (.int .u8 1), ops (threeL z0l), .agg Vec.zero.cells, .d (.int .i64 65)] [] k 0 (.tup [.agg zFr, i64 2]) [] := by
  have h := delta_at 0 1 (threeL z0l) Vec.zero 65 three_lin k
  rw [dlt3] at h; exact h
theorem hl1 (k : Nat) : SCd Try.prog gossip_Lacks.f [ops (threeL z0l), .agg (vc 1 0).cells] [] k 0 (ops [opB z0l, opC z0l]) [] := by
  have h := lacks_at (vc 1 0) three_lin k
  rw [lack1] at h; exact h
theorem hl2 (k : Nat) : SCd Try.prog gossip_Lacks.f [ops (threeL z0l), .agg (vc 2 1).cells] [] k 0 (.d (.sl 0 [])) [] := by
  have h := lacks_at (vc 2 1) three_lin k
  rw [lack2] at h; exact h
theorem three_ln (x : OpD) (h : x ∈ threeL z0l) : x.lin := (three_lin.2 x h).1
theorem hsa (k : Nat) : SCd Try.prog ref05_SameAll.f [ops [opB z0l, opC z0l], ops [opB z0l, opC z0l]] [] k 0 (bl true) [] :=
  sameAll_at _ (by simp) (fun x hx => .inr (three_ln x (by simp only [List.mem_cons, List.not_mem_nil, or_false] at hx; rcases hx with rfl | rfl <;> simp [threeL]))) k
theorem hsf (k : Nat) : SCd Try.prog ref06_Same.f [.agg (frD 1 0 1 (vc 2 1) (.d rAB)), .agg (frD 1 0 1 (vc 2 1) (.d rAB))] [] k 0 (bl true) [] :=
  fsame_at 1 0 1 (vc 2 1) rAB rAB [opA z0l, opB z0l] (.inr rfl) (.inr rfl) (by simp) (fun x hx => .inr (three_ln x (by simp only [List.mem_cons, List.not_mem_nil, or_false] at hx; rcases hx with rfl | rfl <;> simp [threeL]))) k
theorem hr1 (k : Nat) : SCd Try.prog gossip_Rounds.f [.d (.int .i64 5), .d (.int .i64 2)] [] k 0 (.d (.int .i64 3)) [] := rnd_at 5 2 ⟨by decide, by decide⟩ k
theorem hr2 (k : Nat) : SCd Try.prog gossip_Rounds.f [.d (.int .i64 4), .d (.int .i64 2)] [] k 0 (.d (.int .i64 2)) [] := rnd_at 4 2 ⟨by decide, by decide⟩ k
theorem hr3 (k : Nat) : SCd Try.prog gossip_Rounds.f [.d (.int .i64 (-1)), .d (.int .i64 2)] [] k 0 (.d (.int .i64 0)) [] := rnd_at (-1) 2 ⟨by decide, by decide⟩ k
theorem hr4 (k : Nat) : SCd Try.prog gossip_Rounds.f [.d (.int .i64 3), .d (.int .i64 0)] [] k 0 (.d (.int .i64 3)) [] := rnd_at 3 0 ⟨by decide, by decide⟩ k

set_option maxHeartbeats 2000000 in
theorem head_ok : Go.Sl.Pure Try.prog law14_head.f [] (bl true) := by
  refine law14_head.enter (by first | rfl | simp [SV.ok, SV.oks]) (by first | rfl | simp [Hp.ok, Ob.ok, SV.ok, SV.oks, Vec.cells_ok]) (by simp) ?_
  unfold law14_head.s
  have z0 : zFr.all SV.isOne = true := rfl
  have z1 : zFr.length = 12 := rfl
  have z2 : spl zFr 0 zFr = zFr := rfl
  have z3 : List.take 12 zFr = zFr := rfl
  have g1 : (frD 1 0 1 (vc 2 1) (.d rAB)).length = 12 := rfl
  have g2 : (frD 1 0 1 (vc 2 1) (.d rAB)).all SV.isOne = true := rfl
  have g3 : List.take 12 (frD 1 0 1 (vc 2 1) (.d rAB)) = frD 1 0 1 (vc 2 1) (.d rAB) := rfl
  have g4 : spl zFr 0 (frD 1 0 1 (vc 2 1) (.d rAB)) = frD 1 0 1 (vc 2 1) (.d rAB) := rfl
  have v1 : spl Vec.zero.cells 0 [SV.d (.int .u32 1)] = (vc 1 0).cells := rfl
  have v2 : spl (spl Vec.zero.cells 0 [SV.d (.int .u32 2)]) 1 [SV.d (.int .u32 1)] = (vc 2 1).cells := rfl
  refine SW.seq ?_
  (refine SW.regL [0, 1, 2, 3, 5, 7] mixed ?_; (repeat (first | refine RW.ro bq_tt (h := ?_) | refine RW.skip (h := ?_) | refine RW.op bq_tt (h := ?_) | refine RW.opN bq_tt (h := ?_) | refine RW.skip0 (h := ?_) | refine lit2 rfl rfl rfl (h := ?_) | (refine RW.callC (h := ?_); (first | refine CallP.mk bq_tt (hc := three_at _) (h := ?_) | refine CallP.mk bq_tt (hc := hd1 _) (h := ?_) | refine CallP.mk bq_tt (hc := hd2 _) (h := ?_) | refine CallP.mk bq_tt (hc := hd3 _) (h := ?_) | refine CallP.mk bq_tt (hc := hl1 _) (h := ?_) | refine CallP.mk bq_tt (hc := hl2 _) (h := ?_) | refine CallP.mk bq_tt (hc := hsa _) (h := ?_) | refine CallP.mk bq_tt (hc := hsf _) (h := ?_) | refine CallP.mk bq_tt (hc := hr1 _) (h := ?_) | refine CallP.mk bq_tt (hc := hr2 _) (h := ?_) | refine CallP.mk bq_tt (hc := hr3 _) (h := ?_) | refine CallP.mk bq_tt (hc := hr4 _) (h := ?_))))); refine RW.nil ⟨by kernel_rfl, Pruned.mk (h := ?_)⟩)
  refine SW.seq ?_
  (refine SW.regL [0, 1, 2, 3, 5, 7] mixed ?_; (repeat (first | refine RW.ro bq_tt (h := ?_) | refine RW.skip (h := ?_) | refine RW.op bq_tt (h := ?_) | refine RW.opN bq_tt (h := ?_) | refine RW.skip0 (h := ?_) | refine lit2 rfl rfl rfl (h := ?_) | (refine RW.callC (h := ?_); (first | refine CallP.mk bq_tt (hc := three_at _) (h := ?_) | refine CallP.mk bq_tt (hc := hd1 _) (h := ?_) | refine CallP.mk bq_tt (hc := hd2 _) (h := ?_) | refine CallP.mk bq_tt (hc := hd3 _) (h := ?_) | refine CallP.mk bq_tt (hc := hl1 _) (h := ?_) | refine CallP.mk bq_tt (hc := hl2 _) (h := ?_) | refine CallP.mk bq_tt (hc := hsa _) (h := ?_) | refine CallP.mk bq_tt (hc := hsf _) (h := ?_) | refine CallP.mk bq_tt (hc := hr1 _) (h := ?_) | refine CallP.mk bq_tt (hc := hr2 _) (h := ?_) | refine CallP.mk bq_tt (hc := hr3 _) (h := ?_) | refine CallP.mk bq_tt (hc := hr4 _) (h := ?_))))); refine RW.nil ⟨by kernel_rfl, Pruned.mk (h := ?_)⟩)
  refine SW.seq ?_
  (refine SW.regL [0, 1, 2, 3, 5, 7] mixed ?_; (repeat (first | refine RW.ro (And.intro (zfr_lit) (And.intro (z0) (And.intro (z1) (And.intro (z2) (And.intro (z3) (And.intro (g1) (And.intro (g2) (And.intro (g3) (g4))))))))) (h := ?_) | refine RW.skip (h := ?_) | refine RW.op (And.intro (zfr_lit) (And.intro (z0) (And.intro (z1) (And.intro (z2) (And.intro (z3) (And.intro (g1) (And.intro (g2) (And.intro (g3) (g4))))))))) (h := ?_) | refine RW.opN (And.intro (zfr_lit) (And.intro (z0) (And.intro (z1) (And.intro (z2) (And.intro (z3) (And.intro (g1) (And.intro (g2) (And.intro (g3) (g4))))))))) (h := ?_) | refine RW.skip0 (h := ?_) | refine lit2 rfl rfl rfl (h := ?_) | (refine RW.callC (h := ?_); (first | refine CallP.mk (And.intro (zfr_lit) (And.intro (z0) (And.intro (z1) (And.intro (z2) (And.intro (z3) (And.intro (g1) (And.intro (g2) (And.intro (g3) (g4))))))))) (hc := three_at _) (h := ?_) | refine CallP.mk (And.intro (zfr_lit) (And.intro (z0) (And.intro (z1) (And.intro (z2) (And.intro (z3) (And.intro (g1) (And.intro (g2) (And.intro (g3) (g4))))))))) (hc := hd1 _) (h := ?_) | refine CallP.mk (And.intro (zfr_lit) (And.intro (z0) (And.intro (z1) (And.intro (z2) (And.intro (z3) (And.intro (g1) (And.intro (g2) (And.intro (g3) (g4))))))))) (hc := hd2 _) (h := ?_) | refine CallP.mk (And.intro (zfr_lit) (And.intro (z0) (And.intro (z1) (And.intro (z2) (And.intro (z3) (And.intro (g1) (And.intro (g2) (And.intro (g3) (g4))))))))) (hc := hd3 _) (h := ?_) | refine CallP.mk (And.intro (zfr_lit) (And.intro (z0) (And.intro (z1) (And.intro (z2) (And.intro (z3) (And.intro (g1) (And.intro (g2) (And.intro (g3) (g4))))))))) (hc := hl1 _) (h := ?_) | refine CallP.mk (And.intro (zfr_lit) (And.intro (z0) (And.intro (z1) (And.intro (z2) (And.intro (z3) (And.intro (g1) (And.intro (g2) (And.intro (g3) (g4))))))))) (hc := hl2 _) (h := ?_) | refine CallP.mk (And.intro (zfr_lit) (And.intro (z0) (And.intro (z1) (And.intro (z2) (And.intro (z3) (And.intro (g1) (And.intro (g2) (And.intro (g3) (g4))))))))) (hc := hsa _) (h := ?_) | refine CallP.mk (And.intro (zfr_lit) (And.intro (z0) (And.intro (z1) (And.intro (z2) (And.intro (z3) (And.intro (g1) (And.intro (g2) (And.intro (g3) (g4))))))))) (hc := hsf _) (h := ?_) | refine CallP.mk (And.intro (zfr_lit) (And.intro (z0) (And.intro (z1) (And.intro (z2) (And.intro (z3) (And.intro (g1) (And.intro (g2) (And.intro (g3) (g4))))))))) (hc := hr1 _) (h := ?_) | refine CallP.mk (And.intro (zfr_lit) (And.intro (z0) (And.intro (z1) (And.intro (z2) (And.intro (z3) (And.intro (g1) (And.intro (g2) (And.intro (g3) (g4))))))))) (hc := hr2 _) (h := ?_) | refine CallP.mk (And.intro (zfr_lit) (And.intro (z0) (And.intro (z1) (And.intro (z2) (And.intro (z3) (And.intro (g1) (And.intro (g2) (And.intro (g3) (g4))))))))) (hc := hr3 _) (h := ?_) | refine CallP.mk (And.intro (zfr_lit) (And.intro (z0) (And.intro (z1) (And.intro (z2) (And.intro (z3) (And.intro (g1) (And.intro (g2) (And.intro (g3) (g4))))))))) (hc := hr4 _) (h := ?_))))); refine RW.nil ⟨by kernel_rfl, Pruned.mk (h := ?_)⟩)
  refine SW.seq ?_
  (refine SW.regL [0, 1, 2, 3, 5, 7] mixed ?_; (repeat (first | refine RW.ro (And.intro (zfr_lit) (And.intro (z0) (And.intro (z1) (And.intro (z2) (And.intro (z3) (And.intro (g1) (And.intro (g2) (And.intro (g3) (g4))))))))) (h := ?_) | refine RW.skip (h := ?_) | refine RW.op (And.intro (zfr_lit) (And.intro (z0) (And.intro (z1) (And.intro (z2) (And.intro (z3) (And.intro (g1) (And.intro (g2) (And.intro (g3) (g4))))))))) (h := ?_) | refine RW.opN (And.intro (zfr_lit) (And.intro (z0) (And.intro (z1) (And.intro (z2) (And.intro (z3) (And.intro (g1) (And.intro (g2) (And.intro (g3) (g4))))))))) (h := ?_) | refine RW.skip0 (h := ?_) | refine lit2 rfl rfl rfl (h := ?_) | (refine RW.callC (h := ?_); (first | refine CallP.mk (And.intro (zfr_lit) (And.intro (z0) (And.intro (z1) (And.intro (z2) (And.intro (z3) (And.intro (g1) (And.intro (g2) (And.intro (g3) (g4))))))))) (hc := three_at _) (h := ?_) | refine CallP.mk (And.intro (zfr_lit) (And.intro (z0) (And.intro (z1) (And.intro (z2) (And.intro (z3) (And.intro (g1) (And.intro (g2) (And.intro (g3) (g4))))))))) (hc := hd1 _) (h := ?_) | refine CallP.mk (And.intro (zfr_lit) (And.intro (z0) (And.intro (z1) (And.intro (z2) (And.intro (z3) (And.intro (g1) (And.intro (g2) (And.intro (g3) (g4))))))))) (hc := hd2 _) (h := ?_) | refine CallP.mk (And.intro (zfr_lit) (And.intro (z0) (And.intro (z1) (And.intro (z2) (And.intro (z3) (And.intro (g1) (And.intro (g2) (And.intro (g3) (g4))))))))) (hc := hd3 _) (h := ?_) | refine CallP.mk (And.intro (zfr_lit) (And.intro (z0) (And.intro (z1) (And.intro (z2) (And.intro (z3) (And.intro (g1) (And.intro (g2) (And.intro (g3) (g4))))))))) (hc := hl1 _) (h := ?_) | refine CallP.mk (And.intro (zfr_lit) (And.intro (z0) (And.intro (z1) (And.intro (z2) (And.intro (z3) (And.intro (g1) (And.intro (g2) (And.intro (g3) (g4))))))))) (hc := hl2 _) (h := ?_) | refine CallP.mk (And.intro (zfr_lit) (And.intro (z0) (And.intro (z1) (And.intro (z2) (And.intro (z3) (And.intro (g1) (And.intro (g2) (And.intro (g3) (g4))))))))) (hc := hsa _) (h := ?_) | refine CallP.mk (And.intro (zfr_lit) (And.intro (z0) (And.intro (z1) (And.intro (z2) (And.intro (z3) (And.intro (g1) (And.intro (g2) (And.intro (g3) (g4))))))))) (hc := hsf _) (h := ?_) | refine CallP.mk (And.intro (zfr_lit) (And.intro (z0) (And.intro (z1) (And.intro (z2) (And.intro (z3) (And.intro (g1) (And.intro (g2) (And.intro (g3) (g4))))))))) (hc := hr1 _) (h := ?_) | refine CallP.mk (And.intro (zfr_lit) (And.intro (z0) (And.intro (z1) (And.intro (z2) (And.intro (z3) (And.intro (g1) (And.intro (g2) (And.intro (g3) (g4))))))))) (hc := hr2 _) (h := ?_) | refine CallP.mk (And.intro (zfr_lit) (And.intro (z0) (And.intro (z1) (And.intro (z2) (And.intro (z3) (And.intro (g1) (And.intro (g2) (And.intro (g3) (g4))))))))) (hc := hr3 _) (h := ?_) | refine CallP.mk (And.intro (zfr_lit) (And.intro (z0) (And.intro (z1) (And.intro (z2) (And.intro (z3) (And.intro (g1) (And.intro (g2) (And.intro (g3) (g4))))))))) (hc := hr4 _) (h := ?_))))); refine RW.nil ⟨by kernel_rfl, Pruned.mk (h := ?_)⟩)
  refine SW.seq ?_
  (refine SW.regL [0, 1, 2, 3, 5, 7] mixed ?_; (repeat (first | refine RW.ro (And.intro (zfr_lit) (And.intro (z0) (And.intro (z1) (And.intro (z2) (And.intro (z3) (And.intro (g1) (And.intro (g2) (And.intro (g3) (g4))))))))) (h := ?_) | refine RW.skip (h := ?_) | refine RW.op (And.intro (zfr_lit) (And.intro (z0) (And.intro (z1) (And.intro (z2) (And.intro (z3) (And.intro (g1) (And.intro (g2) (And.intro (g3) (g4))))))))) (h := ?_) | refine RW.opN (And.intro (zfr_lit) (And.intro (z0) (And.intro (z1) (And.intro (z2) (And.intro (z3) (And.intro (g1) (And.intro (g2) (And.intro (g3) (g4))))))))) (h := ?_) | refine RW.skip0 (h := ?_) | refine lit2 rfl rfl rfl (h := ?_) | (refine RW.callC (h := ?_); (first | refine CallP.mk (And.intro (zfr_lit) (And.intro (z0) (And.intro (z1) (And.intro (z2) (And.intro (z3) (And.intro (g1) (And.intro (g2) (And.intro (g3) (g4))))))))) (hc := three_at _) (h := ?_) | refine CallP.mk (And.intro (zfr_lit) (And.intro (z0) (And.intro (z1) (And.intro (z2) (And.intro (z3) (And.intro (g1) (And.intro (g2) (And.intro (g3) (g4))))))))) (hc := hd1 _) (h := ?_) | refine CallP.mk (And.intro (zfr_lit) (And.intro (z0) (And.intro (z1) (And.intro (z2) (And.intro (z3) (And.intro (g1) (And.intro (g2) (And.intro (g3) (g4))))))))) (hc := hd2 _) (h := ?_) | refine CallP.mk (And.intro (zfr_lit) (And.intro (z0) (And.intro (z1) (And.intro (z2) (And.intro (z3) (And.intro (g1) (And.intro (g2) (And.intro (g3) (g4))))))))) (hc := hd3 _) (h := ?_) | refine CallP.mk (And.intro (zfr_lit) (And.intro (z0) (And.intro (z1) (And.intro (z2) (And.intro (z3) (And.intro (g1) (And.intro (g2) (And.intro (g3) (g4))))))))) (hc := hl1 _) (h := ?_) | refine CallP.mk (And.intro (zfr_lit) (And.intro (z0) (And.intro (z1) (And.intro (z2) (And.intro (z3) (And.intro (g1) (And.intro (g2) (And.intro (g3) (g4))))))))) (hc := hl2 _) (h := ?_) | refine CallP.mk (And.intro (zfr_lit) (And.intro (z0) (And.intro (z1) (And.intro (z2) (And.intro (z3) (And.intro (g1) (And.intro (g2) (And.intro (g3) (g4))))))))) (hc := hsa _) (h := ?_) | refine CallP.mk (And.intro (zfr_lit) (And.intro (z0) (And.intro (z1) (And.intro (z2) (And.intro (z3) (And.intro (g1) (And.intro (g2) (And.intro (g3) (g4))))))))) (hc := hsf _) (h := ?_) | refine CallP.mk (And.intro (zfr_lit) (And.intro (z0) (And.intro (z1) (And.intro (z2) (And.intro (z3) (And.intro (g1) (And.intro (g2) (And.intro (g3) (g4))))))))) (hc := hr1 _) (h := ?_) | refine CallP.mk (And.intro (zfr_lit) (And.intro (z0) (And.intro (z1) (And.intro (z2) (And.intro (z3) (And.intro (g1) (And.intro (g2) (And.intro (g3) (g4))))))))) (hc := hr2 _) (h := ?_) | refine CallP.mk (And.intro (zfr_lit) (And.intro (z0) (And.intro (z1) (And.intro (z2) (And.intro (z3) (And.intro (g1) (And.intro (g2) (And.intro (g3) (g4))))))))) (hc := hr3 _) (h := ?_) | refine CallP.mk (And.intro (zfr_lit) (And.intro (z0) (And.intro (z1) (And.intro (z2) (And.intro (z3) (And.intro (g1) (And.intro (g2) (And.intro (g3) (g4))))))))) (hc := hr4 _) (h := ?_))))); refine RW.nil ⟨by kernel_rfl, Pruned.mk (h := ?_)⟩)
  refine SW.seq ?_
  have x0 := op_at (l := threeL z0l) (i := 0) (x := opC z0l) rfl
  have x2 := op_at (l := threeL z0l) (i := 2) (x := opB z0l) rfl
  have y0 := op_room0 (l := threeL z0l) (i := 0) (x := opC z0l) rfl
  have y2 := op_room0 (l := threeL z0l) (i := 2) (x := opB z0l) rfl
  have ln : (threeL z0l).length = 3 := rfl
  (refine SW.regL [0, 1, 2, 3, 5, 7] mixed ?_; (repeat (first | refine RW.ro (And.intro (zfr_lit) (And.intro (z0) (And.intro (z1) (And.intro (z2) (And.intro (z3) (And.intro (g1) (And.intro (g2) (And.intro (g3) (And.intro (g4) (And.intro (v1) (And.intro (v2) (And.intro (x0) (And.intro (x2) (And.intro (y0) (And.intro (y2) (ln)))))))))))))))) (h := ?_) | refine RW.skip (h := ?_) | refine RW.op (And.intro (zfr_lit) (And.intro (z0) (And.intro (z1) (And.intro (z2) (And.intro (z3) (And.intro (g1) (And.intro (g2) (And.intro (g3) (And.intro (g4) (And.intro (v1) (And.intro (v2) (And.intro (x0) (And.intro (x2) (And.intro (y0) (And.intro (y2) (ln)))))))))))))))) (h := ?_) | refine RW.opN (And.intro (zfr_lit) (And.intro (z0) (And.intro (z1) (And.intro (z2) (And.intro (z3) (And.intro (g1) (And.intro (g2) (And.intro (g3) (And.intro (g4) (And.intro (v1) (And.intro (v2) (And.intro (x0) (And.intro (x2) (And.intro (y0) (And.intro (y2) (ln)))))))))))))))) (h := ?_) | refine RW.skip0 (h := ?_) | refine lit2 rfl rfl rfl (h := ?_) | (refine RW.callC (h := ?_); (first | refine CallP.mk (And.intro (zfr_lit) (And.intro (z0) (And.intro (z1) (And.intro (z2) (And.intro (z3) (And.intro (g1) (And.intro (g2) (And.intro (g3) (And.intro (g4) (And.intro (v1) (And.intro (v2) (And.intro (x0) (And.intro (x2) (And.intro (y0) (And.intro (y2) (ln)))))))))))))))) (hc := three_at _) (h := ?_) | refine CallP.mk (And.intro (zfr_lit) (And.intro (z0) (And.intro (z1) (And.intro (z2) (And.intro (z3) (And.intro (g1) (And.intro (g2) (And.intro (g3) (And.intro (g4) (And.intro (v1) (And.intro (v2) (And.intro (x0) (And.intro (x2) (And.intro (y0) (And.intro (y2) (ln)))))))))))))))) (hc := hd1 _) (h := ?_) | refine CallP.mk (And.intro (zfr_lit) (And.intro (z0) (And.intro (z1) (And.intro (z2) (And.intro (z3) (And.intro (g1) (And.intro (g2) (And.intro (g3) (And.intro (g4) (And.intro (v1) (And.intro (v2) (And.intro (x0) (And.intro (x2) (And.intro (y0) (And.intro (y2) (ln)))))))))))))))) (hc := hd2 _) (h := ?_) | refine CallP.mk (And.intro (zfr_lit) (And.intro (z0) (And.intro (z1) (And.intro (z2) (And.intro (z3) (And.intro (g1) (And.intro (g2) (And.intro (g3) (And.intro (g4) (And.intro (v1) (And.intro (v2) (And.intro (x0) (And.intro (x2) (And.intro (y0) (And.intro (y2) (ln)))))))))))))))) (hc := hd3 _) (h := ?_) | refine CallP.mk (And.intro (zfr_lit) (And.intro (z0) (And.intro (z1) (And.intro (z2) (And.intro (z3) (And.intro (g1) (And.intro (g2) (And.intro (g3) (And.intro (g4) (And.intro (v1) (And.intro (v2) (And.intro (x0) (And.intro (x2) (And.intro (y0) (And.intro (y2) (ln)))))))))))))))) (hc := hl1 _) (h := ?_) | refine CallP.mk (And.intro (zfr_lit) (And.intro (z0) (And.intro (z1) (And.intro (z2) (And.intro (z3) (And.intro (g1) (And.intro (g2) (And.intro (g3) (And.intro (g4) (And.intro (v1) (And.intro (v2) (And.intro (x0) (And.intro (x2) (And.intro (y0) (And.intro (y2) (ln)))))))))))))))) (hc := hl2 _) (h := ?_) | refine CallP.mk (And.intro (zfr_lit) (And.intro (z0) (And.intro (z1) (And.intro (z2) (And.intro (z3) (And.intro (g1) (And.intro (g2) (And.intro (g3) (And.intro (g4) (And.intro (v1) (And.intro (v2) (And.intro (x0) (And.intro (x2) (And.intro (y0) (And.intro (y2) (ln)))))))))))))))) (hc := hsa _) (h := ?_) | refine CallP.mk (And.intro (zfr_lit) (And.intro (z0) (And.intro (z1) (And.intro (z2) (And.intro (z3) (And.intro (g1) (And.intro (g2) (And.intro (g3) (And.intro (g4) (And.intro (v1) (And.intro (v2) (And.intro (x0) (And.intro (x2) (And.intro (y0) (And.intro (y2) (ln)))))))))))))))) (hc := hsf _) (h := ?_) | refine CallP.mk (And.intro (zfr_lit) (And.intro (z0) (And.intro (z1) (And.intro (z2) (And.intro (z3) (And.intro (g1) (And.intro (g2) (And.intro (g3) (And.intro (g4) (And.intro (v1) (And.intro (v2) (And.intro (x0) (And.intro (x2) (And.intro (y0) (And.intro (y2) (ln)))))))))))))))) (hc := hr1 _) (h := ?_) | refine CallP.mk (And.intro (zfr_lit) (And.intro (z0) (And.intro (z1) (And.intro (z2) (And.intro (z3) (And.intro (g1) (And.intro (g2) (And.intro (g3) (And.intro (g4) (And.intro (v1) (And.intro (v2) (And.intro (x0) (And.intro (x2) (And.intro (y0) (And.intro (y2) (ln)))))))))))))))) (hc := hr2 _) (h := ?_) | refine CallP.mk (And.intro (zfr_lit) (And.intro (z0) (And.intro (z1) (And.intro (z2) (And.intro (z3) (And.intro (g1) (And.intro (g2) (And.intro (g3) (And.intro (g4) (And.intro (v1) (And.intro (v2) (And.intro (x0) (And.intro (x2) (And.intro (y0) (And.intro (y2) (ln)))))))))))))))) (hc := hr3 _) (h := ?_) | refine CallP.mk (And.intro (zfr_lit) (And.intro (z0) (And.intro (z1) (And.intro (z2) (And.intro (z3) (And.intro (g1) (And.intro (g2) (And.intro (g3) (And.intro (g4) (And.intro (v1) (And.intro (v2) (And.intro (x0) (And.intro (x2) (And.intro (y0) (And.intro (y2) (ln)))))))))))))))) (hc := hr4 _) (h := ?_))))); refine RW.nil ⟨by kernel_rfl, Pruned.mk (h := ?_)⟩)
  refine SW.ret ?_
  exact End.mk [] (h4 := ⟨rfl, rfl⟩)
theorem head_at (k : Nat) : SCd Try.prog law14_head.f [] [] k 0 (bl true) [] := head_ok.sc rfl k
end Go.Proofs.Ytpbfnenlbkjhgaa

/-
  Gossip: as many deltas as Rounds says are enough, and one less are not.
-/
set_option linter.unusedSectionVars false
set_option linter.unusedVariables false
set_option linter.unusedSimpArgs false
namespace Go.Proofs.Ytpbfnenlbkjhgaa
open Go.Sl Go.Proofs
attribute [local irreducible] SW RW SCd SC CallP Pruned

theorem rnd_enough {n m : Int} (h1 : 0 < n) (h2 : n < 1073741824) (h3 : 0 < m) (h4 : m < 1073741824) : rndV n m = (n - 1) / m + 1 ∧ 0 ≤ rndV n m ∧ rndV n m ≤ n ∧ n ≤ rndV n m * m ∧ rndV n m * m < 2147483648 ∧ (rndV n m - 1) * m < n ∧ 0 ≤ (rndV n m - 1) * m := by
  obtain ⟨r1, r2, r3, r4⟩ := rnd_le h1 h3
  have e : rndV n m = (n - 1) / m + 1 := by unfold rndV; rw [if_neg (by omega), if_neg (by omega)]
  have e2 : ((n - 1) / m + 1) * m = (n - 1) / m * m + m := by rw [Int.add_mul, Int.one_mul]
  have e3 : ((n - 1) / m + 1 - 1) * m = (n - 1) / m * m := by rw [Int.add_sub_cancel]
  have r5 : 0 ≤ (n - 1) / m * m := Int.mul_nonneg r1 (by omega)
  rw [e, e2, e3]
  refine ⟨rfl, by omega, by omega, by omega, by omega, by omega, by omega⟩
theorem rnd_nonneg (n m : Int) : 0 ≤ rndV n m := by
  unfold rndV
  split
  · omega
  · split
    · omega
    · have := Int.ediv_nonneg (show 0 ≤ n - 1 by omega) (show 0 ≤ m by omega)
      omega
set_option maxHeartbeats 1000000 in
theorem rounds_law (n m : Int) (hn : i64ok n) (hm : i64ok m) : Go.Sl.Pure Try.prog law14_GossipRounds.f [i64 n, i64 m] (bl true) := by
  refine law14_GossipRounds.enter (by first | rfl | simp [SV.ok, SV.oks]) (by first | rfl | simp [Hp.ok, Ob.ok, SV.ok, SV.oks, Vec.cells_ok]) (by simp) ?_
  unfold law14_GossipRounds.s
  have d1 : ((rndV n m) != (rndV n m)) = false := by simp
  have hnn := rnd_nonneg n m
  have q9 : decide (rndV n m ≥ 0) = true := by simpa using hnn
  refine SW.seq ?_
  (refine SW.regL [0, 1, 4, 5, 13, 27] mixed ?_; (repeat (first | refine RW.ro bq_tt (h := ?_) | refine RW.skip (h := ?_) | refine RW.op bq_tt (h := ?_) | refine RW.opN bq_tt (h := ?_) | refine RW.skip0 (h := ?_) | (refine RW.callC (h := ?_); (first | refine CallP.mk bq_tt (hc := rnd_at _ _ hn _) (h := ?_) | refine CallP.mk bq_tt (hc := rrnd_at _ _ hn _) (h := ?_) | refine CallP.mk bq_tt (hc := head_at _) (h := ?_))))); refine RW.nil ⟨by kernel_rfl, Pruned.mk (h := ?_)⟩)
  refine SW.seq ?_
  (refine SW.regL [0, 1, 4, 5, 13, 27] mixed ?_; (repeat (first | refine RW.ro bq_tt (h := ?_) | refine RW.skip (h := ?_) | refine RW.op bq_tt (h := ?_) | refine RW.opN bq_tt (h := ?_) | refine RW.skip0 (h := ?_) | (refine RW.callC (h := ?_); (first | refine CallP.mk bq_tt (hc := rnd_at _ _ hn _) (h := ?_) | refine CallP.mk bq_tt (hc := rrnd_at _ _ hn _) (h := ?_) | refine CallP.mk bq_tt (hc := head_at _) (h := ?_))))); refine RW.nil ⟨by kernel_rfl, Pruned.mk (h := ?_)⟩)
  refine SW.seq (SW.seq ?_)
  (refine SW.regL [0, 1, 4, 5, 13, 27] mixed ?_; (repeat (first | refine RW.ro (d1) (h := ?_) | refine RW.skip (h := ?_) | refine RW.op (d1) (h := ?_) | refine RW.opN (d1) (h := ?_) | refine RW.skip0 (h := ?_) | (refine RW.callC (h := ?_); (first | refine CallP.mk (d1) (hc := rnd_at _ _ hn _) (h := ?_) | refine CallP.mk (d1) (hc := rrnd_at _ _ hn _) (h := ?_) | refine CallP.mk (d1) (hc := head_at _) (h := ?_))))); refine RW.nil ⟨by kernel_rfl, Pruned.mk (h := ?_)⟩)
  refine SW.condF rfl (SW.skip ?_)
  refine SW.seq (SW.seq ?_)
  refine Classical.byCases (fun h : (n > 0 ∧ n < 1073741824) ∧ (m > 0 ∧ m < 1073741824) => ?_) fun h => ?_
  · obtain ⟨⟨h1, h2⟩, h3, h4⟩ := h
    obtain ⟨e0, e1, e2, e3, e4, e5, e6⟩ := rnd_enough h1 h2 h3 h4
    have q1 : decide (n > 0) = true := by simpa using h1
    have q2 : decide (n < 1073741824) = true := by simpa using h2
    have q3 : decide (m > 0) = true := by simpa using h3
    have q4 : decide (m < 1073741824) = true := by simpa using h4
    have q5 : IntKind.i64.wrap (rndV n m * m) = rndV n m * m := wrap_i64 _ (by omega)
    have q6 : IntKind.i64.wrap (rndV n m - 1) = rndV n m - 1 := wrap_i64 _ (by omega)
    have q7 : IntKind.i64.wrap ((rndV n m - 1) * m) = (rndV n m - 1) * m := wrap_i64 _ (by omega)
    have q8 : decide (rndV n m * m ≥ n) = true := by simpa using e3
    have q10 : decide ((rndV n m - 1) * m < n) = true := by simpa using e5
    (refine SW.regL [0, 1, 4, 5, 13, 27] mixed ?_; (repeat (first | refine RW.ro (And.intro (q1) (And.intro (q2) (And.intro (q3) (q4)))) (h := ?_) | refine RW.skip (h := ?_) | refine RW.op (And.intro (q1) (And.intro (q2) (And.intro (q3) (q4)))) (h := ?_) | refine RW.opN (And.intro (q1) (And.intro (q2) (And.intro (q3) (q4)))) (h := ?_) | refine RW.skip0 (h := ?_) | (refine RW.callC (h := ?_); (first | refine CallP.mk (And.intro (q1) (And.intro (q2) (And.intro (q3) (q4)))) (hc := rnd_at _ _ hn _) (h := ?_) | refine CallP.mk (And.intro (q1) (And.intro (q2) (And.intro (q3) (q4)))) (hc := rrnd_at _ _ hn _) (h := ?_) | refine CallP.mk (And.intro (q1) (And.intro (q2) (And.intro (q3) (q4)))) (hc := head_at _) (h := ?_))))); refine RW.nil ⟨by kernel_rfl, Pruned.mk (h := ?_)⟩)
    refine SW.condT rfl (SW.seq ?_)
    (refine SW.regL [0, 1, 4, 5, 13, 27] mixed ?_; (repeat (first | refine RW.ro (And.intro (q5) (And.intro (q6) (And.intro (q7) (And.intro (q8) (q10))))) (h := ?_) | refine RW.skip (h := ?_) | refine RW.op (And.intro (q5) (And.intro (q6) (And.intro (q7) (And.intro (q8) (q10))))) (h := ?_) | refine RW.opN (And.intro (q5) (And.intro (q6) (And.intro (q7) (And.intro (q8) (q10))))) (h := ?_) | refine RW.skip0 (h := ?_) | (refine RW.callC (h := ?_); (first | refine CallP.mk (And.intro (q5) (And.intro (q6) (And.intro (q7) (And.intro (q8) (q10))))) (hc := rnd_at _ _ hn _) (h := ?_) | refine CallP.mk (And.intro (q5) (And.intro (q6) (And.intro (q7) (And.intro (q8) (q10))))) (hc := rrnd_at _ _ hn _) (h := ?_) | refine CallP.mk (And.intro (q5) (And.intro (q6) (And.intro (q7) (And.intro (q8) (q10))))) (hc := head_at _) (h := ?_))))); refine RW.nil ⟨by kernel_rfl, Pruned.mk (h := ?_)⟩)
    refine SW.ret ?_
    exact End.mk [] (h4 := ⟨rfl, rfl⟩)
  · refine Classical.byCases (fun h1 : n > 0 => ?_) fun h1 => ?_
    · have q1 : decide (n > 0) = true := by simpa using h1
      refine Classical.byCases (fun h2 : n < 1073741824 => ?_) fun h2 => ?_
      · have q2 : decide (n < 1073741824) = true := by simpa using h2
        refine Classical.byCases (fun h3 : m > 0 => ?_) fun h3 => ?_
        · have q3 : decide (m > 0) = true := by simpa using h3
          have q4 : decide (m < 1073741824) = false := by simp; omega
          (refine SW.regL [0, 1, 4, 5, 13, 27] mixed ?_; (repeat (first | refine RW.ro (And.intro (q1) (And.intro (q2) (And.intro (q3) (q4)))) (h := ?_) | refine RW.skip (h := ?_) | refine RW.op (And.intro (q1) (And.intro (q2) (And.intro (q3) (q4)))) (h := ?_) | refine RW.opN (And.intro (q1) (And.intro (q2) (And.intro (q3) (q4)))) (h := ?_) | refine RW.skip0 (h := ?_) | (refine RW.callC (h := ?_); (first | refine CallP.mk (And.intro (q1) (And.intro (q2) (And.intro (q3) (q4)))) (hc := rnd_at _ _ hn _) (h := ?_) | refine CallP.mk (And.intro (q1) (And.intro (q2) (And.intro (q3) (q4)))) (hc := rrnd_at _ _ hn _) (h := ?_) | refine CallP.mk (And.intro (q1) (And.intro (q2) (And.intro (q3) (q4)))) (hc := head_at _) (h := ?_))))); refine RW.nil ⟨by kernel_rfl, Pruned.mk (h := ?_)⟩)
          refine SW.condF rfl (SW.skip (SW.seq ?_))
          (refine SW.regL [0, 1, 4, 5, 13, 27] mixed ?_; (repeat (first | refine RW.ro (q9) (h := ?_) | refine RW.skip (h := ?_) | refine RW.op (q9) (h := ?_) | refine RW.opN (q9) (h := ?_) | refine RW.skip0 (h := ?_) | (refine RW.callC (h := ?_); (first | refine CallP.mk (q9) (hc := rnd_at _ _ hn _) (h := ?_) | refine CallP.mk (q9) (hc := rrnd_at _ _ hn _) (h := ?_) | refine CallP.mk (q9) (hc := head_at _) (h := ?_))))); refine RW.nil ⟨by kernel_rfl, Pruned.mk (h := ?_)⟩)
          refine SW.ret ?_
          exact End.mk [] (h4 := ⟨rfl, rfl⟩)
        · have q3 : decide (m > 0) = false := by simpa using h3
          (refine SW.regL [0, 1, 4, 5, 13, 27] mixed ?_; (repeat (first | refine RW.ro (And.intro (q1) (And.intro (q2) (q3))) (h := ?_) | refine RW.skip (h := ?_) | refine RW.op (And.intro (q1) (And.intro (q2) (q3))) (h := ?_) | refine RW.opN (And.intro (q1) (And.intro (q2) (q3))) (h := ?_) | refine RW.skip0 (h := ?_) | (refine RW.callC (h := ?_); (first | refine CallP.mk (And.intro (q1) (And.intro (q2) (q3))) (hc := rnd_at _ _ hn _) (h := ?_) | refine CallP.mk (And.intro (q1) (And.intro (q2) (q3))) (hc := rrnd_at _ _ hn _) (h := ?_) | refine CallP.mk (And.intro (q1) (And.intro (q2) (q3))) (hc := head_at _) (h := ?_))))); refine RW.nil ⟨by kernel_rfl, Pruned.mk (h := ?_)⟩)
          refine SW.condF rfl (SW.skip (SW.seq ?_))
          (refine SW.regL [0, 1, 4, 5, 13, 27] mixed ?_; (repeat (first | refine RW.ro (q9) (h := ?_) | refine RW.skip (h := ?_) | refine RW.op (q9) (h := ?_) | refine RW.opN (q9) (h := ?_) | refine RW.skip0 (h := ?_) | (refine RW.callC (h := ?_); (first | refine CallP.mk (q9) (hc := rnd_at _ _ hn _) (h := ?_) | refine CallP.mk (q9) (hc := rrnd_at _ _ hn _) (h := ?_) | refine CallP.mk (q9) (hc := head_at _) (h := ?_))))); refine RW.nil ⟨by kernel_rfl, Pruned.mk (h := ?_)⟩)
          refine SW.ret ?_
          exact End.mk [] (h4 := ⟨rfl, rfl⟩)
      · have q2 : decide (n < 1073741824) = false := by simpa using h2
        (refine SW.regL [0, 1, 4, 5, 13, 27] mixed ?_; (repeat (first | refine RW.ro (And.intro (q1) (q2)) (h := ?_) | refine RW.skip (h := ?_) | refine RW.op (And.intro (q1) (q2)) (h := ?_) | refine RW.opN (And.intro (q1) (q2)) (h := ?_) | refine RW.skip0 (h := ?_) | (refine RW.callC (h := ?_); (first | refine CallP.mk (And.intro (q1) (q2)) (hc := rnd_at _ _ hn _) (h := ?_) | refine CallP.mk (And.intro (q1) (q2)) (hc := rrnd_at _ _ hn _) (h := ?_) | refine CallP.mk (And.intro (q1) (q2)) (hc := head_at _) (h := ?_))))); refine RW.nil ⟨by kernel_rfl, Pruned.mk (h := ?_)⟩)
        refine SW.condF rfl (SW.skip (SW.seq ?_))
        (refine SW.regL [0, 1, 4, 5, 13, 27] mixed ?_; (repeat (first | refine RW.ro (q9) (h := ?_) | refine RW.skip (h := ?_) | refine RW.op (q9) (h := ?_) | refine RW.opN (q9) (h := ?_) | refine RW.skip0 (h := ?_) | (refine RW.callC (h := ?_); (first | refine CallP.mk (q9) (hc := rnd_at _ _ hn _) (h := ?_) | refine CallP.mk (q9) (hc := rrnd_at _ _ hn _) (h := ?_) | refine CallP.mk (q9) (hc := head_at _) (h := ?_))))); refine RW.nil ⟨by kernel_rfl, Pruned.mk (h := ?_)⟩)
        refine SW.ret ?_
        exact End.mk [] (h4 := ⟨rfl, rfl⟩)
    · have q1 : decide (n > 0) = false := by simpa using h1
      (refine SW.regL [0, 1, 4, 5, 13, 27] mixed ?_; (repeat (first | refine RW.ro (q1) (h := ?_) | refine RW.skip (h := ?_) | refine RW.op (q1) (h := ?_) | refine RW.opN (q1) (h := ?_) | refine RW.skip0 (h := ?_) | (refine RW.callC (h := ?_); (first | refine CallP.mk (q1) (hc := rnd_at _ _ hn _) (h := ?_) | refine CallP.mk (q1) (hc := rrnd_at _ _ hn _) (h := ?_) | refine CallP.mk (q1) (hc := head_at _) (h := ?_))))); refine RW.nil ⟨by kernel_rfl, Pruned.mk (h := ?_)⟩)
      refine SW.condF rfl (SW.skip (SW.seq ?_))
      (refine SW.regL [0, 1, 4, 5, 13, 27] mixed ?_; (repeat (first | refine RW.ro (q9) (h := ?_) | refine RW.skip (h := ?_) | refine RW.op (q9) (h := ?_) | refine RW.opN (q9) (h := ?_) | refine RW.skip0 (h := ?_) | (refine RW.callC (h := ?_); (first | refine CallP.mk (q9) (hc := rnd_at _ _ hn _) (h := ?_) | refine CallP.mk (q9) (hc := rrnd_at _ _ hn _) (h := ?_) | refine CallP.mk (q9) (hc := head_at _) (h := ?_))))); refine RW.nil ⟨by kernel_rfl, Pruned.mk (h := ?_)⟩)
      refine SW.ret ?_
      exact End.mk [] (h4 := ⟨rfl, rfl⟩)
end Go.Proofs.Ytpbfnenlbkjhgaa
