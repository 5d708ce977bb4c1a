/-
  Gossip: Delta.
-/
import Derived.Test.YtgjgfamgbhlmfaaUC
set_option linter.unusedSectionVars false
set_option linter.unusedVariables false
set_option linter.unusedSimpArgs false
namespace Go.Proofs.Ytgjgfamgbhlmfaa
open Go.Sl Go.Proofs
attribute [local irreducible] SW RW SCd SC CallP Pruned

theorem gmayT {kd fr to : Nat} {h : Vec} {o : DV} {l : List OpD} (e : Int) (hb : mayV kd fr to l = true) (ho : RowOf o l) (hl : l.length < 4611686018427387904) (hw : ∀ x, x ∈ l → x.lin) (k : Nat) : SCd Try.prog gossip_may.f [.agg (frD kd fr to h (.d o)), .d (.int .i64 e)] [] k 0 (.tup [.agg (frD kd fr to h (.d o)), i64 0]) [] := by
  have hc := (gmay_ok kd fr to h o l e ho hl hw).sc (by rw [mayR, hb]; simp [SV.ok, SV.oks, frDok]) k
  rw [mayR, hb] at hc
  exact hc
theorem gmayF {kd fr to : Nat} {h : Vec} {o : DV} {l : List OpD} (e : Int) (hb : mayV kd fr to l = false) (ho : RowOf o l) (hl : l.length < 4611686018427387904) (hw : ∀ x, x ∈ l → x.lin) (k : Nat) : SCd Try.prog gossip_may.f [.agg (frD kd fr to h (.d o)), .d (.int .i64 e)] [] k 0 (.tup [.agg zFr, i64 e]) [] := by
  have hc := (gmay_ok kd fr to h o l e ho hl hw).sc (by rw [mayR, hb]; simp [SV.ok, SV.oks, frDok]) k
  rw [mayR, hb] at hc
  exact hc
/-- A row, or nil. -/
def rowV (l : List OpD) : DV := if l.isEmpty then .nils else .sl l.length (l.flatMap OpD.ds)
theorem rowV_of (l : List OpD) : RowOf (rowV l) l := by
  cases l with
  | nil => exact .inl ⟨rfl, rfl⟩
  | cons x l => exact .inr rfl
def dltL (l : List OpD) (v : Vec) (most : Int) : List OpD := (lackS l v).take most.toNat
def dltR (fr to : Nat) (l : List OpD) (v : Vec) (most : Int) : SV :=
  if mayV 1 fr to [] = false then .tup [.agg zFr, i64 2] else if most < 1 ∨ most > 64 then .tup [.agg zFr, i64 2] else
    mayR (mayV 1 fr to (dltL l v most)) (frD 1 fr to (knownV l) (.d (rowV (dltL l v most)))) 3
/-- Where a delta's frame ends. -/
theorem onBy_DF {y fb mb m : Nat} {s0 s : DF y fb mb} {xs : List OpD} (h : OnBy (DF.to m) s0 xs s) (h0 : s0.row = none) (hp : s0.pe = none) :
    (xs = [] → s.row = none) ∧ (s.pe = none → s.l = xs ∧ xs.length ≤ m) ∧ (s.pe ≠ none → s.pe = some (.exit 1) ∧ s.l = xs.take m ∧ m < xs.length) := by
  induction h with
  | nil => exact ⟨fun _ => h0, fun _ => ⟨by simp [DF.l, h0], by simp⟩, fun h => absurd hp h⟩
  | @snoc xs s1 s2 x _ h ih =>
    obtain ⟨h1, h2, h3⟩ := h
    obtain ⟨e1, e2⟩ := ih.2.1 h1
    refine ⟨fun h => by simp at h, ?_⟩
    refine Classical.byCases (p := s1.l.length = m) (fun e => ?_) fun e => ?_
    · obtain ⟨g1, g2⟩ := h2 e
      refine ⟨fun h => (by rw [g1] at h; cases h), fun _ => ⟨g1, ?_, ?_⟩⟩
      · rw [g2, e1, ← e, e1, List.take_append_of_le_length (Nat.le_refl _), List.take_length]
      · rw [List.length_append, ← e1, e]; simp
    · obtain ⟨g1, g2⟩ := h3 e
      refine ⟨fun _ => ⟨by rw [g2, e1], ?_⟩, fun h => absurd g1 h⟩
      rw [e1] at e
      simp; omega
theorem frB (fr to : Nat) (h : Vec) : spl (spl (spl (spl zFr 0 [.d (.int .u8 1)]) 1 [u8 fr]) 2 [u8 to]) 3 h.cells = frD 1 fr to h (.d .nils) := rfl

set_option maxHeartbeats 4000000 in
theorem delta_ok (fr to : Nat) (l : List OpD) (v : Vec) (most : Int) (hl : OpsOk l) : Go.Sl.Pure Try.prog gossip_Delta.f [u8 fr, u8 to, ops l, .agg v.cells, i64 most] (dltR fr to l v most) := by
  have hl1 := hl.1
  have hwl : ∀ x, x ∈ l → x.lin := fun x hx => (hl.2 x hx).1
  have hwd : ∀ x, x ∈ l → x.dot.wf := fun x hx => (hl.2 x hx).2.2
  refine gossip_Delta.enter (by simp [SV.ok, SV.oks, SV.oks_d, Vec.cells_ok]) (by simp [Hp.ok]) (by simp) ?_
  dsimp only [gossip_Delta.s, Co.M, Co.G, Co.J, Co.H, Co.N, Co.F, Co.C, Co.Z, Co.B, Co.b8, Co.b32, Co.b64, Co.i6, Co.z8, Co.z29]
  have z0 : zFr.all SV.isOne = true := rfl
  have z1 : zFr.length = 12 := rfl
  have z2 : spl zFr 0 zFr = zFr := rfl
  have z3 : List.take 12 zFr = zFr := rfl
  have g0 := frB fr to (knownV l)
  have g1 := frDl 1 fr to (knownV l)
  have g2 : ∀ x : DV, (frD 1 fr to (knownV l) (.d x)).all SV.isOne = true := fun x => frDone 1 fr to (knownV l) (.d x) rfl
  have g3 : ∀ o, List.take 12 (frD 1 fr to (knownV l) o) = frD 1 fr to (knownV l) o := fun _ => rfl
  have g4 : ∀ o, spl zFr 0 (frD 1 fr to (knownV l) o) = frD 1 fr to (knownV l) o := fun _ => rfl
  refine SW.seq ?_
  (refine SW.regL [0, 1, 2, 3, 4, 8, 9, 10, 11, 12, 13, 14, 24, 29, 39, 40, 45] mixed ?_; (repeat (first | refine RW.ro (And.intro (zfr_lit) (And.intro (z0) (And.intro (z1) (And.intro (z2) (z3))))) (h := ?_) | refine RW.skip (h := ?_) | refine RW.op (And.intro (zfr_lit) (And.intro (z0) (And.intro (z1) (And.intro (z2) (z3))))) (h := ?_) | refine RW.opN (And.intro (zfr_lit) (And.intro (z0) (And.intro (z1) (And.intro (z2) (z3))))) (h := ?_) | refine RW.skip0 (h := ?_))); refine RW.nil ⟨by kernel_rfl, Pruned.mk (h := ?_)⟩)
  unfold dltR
  rcases hb : mayV 1 fr to [] with _ | _
  · have hm := gmayF (h := knownV l) (o := .nils) 2 hb (.inl ⟨rfl, rfl⟩) (by simp) (by simp)
    refine SW.seq ?_
    (refine SW.regL [0, 1, 2, 3, 4, 8, 9, 10, 11, 12, 13, 14, 24, 29, 39, 40, 45] mixed ?_; (repeat (first | refine RW.ro (And.intro (zfr_lit) (And.intro (z0) (And.intro (z1) (And.intro (z2) (And.intro (z3) (And.intro (g0) (And.intro (g1) (And.intro (g2) (And.intro (g3) (g4)))))))))) (h := ?_) | refine RW.skip (h := ?_) | refine RW.op (And.intro (zfr_lit) (And.intro (z0) (And.intro (z1) (And.intro (z2) (And.intro (z3) (And.intro (g0) (And.intro (g1) (And.intro (g2) (And.intro (g3) (g4)))))))))) (h := ?_) | refine RW.opN (And.intro (zfr_lit) (And.intro (z0) (And.intro (z1) (And.intro (z2) (And.intro (z3) (And.intro (g0) (And.intro (g1) (And.intro (g2) (And.intro (g3) (g4)))))))))) (h := ?_) | refine RW.skip0 (h := ?_) | (refine RW.callC (h := ?_); (first | refine CallP.mk (And.intro (zfr_lit) (And.intro (z0) (And.intro (z1) (And.intro (z2) (And.intro (z3) (And.intro (g0) (And.intro (g1) (And.intro (g2) (And.intro (g3) (g4)))))))))) (hc := known_at _ (by first | assumption | omega) hwd _) (h := ?_) | refine CallP.mk (And.intro (zfr_lit) (And.intro (z0) (And.intro (z1) (And.intro (z2) (And.intro (z3) (And.intro (g0) (And.intro (g1) (And.intro (g2) (And.intro (g3) (g4)))))))))) (hc := hm _) (h := ?_))))); refine RW.nil ⟨by kernel_rfl, Pruned.mk (h := ?_)⟩)
    refine SW.seq (SW.block (SW.seq ?_))
    (refine SW.regL [0, 1, 2, 3, 4, 8, 9, 10, 11, 12, 13, 14, 24, 29, 39, 40, 45] mixed ?_; (repeat (first | refine RW.ro (And.intro (zfr_lit) (And.intro (z0) (And.intro (z1) (And.intro (z2) (And.intro (z3) (And.intro (g0) (And.intro (g1) (And.intro (g2) (And.intro (g3) (g4)))))))))) (h := ?_) | refine RW.skip (h := ?_) | refine RW.op (And.intro (zfr_lit) (And.intro (z0) (And.intro (z1) (And.intro (z2) (And.intro (z3) (And.intro (g0) (And.intro (g1) (And.intro (g2) (And.intro (g3) (g4)))))))))) (h := ?_) | refine RW.opN (And.intro (zfr_lit) (And.intro (z0) (And.intro (z1) (And.intro (z2) (And.intro (z3) (And.intro (g0) (And.intro (g1) (And.intro (g2) (And.intro (g3) (g4)))))))))) (h := ?_) | refine RW.skip0 (h := ?_) | (refine RW.callC (h := ?_); (first | refine CallP.mk (And.intro (zfr_lit) (And.intro (z0) (And.intro (z1) (And.intro (z2) (And.intro (z3) (And.intro (g0) (And.intro (g1) (And.intro (g2) (And.intro (g3) (g4)))))))))) (hc := known_at _ (by first | assumption | omega) hwd _) (h := ?_) | refine CallP.mk (And.intro (zfr_lit) (And.intro (z0) (And.intro (z1) (And.intro (z2) (And.intro (z3) (And.intro (g0) (And.intro (g1) (And.intro (g2) (And.intro (g3) (g4)))))))))) (hc := hm _) (h := ?_))))); refine RW.nil ⟨by kernel_rfl, Pruned.mk (h := ?_)⟩)
    refine SW.condT rfl ?_
    (repeat (first | refine SW.seq ?_ | refine SW.block ?_ | (refine SW.regL [0, 1, 2, 3, 4, 8, 9, 10, 11, 12, 13, 14, 24, 29, 39, 40, 45] mixed ?_; (repeat (first | refine RW.ro (And.intro (zfr_lit) (And.intro (z0) (And.intro (z1) (And.intro (z2) (And.intro (z3) (And.intro (g0) (And.intro (g1) (And.intro (g2) (And.intro (g3) (g4)))))))))) (h := ?_) | refine RW.skip (h := ?_) | refine RW.op (And.intro (zfr_lit) (And.intro (z0) (And.intro (z1) (And.intro (z2) (And.intro (z3) (And.intro (g0) (And.intro (g1) (And.intro (g2) (And.intro (g3) (g4)))))))))) (h := ?_) | refine RW.opN (And.intro (zfr_lit) (And.intro (z0) (And.intro (z1) (And.intro (z2) (And.intro (z3) (And.intro (g0) (And.intro (g1) (And.intro (g2) (And.intro (g3) (g4)))))))))) (h := ?_) | refine RW.skip0 (h := ?_) | (refine RW.callC (h := ?_); (first | refine CallP.mk (And.intro (zfr_lit) (And.intro (z0) (And.intro (z1) (And.intro (z2) (And.intro (z3) (And.intro (g0) (And.intro (g1) (And.intro (g2) (And.intro (g3) (g4)))))))))) (hc := known_at _ (by first | assumption | omega) hwd _) (h := ?_) | refine CallP.mk (And.intro (zfr_lit) (And.intro (z0) (And.intro (z1) (And.intro (z2) (And.intro (z3) (And.intro (g0) (And.intro (g1) (And.intro (g2) (And.intro (g3) (g4)))))))))) (hc := hm _) (h := ?_))))); refine RW.nil ⟨by kernel_rfl, Pruned.mk (h := ?_)⟩) | refine SW.skip ?_ | refine SW.exit ?_ | refine SW.ret ?_ | refine SW.condT rfl ?_ | refine SW.condF rfl ?_))
    exact End.mk [] (h2 := by simp [ldo, z1]) (h4 := ⟨rfl, rfl⟩)
  have hm := gmayT (h := knownV l) (o := .nils) 2 hb (.inl ⟨rfl, rfl⟩) (by simp) (by simp)
  refine SW.seq ?_
  (refine SW.regL [0, 1, 2, 3, 4, 8, 9, 10, 11, 12, 13, 14, 24, 29, 39, 40, 45] mixed ?_; (repeat (first | refine RW.ro (And.intro (zfr_lit) (And.intro (z0) (And.intro (z1) (And.intro (z2) (And.intro (z3) (And.intro (g0) (And.intro (g1) (And.intro (g2) (And.intro (g3) (g4)))))))))) (h := ?_) | refine RW.skip (h := ?_) | refine RW.op (And.intro (zfr_lit) (And.intro (z0) (And.intro (z1) (And.intro (z2) (And.intro (z3) (And.intro (g0) (And.intro (g1) (And.intro (g2) (And.intro (g3) (g4)))))))))) (h := ?_) | refine RW.opN (And.intro (zfr_lit) (And.intro (z0) (And.intro (z1) (And.intro (z2) (And.intro (z3) (And.intro (g0) (And.intro (g1) (And.intro (g2) (And.intro (g3) (g4)))))))))) (h := ?_) | refine RW.skip0 (h := ?_) | (refine RW.callC (h := ?_); (first | refine CallP.mk (And.intro (zfr_lit) (And.intro (z0) (And.intro (z1) (And.intro (z2) (And.intro (z3) (And.intro (g0) (And.intro (g1) (And.intro (g2) (And.intro (g3) (g4)))))))))) (hc := known_at _ (by first | assumption | omega) hwd _) (h := ?_) | refine CallP.mk (And.intro (zfr_lit) (And.intro (z0) (And.intro (z1) (And.intro (z2) (And.intro (z3) (And.intro (g0) (And.intro (g1) (And.intro (g2) (And.intro (g3) (g4)))))))))) (hc := hm _) (h := ?_))))); refine RW.nil ⟨by kernel_rfl, Pruned.mk (h := ?_)⟩)
  refine SW.seq (SW.block (SW.seq ?_))
  (refine SW.regL [0, 1, 2, 3, 4, 8, 9, 10, 11, 12, 13, 14, 24, 29, 39, 40, 45] mixed ?_; (repeat (first | refine RW.ro (And.intro (zfr_lit) (And.intro (z0) (And.intro (z1) (And.intro (z2) (And.intro (z3) (And.intro (g0) (And.intro (g1) (And.intro (g2) (And.intro (g3) (g4)))))))))) (h := ?_) | refine RW.skip (h := ?_) | refine RW.op (And.intro (zfr_lit) (And.intro (z0) (And.intro (z1) (And.intro (z2) (And.intro (z3) (And.intro (g0) (And.intro (g1) (And.intro (g2) (And.intro (g3) (g4)))))))))) (h := ?_) | refine RW.opN (And.intro (zfr_lit) (And.intro (z0) (And.intro (z1) (And.intro (z2) (And.intro (z3) (And.intro (g0) (And.intro (g1) (And.intro (g2) (And.intro (g3) (g4)))))))))) (h := ?_) | refine RW.skip0 (h := ?_) | (refine RW.callC (h := ?_); (first | refine CallP.mk (And.intro (zfr_lit) (And.intro (z0) (And.intro (z1) (And.intro (z2) (And.intro (z3) (And.intro (g0) (And.intro (g1) (And.intro (g2) (And.intro (g3) (g4)))))))))) (hc := known_at _ (by first | assumption | omega) hwd _) (h := ?_) | refine CallP.mk (And.intro (zfr_lit) (And.intro (z0) (And.intro (z1) (And.intro (z2) (And.intro (z3) (And.intro (g0) (And.intro (g1) (And.intro (g2) (And.intro (g3) (g4)))))))))) (hc := hm _) (h := ?_))))); refine RW.nil ⟨by kernel_rfl, Pruned.mk (h := ?_)⟩)
  refine SW.condF rfl (SW.seq ?_)
  have hbad : ∀ h : most < 1 ∨ most > 64, (if true = false then SV.tup [.agg zFr, i64 2] else if most < 1 ∨ most > 64 then .tup [.agg zFr, i64 2] else mayR (mayV 1 fr to (dltL l v most)) (frD 1 fr to (knownV l) (.d (rowV (dltL l v most)))) 3) = .tup [.agg zFr, i64 2] := fun h => by rw [if_neg (by simp), if_pos h]
  refine Classical.byCases (fun h1 : most < 1 => ?_) fun h1 => ?_
  · have q1 : decide (most < 1) = true := by simpa using h1
    rw [hbad (.inl h1)]
    (refine SW.regL [0, 1, 2, 3, 4, 8, 9, 10, 11, 12, 13, 14, 24, 29, 39, 40, 45] mixed ?_; (repeat (first | refine RW.ro (And.intro (zfr_lit) (q1)) (h := ?_) | refine RW.skip (h := ?_) | refine RW.op (And.intro (zfr_lit) (q1)) (h := ?_) | refine RW.opN (And.intro (zfr_lit) (q1)) (h := ?_) | refine RW.skip0 (h := ?_) | (refine RW.callC (h := ?_); (first | refine CallP.mk (And.intro (zfr_lit) (q1)) (hc := known_at _ (by first | assumption | omega) hwd _) (h := ?_) | refine CallP.mk (And.intro (zfr_lit) (q1)) (hc := hm _) (h := ?_))))); refine RW.nil ⟨by kernel_rfl, Pruned.mk (h := ?_)⟩)
    refine SW.condT rfl ?_
    (repeat (first | refine SW.seq ?_ | refine SW.block ?_ | (refine SW.regL [0, 1, 2, 3, 4, 8, 9, 10, 11, 12, 13, 14, 24, 29, 39, 40, 45] mixed ?_; (repeat (first | refine RW.ro (And.intro (zfr_lit) (And.intro (z0) (And.intro (z1) (And.intro (z2) (And.intro (z3) (And.intro (g0) (And.intro (g1) (And.intro (g2) (And.intro (g3) (g4)))))))))) (h := ?_) | refine RW.skip (h := ?_) | refine RW.op (And.intro (zfr_lit) (And.intro (z0) (And.intro (z1) (And.intro (z2) (And.intro (z3) (And.intro (g0) (And.intro (g1) (And.intro (g2) (And.intro (g3) (g4)))))))))) (h := ?_) | refine RW.opN (And.intro (zfr_lit) (And.intro (z0) (And.intro (z1) (And.intro (z2) (And.intro (z3) (And.intro (g0) (And.intro (g1) (And.intro (g2) (And.intro (g3) (g4)))))))))) (h := ?_) | refine RW.skip0 (h := ?_) | (refine RW.callC (h := ?_); (first | refine CallP.mk (And.intro (zfr_lit) (And.intro (z0) (And.intro (z1) (And.intro (z2) (And.intro (z3) (And.intro (g0) (And.intro (g1) (And.intro (g2) (And.intro (g3) (g4)))))))))) (hc := known_at _ (by first | assumption | omega) hwd _) (h := ?_) | refine CallP.mk (And.intro (zfr_lit) (And.intro (z0) (And.intro (z1) (And.intro (z2) (And.intro (z3) (And.intro (g0) (And.intro (g1) (And.intro (g2) (And.intro (g3) (g4)))))))))) (hc := hm _) (h := ?_))))); refine RW.nil ⟨by kernel_rfl, Pruned.mk (h := ?_)⟩) | refine SW.skip ?_ | refine SW.exit ?_ | refine SW.ret ?_ | refine SW.condT rfl ?_ | refine SW.condF rfl ?_))
    exact End.mk [] (h2 := by simp [ldo, z1]) (h4 := ⟨rfl, rfl⟩)
  have q1 : decide (most < 1) = false := by simpa using h1
  refine Classical.byCases (fun h2 : most > 64 => ?_) fun h2 => ?_
  · have q2 : decide (most > 64) = true := by simpa using h2
    rw [hbad (.inr h2)]
    (refine SW.regL [0, 1, 2, 3, 4, 8, 9, 10, 11, 12, 13, 14, 24, 29, 39, 40, 45] mixed ?_; (repeat (first | refine RW.ro (And.intro (zfr_lit) (And.intro (q1) (q2))) (h := ?_) | refine RW.skip (h := ?_) | refine RW.op (And.intro (zfr_lit) (And.intro (q1) (q2))) (h := ?_) | refine RW.opN (And.intro (zfr_lit) (And.intro (q1) (q2))) (h := ?_) | refine RW.skip0 (h := ?_) | (refine RW.callC (h := ?_); (first | refine CallP.mk (And.intro (zfr_lit) (And.intro (q1) (q2))) (hc := known_at _ (by first | assumption | omega) hwd _) (h := ?_) | refine CallP.mk (And.intro (zfr_lit) (And.intro (q1) (q2))) (hc := hm _) (h := ?_))))); refine RW.nil ⟨by kernel_rfl, Pruned.mk (h := ?_)⟩)
    refine SW.condT rfl ?_
    (repeat (first | refine SW.seq ?_ | refine SW.block ?_ | (refine SW.regL [0, 1, 2, 3, 4, 8, 9, 10, 11, 12, 13, 14, 24, 29, 39, 40, 45] mixed ?_; (repeat (first | refine RW.ro (And.intro (zfr_lit) (And.intro (z0) (And.intro (z1) (And.intro (z2) (And.intro (z3) (And.intro (g0) (And.intro (g1) (And.intro (g2) (And.intro (g3) (g4)))))))))) (h := ?_) | refine RW.skip (h := ?_) | refine RW.op (And.intro (zfr_lit) (And.intro (z0) (And.intro (z1) (And.intro (z2) (And.intro (z3) (And.intro (g0) (And.intro (g1) (And.intro (g2) (And.intro (g3) (g4)))))))))) (h := ?_) | refine RW.opN (And.intro (zfr_lit) (And.intro (z0) (And.intro (z1) (And.intro (z2) (And.intro (z3) (And.intro (g0) (And.intro (g1) (And.intro (g2) (And.intro (g3) (g4)))))))))) (h := ?_) | refine RW.skip0 (h := ?_) | (refine RW.callC (h := ?_); (first | refine CallP.mk (And.intro (zfr_lit) (And.intro (z0) (And.intro (z1) (And.intro (z2) (And.intro (z3) (And.intro (g0) (And.intro (g1) (And.intro (g2) (And.intro (g3) (g4)))))))))) (hc := known_at _ (by first | assumption | omega) hwd _) (h := ?_) | refine CallP.mk (And.intro (zfr_lit) (And.intro (z0) (And.intro (z1) (And.intro (z2) (And.intro (z3) (And.intro (g0) (And.intro (g1) (And.intro (g2) (And.intro (g3) (g4)))))))))) (hc := hm _) (h := ?_))))); refine RW.nil ⟨by kernel_rfl, Pruned.mk (h := ?_)⟩) | refine SW.skip ?_ | refine SW.exit ?_ | refine SW.ret ?_ | refine SW.condT rfl ?_ | refine SW.condF rfl ?_))
    exact End.mk [] (h2 := by simp [ldo, z1]) (h4 := ⟨rfl, rfl⟩)
  have q2 : decide (most > 64) = false := by simpa using h2
  (refine SW.regL [0, 1, 2, 3, 4, 8, 9, 10, 11, 12, 13, 14, 24, 29, 39, 40, 45] mixed ?_; (repeat (first | refine RW.ro (And.intro (zfr_lit) (And.intro (q1) (q2))) (h := ?_) | refine RW.skip (h := ?_) | refine RW.op (And.intro (zfr_lit) (And.intro (q1) (q2))) (h := ?_) | refine RW.opN (And.intro (zfr_lit) (And.intro (q1) (q2))) (h := ?_) | refine RW.skip0 (h := ?_) | (refine RW.callC (h := ?_); (first | refine CallP.mk (And.intro (zfr_lit) (And.intro (q1) (q2))) (hc := known_at _ (by first | assumption | omega) hwd _) (h := ?_) | refine CallP.mk (And.intro (zfr_lit) (And.intro (q1) (q2))) (hc := hm _) (h := ?_))))); refine RW.nil ⟨by kernel_rfl, Pruned.mk (h := ?_)⟩)
  refine SW.condF rfl (SW.skip ?_)
  rw [if_neg (by simp), if_neg (by omega)]
  clear hbad hb q1 q2
  obtain ⟨m, rfl⟩ : ∃ m : Nat, most = (m : Int) := ⟨most.toNat, by omega⟩
  have hm0 : 1 ≤ m := by omega
  have hm1 : m < 1000 := by omega
  have hlk : SCd Try.prog gossip_lacked.f [ops l, .agg v.cells] [] 4 2 (.fn (.func gossip_lacked_1.f) [] [.ptr 4 0, .ptr 5 0]) [(4, .box 22 [ops l]), (5, .box 25 v.cells)] := lacked_at l v 4
  refine SW.seq (SW.seq ?_)
  (refine SW.regL [0, 1, 2, 3, 4, 8, 9, 10, 11, 12, 13, 14, 24, 29, 39, 40, 45] mixed ?_; (repeat (first | refine RW.ro (And.intro (zfr_lit) (And.intro (z0) (And.intro (z1) (And.intro (z2) (And.intro (z3) (And.intro (g0) (And.intro (g1) (And.intro (g2) (And.intro (g3) (g4)))))))))) (h := ?_) | refine RW.skip (h := ?_) | refine RW.op (And.intro (zfr_lit) (And.intro (z0) (And.intro (z1) (And.intro (z2) (And.intro (z3) (And.intro (g0) (And.intro (g1) (And.intro (g2) (And.intro (g3) (g4)))))))))) (h := ?_) | refine RW.opN (And.intro (zfr_lit) (And.intro (z0) (And.intro (z1) (And.intro (z2) (And.intro (z3) (And.intro (g0) (And.intro (g1) (And.intro (g2) (And.intro (g3) (g4)))))))))) (h := ?_) | refine RW.skip0 (h := ?_) | (refine RW.callC (h := ?_); (first | refine CallP.mk (And.intro (zfr_lit) (And.intro (z0) (And.intro (z1) (And.intro (z2) (And.intro (z3) (And.intro (g0) (And.intro (g1) (And.intro (g2) (And.intro (g3) (g4)))))))))) (hc := hlk) (h := ?_))))); refine RW.nil ⟨by kernel_rfl, Pruned.mk (h := ?_)⟩)
  refine SW.block (SW.rfun (nk := 2 + 3 * l.length + (lackS l v).length * (1 + 2)) [9, 12] [.ptr 1 0, .ptr 3 0] rfl ⟨rfl, rfl, trivial⟩ fun ca cb hca hcb => ?_)
  have hLl := lackS_len l v
  let s0 : DF 6 3 1 := ⟨none, none, fun _ h => by cases h⟩
  have g5 := fun q => frDokS 1 fr to (knownV l) (.d .nils) q
  have hy := deltaBody (y := 6) (fb := 3) (mb := 1) (B := (lackS l v).length) (by decide) (by decide) (by decide) fr to (knownV l) m hm0 hm1 s0 (by simp [s0, DF.l]; omega) hca hcb
  have hO : Own [(4, Ob.box 22 [ops l]), (5, .box 25 v.cells)] (dfH (y := 6) (fb := 3) (mb := 1) fr to (knownV l) m ca cb) s0 7 := by
    refine ⟨by simp, fun n hn => ?_, fun n hn => ?_, by simp [Hp.ok, Ob.ok, SV.oks, SV.ok, Vec.cells_ok], by simp [dfH, DF.hp, DF.v, s0, Hp.ok, Ob.ok, SV.oks, SV.ok, g5]⟩
    · simp only [List.map_cons, List.map_nil, List.mem_cons, List.not_mem_nil, or_false] at hn; omega
    · simp only [List.map_cons, List.map_nil, List.mem_cons, List.not_mem_nil, or_false] at hn
      rcases hn with rfl | rfl <;> simp [dfH, DF.hp, s0, lk_cons, lk_nil]
  have hsb := lacked1_sb (y := 6) (b := 4) (q := 5) (k := 7) hl.1 hl.2 s0 hy rfl hO
  have hsubF : HSub ((4, .box 22 [ops l]) :: (5, .box 25 v.cells) :: dfH (y := 6) (fb := 3) (mb := 1) fr to (knownV l) m ca cb s0) ((6, .rcd 56 [9, 12] [.ptr 1 0, .ptr 3 0] [40] ca cb .ready none) :: [(4, .box 22 [ops l]), (5, .box 25 v.cells), (3, .box 31 (frD 1 fr to (knownV l) (.d .nils))), (2, .box 31 zFr), (1, .box 3 [i64 m]), (0, .box 25 v.cells)]) := by
    intro n ob hn
    match n with
    | 0 | 2 => simp [dfH, DF.hp, s0, lk_cons, lk_nil] at hn
    | 1 | 3 | 4 | 5 | 6 => simpa [dfH, DF.hp, DF.v, s0, lk_cons, lk_nil, recSt] using hn
    | n + 7 => simp [dfH, DF.hp, s0, lk_cons, lk_nil] at hn
  have hsc := (hsb.here (fun n => n == 1 || n == 3 || n == 4 || n == 5 || n == 6) (fun n hn => ?_) (by simp [SV.oks, SV.ok]) (by simp [dfH, DF.hp, DF.v, s0, Hp.ok, Ob.ok, SV.oks, SV.ok, g5, Vec.cells_ok]) ?_).frame hsubF
  · refine hsc.mono ?_
    rintro r F' ⟨F1, ⟨rfl, xs, s', hon, hpre, hall, ⟨hn0, hn1⟩, rfl⟩, rfl⟩
    have hF := onBy_DF hon rfl rfl
    have key : (s'.pe = none ∨ s'.pe = some (.exit 1)) ∧ s'.l = dltL l v m ∧ (dltL l v m = [] → s'.row = none) := by
      obtain ⟨q0, q1, q2⟩ := hF
      refine Classical.byCases (fun h : s'.pe = none => ?_) fun h => ?_
      · obtain ⟨u1, u2⟩ := q1 h
        have hx : xs = lackS l v := hall (by simp [h])
        have hd : dltL l v m = xs := by
          unfold dltL
          rw [← hx, Int.toNat_natCast, List.take_of_length_le u2]
        exact ⟨.inl h, by rw [u1, hd], fun h => q0 (by rw [← hd, h])⟩
      · obtain ⟨u1, u2, u3⟩ := q2 h
        obtain ⟨t, ht⟩ := hpre
        have hd : dltL l v m = xs.take m := by
          show (osorted (lackL l v)).take _ = _
          rw [← ht, Int.toNat_natCast, List.take_append_of_le_length (by omega)]
        refine ⟨.inr u1, by rw [u2, hd], fun h => ?_⟩
        rw [hd] at h
        have := congrArg List.length h
        rw [List.length_take, List.length_nil] at this; omega
    obtain ⟨hpe, hsl, hrow⟩ := key
    have hdl : (dltL l v m).length < 4611686018427387904 := by
      have : (dltL l v m).length ≤ (lackS l v).length := by unfold dltL; simp; omega
      omega
    have hdw : ∀ x, x ∈ dltL l v m → x.lin := fun x hx => by
      have h1 : x ∈ lackS l v := List.mem_of_mem_take hx
      exact hwl x (lackL_mem ((osorted_perm _).mem_iff.1 h1))
    clear hF hon hpre hall
    obtain ⟨row, pe, hne⟩ := s'
    have hQ2 : ∀ (Q : Exit → St → Prop) st, Q (.exit 1) st = Q .normal st → Q .normal st → RQ Q pe st := fun Q st h1 h2 => by
      rcases hpe with h | h <;> (simp only at h; subst h)
      · exact h2
      · show Q (.exit 1) st; rw [h1]; exact h2
    have hlk := lk_hmrg (ro := false) (h := (6, .rcd 56 [9, 12] [.ptr 1 0, .ptr 3 0] [40] ca cb .ready none) :: [(4, .box 22 [ops l]), (5, .box 25 v.cells), (3, .box 31 (frD 1 fr to (knownV l) (.d .nils))), (2, .box 31 zFr), (1, .box 3 [i64 m]), (0, .box 25 v.cells)]) (F := (4, .box 22 [ops l]) :: (5, .box 25 v.cells) :: dfH (y := 6) (fb := 3) (mb := 1) fr to (knownV l) m ca cb s0) (F' := (4, .box 22 [ops l]) :: (5, .box 25 v.cells) :: dfH (y := 6) (fb := 3) (mb := 1) fr to (knownV l) m ca cb ⟨row, pe, hne⟩) hsubF (fun h => by cases h)
    generalize hmrg false _ _ _ = G at hlk
    have hG : ∀ n ob, lk ((4, Ob.box 22 [ops l]) :: (5, .box 25 v.cells) :: dfH (y := 6) (fb := 3) (mb := 1) fr to (knownV l) m ca cb ⟨row, pe, hne⟩) n = some ob → lk G n = some ob := fun n ob h => by
      rw [hlk, mrg_in (.inr (by rw [h]; simp)), h]
    have hzfr : ∀ n len ds, SV.frzs n len ds zFr = zFr := fun _ _ _ => rfl
    have hG2 : lk G 2 = some (.box 31 zFr) := by
      rw [hlk, mrg_out]
      · simp [lk_cons]
      · simp [dfH, DF.hp, s0, lk_cons, lk_nil]
      · rcases row with _ | ⟨L, rn⟩
        · simp [dfH, DF.hp, lk_cons, lk_nil]
        · obtain ⟨w1, w2, w3⟩ := hne _ rfl
          have : (2 : Nat) ≠ rn := by simp only at w1; omega
          simp [dfH, DF.hp, lk_cons, lk_nil, this]
    refine ⟨pe, hG 6 _ (by simp [dfH, lk_cons]), hQ2 _ _ rfl ?_⟩
    rcases row with _ | ⟨L, rn⟩
    · have hd : dltL l v m = [] := hsl.symm
      have ho : rowV (dltL l v m) = .nils := by rw [hd]; rfl
      refine SW.weak id (st1 := ⟨[(10, .ptr 2 0), (12, .ptr 3 0)], [(2, .box 31 zFr), (3, .box 31 (frD 1 fr to (knownV l) (.d .nils)))], 7⟩) (Weak.same (Nat.zero_le _) (by simp [EnvW, List.lookup, SV.ren, SV.ok]) (by simp [Hp.ok, Ob.ok, frDok]) fun x hx => ?_) ?_
      · simp only [List.mem_cons, List.not_mem_nil, or_false] at hx
        rcases hx with rfl | rfl
        · rw [lk_hdel]; simpa using hG2
        · rw [lk_hdel]; simpa using hG 3 _ (by simp [dfH, DF.v, lk_cons])
      rcases hb2 : mayV 1 fr to (dltL l v m) with _ | _
      · have hm2 := gmayF (h := knownV l) 3 hb2 (rowV_of _) hdl hdw
        rw [ho] at hm2 ⊢
        refine SW.seq ?_
        (refine SW.regL [0, 1, 2, 3, 4, 8, 9, 10, 11, 12, 13, 14, 24, 29, 39, 40, 45] mixed ?_; (repeat (first | refine RW.ro (And.intro (z0) (And.intro (z1) (And.intro (z2) (And.intro (z3) (And.intro (g1) (And.intro (g2) (And.intro (g3) (g4)))))))) (h := ?_) | refine RW.skip (h := ?_) | refine RW.op (And.intro (z0) (And.intro (z1) (And.intro (z2) (And.intro (z3) (And.intro (g1) (And.intro (g2) (And.intro (g3) (g4)))))))) (h := ?_) | refine RW.opN (And.intro (z0) (And.intro (z1) (And.intro (z2) (And.intro (z3) (And.intro (g1) (And.intro (g2) (And.intro (g3) (g4)))))))) (h := ?_) | refine RW.skip0 (h := ?_) | (refine RW.callC (h := ?_); (first | refine CallP.mk (And.intro (z0) (And.intro (z1) (And.intro (z2) (And.intro (z3) (And.intro (g1) (And.intro (g2) (And.intro (g3) (g4)))))))) (hc := hm2 _) (h := ?_))))); refine RW.nil ⟨by kernel_rfl, Pruned.mk (h := ?_)⟩)
        refine SW.ret ?_
        exact End.mk [] (h2 := by simp [ldo, z1]) (h4 := ⟨by rw [mayR]; rfl, rfl⟩)
      · have hm2 := gmayT (h := knownV l) 3 hb2 (rowV_of _) hdl hdw
        rw [ho] at hm2 ⊢
        refine SW.seq ?_
        (refine SW.regL [0, 1, 2, 3, 4, 8, 9, 10, 11, 12, 13, 14, 24, 29, 39, 40, 45] mixed ?_; (repeat (first | refine RW.ro (And.intro (z0) (And.intro (z1) (And.intro (z2) (And.intro (z3) (And.intro (g1) (And.intro (g2) (And.intro (g3) (g4)))))))) (h := ?_) | refine RW.skip (h := ?_) | refine RW.op (And.intro (z0) (And.intro (z1) (And.intro (z2) (And.intro (z3) (And.intro (g1) (And.intro (g2) (And.intro (g3) (g4)))))))) (h := ?_) | refine RW.opN (And.intro (z0) (And.intro (z1) (And.intro (z2) (And.intro (z3) (And.intro (g1) (And.intro (g2) (And.intro (g3) (g4)))))))) (h := ?_) | refine RW.skip0 (h := ?_) | (refine RW.callC (h := ?_); (first | refine CallP.mk (And.intro (z0) (And.intro (z1) (And.intro (z2) (And.intro (z3) (And.intro (g1) (And.intro (g2) (And.intro (g3) (g4)))))))) (hc := hm2 _) (h := ?_))))); refine RW.nil ⟨by kernel_rfl, Pruned.mk (h := ?_)⟩)
        refine SW.ret ?_
        exact End.mk [] (h2 := by simp [ldo, g1]) (h4 := ⟨by rw [mayR]; rfl, rfl⟩) (h5 := by simp [retV, SV.ok, SV.oks, g3, frDok])
    · have hd : L = dltL l v m := hsl
      have hL : L ≠ [] := fun h => by have := hrow (by rw [← hd, h]); cases this
      have ho : rowV (dltL l v m) = .sl L.length (L.flatMap OpD.ds) := by
        rw [← hd]
        cases L with
        | nil => exact absurd rfl hL
        | cons x L => rfl
      obtain ⟨w1, w2, w3⟩ := hne _ rfl
      simp only at w1 w2 w3
      have v1 : rn ≠ 6 := by omega
      have v2 : (2 : Nat) ≠ rn := by omega
      have v3 : (3 : Nat) ≠ rn := by omega
      have v4 : rn ≠ 4 := by omega
      have v5 : rn ≠ 5 := by omega
      refine SW.freezeB rn (e := 48) (sz := 29) (len := L.length) (cs := (L.flatMap OpD.ds).map .d) (L.flatMap OpD.ds) (by rw [lk_hdel]; simpa [v1] using hG rn _ (by simp [dfH, DF.hp, lk_cons, v1, v4, v5, w2, w3])) rfl ?_
      have hfz : ∀ ds, SV.frzs rn L.length ds (frD 1 fr to (knownV l) (.gs rn L.length)) = frD 1 fr to (knownV l) (.d (.sl L.length ds)) := fun ds => by
        simp [frD, SV.frzs, SV.frz, Vec.cells]
      refine SW.weak id (st1 := ⟨[(10, .ptr 2 0), (12, .ptr 3 0)], [(2, .box 31 zFr), (3, .box 31 (frD 1 fr to (knownV l) (.d (.sl L.length (L.flatMap OpD.ds)))))], 7⟩) (Weak.same (Nat.zero_le _) (by simp [EnvW, lookup_frz, List.lookup, SV.frz, SV.ren, SV.ok]) (by simp [Hp.ok, Ob.ok, frDok]) fun x hx => ?_) ?_
      · simp only [List.mem_cons, List.not_mem_nil, or_false] at hx
        rcases hx with rfl | rfl
        · rw [lk_frzH, lk_hdel, lk_hdel]; simp [v2, hG2, Ob.frz, hzfr]
        · have := hG 3 (.box 31 (frD 1 fr to (knownV l) (.gs rn L.length))) (by simp [dfH, DF.v, lk_cons])
          rw [lk_frzH, lk_hdel, lk_hdel]; simp [v3, this, Ob.frz, hfz]
      rcases hb2 : mayV 1 fr to (dltL l v m) with _ | _
      · have hm2 := gmayF (h := knownV l) 3 hb2 (rowV_of _) hdl hdw
        rw [ho] at hm2 ⊢
        refine SW.seq ?_
        (refine SW.regL [0, 1, 2, 3, 4, 8, 9, 10, 11, 12, 13, 14, 24, 29, 39, 40, 45] mixed ?_; (repeat (first | refine RW.ro (And.intro (z0) (And.intro (z1) (And.intro (z2) (And.intro (z3) (And.intro (g1) (And.intro (g2) (And.intro (g3) (g4)))))))) (h := ?_) | refine RW.skip (h := ?_) | refine RW.op (And.intro (z0) (And.intro (z1) (And.intro (z2) (And.intro (z3) (And.intro (g1) (And.intro (g2) (And.intro (g3) (g4)))))))) (h := ?_) | refine RW.opN (And.intro (z0) (And.intro (z1) (And.intro (z2) (And.intro (z3) (And.intro (g1) (And.intro (g2) (And.intro (g3) (g4)))))))) (h := ?_) | refine RW.skip0 (h := ?_) | (refine RW.callC (h := ?_); (first | refine CallP.mk (And.intro (z0) (And.intro (z1) (And.intro (z2) (And.intro (z3) (And.intro (g1) (And.intro (g2) (And.intro (g3) (g4)))))))) (hc := hm2 _) (h := ?_))))); refine RW.nil ⟨by kernel_rfl, Pruned.mk (h := ?_)⟩)
        refine SW.ret ?_
        exact End.mk [] (h2 := by simp [ldo, z1]) (h4 := ⟨by rw [mayR]; rfl, rfl⟩)
      · have hm2 := gmayT (h := knownV l) 3 hb2 (rowV_of _) hdl hdw
        rw [ho] at hm2 ⊢
        refine SW.seq ?_
        (refine SW.regL [0, 1, 2, 3, 4, 8, 9, 10, 11, 12, 13, 14, 24, 29, 39, 40, 45] mixed ?_; (repeat (first | refine RW.ro (And.intro (z0) (And.intro (z1) (And.intro (z2) (And.intro (z3) (And.intro (g1) (And.intro (g2) (And.intro (g3) (g4)))))))) (h := ?_) | refine RW.skip (h := ?_) | refine RW.op (And.intro (z0) (And.intro (z1) (And.intro (z2) (And.intro (z3) (And.intro (g1) (And.intro (g2) (And.intro (g3) (g4)))))))) (h := ?_) | refine RW.opN (And.intro (z0) (And.intro (z1) (And.intro (z2) (And.intro (z3) (And.intro (g1) (And.intro (g2) (And.intro (g3) (g4)))))))) (h := ?_) | refine RW.skip0 (h := ?_) | (refine RW.callC (h := ?_); (first | refine CallP.mk (And.intro (z0) (And.intro (z1) (And.intro (z2) (And.intro (z3) (And.intro (g1) (And.intro (g2) (And.intro (g3) (g4)))))))) (hc := hm2 _) (h := ?_))))); refine RW.nil ⟨by kernel_rfl, Pruned.mk (h := ?_)⟩)
        refine SW.ret ?_
        exact End.mk [] (h2 := by simp [ldo, g1]) (h4 := ⟨by rw [mayR]; rfl, rfl⟩) (h5 := by simp [retV, SV.ok, SV.oks, g3, frDok])
  · simp only [Bool.or_eq_true, beq_iff_eq] at hn
    rcases hn with (((rfl | rfl) | rfl) | rfl) | rfl <;> simp [dfH, lk_cons]
  · rintro r F' ⟨rfl, xs, s', hon, hpre, hall, ⟨hn0, hn1⟩, rfl⟩ h1 h2
    obtain ⟨row, pe, hne⟩ := s'
    refine ⟨rfl, ?_⟩
    have g6 := fun o q => frDokS 1 fr to (knownV l) o q
    rcases row with _ | ⟨L, rn⟩
    · simp [dfH, DF.v, DF.hp, Hp.ok, Ob.ok, SV.oks, SV.ok, g6, Vec.cells_ok]
    · obtain ⟨w1, w2, w3⟩ := hne _ rfl
      simp only at w1
      have he : (lackS l v).length = (osorted (lackL l v)).length := rfl
      have h3 : rn < 7 + (2 + 3 * l.length + (lackS l v).length * (1 + 2)) := by
        simp [dfH, DF.v, DF.hp, Hp.ok, Ob.ok, SV.oks, SV.ok, SV.oks_d, g6, Vec.cells_ok] at h2
        omega
      simp [dfH, DF.v, DF.hp, Hp.ok, Ob.ok, SV.oks, SV.ok, SV.oks_d, g6, Vec.cells_ok]
      omega
theorem dltR_ok (fr to : Nat) (l : List OpD) (v : Vec) (most : Int) (q : Nat → Bool) : (dltR fr to l v most).ok q = true := by
  unfold dltR
  split
  · simp [SV.ok, SV.oks, frDok]
  · split
    · simp [SV.ok, SV.oks, frDok]
    · unfold mayR
      split <;> simp [SV.ok, SV.oks, frDok]
theorem delta_at (fr to : Nat) (l : List OpD) (v : Vec) (most : Int) (hl : OpsOk l) (k : Nat) : SCd Try.prog gossip_Delta.f [u8 fr, u8 to, ops l, .agg v.cells, i64 most] [] k 0 (dltR fr to l v most) [] := (delta_ok fr to l v most hl).sc (dltR_ok _ _ _ _ _ _) k
end Go.Proofs.Ytgjgfamgbhlmfaa

/-
  Gossip: how many deltas.
-/
set_option linter.unusedSectionVars false
set_option linter.unusedVariables false
set_option linter.unusedSimpArgs false
namespace Go.Proofs.Ytgjgfamgbhlmfaa
open Go.Sl Go.Proofs
attribute [local irreducible] SW RW SCd SC CallP Pruned

def rndV (n m : Int) : Int := if n ≤ 0 then 0 else if m ≤ 0 then n else (n - 1) / m + 1
theorem rnd_ref {n m : Int} (hn : 0 < n) (hm : 0 < m) : n / m + (if n % m > 0 then 1 else 0) = (n - 1) / m + 1 := by
  have h1 := Int.mul_ediv_add_emod n m
  have h2 := Int.emod_nonneg n (show m ≠ 0 by omega)
  have h3 := Int.emod_lt_of_pos n hm
  split
  · have e : n - 1 = (n % m - 1) + m * (n / m) := by omega
    have e2 : (n % m - 1) / m = 0 := Int.ediv_eq_zero_of_lt (by omega) (by omega)
    rw [e, Int.add_mul_ediv_left _ _ (show m ≠ 0 by omega), e2]; omega
  · have e : n - 1 = (m - 1) + m * (n / m - 1) := by rw [Int.mul_sub]; omega
    have e2 : (m - 1) / m = 0 := Int.ediv_eq_zero_of_lt (by omega) (by omega)
    rw [e, Int.add_mul_ediv_left _ _ (show m ≠ 0 by omega), e2]; omega
theorem rnd_le {n m : Int} (hn : 0 < n) (hm : 0 < m) : 0 ≤ (n - 1) / m ∧ (n - 1) / m ≤ n - 1 ∧ (n - 1) / m * m ≤ n - 1 ∧ n - 1 < (n - 1) / m * m + m := by
  have h1 := Int.mul_ediv_add_emod (n - 1) m
  have h2 := Int.emod_nonneg (n - 1) (show m ≠ 0 by omega)
  have h3 := Int.emod_lt_of_pos (n - 1) hm
  rw [Int.mul_comm] at h1
  exact ⟨Int.ediv_nonneg (by omega) (by omega), Int.ediv_le_self _ (by omega), by omega, by omega⟩
def i64ok (n : Int) : Prop := -9223372036854775808 ≤ n ∧ n ≤ 9223372036854775807
theorem rnd_ok (n m : Int) (hn : i64ok n) : Go.Sl.Pure Try.prog gossip_Rounds.f [i64 n, i64 m] (i64 (rndV n m)) := by
  obtain ⟨b1, b2⟩ := hn
  refine gossip_Rounds.enter (by first | rfl | simp [SV.ok, SV.oks]) (by first | rfl | simp [Hp.ok, Ob.ok, SV.ok, SV.oks, Vec.cells_ok]) (by simp) ?_
  dsimp only [gossip_Rounds.s, Co.M, Co.G, Co.J, Co.H, Co.N, Co.F, Co.C, Co.Z, Co.B, Co.b8, Co.b32, Co.b64, Co.i6, Co.z8, Co.z29]
  refine SW.seq ?_
  (refine SW.regL [0, 1, 4, 5, 8] mixed ?_; (repeat (first | refine RW.ro bq_tt (h := ?_) | refine RW.skip (h := ?_) | refine RW.op bq_tt (h := ?_) | refine RW.opN bq_tt (h := ?_) | refine RW.skip0 (h := ?_))); refine RW.nil ⟨by kernel_rfl, Pruned.mk (h := ?_)⟩)
  unfold rndV
  refine Classical.byCases (fun h1 : n ≤ 0 => ?_) fun h1 => ?_
  · have q1 : decide (n ≤ 0) = true := by simpa using h1
    rw [if_pos h1]
    (repeat (first | refine SW.seq ?_ | refine SW.block ?_ | (refine SW.regL [0, 1, 4, 5, 8] mixed ?_; (repeat (first | refine RW.ro (q1) (h := ?_) | refine RW.skip (h := ?_) | refine RW.op (q1) (h := ?_) | refine RW.opN (q1) (h := ?_) | refine RW.skip0 (h := ?_))); refine RW.nil ⟨by kernel_rfl, Pruned.mk (h := ?_)⟩) | refine SW.skip ?_ | refine SW.exit ?_ | refine SW.ret ?_ | refine SW.condT rfl ?_ | refine SW.condF rfl ?_))
    exact End.mk [] (h4 := ⟨rfl, rfl⟩)
  have q1 : decide (n ≤ 0) = false := by simpa using h1
  rw [if_neg h1]
  refine Classical.byCases (fun h2 : m ≤ 0 => ?_) fun h2 => ?_
  · have q2 : decide (m ≤ 0) = true := by simpa using h2
    rw [if_pos h2]
    (repeat (first | refine SW.seq ?_ | refine SW.block ?_ | (refine SW.regL [0, 1, 4, 5, 8] mixed ?_; (repeat (first | refine RW.ro (And.intro (q1) (q2)) (h := ?_) | refine RW.skip (h := ?_) | refine RW.op (And.intro (q1) (q2)) (h := ?_) | refine RW.opN (And.intro (q1) (q2)) (h := ?_) | refine RW.skip0 (h := ?_))); refine RW.nil ⟨by kernel_rfl, Pruned.mk (h := ?_)⟩) | refine SW.skip ?_ | refine SW.exit ?_ | refine SW.ret ?_ | refine SW.condT rfl ?_ | refine SW.condF rfl ?_))
    exact End.mk [] (h4 := ⟨rfl, rfl⟩)
  have q2 : decide (m ≤ 0) = false := by simpa using h2
  rw [if_neg h2]
  obtain ⟨r1, r2, r3, r4⟩ := rnd_le (n := n) (m := m) (by omega) (by omega)
  have t1 : IntKind.i64.wrap (n - 1) = n - 1 := wrap_i64 _ (by omega)
  have t2 : (n - 1).tdiv m = (n - 1) / m := Int.tdiv_eq_ediv_of_nonneg (by omega)
  have t3 : IntKind.i64.wrap ((n - 1) / m) = (n - 1) / m := wrap_i64 _ (by omega)
  have t4 : IntKind.i64.wrap ((n - 1) / m + 1) = (n - 1) / m + 1 := wrap_i64 _ (by omega)
  (repeat (first | refine SW.seq ?_ | refine SW.block ?_ | (refine SW.regL [0, 1, 4, 5, 8] mixed ?_; (repeat (first | refine RW.ro (And.intro (q1) (And.intro (q2) (And.intro (t1) (And.intro (t2) (And.intro (t3) (t4)))))) (h := ?_) | refine RW.skip (h := ?_) | refine RW.op (And.intro (q1) (And.intro (q2) (And.intro (t1) (And.intro (t2) (And.intro (t3) (t4)))))) (h := ?_) | refine RW.opN (And.intro (q1) (And.intro (q2) (And.intro (t1) (And.intro (t2) (And.intro (t3) (t4)))))) (h := ?_) | refine RW.skip0 (h := ?_))); refine RW.nil ⟨by kernel_rfl, Pruned.mk (h := ?_)⟩) | refine SW.skip ?_ | refine SW.exit ?_ | refine SW.ret ?_ | refine SW.condT rfl ?_ | refine SW.condF rfl ?_))
  exact End.mk [] (h4 := ⟨rfl, rfl⟩)
theorem rnd_at (n m : Int) (hn : i64ok n) (k : Nat) : SCd Try.prog gossip_Rounds.f [i64 n, i64 m] [] k 0 (i64 (rndV n m)) [] := (rnd_ok n m hn).sc rfl k
end Go.Proofs.Ytgjgfamgbhlmfaa

/-
  Gossip: calls whose answers the document fixes.
-/
set_option linter.unusedSectionVars false
set_option linter.unusedVariables false
set_option linter.unusedSimpArgs false
namespace Go.Proofs.Ytgjgfamgbhlmfaa
open Go.Sl Go.Proofs
attribute [local irreducible] SW RW SCd SC CallP Pruned

def vc (a b : Nat) : Vec := ⟨a, b, 0, 0, 0, 0, 0, 0⟩
def opT (r n : Nat) (dep : Vec) (t : Nat) (ln : DV) : OpD := ⟨⟨r, n⟩, dep, t, 1, ⟨r, n⟩, 0, ⟨0, 0⟩, 0, 0, 0, 0, ⟨0, 0⟩, ⟨0, 0⟩, 0, 0, 0, ln⟩
def opA (ln : DV) : OpD := opT 0 1 Vec.zero 1 ln
def opB (ln : DV) : OpD := opT 1 1 (vc 1 0) 2 ln
def opC (ln : DV) : OpD := opT 0 2 (vc 1 1) 3 ln
def threeL (ln : DV) : List OpD := [opC ln, opA ln, opB ln]
abbrev z0l : DV := .sl 0 []
theorem three_lin : OpsOk (threeL z0l) := by
  refine ⟨by simp [threeL], fun x hx => ?_⟩
  simp only [threeL, List.mem_cons, List.not_mem_nil, or_false] at hx
  have h0 : ∀ r n dep t, (opT r n dep t z0l).lin := fun r n dep t => (OpD.lin.of (l := []) rfl (by simp)).1
  rcases hx with rfl | rfl | rfl
  · exact ⟨h0 _ _ _ _, by rw [show (opC z0l).cl = [] from (OpD.lin.of (o := opC z0l) (l := []) rfl (by simp)).2]; simp, by simp [opC, opT, Dt.wf]⟩
  · exact ⟨h0 _ _ _ _, by rw [show (opA z0l).cl = [] from (OpD.lin.of (o := opA z0l) (l := []) rfl (by simp)).2]; simp, by simp [opA, opT, Dt.wf]⟩
  · exact ⟨h0 _ _ _ _, by rw [show (opB z0l).cl = [] from (OpD.lin.of (o := opB z0l) (l := []) rfl (by simp)).2]; simp, by simp [opB, opT, Dt.wf]⟩
theorem SC.resd {P : Program} {f : FuncId} {args : List SV} {F F' : Hp} {k nk : Nat} {r r' : SV} (h : SCd P f args F k nk r F') (hr : ∀ (p : Nat → Prop) μ M u, Rp p μ M r u → Rp p μ M r' u) : SCd P f args F k nk r' F' := by
  unfold SCd SC at h ⊢
  refine ⟨h.1, fun p μ M w vals h1 h2 h3 => (h.2 p μ M w vals h1 h2 h3).mono ?_⟩
  rintro e w' ⟨r0, F0, μ', M', u, a, ⟨rfl, rfl⟩, b, c⟩
  exact ⟨r', F0, μ', M', u, a, ⟨rfl, rfl⟩, hr _ _ _ _ b, c⟩
def nz : DV → DV
  | .nils => .sl 0 []
  | x => x
theorem repR_nz {M : Mem} {b : Nat} : ∀ (ds : List DV) (o : Nat), RepR M b o ds → RepR M b o (ds.map nz)
  | [], _, h => h
  | x :: ds, o, h => by
    simp only [RepR, List.map_cons] at h ⊢
    obtain ⟨⟨u, hu, hr⟩, h2⟩ := h
    refine ⟨⟨u, hu, ?_⟩, repR_nz ds _ h2⟩
    cases x <;> first | exact hr | exact hr.nils_sl
theorem zop_lit : [SV.d (.int .u8 0), .d (.int .u32 0), .d (.int .u32 0), .d (.int .u32 0), .d (.int .u32 0), .d (.int .u32 0), .d (.int .u32 0), .d (.int .u32 0), .d (.int .u32 0), .d (.int .u32 0), .d (.int .u64 0), .d (.int .u32 0), .d (.int .u8 0), .d (.int .u32 0), .d (.int .u8 0), .d (.int .u8 0), .d (.int .u32 0), .d (.int .u32 0), .d (.int .u8 0), .d (.int .u8 0), .d (.int .u64 0), .d (.int .u8 0), .d (.int .u32 0), .d (.int .u8 0), .d (.int .u32 0), .d (.int .u32 0), .d (.int .u32 0), .d (.int .u32 0), .d .nils] = zOp := rfl
set_option maxRecDepth 100000 in
theorem lit3 {P : Program} {env : List (Nat × SV)} {hp : Hp} {k d p p2 p3 : Nat} {r : List SI} {K : St → List (Bool × List Nat) → Prop} {a b c : OpD} {z : List SV} (hz : z = zOp ++ zOp ++ zOp)
    (ha : env.lookup p = some (.agg a.cells)) (hb : env.lookup p2 = some (.agg b.cells)) (hc : env.lookup p3 = some (.agg c.cells))
    (h : RW P r ⟨(d, ops [a, b, c]) :: env, hp, k⟩ fun st' ts => K st' ((false, []) :: ts)) : RW P (⟨some d, .bsl 48 29 3 z [(0, 29, .t p), (29, 29, .t p2), (58, 29, .t p3)], none⟩ :: r) ⟨env, hp, k⟩ K := by
  subst hz
  refine RW.cons (e := ⟨ops [a, b, c], [], [], 0, ((29 = 29 ∧ 0 + 29 ≤ 87 ∧ 29 = 29 ∧ 29 + 29 ≤ 87 ∧ 29 = 29 ∧ 58 + 29 ≤ 87 ∧ True))⟩) (fun crs => ⟨.frz :: crs, runOp_some (.inl rfl) ?_⟩) (by show 29 = 29 ∧ 0 + 29 ≤ 87 ∧ 29 = 29 ∧ 29 + 29 ≤ 87 ∧ 29 = 29 ∧ 58 + 29 ≤ 87 ∧ True; decide) ?_
  · have h1 : evp (fun t => env.lookup t) [(0, 29, X.t p), (29, 29, X.t p2), (58, 29, X.t p3)] = some [(0, 29, .agg a.cells), (29, 29, .agg b.cells), (58, 29, .agg c.cells)] := by
      simp only [evp, ev, ha, hb, hc]
    have h2 : bldS (zOp ++ zOp ++ zOp) [(0, 29, .agg a.cells), (29, 29, .agg b.cells), (58, 29, .agg c.cells)] = some (a.cells ++ b.cells ++ c.cells, ((29 = 29 ∧ 0 + 29 ≤ 87 ∧ 29 = 29 ∧ 29 + 29 ≤ 87 ∧ 29 = 29 ∧ 58 + 29 ≤ 87 ∧ True))) := rfl
    have h3 : datas (a.cells ++ b.cells ++ c.cells) = some ([a, b, c].flatMap OpD.ds) := rfl
    have h4 : (a.cells ++ b.cells ++ c.cells).all SV.isOne = true := rfl
    simp only [goOp, sop, h1, h2, h3, h4, if_true, Bool.false_or]
    rfl
  · exact h
set_option maxRecDepth 100000 in
theorem lit2 {P : Program} {env : List (Nat × SV)} {hp : Hp} {k d p p2 : Nat} {r : List SI} {K : St → List (Bool × List Nat) → Prop} {a b : OpD} {z : List SV} (hz : z = zOp ++ zOp)
    (ha : env.lookup p = some (.agg a.cells)) (hb : env.lookup p2 = some (.agg b.cells))
    (h : RW P r ⟨(d, ops [a, b]) :: env, hp, k⟩ fun st' ts => K st' ((false, []) :: ts)) : RW P (⟨some d, .bsl 48 29 2 z [(0, 29, .t p), (29, 29, .t p2)], none⟩ :: r) ⟨env, hp, k⟩ K := by
  subst hz
  refine RW.cons (e := ⟨ops [a, b], [], [], 0, ((29 = 29 ∧ 0 + 29 ≤ 58 ∧ 29 = 29 ∧ 29 + 29 ≤ 58 ∧ True))⟩) (fun crs => ⟨.frz :: crs, runOp_some (.inl rfl) ?_⟩) (by show 29 = 29 ∧ 0 + 29 ≤ 58 ∧ 29 = 29 ∧ 29 + 29 ≤ 58 ∧ True; decide) ?_
  · have h1 : evp (fun t => env.lookup t) [(0, 29, X.t p), (29, 29, X.t p2)] = some [(0, 29, .agg a.cells), (29, 29, .agg b.cells)] := by
      simp only [evp, ev, ha, hb]
    have h2 : bldS (zOp ++ zOp) [(0, 29, .agg a.cells), (29, 29, .agg b.cells)] = some (a.cells ++ b.cells, ((29 = 29 ∧ 0 + 29 ≤ 58 ∧ 29 = 29 ∧ 29 + 29 ≤ 58 ∧ True))) := rfl
    have h3 : datas (a.cells ++ b.cells) = some ([a, b].flatMap OpD.ds) := rfl
    have h4 : (a.cells ++ b.cells).all SV.isOne = true := rfl
    simp only [goOp, sop, h1, h2, h3, h4, if_true, Bool.false_or]
    rfl
  · exact h
set_option maxHeartbeats 1000000 in
theorem three_ok : Go.Sl.Pure Try.prog law14_three.f [] (ops (threeL .nils)) := by
  refine law14_three.enter (by first | rfl | simp [SV.ok, SV.oks]) (by first | rfl | simp [Hp.ok, Ob.ok, SV.ok, SV.oks, Vec.cells_ok]) (by simp) ?_
  dsimp only [law14_three.s, Co.M, Co.G, Co.J, Co.H, Co.N, Co.F, Co.C, Co.Z, Co.B, Co.b8, Co.b32, Co.b64, Co.i6, Co.z8, Co.z29]
  refine SW.seq ?_
  (refine SW.regL [0, 1, 2, 3] mixed ?_; (repeat (first | refine RW.ro bq_tt (h := ?_) | refine RW.skip (h := ?_) | refine RW.op bq_tt (h := ?_) | refine RW.opN bq_tt (h := ?_) | refine RW.skip0 (h := ?_) | refine lit3 rfl rfl rfl rfl (h := ?_))); refine RW.nil ⟨by kernel_rfl, Pruned.mk (h := ?_)⟩)
  have fA : spl (spl (spl (spl OpD.zero.cells 0 (Dt.mk 0 1).cells) 10 [SV.d (.int .u64 1)]) 11 [SV.d (.int .u32 1)]) 12 (Dt.mk 0 1).cells = (opA .nils).cells := rfl
  have fB : spl (spl (spl (spl (spl OpD.zero.cells 0 (Dt.mk 1 1).cells) 2 (vc 1 0).cells) 10 [SV.d (.int .u64 2)]) 11 [SV.d (.int .u32 1)]) 12 (Dt.mk 1 1).cells = (opB .nils).cells := rfl
  have fC : spl (spl (spl (spl (spl OpD.zero.cells 0 (Dt.mk 0 2).cells) 2 (vc 1 1).cells) 10 [SV.d (.int .u64 3)]) 11 [SV.d (.int .u32 1)]) 12 (Dt.mk 0 2).cells = (opC .nils).cells := rfl
  have v1 : spl Vec.zero.cells 0 [SV.d (.int .u32 1)] = (vc 1 0).cells := rfl
  have v2 : spl (vc 1 0).cells 1 [SV.d (.int .u32 1)] = (vc 1 1).cells := rfl
  have sa : ∀ x : OpD, spl OpD.zero.cells 0 x.cells = x.cells := fun _ => rfl
  have ta : ∀ x : OpD, List.take 29 x.cells = x.cells := fun _ => rfl
  have la : ∀ x : OpD, x.cells.length = 29 := fun _ => rfl
  have oa : ∀ x : OpD, x.cells.all SV.isOne = true := fun x => x.cells_one
  refine SW.seq ?_
  (refine SW.regL [0, 1, 2, 3] mixed ?_; (repeat (first | refine RW.ro (And.intro (fA) (And.intro (sa) (And.intro (oa) (la)))) (h := ?_) | refine RW.skip (h := ?_) | refine RW.op (And.intro (fA) (And.intro (sa) (And.intro (oa) (la)))) (h := ?_) | refine RW.opN (And.intro (fA) (And.intro (sa) (And.intro (oa) (la)))) (h := ?_) | refine RW.skip0 (h := ?_) | refine lit3 rfl rfl rfl rfl (h := ?_))); refine RW.nil ⟨by kernel_rfl, Pruned.mk (h := ?_)⟩)
  refine SW.seq ?_
  (refine SW.regL [0, 1, 2, 3] mixed ?_; (repeat (first | refine RW.ro (And.intro (fB) (And.intro (v1) (And.intro (v2) (And.intro (sa) (And.intro (oa) (la)))))) (h := ?_) | refine RW.skip (h := ?_) | refine RW.op (And.intro (fB) (And.intro (v1) (And.intro (v2) (And.intro (sa) (And.intro (oa) (la)))))) (h := ?_) | refine RW.opN (And.intro (fB) (And.intro (v1) (And.intro (v2) (And.intro (sa) (And.intro (oa) (la)))))) (h := ?_) | refine RW.skip0 (h := ?_) | refine lit3 rfl rfl rfl rfl (h := ?_))); refine RW.nil ⟨by kernel_rfl, Pruned.mk (h := ?_)⟩)
  refine SW.seq ?_
  (refine SW.regL [0, 1, 2, 3] mixed ?_; (repeat (first | refine RW.ro (And.intro (fC) (And.intro (v1) (And.intro (v2) (And.intro (sa) (And.intro (oa) (la)))))) (h := ?_) | refine RW.skip (h := ?_) | refine RW.op (And.intro (fC) (And.intro (v1) (And.intro (v2) (And.intro (sa) (And.intro (oa) (la)))))) (h := ?_) | refine RW.opN (And.intro (fC) (And.intro (v1) (And.intro (v2) (And.intro (sa) (And.intro (oa) (la)))))) (h := ?_) | refine RW.skip0 (h := ?_) | refine lit3 rfl rfl rfl rfl (h := ?_))); refine RW.nil ⟨by kernel_rfl, Pruned.mk (h := ?_)⟩)
  refine SW.seq ?_
  (refine SW.regL [0, 1, 2, 3] mixed ?_; (repeat (first | refine RW.ro (And.intro (ta) (And.intro (oa) (la))) (h := ?_) | refine RW.skip (h := ?_) | refine RW.op (And.intro (ta) (And.intro (oa) (la))) (h := ?_) | refine RW.opN (And.intro (ta) (And.intro (oa) (la))) (h := ?_) | refine RW.skip0 (h := ?_) | refine lit3 rfl rfl rfl rfl (h := ?_))); refine RW.nil ⟨by kernel_rfl, Pruned.mk (h := ?_)⟩)
  refine SW.ret ?_
  exact End.mk [] (h4 := ⟨rfl, rfl⟩)
theorem three_at (k : Nat) : SCd Try.prog law14_three.f [] [] k 0 (ops (threeL z0l)) [] := by
  have h0 : SCd Try.prog law14_three.f [] [] k 0 (ops (threeL .nils)) [] := three_ok.sc rfl k
  refine SC.resd h0 fun p μ M u hu => ?_
  rw [Rp.d_iff] at hu ⊢
  simp only [RepD] at hu ⊢
  obtain ⟨A, c, rfl, h1, h2, h3⟩ := hu
  refine ⟨A, c, rfl, h1, fun h => by simp [threeL] at h, fun h => ?_⟩
  obtain ⟨b, o, rfl, h4⟩ := h3 (by simp [threeL])
  exact ⟨b, o, rfl, repR_nz _ o h4⟩
end Go.Proofs.Ytgjgfamgbhlmfaa

/-
  Gossip: calls whose answers the document fixes.
-/
set_option linter.unusedSectionVars false
set_option linter.unusedVariables false
set_option linter.unusedSimpArgs false
namespace Go.Proofs.Ytgjgfamgbhlmfaa
open Go.Sl Go.Proofs
attribute [local irreducible] SW RW SCd SC CallP Pruned

def rAB : DV := .sl 2 ([opA z0l, opB z0l].flatMap OpD.ds)
theorem lackS_r (l : List OpD) (v : Vec) : lackS l v = sortedR (lackL l v) := (sortedR_eq (lackL_uniq l v)).symm
theorem lack1 : lackS (threeL z0l) (vc 1 0) = [opB z0l, opC z0l] := by rw [lackS_r]; kernel_rfl
theorem lack2 : lackS (threeL z0l) (vc 2 1) = [] := by rw [lackS_r]; kernel_rfl
theorem lack0 : dltL (threeL z0l) Vec.zero 2 = [opA z0l, opB z0l] := by rw [dltL, lackS_r]; kernel_rfl
theorem kn3 : knownV (threeL z0l) = vc 2 1 := by decide +kernel
theorem dlt1 : dltR 0 1 (threeL z0l) Vec.zero 2 = .tup [.agg (frD 1 0 1 (vc 2 1) (.d rAB)), i64 0] := by
  unfold dltR
  rw [if_neg (by decide), if_neg (by decide), lack0, kn3, mayR, if_pos (by decide), if_pos (by decide)]
  rfl
theorem dlt2 : dltR 0 0 (threeL z0l) Vec.zero 2 = .tup [.agg zFr, i64 2] := by
  unfold dltR
  rw [if_pos (by decide)]
theorem dlt3 : dltR 0 1 (threeL z0l) Vec.zero 65 = .tup [.agg zFr, i64 2] := by
  unfold dltR
  rw [if_neg (by decide), if_pos (by decide)]
theorem hd1 (k : Nat) : SCd Try.prog gossip_Delta.f [.d (.int .u8 0), .d (.int .u8 1), ops (threeL z0l), .agg Vec.zero.cells, .d (.int .i64 2)] [] k 0 (.tup [.agg (frD 1 0 1 (vc 2 1) (.d rAB)), i64 0]) [] := by
  have h := delta_at 0 1 (threeL z0l) Vec.zero 2 three_lin k
  rw [dlt1] at h; exact h
theorem hd2 (k : Nat) : SCd Try.prog gossip_Delta.f [.d (.int .u8 0), .d (.int .u8 0), ops (threeL z0l), .agg Vec.zero.cells, .d (.int .i64 2)] [] k 0 (.tup [.agg zFr, i64 2]) [] := by
  have h := delta_at 0 0 (threeL z0l) Vec.zero 2 three_lin k
  rw [dlt2] at h; exact h
theorem hd3 (k : Nat) : SCd Try.prog gossip_Delta.f [.d (.int .u8 0), .d (.int .u8 1), ops (threeL z0l), .agg Vec.zero.cells, .d (.int .i64 65)] [] k 0 (.tup [.agg zFr, i64 2]) [] := by
  have h := delta_at 0 1 (threeL z0l) Vec.zero 65 three_lin k
  rw [dlt3] at h; exact h
theorem hl1 (k : Nat) : SCd Try.prog gossip_Lacks.f [ops (threeL z0l), .agg (vc 1 0).cells] [] k 0 (ops [opB z0l, opC z0l]) [] := by
  have h := lacks_at (vc 1 0) three_lin k
  rw [lack1] at h; exact h
theorem hl2 (k : Nat) : SCd Try.prog gossip_Lacks.f [ops (threeL z0l), .agg (vc 2 1).cells] [] k 0 (.d (.sl 0 [])) [] := by
  have h := lacks_at (vc 2 1) three_lin k
  rw [lack2] at h; exact h
theorem three_ln (x : OpD) (h : x ∈ threeL z0l) : x.lin := (three_lin.2 x h).1
theorem hsa (k : Nat) : SCd Try.prog ref05_SameAll.f [ops [opB z0l, opC z0l], ops [opB z0l, opC z0l]] [] k 0 (bl true) [] :=
  sameAll_at _ (by simp) (fun x hx => .inr (three_ln x (by simp only [List.mem_cons, List.not_mem_nil, or_false] at hx; rcases hx with rfl | rfl <;> simp [threeL]))) k
theorem hsf (k : Nat) : SCd Try.prog ref06_Same.f [.agg (frD 1 0 1 (vc 2 1) (.d rAB)), .agg (frD 1 0 1 (vc 2 1) (.d rAB))] [] k 0 (bl true) [] :=
  fsame_at 1 0 1 (vc 2 1) rAB rAB [opA z0l, opB z0l] (.inr rfl) (.inr rfl) (by simp) (fun x hx => .inr (three_ln x (by simp only [List.mem_cons, List.not_mem_nil, or_false] at hx; rcases hx with rfl | rfl <;> simp [threeL]))) k
theorem hr1 (k : Nat) : SCd Try.prog gossip_Rounds.f [.d (.int .i64 5), .d (.int .i64 2)] [] k 0 (.d (.int .i64 3)) [] := rnd_at 5 2 ⟨by decide, by decide⟩ k
theorem hr2 (k : Nat) : SCd Try.prog gossip_Rounds.f [.d (.int .i64 4), .d (.int .i64 2)] [] k 0 (.d (.int .i64 2)) [] := rnd_at 4 2 ⟨by decide, by decide⟩ k
theorem hr3 (k : Nat) : SCd Try.prog gossip_Rounds.f [.d (.int .i64 (-1)), .d (.int .i64 2)] [] k 0 (.d (.int .i64 0)) [] := rnd_at (-1) 2 ⟨by decide, by decide⟩ k
theorem hr4 (k : Nat) : SCd Try.prog gossip_Rounds.f [.d (.int .i64 3), .d (.int .i64 0)] [] k 0 (.d (.int .i64 3)) [] := rnd_at 3 0 ⟨by decide, by decide⟩ k

set_option maxHeartbeats 2000000 in
theorem head_ok : Go.Sl.Pure Try.prog law14_head.f [] (bl true) := by
  refine law14_head.enter (by first | rfl | simp [SV.ok, SV.oks]) (by first | rfl | simp [Hp.ok, Ob.ok, SV.ok, SV.oks, Vec.cells_ok]) (by simp) ?_
  dsimp only [law14_head.s, Co.M, Co.G, Co.J, Co.H, Co.N, Co.F, Co.C, Co.Z, Co.B, Co.b8, Co.b32, Co.b64, Co.i6, Co.z8, Co.z29]
  have z0 : zFr.all SV.isOne = true := rfl
  have z1 : zFr.length = 12 := rfl
  have z2 : spl zFr 0 zFr = zFr := rfl
  have z3 : List.take 12 zFr = zFr := rfl
  have g1 : (frD 1 0 1 (vc 2 1) (.d rAB)).length = 12 := rfl
  have g2 : (frD 1 0 1 (vc 2 1) (.d rAB)).all SV.isOne = true := rfl
  have g3 : List.take 12 (frD 1 0 1 (vc 2 1) (.d rAB)) = frD 1 0 1 (vc 2 1) (.d rAB) := rfl
  have g4 : spl zFr 0 (frD 1 0 1 (vc 2 1) (.d rAB)) = frD 1 0 1 (vc 2 1) (.d rAB) := rfl
  have v1 : spl Vec.zero.cells 0 [SV.d (.int .u32 1)] = (vc 1 0).cells := rfl
  have v2 : spl (spl Vec.zero.cells 0 [SV.d (.int .u32 2)]) 1 [SV.d (.int .u32 1)] = (vc 2 1).cells := rfl
  refine SW.seq ?_
  (refine SW.regL [0, 1, 2, 3, 5, 7] mixed ?_; (repeat (first | refine RW.ro bq_tt (h := ?_) | refine RW.skip (h := ?_) | refine RW.op bq_tt (h := ?_) | refine RW.opN bq_tt (h := ?_) | refine RW.skip0 (h := ?_) | refine lit2 rfl rfl rfl (h := ?_) | (refine RW.callC (h := ?_); (first | refine CallP.mk bq_tt (hc := three_at _) (h := ?_) | refine CallP.mk bq_tt (hc := hd1 _) (h := ?_) | refine CallP.mk bq_tt (hc := hd2 _) (h := ?_) | refine CallP.mk bq_tt (hc := hd3 _) (h := ?_) | refine CallP.mk bq_tt (hc := hl1 _) (h := ?_) | refine CallP.mk bq_tt (hc := hl2 _) (h := ?_) | refine CallP.mk bq_tt (hc := hsa _) (h := ?_) | refine CallP.mk bq_tt (hc := hsf _) (h := ?_) | refine CallP.mk bq_tt (hc := hr1 _) (h := ?_) | refine CallP.mk bq_tt (hc := hr2 _) (h := ?_) | refine CallP.mk bq_tt (hc := hr3 _) (h := ?_) | refine CallP.mk bq_tt (hc := hr4 _) (h := ?_))))); refine RW.nil ⟨by kernel_rfl, Pruned.mk (h := ?_)⟩)
  refine SW.seq ?_
  (refine SW.regL [0, 1, 2, 3, 5, 7] mixed ?_; (repeat (first | refine RW.ro bq_tt (h := ?_) | refine RW.skip (h := ?_) | refine RW.op bq_tt (h := ?_) | refine RW.opN bq_tt (h := ?_) | refine RW.skip0 (h := ?_) | refine lit2 rfl rfl rfl (h := ?_) | (refine RW.callC (h := ?_); (first | refine CallP.mk bq_tt (hc := three_at _) (h := ?_) | refine CallP.mk bq_tt (hc := hd1 _) (h := ?_) | refine CallP.mk bq_tt (hc := hd2 _) (h := ?_) | refine CallP.mk bq_tt (hc := hd3 _) (h := ?_) | refine CallP.mk bq_tt (hc := hl1 _) (h := ?_) | refine CallP.mk bq_tt (hc := hl2 _) (h := ?_) | refine CallP.mk bq_tt (hc := hsa _) (h := ?_) | refine CallP.mk bq_tt (hc := hsf _) (h := ?_) | refine CallP.mk bq_tt (hc := hr1 _) (h := ?_) | refine CallP.mk bq_tt (hc := hr2 _) (h := ?_) | refine CallP.mk bq_tt (hc := hr3 _) (h := ?_) | refine CallP.mk bq_tt (hc := hr4 _) (h := ?_))))); refine RW.nil ⟨by kernel_rfl, Pruned.mk (h := ?_)⟩)
  refine SW.seq ?_
  (refine SW.regL [0, 1, 2, 3, 5, 7] mixed ?_; (repeat (first | refine RW.ro (And.intro (zfr_lit) (And.intro (z0) (And.intro (z1) (And.intro (z2) (And.intro (z3) (And.intro (g1) (And.intro (g2) (And.intro (g3) (g4))))))))) (h := ?_) | refine RW.skip (h := ?_) | refine RW.op (And.intro (zfr_lit) (And.intro (z0) (And.intro (z1) (And.intro (z2) (And.intro (z3) (And.intro (g1) (And.intro (g2) (And.intro (g3) (g4))))))))) (h := ?_) | refine RW.opN (And.intro (zfr_lit) (And.intro (z0) (And.intro (z1) (And.intro (z2) (And.intro (z3) (And.intro (g1) (And.intro (g2) (And.intro (g3) (g4))))))))) (h := ?_) | refine RW.skip0 (h := ?_) | refine lit2 rfl rfl rfl (h := ?_) | (refine RW.callC (h := ?_); (first | refine CallP.mk (And.intro (zfr_lit) (And.intro (z0) (And.intro (z1) (And.intro (z2) (And.intro (z3) (And.intro (g1) (And.intro (g2) (And.intro (g3) (g4))))))))) (hc := three_at _) (h := ?_) | refine CallP.mk (And.intro (zfr_lit) (And.intro (z0) (And.intro (z1) (And.intro (z2) (And.intro (z3) (And.intro (g1) (And.intro (g2) (And.intro (g3) (g4))))))))) (hc := hd1 _) (h := ?_) | refine CallP.mk (And.intro (zfr_lit) (And.intro (z0) (And.intro (z1) (And.intro (z2) (And.intro (z3) (And.intro (g1) (And.intro (g2) (And.intro (g3) (g4))))))))) (hc := hd2 _) (h := ?_) | refine CallP.mk (And.intro (zfr_lit) (And.intro (z0) (And.intro (z1) (And.intro (z2) (And.intro (z3) (And.intro (g1) (And.intro (g2) (And.intro (g3) (g4))))))))) (hc := hd3 _) (h := ?_) | refine CallP.mk (And.intro (zfr_lit) (And.intro (z0) (And.intro (z1) (And.intro (z2) (And.intro (z3) (And.intro (g1) (And.intro (g2) (And.intro (g3) (g4))))))))) (hc := hl1 _) (h := ?_) | refine CallP.mk (And.intro (zfr_lit) (And.intro (z0) (And.intro (z1) (And.intro (z2) (And.intro (z3) (And.intro (g1) (And.intro (g2) (And.intro (g3) (g4))))))))) (hc := hl2 _) (h := ?_) | refine CallP.mk (And.intro (zfr_lit) (And.intro (z0) (And.intro (z1) (And.intro (z2) (And.intro (z3) (And.intro (g1) (And.intro (g2) (And.intro (g3) (g4))))))))) (hc := hsa _) (h := ?_) | refine CallP.mk (And.intro (zfr_lit) (And.intro (z0) (And.intro (z1) (And.intro (z2) (And.intro (z3) (And.intro (g1) (And.intro (g2) (And.intro (g3) (g4))))))))) (hc := hsf _) (h := ?_) | refine CallP.mk (And.intro (zfr_lit) (And.intro (z0) (And.intro (z1) (And.intro (z2) (And.intro (z3) (And.intro (g1) (And.intro (g2) (And.intro (g3) (g4))))))))) (hc := hr1 _) (h := ?_) | refine CallP.mk (And.intro (zfr_lit) (And.intro (z0) (And.intro (z1) (And.intro (z2) (And.intro (z3) (And.intro (g1) (And.intro (g2) (And.intro (g3) (g4))))))))) (hc := hr2 _) (h := ?_) | refine CallP.mk (And.intro (zfr_lit) (And.intro (z0) (And.intro (z1) (And.intro (z2) (And.intro (z3) (And.intro (g1) (And.intro (g2) (And.intro (g3) (g4))))))))) (hc := hr3 _) (h := ?_) | refine CallP.mk (And.intro (zfr_lit) (And.intro (z0) (And.intro (z1) (And.intro (z2) (And.intro (z3) (And.intro (g1) (And.intro (g2) (And.intro (g3) (g4))))))))) (hc := hr4 _) (h := ?_))))); refine RW.nil ⟨by kernel_rfl, Pruned.mk (h := ?_)⟩)
  refine SW.seq ?_
  (refine SW.regL [0, 1, 2, 3, 5, 7] mixed ?_; (repeat (first | refine RW.ro (And.intro (zfr_lit) (And.intro (z0) (And.intro (z1) (And.intro (z2) (And.intro (z3) (And.intro (g1) (And.intro (g2) (And.intro (g3) (g4))))))))) (h := ?_) | refine RW.skip (h := ?_) | refine RW.op (And.intro (zfr_lit) (And.intro (z0) (And.intro (z1) (And.intro (z2) (And.intro (z3) (And.intro (g1) (And.intro (g2) (And.intro (g3) (g4))))))))) (h := ?_) | refine RW.opN (And.intro (zfr_lit) (And.intro (z0) (And.intro (z1) (And.intro (z2) (And.intro (z3) (And.intro (g1) (And.intro (g2) (And.intro (g3) (g4))))))))) (h := ?_) | refine RW.skip0 (h := ?_) | refine lit2 rfl rfl rfl (h := ?_) | (refine RW.callC (h := ?_); (first | refine CallP.mk (And.intro (zfr_lit) (And.intro (z0) (And.intro (z1) (And.intro (z2) (And.intro (z3) (And.intro (g1) (And.intro (g2) (And.intro (g3) (g4))))))))) (hc := three_at _) (h := ?_) | refine CallP.mk (And.intro (zfr_lit) (And.intro (z0) (And.intro (z1) (And.intro (z2) (And.intro (z3) (And.intro (g1) (And.intro (g2) (And.intro (g3) (g4))))))))) (hc := hd1 _) (h := ?_) | refine CallP.mk (And.intro (zfr_lit) (And.intro (z0) (And.intro (z1) (And.intro (z2) (And.intro (z3) (And.intro (g1) (And.intro (g2) (And.intro (g3) (g4))))))))) (hc := hd2 _) (h := ?_) | refine CallP.mk (And.intro (zfr_lit) (And.intro (z0) (And.intro (z1) (And.intro (z2) (And.intro (z3) (And.intro (g1) (And.intro (g2) (And.intro (g3) (g4))))))))) (hc := hd3 _) (h := ?_) | refine CallP.mk (And.intro (zfr_lit) (And.intro (z0) (And.intro (z1) (And.intro (z2) (And.intro (z3) (And.intro (g1) (And.intro (g2) (And.intro (g3) (g4))))))))) (hc := hl1 _) (h := ?_) | refine CallP.mk (And.intro (zfr_lit) (And.intro (z0) (And.intro (z1) (And.intro (z2) (And.intro (z3) (And.intro (g1) (And.intro (g2) (And.intro (g3) (g4))))))))) (hc := hl2 _) (h := ?_) | refine CallP.mk (And.intro (zfr_lit) (And.intro (z0) (And.intro (z1) (And.intro (z2) (And.intro (z3) (And.intro (g1) (And.intro (g2) (And.intro (g3) (g4))))))))) (hc := hsa _) (h := ?_) | refine CallP.mk (And.intro (zfr_lit) (And.intro (z0) (And.intro (z1) (And.intro (z2) (And.intro (z3) (And.intro (g1) (And.intro (g2) (And.intro (g3) (g4))))))))) (hc := hsf _) (h := ?_) | refine CallP.mk (And.intro (zfr_lit) (And.intro (z0) (And.intro (z1) (And.intro (z2) (And.intro (z3) (And.intro (g1) (And.intro (g2) (And.intro (g3) (g4))))))))) (hc := hr1 _) (h := ?_) | refine CallP.mk (And.intro (zfr_lit) (And.intro (z0) (And.intro (z1) (And.intro (z2) (And.intro (z3) (And.intro (g1) (And.intro (g2) (And.intro (g3) (g4))))))))) (hc := hr2 _) (h := ?_) | refine CallP.mk (And.intro (zfr_lit) (And.intro (z0) (And.intro (z1) (And.intro (z2) (And.intro (z3) (And.intro (g1) (And.intro (g2) (And.intro (g3) (g4))))))))) (hc := hr3 _) (h := ?_) | refine CallP.mk (And.intro (zfr_lit) (And.intro (z0) (And.intro (z1) (And.intro (z2) (And.intro (z3) (And.intro (g1) (And.intro (g2) (And.intro (g3) (g4))))))))) (hc := hr4 _) (h := ?_))))); refine RW.nil ⟨by kernel_rfl, Pruned.mk (h := ?_)⟩)
  refine SW.seq ?_
  (refine SW.regL [0, 1, 2, 3, 5, 7] mixed ?_; (repeat (first | refine RW.ro (And.intro (zfr_lit) (And.intro (z0) (And.intro (z1) (And.intro (z2) (And.intro (z3) (And.intro (g1) (And.intro (g2) (And.intro (g3) (g4))))))))) (h := ?_) | refine RW.skip (h := ?_) | refine RW.op (And.intro (zfr_lit) (And.intro (z0) (And.intro (z1) (And.intro (z2) (And.intro (z3) (And.intro (g1) (And.intro (g2) (And.intro (g3) (g4))))))))) (h := ?_) | refine RW.opN (And.intro (zfr_lit) (And.intro (z0) (And.intro (z1) (And.intro (z2) (And.intro (z3) (And.intro (g1) (And.intro (g2) (And.intro (g3) (g4))))))))) (h := ?_) | refine RW.skip0 (h := ?_) | refine lit2 rfl rfl rfl (h := ?_) | (refine RW.callC (h := ?_); (first | refine CallP.mk (And.intro (zfr_lit) (And.intro (z0) (And.intro (z1) (And.intro (z2) (And.intro (z3) (And.intro (g1) (And.intro (g2) (And.intro (g3) (g4))))))))) (hc := three_at _) (h := ?_) | refine CallP.mk (And.intro (zfr_lit) (And.intro (z0) (And.intro (z1) (And.intro (z2) (And.intro (z3) (And.intro (g1) (And.intro (g2) (And.intro (g3) (g4))))))))) (hc := hd1 _) (h := ?_) | refine CallP.mk (And.intro (zfr_lit) (And.intro (z0) (And.intro (z1) (And.intro (z2) (And.intro (z3) (And.intro (g1) (And.intro (g2) (And.intro (g3) (g4))))))))) (hc := hd2 _) (h := ?_) | refine CallP.mk (And.intro (zfr_lit) (And.intro (z0) (And.intro (z1) (And.intro (z2) (And.intro (z3) (And.intro (g1) (And.intro (g2) (And.intro (g3) (g4))))))))) (hc := hd3 _) (h := ?_) | refine CallP.mk (And.intro (zfr_lit) (And.intro (z0) (And.intro (z1) (And.intro (z2) (And.intro (z3) (And.intro (g1) (And.intro (g2) (And.intro (g3) (g4))))))))) (hc := hl1 _) (h := ?_) | refine CallP.mk (And.intro (zfr_lit) (And.intro (z0) (And.intro (z1) (And.intro (z2) (And.intro (z3) (And.intro (g1) (And.intro (g2) (And.intro (g3) (g4))))))))) (hc := hl2 _) (h := ?_) | refine CallP.mk (And.intro (zfr_lit) (And.intro (z0) (And.intro (z1) (And.intro (z2) (And.intro (z3) (And.intro (g1) (And.intro (g2) (And.intro (g3) (g4))))))))) (hc := hsa _) (h := ?_) | refine CallP.mk (And.intro (zfr_lit) (And.intro (z0) (And.intro (z1) (And.intro (z2) (And.intro (z3) (And.intro (g1) (And.intro (g2) (And.intro (g3) (g4))))))))) (hc := hsf _) (h := ?_) | refine CallP.mk (And.intro (zfr_lit) (And.intro (z0) (And.intro (z1) (And.intro (z2) (And.intro (z3) (And.intro (g1) (And.intro (g2) (And.intro (g3) (g4))))))))) (hc := hr1 _) (h := ?_) | refine CallP.mk (And.intro (zfr_lit) (And.intro (z0) (And.intro (z1) (And.intro (z2) (And.intro (z3) (And.intro (g1) (And.intro (g2) (And.intro (g3) (g4))))))))) (hc := hr2 _) (h := ?_) | refine CallP.mk (And.intro (zfr_lit) (And.intro (z0) (And.intro (z1) (And.intro (z2) (And.intro (z3) (And.intro (g1) (And.intro (g2) (And.intro (g3) (g4))))))))) (hc := hr3 _) (h := ?_) | refine CallP.mk (And.intro (zfr_lit) (And.intro (z0) (And.intro (z1) (And.intro (z2) (And.intro (z3) (And.intro (g1) (And.intro (g2) (And.intro (g3) (g4))))))))) (hc := hr4 _) (h := ?_))))); refine RW.nil ⟨by kernel_rfl, Pruned.mk (h := ?_)⟩)
  refine SW.seq ?_
  have x0 := op_at (l := threeL z0l) (i := 0) (x := opC z0l) rfl
  have x2 := op_at (l := threeL z0l) (i := 2) (x := opB z0l) rfl
  have y0 := op_room0 (l := threeL z0l) (i := 0) (x := opC z0l) rfl
  have y2 := op_room0 (l := threeL z0l) (i := 2) (x := opB z0l) rfl
  have ln : (threeL z0l).length = 3 := rfl
  (refine SW.regL [0, 1, 2, 3, 5, 7] mixed ?_; (repeat (first | refine RW.ro (And.intro (zfr_lit) (And.intro (z0) (And.intro (z1) (And.intro (z2) (And.intro (z3) (And.intro (g1) (And.intro (g2) (And.intro (g3) (And.intro (g4) (And.intro (v1) (And.intro (v2) (And.intro (x0) (And.intro (x2) (And.intro (y0) (And.intro (y2) (ln)))))))))))))))) (h := ?_) | refine RW.skip (h := ?_) | refine RW.op (And.intro (zfr_lit) (And.intro (z0) (And.intro (z1) (And.intro (z2) (And.intro (z3) (And.intro (g1) (And.intro (g2) (And.intro (g3) (And.intro (g4) (And.intro (v1) (And.intro (v2) (And.intro (x0) (And.intro (x2) (And.intro (y0) (And.intro (y2) (ln)))))))))))))))) (h := ?_) | refine RW.opN (And.intro (zfr_lit) (And.intro (z0) (And.intro (z1) (And.intro (z2) (And.intro (z3) (And.intro (g1) (And.intro (g2) (And.intro (g3) (And.intro (g4) (And.intro (v1) (And.intro (v2) (And.intro (x0) (And.intro (x2) (And.intro (y0) (And.intro (y2) (ln)))))))))))))))) (h := ?_) | refine RW.skip0 (h := ?_) | refine lit2 rfl rfl rfl (h := ?_) | (refine RW.callC (h := ?_); (first | refine CallP.mk (And.intro (zfr_lit) (And.intro (z0) (And.intro (z1) (And.intro (z2) (And.intro (z3) (And.intro (g1) (And.intro (g2) (And.intro (g3) (And.intro (g4) (And.intro (v1) (And.intro (v2) (And.intro (x0) (And.intro (x2) (And.intro (y0) (And.intro (y2) (ln)))))))))))))))) (hc := three_at _) (h := ?_) | refine CallP.mk (And.intro (zfr_lit) (And.intro (z0) (And.intro (z1) (And.intro (z2) (And.intro (z3) (And.intro (g1) (And.intro (g2) (And.intro (g3) (And.intro (g4) (And.intro (v1) (And.intro (v2) (And.intro (x0) (And.intro (x2) (And.intro (y0) (And.intro (y2) (ln)))))))))))))))) (hc := hd1 _) (h := ?_) | refine CallP.mk (And.intro (zfr_lit) (And.intro (z0) (And.intro (z1) (And.intro (z2) (And.intro (z3) (And.intro (g1) (And.intro (g2) (And.intro (g3) (And.intro (g4) (And.intro (v1) (And.intro (v2) (And.intro (x0) (And.intro (x2) (And.intro (y0) (And.intro (y2) (ln)))))))))))))))) (hc := hd2 _) (h := ?_) | refine CallP.mk (And.intro (zfr_lit) (And.intro (z0) (And.intro (z1) (And.intro (z2) (And.intro (z3) (And.intro (g1) (And.intro (g2) (And.intro (g3) (And.intro (g4) (And.intro (v1) (And.intro (v2) (And.intro (x0) (And.intro (x2) (And.intro (y0) (And.intro (y2) (ln)))))))))))))))) (hc := hd3 _) (h := ?_) | refine CallP.mk (And.intro (zfr_lit) (And.intro (z0) (And.intro (z1) (And.intro (z2) (And.intro (z3) (And.intro (g1) (And.intro (g2) (And.intro (g3) (And.intro (g4) (And.intro (v1) (And.intro (v2) (And.intro (x0) (And.intro (x2) (And.intro (y0) (And.intro (y2) (ln)))))))))))))))) (hc := hl1 _) (h := ?_) | refine CallP.mk (And.intro (zfr_lit) (And.intro (z0) (And.intro (z1) (And.intro (z2) (And.intro (z3) (And.intro (g1) (And.intro (g2) (And.intro (g3) (And.intro (g4) (And.intro (v1) (And.intro (v2) (And.intro (x0) (And.intro (x2) (And.intro (y0) (And.intro (y2) (ln)))))))))))))))) (hc := hl2 _) (h := ?_) | refine CallP.mk (And.intro (zfr_lit) (And.intro (z0) (And.intro (z1) (And.intro (z2) (And.intro (z3) (And.intro (g1) (And.intro (g2) (And.intro (g3) (And.intro (g4) (And.intro (v1) (And.intro (v2) (And.intro (x0) (And.intro (x2) (And.intro (y0) (And.intro (y2) (ln)))))))))))))))) (hc := hsa _) (h := ?_) | refine CallP.mk (And.intro (zfr_lit) (And.intro (z0) (And.intro (z1) (And.intro (z2) (And.intro (z3) (And.intro (g1) (And.intro (g2) (And.intro (g3) (And.intro (g4) (And.intro (v1) (And.intro (v2) (And.intro (x0) (And.intro (x2) (And.intro (y0) (And.intro (y2) (ln)))))))))))))))) (hc := hsf _) (h := ?_) | refine CallP.mk (And.intro (zfr_lit) (And.intro (z0) (And.intro (z1) (And.intro (z2) (And.intro (z3) (And.intro (g1) (And.intro (g2) (And.intro (g3) (And.intro (g4) (And.intro (v1) (And.intro (v2) (And.intro (x0) (And.intro (x2) (And.intro (y0) (And.intro (y2) (ln)))))))))))))))) (hc := hr1 _) (h := ?_) | refine CallP.mk (And.intro (zfr_lit) (And.intro (z0) (And.intro (z1) (And.intro (z2) (And.intro (z3) (And.intro (g1) (And.intro (g2) (And.intro (g3) (And.intro (g4) (And.intro (v1) (And.intro (v2) (And.intro (x0) (And.intro (x2) (And.intro (y0) (And.intro (y2) (ln)))))))))))))))) (hc := hr2 _) (h := ?_) | refine CallP.mk (And.intro (zfr_lit) (And.intro (z0) (And.intro (z1) (And.intro (z2) (And.intro (z3) (And.intro (g1) (And.intro (g2) (And.intro (g3) (And.intro (g4) (And.intro (v1) (And.intro (v2) (And.intro (x0) (And.intro (x2) (And.intro (y0) (And.intro (y2) (ln)))))))))))))))) (hc := hr3 _) (h := ?_) | refine CallP.mk (And.intro (zfr_lit) (And.intro (z0) (And.intro (z1) (And.intro (z2) (And.intro (z3) (And.intro (g1) (And.intro (g2) (And.intro (g3) (And.intro (g4) (And.intro (v1) (And.intro (v2) (And.intro (x0) (And.intro (x2) (And.intro (y0) (And.intro (y2) (ln)))))))))))))))) (hc := hr4 _) (h := ?_))))); refine RW.nil ⟨by kernel_rfl, Pruned.mk (h := ?_)⟩)
  refine SW.ret ?_
  exact End.mk [] (h4 := ⟨rfl, rfl⟩)
theorem head_at (k : Nat) : SCd Try.prog law14_head.f [] [] k 0 (bl true) [] := head_ok.sc rfl k
end Go.Proofs.Ytgjgfamgbhlmfaa

/-
  Gossip: which rows are more than a statement looks at, whatever their lines are.
-/
set_option linter.unusedSectionVars false
set_option linter.unusedVariables false
set_option linter.unusedSimpArgs false
namespace Go.Proofs.Ytgjgfamgbhlmfaa
open Go.Sl Go.Proofs
attribute [local irreducible] SW RW SCd SC CallP Pruned

/-- Rows within reach. -/
def OpsB (l : List OpD) : Prop := l.length ≤ 140737488351232 ∧ ∀ x, x ∈ l → x.lin ∧ x.cl.length ≤ 140737488351232 ∧ x.dot.wf
/-- How many lines, counted as the machine counts. -/
def lnS (l : List OpD) : Int := l.foldl (fun a o => IntKind.i64.wrap (a + (o.cl.length : Int))) 0
theorem lnS_snoc (l : List OpD) (x : OpD) : lnS (l ++ [x]) = IntKind.i64.wrap (lnS l + (x.cl.length : Int)) := by
  unfold lnS; rw [List.foldl_append]; rfl
def greatW (l : List OpD) : Bool := decide ((l.length : Int) > 120) || decide (lnS l > 300)
theorem lnS_short {l : List OpD} (hl : l.length ≤ 120) (hd : ∀ o, o ∈ l → o.cl.length ≤ 140737488351232) : ∀ i, i ≤ l.length → 0 ≤ lnS (l.take i) ∧ lnS (l.take i) ≤ i * 140737488351232 ∧ ∀ j, j < i → ∀ o, l[j]? = some o → (o.cl.length : Int) ≤ lnS (l.take i)
  | 0, _ => ⟨by simp [lnS], by simp [lnS], fun j h => by omega⟩
  | i + 1, hi => by
    obtain ⟨h1, h2, h3⟩ := lnS_short hl hd i (by omega)
    obtain ⟨x, hx⟩ := get_of_lt (show i < l.length by omega)
    have k2 := hd x (List.mem_of_getElem? hx)
    have e : lnS (l.take (i + 1)) = lnS (l.take i) + (x.cl.length : Int) := by
      rw [take_snoc hx, lnS_snoc]
      exact wrap_i64 _ (by omega)
    rw [e]
    refine ⟨by omega, by omega, fun j hj o ho => ?_⟩
    by_cases hji : j = i
    · subst hji; rw [hx] at ho; cases ho; omega
    · have := h3 j (by omega) o ho; omega
theorem greatW_short {l : List OpD} (hl : OpsB l) (h : greatW l = false) : l.length ≤ 120 ∧ OpsOk l := by
  unfold greatW at h
  simp only [Bool.or_eq_false_iff, decide_eq_false_iff_not] at h
  have h1 : l.length ≤ 120 := by omega
  refine ⟨h1, by omega, fun x hx => ⟨(hl.2 x hx).1, ?_, (hl.2 x hx).2.2⟩⟩
  obtain ⟨i, hi, rfl⟩ := List.getElem_of_mem hx
  have := (lnS_short h1 (fun o ho => (hl.2 o ho).2.1) l.length (Nat.le_refl _)).2.2 i hi _ (List.getElem?_eq_getElem hi)
  rw [List.take_length] at this
  omega
set_option maxHeartbeats 1000000 in
theorem greatW_ok (l : List OpD) (hl : OpsB l) : Go.Sl.Pure Try.prog law14_great.f [ops l] (bl (greatW l)) := by
  have hl1 := hl.1
  refine law14_great.enter (by first | rfl | simp [SV.ok, SV.oks]) (by first | rfl | simp [Hp.ok, Ob.ok, SV.ok, SV.oks, Vec.cells_ok]) (by simp) ?_
  dsimp only [law14_great.s, Co.M, Co.G, Co.J, Co.H, Co.N, Co.F, Co.C, Co.Z, Co.B, Co.b8, Co.b32, Co.b64, Co.i6, Co.z8, Co.z29]
  (repeat (first | refine SW.seq ?_ | refine SW.block ?_ | (refine SW.regL [0, 2, 3, 4, 8] mixed ?_; (repeat (first | refine RW.ro bq_tt (h := ?_) | refine RW.skip (h := ?_) | refine RW.op bq_tt (h := ?_) | refine RW.opN bq_tt (h := ?_) | refine RW.skip0 (h := ?_))); refine RW.nil ⟨by kernel_rfl, Pruned.mk (h := ?_)⟩) | refine SW.skip ?_ | refine SW.exit ?_ | refine SW.ret ?_ | refine SW.condT rfl ?_ | refine SW.condF rfl ?_))
  refine SW.loopA (α := {i : Nat // i ≤ l.length}) (fun i => ⟨[(4, i64 i.1), (3, i64 (lnS (l.take i.1))), (0, ops l)], [], 0⟩) (fun i => l.length - i.1) ⟨0, by omega⟩ id (And.intro (show lnS [] = 0 from rfl) bq_tt) (round := ?_)
  rintro ⟨i, hi⟩
  dsimp only
  by_cases h : i < l.length
  · have h1 : decide ((i : Int) < l.length) = true := by simp only [decide_eq_true_eq]; omega
    obtain ⟨x, hx⟩ := get_of_lt h
    have hxm := List.mem_of_getElem? hx
    have hxw := (hl.2 x hxm)
    have e2 : IntKind.i64.wrap ((i : Int) + 1) = ((i + 1 : Nat) : Int) := wrap_i64 _ (by omega)
    have e1 : l.take (i + 1) = l.take i ++ [x] := take_snoc hx
    have hsn := lnS_snoc (l.take i) x
    rw [← e1] at hsn
    have e4 : (List.map SV.d (l.flatMap OpD.ds))[i * 29 + 28]? = some (.d (.sl x.cl.length (x.cl.flatMap Cm.ds))) := by rw [op_line hx, hxw.1.eq]
    (repeat (first | refine SW.seq ?_ | refine SW.block ?_ | (refine SW.regL [0, 2, 3, 4, 8] mixed ?_; (repeat (first | refine RW.ro (And.intro (h1) (And.intro (op_room0 hx) (And.intro (e2) (e4)))) (h := ?_) | refine RW.skip (h := ?_) | refine RW.op (And.intro (h1) (And.intro (op_room0 hx) (And.intro (e2) (e4)))) (h := ?_) | refine RW.opN (And.intro (h1) (And.intro (op_room0 hx) (And.intro (e2) (e4)))) (h := ?_) | refine RW.skip0 (h := ?_))); refine RW.nil ⟨by kernel_rfl, Pruned.mk (h := ?_)⟩) | refine SW.skip ?_ | refine SW.exit ?_ | refine SW.ret ?_ | refine SW.condT rfl ?_ | refine SW.condF rfl ?_))
    dsimp only
    exact ⟨⟨i + 1, by omega⟩, id, by show l.length - (i + 1) < _; omega, Weak.mk (And.intro hsn bq_tt)⟩
  · have h1 : decide ((i : Int) < l.length) = false := by simp only [decide_eq_false_iff_not]; omega
    have h2 : i = l.length := by omega
    subst h2
    rw [List.take_length]
    refine SW.seq (SW.seq ?_)
    (refine SW.regL [0, 2, 3, 4, 8] mixed ?_; (repeat (first | refine RW.ro (h1) (h := ?_) | refine RW.skip (h := ?_) | refine RW.op (h1) (h := ?_) | refine RW.opN (h1) (h := ?_) | refine RW.skip0 (h := ?_))); refine RW.nil ⟨by kernel_rfl, Pruned.mk (h := ?_)⟩)
    refine SW.condF rfl (SW.exit ?_)
    refine SW.seq ?_
    unfold greatW
    rcases h3 : decide ((l.length : Int) > 120) with _ | _
    · rcases h4 : decide (lnS l > 300) with _ | _
      · (repeat (first | refine SW.seq ?_ | refine SW.block ?_ | (refine SW.regL [0, 2, 3, 4, 8] mixed ?_; (repeat (first | refine RW.ro (And.intro (h3) (h4)) (h := ?_) | refine RW.skip (h := ?_) | refine RW.op (And.intro (h3) (h4)) (h := ?_) | refine RW.opN (And.intro (h3) (h4)) (h := ?_) | refine RW.skip0 (h := ?_))); refine RW.nil ⟨by kernel_rfl, Pruned.mk (h := ?_)⟩) | refine SW.skip ?_ | refine SW.exit ?_ | refine SW.ret ?_ | refine SW.condT rfl ?_ | refine SW.condF rfl ?_))
        exact End.mk [] (h4 := ⟨rfl, rfl⟩)
      · (repeat (first | refine SW.seq ?_ | refine SW.block ?_ | (refine SW.regL [0, 2, 3, 4, 8] mixed ?_; (repeat (first | refine RW.ro (And.intro (h3) (h4)) (h := ?_) | refine RW.skip (h := ?_) | refine RW.op (And.intro (h3) (h4)) (h := ?_) | refine RW.opN (And.intro (h3) (h4)) (h := ?_) | refine RW.skip0 (h := ?_))); refine RW.nil ⟨by kernel_rfl, Pruned.mk (h := ?_)⟩) | refine SW.skip ?_ | refine SW.exit ?_ | refine SW.ret ?_ | refine SW.condT rfl ?_ | refine SW.condF rfl ?_))
        exact End.mk [] (h4 := ⟨rfl, rfl⟩)
    · (repeat (first | refine SW.seq ?_ | refine SW.block ?_ | (refine SW.regL [0, 2, 3, 4, 8] mixed ?_; (repeat (first | refine RW.ro (h3) (h := ?_) | refine RW.skip (h := ?_) | refine RW.op (h3) (h := ?_) | refine RW.opN (h3) (h := ?_) | refine RW.skip0 (h := ?_))); refine RW.nil ⟨by kernel_rfl, Pruned.mk (h := ?_)⟩) | refine SW.skip ?_ | refine SW.exit ?_ | refine SW.ret ?_ | refine SW.condT rfl ?_ | refine SW.condF rfl ?_))
      exact End.mk [] (h4 := ⟨rfl, rfl⟩)
theorem greatW_at (l : List OpD) (hl : OpsB l) (k : Nat) : SCd Try.prog law14_great.f [ops l] [] k 0 (bl (greatW l)) [] := (greatW_ok l hl).sc rfl k
end Go.Proofs.Ytgjgfamgbhlmfaa
