/-
  Gossip: digests; the document's deltas; great rows.
-/
import Derived.Test.YtpbfnenlbkjhgaaKD
import Derived.Test.YtpbfnenlbkjhgaaK5
import Derived.Test.YtpbfnenlbkjhgaaK4
import Derived.Test.YtpbfnenlbkjhgaaKV
set_option linter.unusedSectionVars false
set_option linter.unusedVariables false
set_option linter.unusedSimpArgs false
namespace Go.Proofs.Ytpbfnenlbkjhgaa
open Go.Sl Go.Proofs
attribute [local irreducible] SW RW SCd SC CallP Pruned

theorem frB0 (fr to : Nat) (h : Vec) : spl (spl (spl (spl zFr 0 [.d (.int .u8 0)]) 1 [u8 fr]) 2 [u8 to]) 3 h.cells = frD 0 fr to h (.d .nils) := rfl
theorem frB0' (fr to : Nat) (h : Vec) : spl (spl (spl zFr 1 [u8 fr]) 2 [u8 to]) 3 h.cells = frD 0 fr to h (.d .nils) := rfl
def digR (fr to : Nat) (v : Vec) : SV := mayR (mayV 0 fr to []) (frD 0 fr to v (.d .nils)) 2
theorem mayR_ok (b : Bool) (kd fr to : Nat) (h : Vec) (o : DV) (e : Int) (q : Nat → Bool) : (mayR b (frD kd fr to h (.d o)) e).ok q = true := by
  unfold mayR
  cases b <;> simp [SV.ok, SV.oks, frDok]
set_option maxHeartbeats 1000000 in
theorem digest_ok (fr to : Nat) (v : Vec) : Go.Sl.Pure Try.prog gossip_Digest.f [u8 fr, u8 to, .agg v.cells] (digR fr to v) := by
  refine gossip_Digest.enter (by simp [SV.ok, SV.oks, Vec.cells_ok]) (by simp [Hp.ok]) (by simp) ?_
  unfold gossip_Digest.s
  have z0 : zFr.all SV.isOne = true := rfl
  have z1 : zFr.length = 12 := rfl
  have z2 : spl zFr 0 zFr = zFr := rfl
  have z3 : List.take 12 zFr = zFr := rfl
  have g0 := frB0 fr to v
  have g1 := frDl 0 fr to v
  have g2 : ∀ x : DV, (frD 0 fr to v (.d x)).all SV.isOne = true := fun x => frDone 0 fr to v (.d x) rfl
  have g3 : ∀ o, List.take 12 (frD 0 fr to v o) = frD 0 fr to v o := fun _ => rfl
  have g4 : ∀ o, spl zFr 0 (frD 0 fr to v o) = frD 0 fr to v o := fun _ => rfl
  refine SW.seq ?_
  (refine SW.regL [0, 1, 2, 5, 6, 7] mixed ?_; (repeat (first | refine RW.ro (And.intro (zfr_lit) (And.intro (z0) (And.intro (z1) (And.intro (z2) (z3))))) (h := ?_) | refine RW.skip (h := ?_) | refine RW.op (And.intro (zfr_lit) (And.intro (z0) (And.intro (z1) (And.intro (z2) (z3))))) (h := ?_) | refine RW.opN (And.intro (zfr_lit) (And.intro (z0) (And.intro (z1) (And.intro (z2) (z3))))) (h := ?_) | refine RW.skip0 (h := ?_))); refine RW.nil ⟨by kernel_rfl, Pruned.mk (h := ?_)⟩)
  unfold digR
  rcases hb : mayV 0 fr to [] with _ | _
  · have hm := gmayF (h := v) (o := .nils) 2 hb (.inl ⟨rfl, rfl⟩) (by simp) (by simp)
    (repeat (first | refine SW.seq ?_ | refine SW.block ?_ | (refine SW.regL [0, 1, 2, 5, 6, 7] mixed ?_; (repeat (first | refine RW.ro (And.intro (zfr_lit) (And.intro (z0) (And.intro (z1) (And.intro (z2) (And.intro (z3) (And.intro (g0) (And.intro (g1) (And.intro (g2) (And.intro (g3) (g4)))))))))) (h := ?_) | refine RW.skip (h := ?_) | refine RW.op (And.intro (zfr_lit) (And.intro (z0) (And.intro (z1) (And.intro (z2) (And.intro (z3) (And.intro (g0) (And.intro (g1) (And.intro (g2) (And.intro (g3) (g4)))))))))) (h := ?_) | refine RW.opN (And.intro (zfr_lit) (And.intro (z0) (And.intro (z1) (And.intro (z2) (And.intro (z3) (And.intro (g0) (And.intro (g1) (And.intro (g2) (And.intro (g3) (g4)))))))))) (h := ?_) | refine RW.skip0 (h := ?_) | (refine RW.callC (h := ?_); (first | refine CallP.mk (And.intro (zfr_lit) (And.intro (z0) (And.intro (z1) (And.intro (z2) (And.intro (z3) (And.intro (g0) (And.intro (g1) (And.intro (g2) (And.intro (g3) (g4)))))))))) (hc := hm _) (h := ?_))))); refine RW.nil ⟨by kernel_rfl, Pruned.mk (h := ?_)⟩) | refine SW.skip ?_ | refine SW.exit ?_ | refine SW.ret ?_ | refine SW.condT rfl ?_ | refine SW.condF rfl ?_))
    exact End.mk [] (h2 := by simp [ldo, z1]) (h4 := ⟨by rw [mayR]; rfl, rfl⟩)
  · have hm := gmayT (h := v) (o := .nils) 2 hb (.inl ⟨rfl, rfl⟩) (by simp) (by simp)
    (repeat (first | refine SW.seq ?_ | refine SW.block ?_ | (refine SW.regL [0, 1, 2, 5, 6, 7] mixed ?_; (repeat (first | refine RW.ro (And.intro (zfr_lit) (And.intro (z0) (And.intro (z1) (And.intro (z2) (And.intro (z3) (And.intro (g0) (And.intro (g1) (And.intro (g2) (And.intro (g3) (g4)))))))))) (h := ?_) | refine RW.skip (h := ?_) | refine RW.op (And.intro (zfr_lit) (And.intro (z0) (And.intro (z1) (And.intro (z2) (And.intro (z3) (And.intro (g0) (And.intro (g1) (And.intro (g2) (And.intro (g3) (g4)))))))))) (h := ?_) | refine RW.opN (And.intro (zfr_lit) (And.intro (z0) (And.intro (z1) (And.intro (z2) (And.intro (z3) (And.intro (g0) (And.intro (g1) (And.intro (g2) (And.intro (g3) (g4)))))))))) (h := ?_) | refine RW.skip0 (h := ?_) | (refine RW.callC (h := ?_); (first | refine CallP.mk (And.intro (zfr_lit) (And.intro (z0) (And.intro (z1) (And.intro (z2) (And.intro (z3) (And.intro (g0) (And.intro (g1) (And.intro (g2) (And.intro (g3) (g4)))))))))) (hc := hm _) (h := ?_))))); refine RW.nil ⟨by kernel_rfl, Pruned.mk (h := ?_)⟩) | refine SW.skip ?_ | refine SW.exit ?_ | refine SW.ret ?_ | refine SW.condT rfl ?_ | refine SW.condF rfl ?_))
    exact End.mk [] (h2 := by simp [ldo, g1]) (h4 := ⟨by rw [mayR]; rfl, rfl⟩) (h5 := by simp [retV, SV.ok, SV.oks, g3, frDok])
theorem digest_at (fr to : Nat) (v : Vec) (k : Nat) : SCd Try.prog gossip_Digest.f [u8 fr, u8 to, .agg v.cells] [] k 0 (digR fr to v) [] := (digest_ok fr to v).sc (mayR_ok _ _ _ _ _ _ _ _) k
set_option maxHeartbeats 1000000 in
theorem rdigest_ok (fr to : Nat) (v : Vec) : Go.Sl.Pure Try.prog ref14_Digest.f [u8 fr, u8 to, .agg v.cells] (digR fr to v) := by
  refine ref14_Digest.enter (by simp [SV.ok, SV.oks, Vec.cells_ok]) (by simp [Hp.ok]) (by simp) ?_
  unfold ref14_Digest.s
  have z0 : zFr.all SV.isOne = true := rfl
  have z1 : zFr.length = 12 := rfl
  have z2 : spl zFr 0 zFr = zFr := rfl
  have z3 : List.take 12 zFr = zFr := rfl
  have g0 := frB0' fr to v
  have g1 := frDl 0 fr to v
  have g2 : ∀ x : DV, (frD 0 fr to v (.d x)).all SV.isOne = true := fun x => frDone 0 fr to v (.d x) rfl
  have g3 : ∀ o, List.take 12 (frD 0 fr to v o) = frD 0 fr to v o := fun _ => rfl
  have g4 : ∀ o, spl zFr 0 (frD 0 fr to v o) = frD 0 fr to v o := fun _ => rfl
  have hm := rmay_at 0 fr to v .nils [] (.inl ⟨rfl, rfl⟩) (by simp) (by simp)
  refine SW.seq ?_
  (refine SW.regL [0, 1, 2, 5, 6, 7, 8, 15] mixed ?_; (repeat (first | refine RW.ro (And.intro (zfr_lit) (And.intro (z0) (And.intro (z1) (And.intro (z2) (z3))))) (h := ?_) | refine RW.skip (h := ?_) | refine RW.op (And.intro (zfr_lit) (And.intro (z0) (And.intro (z1) (And.intro (z2) (z3))))) (h := ?_) | refine RW.opN (And.intro (zfr_lit) (And.intro (z0) (And.intro (z1) (And.intro (z2) (z3))))) (h := ?_) | refine RW.skip0 (h := ?_) | (refine RW.callC (h := ?_); (first | refine CallP.mk (And.intro (zfr_lit) (And.intro (z0) (And.intro (z1) (And.intro (z2) (z3))))) (hc := hm _) (h := ?_))))); refine RW.nil ⟨by kernel_rfl, Pruned.mk (h := ?_)⟩)
  refine SW.seq ?_
  (refine SW.regL [0, 1, 2, 5, 6, 7, 8, 15] mixed ?_; (repeat (first | refine RW.ro (And.intro (zfr_lit) (And.intro (z0) (And.intro (z1) (And.intro (z2) (And.intro (z3) (And.intro (g0) (And.intro (g1) (And.intro (g2) (And.intro (g3) (g4)))))))))) (h := ?_) | refine RW.skip (h := ?_) | refine RW.op (And.intro (zfr_lit) (And.intro (z0) (And.intro (z1) (And.intro (z2) (And.intro (z3) (And.intro (g0) (And.intro (g1) (And.intro (g2) (And.intro (g3) (g4)))))))))) (h := ?_) | refine RW.opN (And.intro (zfr_lit) (And.intro (z0) (And.intro (z1) (And.intro (z2) (And.intro (z3) (And.intro (g0) (And.intro (g1) (And.intro (g2) (And.intro (g3) (g4)))))))))) (h := ?_) | refine RW.skip0 (h := ?_) | (refine RW.callC (h := ?_); (first | refine CallP.mk (And.intro (zfr_lit) (And.intro (z0) (And.intro (z1) (And.intro (z2) (And.intro (z3) (And.intro (g0) (And.intro (g1) (And.intro (g2) (And.intro (g3) (g4)))))))))) (hc := hm _) (h := ?_))))); refine RW.nil ⟨by kernel_rfl, Pruned.mk (h := ?_)⟩)
  unfold digR
  rcases hb : mayV 0 fr to [] with _ | _
  · rw [hb] at hm
    refine SW.seq (SW.seq ?_)
    (refine SW.regL [0, 1, 2, 5, 6, 7, 8, 15] mixed ?_; (repeat (first | refine RW.ro (And.intro (zfr_lit) (And.intro (z0) (And.intro (z1) (And.intro (z2) (And.intro (z3) (And.intro (g0) (And.intro (g1) (And.intro (g2) (And.intro (g3) (g4)))))))))) (h := ?_) | refine RW.skip (h := ?_) | refine RW.op (And.intro (zfr_lit) (And.intro (z0) (And.intro (z1) (And.intro (z2) (And.intro (z3) (And.intro (g0) (And.intro (g1) (And.intro (g2) (And.intro (g3) (g4)))))))))) (h := ?_) | refine RW.opN (And.intro (zfr_lit) (And.intro (z0) (And.intro (z1) (And.intro (z2) (And.intro (z3) (And.intro (g0) (And.intro (g1) (And.intro (g2) (And.intro (g3) (g4)))))))))) (h := ?_) | refine RW.skip0 (h := ?_) | (refine RW.callC (h := ?_); (first | refine CallP.mk (And.intro (zfr_lit) (And.intro (z0) (And.intro (z1) (And.intro (z2) (And.intro (z3) (And.intro (g0) (And.intro (g1) (And.intro (g2) (And.intro (g3) (g4)))))))))) (hc := hm _) (h := ?_))))); refine RW.nil ⟨by kernel_rfl, Pruned.mk (h := ?_)⟩)
    refine SW.condT rfl ?_
    (repeat (first | refine SW.seq ?_ | refine SW.block ?_ | (refine SW.regL [0, 1, 2, 5, 6, 7, 8, 15] mixed ?_; (repeat (first | refine RW.ro (And.intro (zfr_lit) (And.intro (z0) (And.intro (z1) (And.intro (z2) (And.intro (z3) (And.intro (g0) (And.intro (g1) (And.intro (g2) (And.intro (g3) (g4)))))))))) (h := ?_) | refine RW.skip (h := ?_) | refine RW.op (And.intro (zfr_lit) (And.intro (z0) (And.intro (z1) (And.intro (z2) (And.intro (z3) (And.intro (g0) (And.intro (g1) (And.intro (g2) (And.intro (g3) (g4)))))))))) (h := ?_) | refine RW.opN (And.intro (zfr_lit) (And.intro (z0) (And.intro (z1) (And.intro (z2) (And.intro (z3) (And.intro (g0) (And.intro (g1) (And.intro (g2) (And.intro (g3) (g4)))))))))) (h := ?_) | refine RW.skip0 (h := ?_) | (refine RW.callC (h := ?_); (first | refine CallP.mk (And.intro (zfr_lit) (And.intro (z0) (And.intro (z1) (And.intro (z2) (And.intro (z3) (And.intro (g0) (And.intro (g1) (And.intro (g2) (And.intro (g3) (g4)))))))))) (hc := hm _) (h := ?_))))); refine RW.nil ⟨by kernel_rfl, Pruned.mk (h := ?_)⟩) | refine SW.skip ?_ | refine SW.exit ?_ | refine SW.ret ?_ | refine SW.condT rfl ?_ | refine SW.condF rfl ?_))
    exact End.mk [] (h2 := by simp [ldo, z1]) (h4 := ⟨by rw [mayR]; rfl, rfl⟩)
  · rw [hb] at hm
    refine SW.seq (SW.seq ?_)
    (refine SW.regL [0, 1, 2, 5, 6, 7, 8, 15] mixed ?_; (repeat (first | refine RW.ro (And.intro (zfr_lit) (And.intro (z0) (And.intro (z1) (And.intro (z2) (And.intro (z3) (And.intro (g0) (And.intro (g1) (And.intro (g2) (And.intro (g3) (g4)))))))))) (h := ?_) | refine RW.skip (h := ?_) | refine RW.op (And.intro (zfr_lit) (And.intro (z0) (And.intro (z1) (And.intro (z2) (And.intro (z3) (And.intro (g0) (And.intro (g1) (And.intro (g2) (And.intro (g3) (g4)))))))))) (h := ?_) | refine RW.opN (And.intro (zfr_lit) (And.intro (z0) (And.intro (z1) (And.intro (z2) (And.intro (z3) (And.intro (g0) (And.intro (g1) (And.intro (g2) (And.intro (g3) (g4)))))))))) (h := ?_) | refine RW.skip0 (h := ?_) | (refine RW.callC (h := ?_); (first | refine CallP.mk (And.intro (zfr_lit) (And.intro (z0) (And.intro (z1) (And.intro (z2) (And.intro (z3) (And.intro (g0) (And.intro (g1) (And.intro (g2) (And.intro (g3) (g4)))))))))) (hc := hm _) (h := ?_))))); refine RW.nil ⟨by kernel_rfl, Pruned.mk (h := ?_)⟩)
    refine SW.condF rfl (SW.skip ?_)
    (repeat (first | refine SW.seq ?_ | refine SW.block ?_ | (refine SW.regL [0, 1, 2, 5, 6, 7, 8, 15] mixed ?_; (repeat (first | refine RW.ro (And.intro (zfr_lit) (And.intro (z0) (And.intro (z1) (And.intro (z2) (And.intro (z3) (And.intro (g0) (And.intro (g1) (And.intro (g2) (And.intro (g3) (g4)))))))))) (h := ?_) | refine RW.skip (h := ?_) | refine RW.op (And.intro (zfr_lit) (And.intro (z0) (And.intro (z1) (And.intro (z2) (And.intro (z3) (And.intro (g0) (And.intro (g1) (And.intro (g2) (And.intro (g3) (g4)))))))))) (h := ?_) | refine RW.opN (And.intro (zfr_lit) (And.intro (z0) (And.intro (z1) (And.intro (z2) (And.intro (z3) (And.intro (g0) (And.intro (g1) (And.intro (g2) (And.intro (g3) (g4)))))))))) (h := ?_) | refine RW.skip0 (h := ?_) | (refine RW.callC (h := ?_); (first | refine CallP.mk (And.intro (zfr_lit) (And.intro (z0) (And.intro (z1) (And.intro (z2) (And.intro (z3) (And.intro (g0) (And.intro (g1) (And.intro (g2) (And.intro (g3) (g4)))))))))) (hc := hm _) (h := ?_))))); refine RW.nil ⟨by kernel_rfl, Pruned.mk (h := ?_)⟩) | refine SW.skip ?_ | refine SW.exit ?_ | refine SW.ret ?_ | refine SW.condT rfl ?_ | refine SW.condF rfl ?_))
    exact End.mk [] (h2 := by simp [ldo, g1]) (h4 := ⟨by rw [mayR]; rfl, rfl⟩) (h5 := by simp [retV, SV.ok, SV.oks, g3, frDok])
theorem rdigest_at (fr to : Nat) (v : Vec) (k : Nat) : SCd Try.prog ref14_Digest.f [u8 fr, u8 to, .agg v.cells] [] k 0 (digR fr to v) [] := (rdigest_ok fr to v).sc (mayR_ok _ _ _ _ _ _ _ _) k

/-- The document's delta: the row is never nil. -/
def rdltR (fr to : Nat) (l : List OpD) (v : Vec) (most : Int) : SV :=
  if mayV 1 fr to [] = false then .tup [.agg zFr, i64 2] else if most < 1 ∨ most > 64 then .tup [.agg zFr, i64 2] else
    mayR (mayV 1 fr to (dltL l v most)) (frD 1 fr to (knownV l) (ops (dltL l v most))) 3
set_option maxHeartbeats 4000000 in
theorem rdelta_ok (fr to : Nat) (l : List OpD) (v : Vec) (most : Int) (hl : OpsOk l) : Go.Sl.Pure Try.prog ref14_Delta.f [u8 fr, u8 to, ops l, .agg v.cells, i64 most] (rdltR fr to l v most) := by
  have hl1 := hl.1
  have hwl : ∀ x, x ∈ l → x.lin := fun x hx => (hl.2 x hx).1
  have hwd : ∀ x, x ∈ l → x.dot.wf := fun x hx => (hl.2 x hx).2.2
  refine ref14_Delta.enter (by simp [SV.ok, SV.oks, SV.oks_d, Vec.cells_ok]) (by simp [Hp.ok]) (by simp) ?_
  unfold ref14_Delta.s
  have z0 : zFr.all SV.isOne = true := rfl
  have z1 : zFr.length = 12 := rfl
  have z2 : spl zFr 0 zFr = zFr := rfl
  have z3 : List.take 12 zFr = zFr := rfl
  have g0 := frB fr to (knownV l)
  have g1 := frDl 1 fr to (knownV l)
  have g2 : ∀ x : DV, (frD 1 fr to (knownV l) (.d x)).all SV.isOne = true := fun x => frDone 1 fr to (knownV l) (.d x) rfl
  have g3 : ∀ o, List.take 12 (frD 1 fr to (knownV l) o) = frD 1 fr to (knownV l) o := fun _ => rfl
  have g4 : ∀ o, spl zFr 0 (frD 1 fr to (knownV l) o) = frD 1 fr to (knownV l) o := fun _ => rfl
  have g5 : ∀ o o', spl (frD 1 fr to (knownV l) o) 11 [o'] = frD 1 fr to (knownV l) o' := fun _ _ => rfl
  have hm := rmay_at 1 fr to (knownV l) .nils [] (.inl ⟨rfl, rfl⟩) (by simp) (by simp)
  refine SW.seq ?_
  (refine SW.regL [0, 1, 2, 3, 4, 8, 10, 11, 12, 13, 29, 43] mixed ?_; (repeat (first | refine RW.ro (And.intro (zfr_lit) (And.intro (z0) (And.intro (z1) (And.intro (z2) (z3))))) (h := ?_) | refine RW.skip (h := ?_) | refine RW.op (And.intro (zfr_lit) (And.intro (z0) (And.intro (z1) (And.intro (z2) (z3))))) (h := ?_) | refine RW.opN (And.intro (zfr_lit) (And.intro (z0) (And.intro (z1) (And.intro (z2) (z3))))) (h := ?_) | refine RW.skip0 (h := ?_) | (refine RW.callC (h := ?_); (first | refine CallP.mk (And.intro (zfr_lit) (And.intro (z0) (And.intro (z1) (And.intro (z2) (z3))))) (hc := hm _) (h := ?_))))); refine RW.nil ⟨by kernel_rfl, Pruned.mk (h := ?_)⟩)
  refine SW.seq ?_
  (refine SW.regL [0, 1, 2, 3, 4, 8, 10, 11, 12, 13, 29, 43] mixed ?_; (repeat (first | refine RW.ro (And.intro (zfr_lit) (And.intro (z0) (And.intro (z1) (And.intro (z2) (And.intro (z3) (And.intro (g0) (And.intro (g1) (And.intro (g2) (And.intro (g3) (g4)))))))))) (h := ?_) | refine RW.skip (h := ?_) | refine RW.op (And.intro (zfr_lit) (And.intro (z0) (And.intro (z1) (And.intro (z2) (And.intro (z3) (And.intro (g0) (And.intro (g1) (And.intro (g2) (And.intro (g3) (g4)))))))))) (h := ?_) | refine RW.opN (And.intro (zfr_lit) (And.intro (z0) (And.intro (z1) (And.intro (z2) (And.intro (z3) (And.intro (g0) (And.intro (g1) (And.intro (g2) (And.intro (g3) (g4)))))))))) (h := ?_) | refine RW.skip0 (h := ?_) | (refine RW.callC (h := ?_); (first | refine CallP.mk (And.intro (zfr_lit) (And.intro (z0) (And.intro (z1) (And.intro (z2) (And.intro (z3) (And.intro (g0) (And.intro (g1) (And.intro (g2) (And.intro (g3) (g4)))))))))) (hc := rknown_at _ (by first | assumption | omega) hwd _) (h := ?_))))); refine RW.nil ⟨by kernel_rfl, Pruned.mk (h := ?_)⟩)
  unfold rdltR
  rcases hb : mayV 1 fr to [] with _ | _
  · rw [hb] at hm
    refine SW.seq (SW.seq ?_)
    (refine SW.regL [0, 1, 2, 3, 4, 8, 10, 11, 12, 13, 29, 43] mixed ?_; (repeat (first | refine RW.ro (And.intro (zfr_lit) (And.intro (z0) (And.intro (z1) (And.intro (z2) (And.intro (z3) (And.intro (g0) (And.intro (g1) (And.intro (g2) (And.intro (g3) (g4)))))))))) (h := ?_) | refine RW.skip (h := ?_) | refine RW.op (And.intro (zfr_lit) (And.intro (z0) (And.intro (z1) (And.intro (z2) (And.intro (z3) (And.intro (g0) (And.intro (g1) (And.intro (g2) (And.intro (g3) (g4)))))))))) (h := ?_) | refine RW.opN (And.intro (zfr_lit) (And.intro (z0) (And.intro (z1) (And.intro (z2) (And.intro (z3) (And.intro (g0) (And.intro (g1) (And.intro (g2) (And.intro (g3) (g4)))))))))) (h := ?_) | refine RW.skip0 (h := ?_) | (refine RW.callC (h := ?_); (first | refine CallP.mk (And.intro (zfr_lit) (And.intro (z0) (And.intro (z1) (And.intro (z2) (And.intro (z3) (And.intro (g0) (And.intro (g1) (And.intro (g2) (And.intro (g3) (g4)))))))))) (hc := hm _) (h := ?_))))); refine RW.nil ⟨by kernel_rfl, Pruned.mk (h := ?_)⟩)
    refine SW.condT rfl ?_
    (repeat (first | refine SW.seq ?_ | refine SW.block ?_ | (refine SW.regL [0, 1, 2, 3, 4, 8, 10, 11, 12, 13, 29, 43] mixed ?_; (repeat (first | refine RW.ro (And.intro (zfr_lit) (And.intro (z0) (And.intro (z1) (And.intro (z2) (And.intro (z3) (And.intro (g0) (And.intro (g1) (And.intro (g2) (And.intro (g3) (g4)))))))))) (h := ?_) | refine RW.skip (h := ?_) | refine RW.op (And.intro (zfr_lit) (And.intro (z0) (And.intro (z1) (And.intro (z2) (And.intro (z3) (And.intro (g0) (And.intro (g1) (And.intro (g2) (And.intro (g3) (g4)))))))))) (h := ?_) | refine RW.opN (And.intro (zfr_lit) (And.intro (z0) (And.intro (z1) (And.intro (z2) (And.intro (z3) (And.intro (g0) (And.intro (g1) (And.intro (g2) (And.intro (g3) (g4)))))))))) (h := ?_) | refine RW.skip0 (h := ?_) | (refine RW.callC (h := ?_); (first | refine CallP.mk (And.intro (zfr_lit) (And.intro (z0) (And.intro (z1) (And.intro (z2) (And.intro (z3) (And.intro (g0) (And.intro (g1) (And.intro (g2) (And.intro (g3) (g4)))))))))) (hc := hm _) (h := ?_))))); refine RW.nil ⟨by kernel_rfl, Pruned.mk (h := ?_)⟩) | refine SW.skip ?_ | refine SW.exit ?_ | refine SW.ret ?_ | refine SW.condT rfl ?_ | refine SW.condF rfl ?_))
    exact End.mk [] (h2 := by simp [ldo, z1]) (h4 := ⟨rfl, rfl⟩)
  rw [hb] at hm
  have hbad : ∀ h : most < 1 ∨ most > 64, (if true = false then SV.tup [.agg zFr, i64 2] else if most < 1 ∨ most > 64 then .tup [.agg zFr, i64 2] else mayR (mayV 1 fr to (dltL l v most)) (frD 1 fr to (knownV l) (ops (dltL l v most))) 3) = .tup [.agg zFr, i64 2] := fun h => by rw [if_neg (by simp), if_pos h]
  refine SW.seq (SW.seq ?_)
  refine Classical.byCases (fun h1 : most < 1 => ?_) fun h1 => ?_
  · have q1 : decide (most < 1) = true := by simpa using h1
    rw [hbad (.inl h1)]
    (refine SW.regL [0, 1, 2, 3, 4, 8, 10, 11, 12, 13, 29, 43] mixed ?_; (repeat (first | refine RW.ro (And.intro (zfr_lit) (And.intro (z0) (And.intro (z1) (And.intro (z2) (And.intro (z3) (And.intro (g0) (And.intro (g1) (And.intro (g2) (And.intro (g3) (And.intro (g4) (q1))))))))))) (h := ?_) | refine RW.skip (h := ?_) | refine RW.op (And.intro (zfr_lit) (And.intro (z0) (And.intro (z1) (And.intro (z2) (And.intro (z3) (And.intro (g0) (And.intro (g1) (And.intro (g2) (And.intro (g3) (And.intro (g4) (q1))))))))))) (h := ?_) | refine RW.opN (And.intro (zfr_lit) (And.intro (z0) (And.intro (z1) (And.intro (z2) (And.intro (z3) (And.intro (g0) (And.intro (g1) (And.intro (g2) (And.intro (g3) (And.intro (g4) (q1))))))))))) (h := ?_) | refine RW.skip0 (h := ?_) | (refine RW.callC (h := ?_); (first | refine CallP.mk (And.intro (zfr_lit) (And.intro (z0) (And.intro (z1) (And.intro (z2) (And.intro (z3) (And.intro (g0) (And.intro (g1) (And.intro (g2) (And.intro (g3) (And.intro (g4) (q1))))))))))) (hc := hm _) (h := ?_))))); refine RW.nil ⟨by kernel_rfl, Pruned.mk (h := ?_)⟩)
    refine SW.condT rfl ?_
    (repeat (first | refine SW.seq ?_ | refine SW.block ?_ | (refine SW.regL [0, 1, 2, 3, 4, 8, 10, 11, 12, 13, 29, 43] mixed ?_; (repeat (first | refine RW.ro (And.intro (zfr_lit) (And.intro (z0) (And.intro (z1) (And.intro (z2) (And.intro (z3) (And.intro (g0) (And.intro (g1) (And.intro (g2) (And.intro (g3) (g4)))))))))) (h := ?_) | refine RW.skip (h := ?_) | refine RW.op (And.intro (zfr_lit) (And.intro (z0) (And.intro (z1) (And.intro (z2) (And.intro (z3) (And.intro (g0) (And.intro (g1) (And.intro (g2) (And.intro (g3) (g4)))))))))) (h := ?_) | refine RW.opN (And.intro (zfr_lit) (And.intro (z0) (And.intro (z1) (And.intro (z2) (And.intro (z3) (And.intro (g0) (And.intro (g1) (And.intro (g2) (And.intro (g3) (g4)))))))))) (h := ?_) | refine RW.skip0 (h := ?_) | (refine RW.callC (h := ?_); (first | refine CallP.mk (And.intro (zfr_lit) (And.intro (z0) (And.intro (z1) (And.intro (z2) (And.intro (z3) (And.intro (g0) (And.intro (g1) (And.intro (g2) (And.intro (g3) (g4)))))))))) (hc := hm _) (h := ?_))))); refine RW.nil ⟨by kernel_rfl, Pruned.mk (h := ?_)⟩) | refine SW.skip ?_ | refine SW.exit ?_ | refine SW.ret ?_ | refine SW.condT rfl ?_ | refine SW.condF rfl ?_))
    exact End.mk [] (h2 := by simp [ldo, z1]) (h4 := ⟨rfl, rfl⟩)
  have q1 : decide (most < 1) = false := by simpa using h1
  refine Classical.byCases (fun h2 : most > 64 => ?_) fun h2 => ?_
  · have q2 : decide (most > 64) = true := by simpa using h2
    rw [hbad (.inr h2)]
    (refine SW.regL [0, 1, 2, 3, 4, 8, 10, 11, 12, 13, 29, 43] mixed ?_; (repeat (first | refine RW.ro (And.intro (zfr_lit) (And.intro (z0) (And.intro (z1) (And.intro (z2) (And.intro (z3) (And.intro (g0) (And.intro (g1) (And.intro (g2) (And.intro (g3) (And.intro (g4) (And.intro (q1) (q2)))))))))))) (h := ?_) | refine RW.skip (h := ?_) | refine RW.op (And.intro (zfr_lit) (And.intro (z0) (And.intro (z1) (And.intro (z2) (And.intro (z3) (And.intro (g0) (And.intro (g1) (And.intro (g2) (And.intro (g3) (And.intro (g4) (And.intro (q1) (q2)))))))))))) (h := ?_) | refine RW.opN (And.intro (zfr_lit) (And.intro (z0) (And.intro (z1) (And.intro (z2) (And.intro (z3) (And.intro (g0) (And.intro (g1) (And.intro (g2) (And.intro (g3) (And.intro (g4) (And.intro (q1) (q2)))))))))))) (h := ?_) | refine RW.skip0 (h := ?_) | (refine RW.callC (h := ?_); (first | refine CallP.mk (And.intro (zfr_lit) (And.intro (z0) (And.intro (z1) (And.intro (z2) (And.intro (z3) (And.intro (g0) (And.intro (g1) (And.intro (g2) (And.intro (g3) (And.intro (g4) (And.intro (q1) (q2)))))))))))) (hc := hm _) (h := ?_))))); refine RW.nil ⟨by kernel_rfl, Pruned.mk (h := ?_)⟩)
    refine SW.condT rfl ?_
    (repeat (first | refine SW.seq ?_ | refine SW.block ?_ | (refine SW.regL [0, 1, 2, 3, 4, 8, 10, 11, 12, 13, 29, 43] mixed ?_; (repeat (first | refine RW.ro (And.intro (zfr_lit) (And.intro (z0) (And.intro (z1) (And.intro (z2) (And.intro (z3) (And.intro (g0) (And.intro (g1) (And.intro (g2) (And.intro (g3) (g4)))))))))) (h := ?_) | refine RW.skip (h := ?_) | refine RW.op (And.intro (zfr_lit) (And.intro (z0) (And.intro (z1) (And.intro (z2) (And.intro (z3) (And.intro (g0) (And.intro (g1) (And.intro (g2) (And.intro (g3) (g4)))))))))) (h := ?_) | refine RW.opN (And.intro (zfr_lit) (And.intro (z0) (And.intro (z1) (And.intro (z2) (And.intro (z3) (And.intro (g0) (And.intro (g1) (And.intro (g2) (And.intro (g3) (g4)))))))))) (h := ?_) | refine RW.skip0 (h := ?_) | (refine RW.callC (h := ?_); (first | refine CallP.mk (And.intro (zfr_lit) (And.intro (z0) (And.intro (z1) (And.intro (z2) (And.intro (z3) (And.intro (g0) (And.intro (g1) (And.intro (g2) (And.intro (g3) (g4)))))))))) (hc := hm _) (h := ?_))))); refine RW.nil ⟨by kernel_rfl, Pruned.mk (h := ?_)⟩) | refine SW.skip ?_ | refine SW.exit ?_ | refine SW.ret ?_ | refine SW.condT rfl ?_ | refine SW.condF rfl ?_))
    exact End.mk [] (h2 := by simp [ldo, z1]) (h4 := ⟨rfl, rfl⟩)
  have q2 : decide (most > 64) = false := by simpa using h2
  (refine SW.regL [0, 1, 2, 3, 4, 8, 10, 11, 12, 13, 29, 43] mixed ?_; (repeat (first | refine RW.ro (And.intro (zfr_lit) (And.intro (z0) (And.intro (z1) (And.intro (z2) (And.intro (z3) (And.intro (g0) (And.intro (g1) (And.intro (g2) (And.intro (g3) (And.intro (g4) (And.intro (q1) (q2)))))))))))) (h := ?_) | refine RW.skip (h := ?_) | refine RW.op (And.intro (zfr_lit) (And.intro (z0) (And.intro (z1) (And.intro (z2) (And.intro (z3) (And.intro (g0) (And.intro (g1) (And.intro (g2) (And.intro (g3) (And.intro (g4) (And.intro (q1) (q2)))))))))))) (h := ?_) | refine RW.opN (And.intro (zfr_lit) (And.intro (z0) (And.intro (z1) (And.intro (z2) (And.intro (z3) (And.intro (g0) (And.intro (g1) (And.intro (g2) (And.intro (g3) (And.intro (g4) (And.intro (q1) (q2)))))))))))) (h := ?_) | refine RW.skip0 (h := ?_) | (refine RW.callC (h := ?_); (first | refine CallP.mk (And.intro (zfr_lit) (And.intro (z0) (And.intro (z1) (And.intro (z2) (And.intro (z3) (And.intro (g0) (And.intro (g1) (And.intro (g2) (And.intro (g3) (And.intro (g4) (And.intro (q1) (q2)))))))))))) (hc := hm _) (h := ?_))))); refine RW.nil ⟨by kernel_rfl, Pruned.mk (h := ?_)⟩)
  refine SW.condF rfl (SW.skip ?_)
  rw [if_neg (by simp), if_neg (by omega)]
  clear hbad hb q1 q2
  obtain ⟨m, rfl⟩ : ∃ m : Nat, most = (m : Int) := ⟨most.toNat, by omega⟩
  have hlk := rlacks_at l hl.1 v
  rw [← lackS_r] at hlk
  refine SW.seq ?_
  (refine SW.regL [0, 1, 2, 3, 4, 8, 10, 11, 12, 13, 29, 43] mixed ?_; (repeat (first | refine RW.ro (And.intro (zfr_lit) (And.intro (z0) (And.intro (z1) (And.intro (z2) (And.intro (z3) (And.intro (g0) (And.intro (g1) (And.intro (g2) (And.intro (g3) (g4)))))))))) (h := ?_) | refine RW.skip (h := ?_) | refine RW.op (And.intro (zfr_lit) (And.intro (z0) (And.intro (z1) (And.intro (z2) (And.intro (z3) (And.intro (g0) (And.intro (g1) (And.intro (g2) (And.intro (g3) (g4)))))))))) (h := ?_) | refine RW.opN (And.intro (zfr_lit) (And.intro (z0) (And.intro (z1) (And.intro (z2) (And.intro (z3) (And.intro (g0) (And.intro (g1) (And.intro (g2) (And.intro (g3) (g4)))))))))) (h := ?_) | refine RW.skip0 (h := ?_) | (refine RW.callC (h := ?_); (first | refine CallP.mk (And.intro (zfr_lit) (And.intro (z0) (And.intro (z1) (And.intro (z2) (And.intro (z3) (And.intro (g0) (And.intro (g1) (And.intro (g2) (And.intro (g3) (g4)))))))))) (hc := hlk _) (h := ?_))))); refine RW.nil ⟨by kernel_rfl, Pruned.mk (h := ?_)⟩)
  refine SW.seq ?_
  have hLl := lackS_len l v
  generalize hL : lackS l v = L at hlk hLl ⊢
  have m3 : (if (m : Int) < (L.length : Int) then (m : Int) else (L.length : Int)) = ((min L.length m : Nat) : Int) := by split <;> omega
  have hdl : dltL l v m = L.take m := by unfold dltL; rw [hL, Int.toNat_natCast]
  have m4 := (ops_cut L (min L.length m) (Nat.min_le_left _ _)).symm
  have m5 : L.take (min L.length m) = L.take m := by
    rcases Nat.le_total m L.length with h | h
    · rw [Nat.min_eq_right h]
    · rw [Nat.min_eq_left h, List.take_length, List.take_of_length_le h]
  rw [m5] at m4
  have hTl : (L.take m).length < 4611686018427387904 := by simp; omega
  have hTw : ∀ x, x ∈ L.take m → x.lin := fun x hx => by
    have h1 : x ∈ lackS l v := by rw [hL]; exact List.mem_of_mem_take hx
    exact hwl x (lackL_mem ((osorted_perm _).mem_iff.1 h1))
  rw [hdl]
  (refine SW.regL [0, 1, 2, 3, 4, 8, 10, 11, 12, 13, 29, 43] mixed ?_; (repeat (first | refine RW.ro (And.intro (zfr_lit) (And.intro (z0) (And.intro (z1) (And.intro (z2) (And.intro (z3) (And.intro (g0) (And.intro (g1) (And.intro (g2) (And.intro (g3) (And.intro (g4) (And.intro (g5) (And.intro (m3) (m4))))))))))))) (h := ?_) | refine RW.skip (h := ?_) | refine RW.op (And.intro (zfr_lit) (And.intro (z0) (And.intro (z1) (And.intro (z2) (And.intro (z3) (And.intro (g0) (And.intro (g1) (And.intro (g2) (And.intro (g3) (And.intro (g4) (And.intro (g5) (And.intro (m3) (m4))))))))))))) (h := ?_) | refine RW.opN (And.intro (zfr_lit) (And.intro (z0) (And.intro (z1) (And.intro (z2) (And.intro (z3) (And.intro (g0) (And.intro (g1) (And.intro (g2) (And.intro (g3) (And.intro (g4) (And.intro (g5) (And.intro (m3) (m4))))))))))))) (h := ?_) | refine RW.skip0 (h := ?_) | (refine RW.callC (h := ?_); (first | refine CallP.mk (And.intro (zfr_lit) (And.intro (z0) (And.intro (z1) (And.intro (z2) (And.intro (z3) (And.intro (g0) (And.intro (g1) (And.intro (g2) (And.intro (g3) (And.intro (g4) (And.intro (g5) (And.intro (m3) (m4))))))))))))) (hc := hlk _) (h := ?_))))); refine RW.nil ⟨by kernel_rfl, Pruned.mk (h := ?_)⟩)
  have hm2 := rmay_at 1 fr to (knownV l) (.sl (L.take m).length ((L.take m).flatMap OpD.ds)) (L.take m) (.inr rfl) hTl hTw
  generalize hT : L.take m = T at hm2 ⊢
  rcases hb : mayV 1 fr to T with _ | _
  · rw [hb] at hm2
    refine SW.seq (SW.seq ?_)
    (refine SW.regL [0, 1, 2, 3, 4, 8, 10, 11, 12, 13, 29, 43] mixed ?_; (repeat (first | refine RW.ro (And.intro (zfr_lit) (And.intro (z0) (And.intro (z1) (And.intro (z2) (And.intro (z3) (And.intro (g0) (And.intro (g1) (And.intro (g2) (And.intro (g3) (g4)))))))))) (h := ?_) | refine RW.skip (h := ?_) | refine RW.op (And.intro (zfr_lit) (And.intro (z0) (And.intro (z1) (And.intro (z2) (And.intro (z3) (And.intro (g0) (And.intro (g1) (And.intro (g2) (And.intro (g3) (g4)))))))))) (h := ?_) | refine RW.opN (And.intro (zfr_lit) (And.intro (z0) (And.intro (z1) (And.intro (z2) (And.intro (z3) (And.intro (g0) (And.intro (g1) (And.intro (g2) (And.intro (g3) (g4)))))))))) (h := ?_) | refine RW.skip0 (h := ?_) | (refine RW.callC (h := ?_); (first | refine CallP.mk (And.intro (zfr_lit) (And.intro (z0) (And.intro (z1) (And.intro (z2) (And.intro (z3) (And.intro (g0) (And.intro (g1) (And.intro (g2) (And.intro (g3) (g4)))))))))) (hc := hm2 _) (h := ?_))))); refine RW.nil ⟨by kernel_rfl, Pruned.mk (h := ?_)⟩)
    refine SW.condT rfl ?_
    (repeat (first | refine SW.seq ?_ | refine SW.block ?_ | (refine SW.regL [0, 1, 2, 3, 4, 8, 10, 11, 12, 13, 29, 43] mixed ?_; (repeat (first | refine RW.ro (And.intro (zfr_lit) (And.intro (z0) (And.intro (z1) (And.intro (z2) (And.intro (z3) (And.intro (g0) (And.intro (g1) (And.intro (g2) (And.intro (g3) (g4)))))))))) (h := ?_) | refine RW.skip (h := ?_) | refine RW.op (And.intro (zfr_lit) (And.intro (z0) (And.intro (z1) (And.intro (z2) (And.intro (z3) (And.intro (g0) (And.intro (g1) (And.intro (g2) (And.intro (g3) (g4)))))))))) (h := ?_) | refine RW.opN (And.intro (zfr_lit) (And.intro (z0) (And.intro (z1) (And.intro (z2) (And.intro (z3) (And.intro (g0) (And.intro (g1) (And.intro (g2) (And.intro (g3) (g4)))))))))) (h := ?_) | refine RW.skip0 (h := ?_) | (refine RW.callC (h := ?_); (first | refine CallP.mk (And.intro (zfr_lit) (And.intro (z0) (And.intro (z1) (And.intro (z2) (And.intro (z3) (And.intro (g0) (And.intro (g1) (And.intro (g2) (And.intro (g3) (g4)))))))))) (hc := hm2 _) (h := ?_))))); refine RW.nil ⟨by kernel_rfl, Pruned.mk (h := ?_)⟩) | refine SW.skip ?_ | refine SW.exit ?_ | refine SW.ret ?_ | refine SW.condT rfl ?_ | refine SW.condF rfl ?_))
    exact End.mk [] (h2 := by simp [ldo, z1]) (h4 := ⟨by rw [mayR]; rfl, rfl⟩)
  · rw [hb] at hm2
    refine SW.seq (SW.seq ?_)
    (refine SW.regL [0, 1, 2, 3, 4, 8, 10, 11, 12, 13, 29, 43] mixed ?_; (repeat (first | refine RW.ro (And.intro (zfr_lit) (And.intro (z0) (And.intro (z1) (And.intro (z2) (And.intro (z3) (And.intro (g0) (And.intro (g1) (And.intro (g2) (And.intro (g3) (g4)))))))))) (h := ?_) | refine RW.skip (h := ?_) | refine RW.op (And.intro (zfr_lit) (And.intro (z0) (And.intro (z1) (And.intro (z2) (And.intro (z3) (And.intro (g0) (And.intro (g1) (And.intro (g2) (And.intro (g3) (g4)))))))))) (h := ?_) | refine RW.opN (And.intro (zfr_lit) (And.intro (z0) (And.intro (z1) (And.intro (z2) (And.intro (z3) (And.intro (g0) (And.intro (g1) (And.intro (g2) (And.intro (g3) (g4)))))))))) (h := ?_) | refine RW.skip0 (h := ?_) | (refine RW.callC (h := ?_); (first | refine CallP.mk (And.intro (zfr_lit) (And.intro (z0) (And.intro (z1) (And.intro (z2) (And.intro (z3) (And.intro (g0) (And.intro (g1) (And.intro (g2) (And.intro (g3) (g4)))))))))) (hc := hm2 _) (h := ?_))))); refine RW.nil ⟨by kernel_rfl, Pruned.mk (h := ?_)⟩)
    refine SW.condF rfl (SW.skip ?_)
    (repeat (first | refine SW.seq ?_ | refine SW.block ?_ | (refine SW.regL [0, 1, 2, 3, 4, 8, 10, 11, 12, 13, 29, 43] mixed ?_; (repeat (first | refine RW.ro (And.intro (zfr_lit) (And.intro (z0) (And.intro (z1) (And.intro (z2) (And.intro (z3) (And.intro (g0) (And.intro (g1) (And.intro (g2) (And.intro (g3) (g4)))))))))) (h := ?_) | refine RW.skip (h := ?_) | refine RW.op (And.intro (zfr_lit) (And.intro (z0) (And.intro (z1) (And.intro (z2) (And.intro (z3) (And.intro (g0) (And.intro (g1) (And.intro (g2) (And.intro (g3) (g4)))))))))) (h := ?_) | refine RW.opN (And.intro (zfr_lit) (And.intro (z0) (And.intro (z1) (And.intro (z2) (And.intro (z3) (And.intro (g0) (And.intro (g1) (And.intro (g2) (And.intro (g3) (g4)))))))))) (h := ?_) | refine RW.skip0 (h := ?_) | (refine RW.callC (h := ?_); (first | refine CallP.mk (And.intro (zfr_lit) (And.intro (z0) (And.intro (z1) (And.intro (z2) (And.intro (z3) (And.intro (g0) (And.intro (g1) (And.intro (g2) (And.intro (g3) (g4)))))))))) (hc := hm2 _) (h := ?_))))); refine RW.nil ⟨by kernel_rfl, Pruned.mk (h := ?_)⟩) | refine SW.skip ?_ | refine SW.exit ?_ | refine SW.ret ?_ | refine SW.condT rfl ?_ | refine SW.condF rfl ?_))
    exact End.mk [] (h2 := by simp [ldo, g1]) (h4 := ⟨by rw [mayR]; rfl, rfl⟩) (h5 := by simp [retV, SV.ok, SV.oks, g3, frDok])
theorem rdltR_ok (fr to : Nat) (l : List OpD) (v : Vec) (most : Int) (q : Nat → Bool) : (rdltR fr to l v most).ok q = true := by
  unfold rdltR
  split
  · simp [SV.ok, SV.oks, frDok]
  · split
    · simp [SV.ok, SV.oks, frDok]
    · exact mayR_ok _ _ _ _ _ _ _ _
theorem rdelta_at (fr to : Nat) (l : List OpD) (v : Vec) (most : Int) (hl : OpsOk l) (k : Nat) : SCd Try.prog ref14_Delta.f [u8 fr, u8 to, ops l, .agg v.cells, i64 most] [] k 0 (rdltR fr to l v most) [] := (rdelta_ok fr to l v most hl).sc (rdltR_ok _ _ _ _ _ _) k
end Go.Proofs.Ytpbfnenlbkjhgaa

/-
  Gossip: what is lacked, digests and deltas are the document's.
-/
set_option linter.unusedSectionVars false
set_option linter.unusedVariables false
set_option linter.unusedSimpArgs false
namespace Go.Proofs.Ytpbfnenlbkjhgaa
open Go.Sl Go.Proofs
attribute [local irreducible] SW RW SCd SC CallP Pruned

def sumLn (l : List OpD) : Nat := (l.map fun o => o.cl.length).sum
theorem sumLn_snoc (l : List OpD) (x : OpD) : sumLn (l ++ [x]) = sumLn l + x.cl.length := by simp [sumLn]
theorem sumLn_le {B : Nat} : ∀ {l : List OpD}, (∀ x, x ∈ l → x.cl.length ≤ B) → sumLn l ≤ l.length * B
  | [], _ => by simp [sumLn]
  | x :: l, h => by
    have h1 := sumLn_le (l := l) fun y hy => h y (by simp [hy])
    have h2 := h x (by simp)
    simp only [sumLn, List.map_cons, List.sum_cons, List.length_cons] at h1 ⊢
    rw [Nat.add_mul, Nat.one_mul]; omega
def greatV (l : List OpD) : Bool := decide ((l.length : Int) > 120) || decide ((sumLn l : Int) > 300)
set_option maxHeartbeats 1000000 in
theorem great_ok (l : List OpD) (hl : OpsOk l) : Go.Sl.Pure Try.prog law14_great.f [ops l] (bl (greatV l)) := by
  have hl1 := hl.1
  refine law14_great.enter (by first | rfl | simp [SV.ok, SV.oks]) (by first | rfl | simp [Hp.ok, Ob.ok, SV.ok, SV.oks, Vec.cells_ok]) (by simp) ?_
  unfold law14_great.s
  (repeat (first | refine SW.seq ?_ | refine SW.block ?_ | (refine SW.regL [0, 2, 3, 4, 8] mixed ?_; (repeat (first | refine RW.ro bq_tt (h := ?_) | refine RW.skip (h := ?_) | refine RW.op bq_tt (h := ?_) | refine RW.opN bq_tt (h := ?_) | refine RW.skip0 (h := ?_))); refine RW.nil ⟨by kernel_rfl, Pruned.mk (h := ?_)⟩) | refine SW.skip ?_ | refine SW.exit ?_ | refine SW.ret ?_ | refine SW.condT rfl ?_ | refine SW.condF rfl ?_))
  refine SW.loopA (α := {i : Nat // i ≤ l.length}) (fun i => ⟨[(4, i64 i.1), (3, i64 (sumLn (l.take i.1))), (0, ops l)], [], 0⟩) (fun i => l.length - i.1) ⟨0, by omega⟩ id (And.intro (show sumLn [] = 0 from rfl) bq_tt) (round := ?_)
  rintro ⟨i, hi⟩
  dsimp only
  by_cases h : i < l.length
  · have h1 : decide ((i : Int) < l.length) = true := by simp only [decide_eq_true_eq]; omega
    obtain ⟨x, hx⟩ := get_of_lt h
    have hxm := List.mem_of_getElem? hx
    have hxw := (hl.2 x hxm)
    have e2 : IntKind.i64.wrap ((i : Int) + 1) = ((i + 1 : Nat) : Int) := wrap_i64 _ (by omega)
    have e1 : l.take (i + 1) = l.take i ++ [x] := take_snoc hx
    have hsn := sumLn_snoc (l.take i) x
    rw [← e1] at hsn
    have hb : sumLn (l.take i) ≤ (l.take i).length * 1048576 := sumLn_le fun y hy => (hl.2 y (List.mem_of_mem_take hy)).2.1
    have hb2 : (l.take i).length ≤ 1048576 := by simp; omega
    have hb3 := hxw.2.1
    have e3 : IntKind.i64.wrap ((sumLn (l.take i) : Int) + (x.cl.length : Int)) = ((sumLn (l.take i) + x.cl.length : Nat) : Int) := wrap_i64 _ (by omega)
    have e4 : (List.map SV.d (l.flatMap OpD.ds))[i * 29 + 28]? = some (.d (.sl x.cl.length (x.cl.flatMap Cm.ds))) := by rw [op_line hx, hxw.1.eq]
    (repeat (first | refine SW.seq ?_ | refine SW.block ?_ | (refine SW.regL [0, 2, 3, 4, 8] mixed ?_; (repeat (first | refine RW.ro (And.intro (h1) (And.intro (op_room0 hx) (And.intro (e2) (And.intro (e3) (e4))))) (h := ?_) | refine RW.skip (h := ?_) | refine RW.op (And.intro (h1) (And.intro (op_room0 hx) (And.intro (e2) (And.intro (e3) (e4))))) (h := ?_) | refine RW.opN (And.intro (h1) (And.intro (op_room0 hx) (And.intro (e2) (And.intro (e3) (e4))))) (h := ?_) | refine RW.skip0 (h := ?_))); refine RW.nil ⟨by kernel_rfl, Pruned.mk (h := ?_)⟩) | refine SW.skip ?_ | refine SW.exit ?_ | refine SW.ret ?_ | refine SW.condT rfl ?_ | refine SW.condF rfl ?_))
    dsimp only
    exact ⟨⟨i + 1, by omega⟩, id, by show l.length - (i + 1) < _; omega, Weak.mk (And.intro hsn bq_tt)⟩
  · have h1 : decide ((i : Int) < l.length) = false := by simp only [decide_eq_false_iff_not]; omega
    have h2 : i = l.length := by omega
    subst h2
    rw [List.take_length]
    refine SW.seq (SW.seq ?_)
    (refine SW.regL [0, 2, 3, 4, 8] mixed ?_; (repeat (first | refine RW.ro (h1) (h := ?_) | refine RW.skip (h := ?_) | refine RW.op (h1) (h := ?_) | refine RW.opN (h1) (h := ?_) | refine RW.skip0 (h := ?_))); refine RW.nil ⟨by kernel_rfl, Pruned.mk (h := ?_)⟩)
    refine SW.condF rfl (SW.exit ?_)
    refine SW.seq ?_
    unfold greatV
    rcases h3 : decide ((l.length : Int) > 120) with _ | _
    · rcases h4 : decide ((sumLn l : Int) > 300) with _ | _
      · (repeat (first | refine SW.seq ?_ | refine SW.block ?_ | (refine SW.regL [0, 2, 3, 4, 8] mixed ?_; (repeat (first | refine RW.ro (And.intro (h3) (h4)) (h := ?_) | refine RW.skip (h := ?_) | refine RW.op (And.intro (h3) (h4)) (h := ?_) | refine RW.opN (And.intro (h3) (h4)) (h := ?_) | refine RW.skip0 (h := ?_))); refine RW.nil ⟨by kernel_rfl, Pruned.mk (h := ?_)⟩) | refine SW.skip ?_ | refine SW.exit ?_ | refine SW.ret ?_ | refine SW.condT rfl ?_ | refine SW.condF rfl ?_))
        exact End.mk [] (h4 := ⟨rfl, rfl⟩)
      · (repeat (first | refine SW.seq ?_ | refine SW.block ?_ | (refine SW.regL [0, 2, 3, 4, 8] mixed ?_; (repeat (first | refine RW.ro (And.intro (h3) (h4)) (h := ?_) | refine RW.skip (h := ?_) | refine RW.op (And.intro (h3) (h4)) (h := ?_) | refine RW.opN (And.intro (h3) (h4)) (h := ?_) | refine RW.skip0 (h := ?_))); refine RW.nil ⟨by kernel_rfl, Pruned.mk (h := ?_)⟩) | refine SW.skip ?_ | refine SW.exit ?_ | refine SW.ret ?_ | refine SW.condT rfl ?_ | refine SW.condF rfl ?_))
        exact End.mk [] (h4 := ⟨rfl, rfl⟩)
    · (repeat (first | refine SW.seq ?_ | refine SW.block ?_ | (refine SW.regL [0, 2, 3, 4, 8] mixed ?_; (repeat (first | refine RW.ro (h3) (h := ?_) | refine RW.skip (h := ?_) | refine RW.op (h3) (h := ?_) | refine RW.opN (h3) (h := ?_) | refine RW.skip0 (h := ?_))); refine RW.nil ⟨by kernel_rfl, Pruned.mk (h := ?_)⟩) | refine SW.skip ?_ | refine SW.exit ?_ | refine SW.ret ?_ | refine SW.condT rfl ?_ | refine SW.condF rfl ?_))
      exact End.mk [] (h4 := ⟨rfl, rfl⟩)
theorem great_at (l : List OpD) (hl : OpsOk l) (k : Nat) : SCd Try.prog law14_great.f [ops l] [] k 0 (bl (greatV l)) [] := (great_ok l hl).sc rfl k
end Go.Proofs.Ytpbfnenlbkjhgaa

/-
  Gossip: the law that what is lacked, digests and deltas are the document's.
-/
set_option linter.unusedSectionVars false
set_option linter.unusedVariables false
set_option linter.unusedSimpArgs false
namespace Go.Proofs.Ytpbfnenlbkjhgaa
open Go.Sl Go.Proofs
attribute [local irreducible] SW RW SCd SC CallP Pruned

theorem zsame (k : Nat) : SCd Try.prog ref06_Same.f [.agg zFr, .agg zFr] [] k 0 (bl true) [] :=
  fsame_at 0 0 0 Vec.zero .nils .nils [] (.inl ⟨rfl, rfl⟩) (.inl ⟨rfl, rfl⟩) (by simp) (by simp) k
/-- Two answers that are the same frame, and the same error. -/
def Two (f1 f2 : FuncId) (a : List SV) : Prop := ∃ (kd fr to : Nat) (h : Vec) (o o' : DV) (e : Int),
  (∀ k, SCd Try.prog f1 a [] k 0 (.tup [.agg (frD kd fr to h (.d o)), i64 e]) []) ∧ (∀ k, SCd Try.prog f2 a [] k 0 (.tup [.agg (frD kd fr to h (.d o')), i64 e]) []) ∧
  ∀ k, SCd Try.prog ref06_Same.f [.agg (frD kd fr to h (.d o)), .agg (frD kd fr to h (.d o'))] [] k 0 (bl true) []
theorem two_dig (fr to : Nat) (v : Vec) : Two gossip_Digest.f ref14_Digest.f [u8 fr, u8 to, .agg v.cells] := by
  have h1 := digest_at fr to v
  have h2 := rdigest_at fr to v
  unfold digR at h1 h2
  cases hb : mayV 0 fr to [] <;> rw [hb] at h1 h2
  · exact ⟨0, 0, 0, Vec.zero, .nils, .nils, 2, h1, h2, zsame⟩
  · exact ⟨0, fr, to, v, .nils, .nils, 0, h1, h2, fsame_at 0 fr to v .nils .nils [] (.inl ⟨rfl, rfl⟩) (.inl ⟨rfl, rfl⟩) (by simp) (by simp)⟩
theorem dltL_len (l : List OpD) (v : Vec) (most : Int) : (dltL l v most).length ≤ l.length := by
  have := lackS_len l v
  unfold dltL; simp; omega
theorem lackS_mem {l : List OpD} {v : Vec} {x : OpD} (h : x ∈ lackS l v) : x ∈ l := lackL_mem ((osorted_perm _).mem_iff.1 h)
theorem two_dlt (fr to : Nat) (l : List OpD) (v : Vec) (most : Int) (hl : OpsOk l) : Two gossip_Delta.f ref14_Delta.f [u8 fr, u8 to, ops l, .agg v.cells, i64 most] := by
  have h1 := delta_at fr to l v most hl
  have h2 := rdelta_at fr to l v most hl
  unfold dltR at h1
  unfold rdltR at h2
  by_cases hb : mayV 1 fr to [] = false
  · simp only [if_pos hb] at h1 h2
    exact ⟨0, 0, 0, Vec.zero, .nils, .nils, 2, h1, h2, zsame⟩
  simp only [if_neg hb] at h1 h2
  by_cases hm : most < 1 ∨ most > 64
  · simp only [if_pos hm] at h1 h2
    exact ⟨0, 0, 0, Vec.zero, .nils, .nils, 2, h1, h2, zsame⟩
  simp only [if_neg hm] at h1 h2
  have hT := dltL_len l v most
  have hl1 := hl.1
  have hw : ∀ x, x ∈ dltL l v most → lnOk x := fun x hx => .inr (hl.2 x (lackS_mem (List.mem_of_mem_take hx))).1
  cases hb2 : mayV 1 fr to (dltL l v most) <;> rw [hb2] at h1 h2
  · exact ⟨0, 0, 0, Vec.zero, .nils, .nils, 3, h1, h2, zsame⟩
  · exact ⟨1, fr, to, knownV l, _, _, 0, h1, h2, fsame_at 1 fr to (knownV l) _ _ (dltL l v most) (rowV_of _) (.inr rfl) (by omega) hw⟩
def endsC (fr to : Nat) (most : Int) : List SV := [u8 fr, u8 to, i64 most]
set_option maxHeartbeats 4000000 in
theorem tells_law (l : List OpD) (v : Vec) (fr to : Nat) (most : Int) (hl : OpsOk l) : Go.Sl.Pure Try.prog law14_GossipTells.f [ops l, .agg v.cells, .agg (endsC fr to most)] (bl true) := by
  have hl1 := hl.1
  have hLl := lackS_len l v
  refine law14_GossipTells.enter (by simp [SV.ok, SV.oks, SV.oks_d, Vec.cells_ok, endsC]) (by simp [Hp.ok]) (by simp) ?_
  unfold law14_GossipTells.s
  have c0 : (endsC fr to most)[0]? = some (u8 fr) := rfl
  have c1 : (endsC fr to most)[1]? = some (u8 to) := rfl
  have c2 : (endsC fr to most)[2]? = some (i64 most) := rfl
  have c3 : (endsC fr to most).all SV.isOne = true := rfl
  have c4 : (endsC fr to most).length = 3 := rfl
  refine SW.seq ?_
  (refine SW.regL [0, 1, 2, 4, 5, 6, 7, 8, 9, 10, 11, 12, 13, 14, 16] mixed ?_; (repeat (first | refine RW.ro (And.intro (c3) (c4)) (h := ?_) | refine RW.skip (h := ?_) | refine RW.op (And.intro (c3) (c4)) (h := ?_) | refine RW.opN (And.intro (c3) (c4)) (h := ?_) | refine RW.skip0 (h := ?_))); refine RW.nil ⟨by kernel_rfl, Pruned.mk (h := ?_)⟩)
  have hg := great_at l hl
  rcases hb : greatV l with _ | _ <;> rw [hb] at hg
  rotate_left
  · refine SW.seq (SW.seq ?_)
    (refine SW.regL [0, 1, 2, 4, 5, 6, 7, 8, 9, 10, 11, 12, 13, 14, 16] mixed ?_; (repeat (first | refine RW.ro (And.intro (c3) (c4)) (h := ?_) | refine RW.skip (h := ?_) | refine RW.op (And.intro (c3) (c4)) (h := ?_) | refine RW.opN (And.intro (c3) (c4)) (h := ?_) | refine RW.skip0 (h := ?_) | (refine RW.callC (h := ?_); (first | refine CallP.mk (And.intro (c3) (c4)) (hc := hg _) (h := ?_) | refine CallP.mk (And.intro (c3) (c4)) (hc := head_at _) (h := ?_))))); refine RW.nil ⟨by kernel_rfl, Pruned.mk (h := ?_)⟩)
    refine SW.condT rfl (SW.seq ?_)
    (refine SW.regL [0, 1, 2, 4, 5, 6, 7, 8, 9, 10, 11, 12, 13, 14, 16] mixed ?_; (repeat (first | refine RW.ro (And.intro (c3) (c4)) (h := ?_) | refine RW.skip (h := ?_) | refine RW.op (And.intro (c3) (c4)) (h := ?_) | refine RW.opN (And.intro (c3) (c4)) (h := ?_) | refine RW.skip0 (h := ?_) | (refine RW.callC (h := ?_); (first | refine CallP.mk (And.intro (c3) (c4)) (hc := hg _) (h := ?_) | refine CallP.mk (And.intro (c3) (c4)) (hc := head_at _) (h := ?_))))); refine RW.nil ⟨by kernel_rfl, Pruned.mk (h := ?_)⟩)
    refine SW.ret ?_
    exact End.mk [] (h4 := ⟨rfl, rfl⟩)
  have z0 : zFr.all SV.isOne = true := rfl
  have z1 : zFr.length = 12 := rfl
  obtain ⟨kd, f1, t1, h1, o1, o1', e1, hA, hA', hS⟩ := two_dig fr to v
  obtain ⟨kd2, f2, t2, h2, o2, o2', e2, hB, hB', hS2⟩ := two_dlt fr to l v most hl
  have hone := fun x : DV => frDone kd f1 t1 h1 (.d x) rfl
  have hone2 := fun x : DV => frDone kd2 f2 t2 h2 (.d x) rfl
  have g1 := frDl kd f1 t1 h1
  have g2 := frDl kd2 f2 t2 h2
  have g3 : ∀ o, List.take 12 (frD kd f1 t1 h1 o) = frD kd f1 t1 h1 o := fun _ => rfl
  have g4 : ∀ o, spl zFr 0 (frD kd f1 t1 h1 o) = frD kd f1 t1 h1 o := fun _ => rfl
  have g5 : ∀ o, List.take 12 (frD kd2 f2 t2 h2 o) = frD kd2 f2 t2 h2 o := fun _ => rfl
  have g6 : ∀ o, spl zFr 0 (frD kd2 f2 t2 h2 o) = frD kd2 f2 t2 h2 o := fun _ => rfl
  have hlk := rlacks_at l hl1 v
  rw [← lackS_r] at hlk
  have hsa := sameAll_at (lackS l v) (by omega) (fun x hx => .inr (hl.2 x (lackS_mem hx)).1)
  have hla := lacks_at v hl
  refine SW.seq (SW.seq ?_)
  (refine SW.regL [0, 1, 2, 4, 5, 6, 7, 8, 9, 10, 11, 12, 13, 14, 16] mixed ?_; (repeat (first | refine RW.ro (And.intro (c3) (c4)) (h := ?_) | refine RW.skip (h := ?_) | refine RW.op (And.intro (c3) (c4)) (h := ?_) | refine RW.opN (And.intro (c3) (c4)) (h := ?_) | refine RW.skip0 (h := ?_) | (refine RW.callC (h := ?_); (first | refine CallP.mk (And.intro (c3) (c4)) (hc := hg _) (h := ?_) | refine CallP.mk (And.intro (c3) (c4)) (hc := hA _) (h := ?_) | refine CallP.mk (And.intro (c3) (c4)) (hc := hA' _) (h := ?_) | refine CallP.mk (And.intro (c3) (c4)) (hc := hB _) (h := ?_) | refine CallP.mk (And.intro (c3) (c4)) (hc := hB' _) (h := ?_) | refine CallP.mk (And.intro (c3) (c4)) (hc := hS _) (h := ?_) | refine CallP.mk (And.intro (c3) (c4)) (hc := hS2 _) (h := ?_) | refine CallP.mk (And.intro (c3) (c4)) (hc := hlk _) (h := ?_) | refine CallP.mk (And.intro (c3) (c4)) (hc := hsa _) (h := ?_) | refine CallP.mk (And.intro (c3) (c4)) (hc := hla _) (h := ?_) | refine CallP.mk (And.intro (c3) (c4)) (hc := head_at _) (h := ?_))))); refine RW.nil ⟨by kernel_rfl, Pruned.mk (h := ?_)⟩)
  refine SW.condF rfl (SW.skip ?_)
  refine SW.seq ?_
  (refine SW.regL [0, 1, 2, 4, 5, 6, 7, 8, 9, 10, 11, 12, 13, 14, 16] mixed ?_; (repeat (first | refine RW.ro (And.intro (zfr_lit) (And.intro (z0) (And.intro (z1) (And.intro (c0) (And.intro (c1) (And.intro (c2) (And.intro (c3) (And.intro (c4) (And.intro (hone) (And.intro (hone2) (And.intro (g1) (And.intro (g2) (And.intro (g3) (And.intro (g4) (And.intro (g5) (g6)))))))))))))))) (h := ?_) | refine RW.skip (h := ?_) | refine RW.op (And.intro (zfr_lit) (And.intro (z0) (And.intro (z1) (And.intro (c0) (And.intro (c1) (And.intro (c2) (And.intro (c3) (And.intro (c4) (And.intro (hone) (And.intro (hone2) (And.intro (g1) (And.intro (g2) (And.intro (g3) (And.intro (g4) (And.intro (g5) (g6)))))))))))))))) (h := ?_) | refine RW.opN (And.intro (zfr_lit) (And.intro (z0) (And.intro (z1) (And.intro (c0) (And.intro (c1) (And.intro (c2) (And.intro (c3) (And.intro (c4) (And.intro (hone) (And.intro (hone2) (And.intro (g1) (And.intro (g2) (And.intro (g3) (And.intro (g4) (And.intro (g5) (g6)))))))))))))))) (h := ?_) | refine RW.skip0 (h := ?_) | (refine RW.callC (h := ?_); (first | refine CallP.mk (And.intro (zfr_lit) (And.intro (z0) (And.intro (z1) (And.intro (c0) (And.intro (c1) (And.intro (c2) (And.intro (c3) (And.intro (c4) (And.intro (hone) (And.intro (hone2) (And.intro (g1) (And.intro (g2) (And.intro (g3) (And.intro (g4) (And.intro (g5) (g6)))))))))))))))) (hc := hg _) (h := ?_) | refine CallP.mk (And.intro (zfr_lit) (And.intro (z0) (And.intro (z1) (And.intro (c0) (And.intro (c1) (And.intro (c2) (And.intro (c3) (And.intro (c4) (And.intro (hone) (And.intro (hone2) (And.intro (g1) (And.intro (g2) (And.intro (g3) (And.intro (g4) (And.intro (g5) (g6)))))))))))))))) (hc := hA _) (h := ?_) | refine CallP.mk (And.intro (zfr_lit) (And.intro (z0) (And.intro (z1) (And.intro (c0) (And.intro (c1) (And.intro (c2) (And.intro (c3) (And.intro (c4) (And.intro (hone) (And.intro (hone2) (And.intro (g1) (And.intro (g2) (And.intro (g3) (And.intro (g4) (And.intro (g5) (g6)))))))))))))))) (hc := hA' _) (h := ?_) | refine CallP.mk (And.intro (zfr_lit) (And.intro (z0) (And.intro (z1) (And.intro (c0) (And.intro (c1) (And.intro (c2) (And.intro (c3) (And.intro (c4) (And.intro (hone) (And.intro (hone2) (And.intro (g1) (And.intro (g2) (And.intro (g3) (And.intro (g4) (And.intro (g5) (g6)))))))))))))))) (hc := hB _) (h := ?_) | refine CallP.mk (And.intro (zfr_lit) (And.intro (z0) (And.intro (z1) (And.intro (c0) (And.intro (c1) (And.intro (c2) (And.intro (c3) (And.intro (c4) (And.intro (hone) (And.intro (hone2) (And.intro (g1) (And.intro (g2) (And.intro (g3) (And.intro (g4) (And.intro (g5) (g6)))))))))))))))) (hc := hB' _) (h := ?_) | refine CallP.mk (And.intro (zfr_lit) (And.intro (z0) (And.intro (z1) (And.intro (c0) (And.intro (c1) (And.intro (c2) (And.intro (c3) (And.intro (c4) (And.intro (hone) (And.intro (hone2) (And.intro (g1) (And.intro (g2) (And.intro (g3) (And.intro (g4) (And.intro (g5) (g6)))))))))))))))) (hc := hS _) (h := ?_) | refine CallP.mk (And.intro (zfr_lit) (And.intro (z0) (And.intro (z1) (And.intro (c0) (And.intro (c1) (And.intro (c2) (And.intro (c3) (And.intro (c4) (And.intro (hone) (And.intro (hone2) (And.intro (g1) (And.intro (g2) (And.intro (g3) (And.intro (g4) (And.intro (g5) (g6)))))))))))))))) (hc := hS2 _) (h := ?_) | refine CallP.mk (And.intro (zfr_lit) (And.intro (z0) (And.intro (z1) (And.intro (c0) (And.intro (c1) (And.intro (c2) (And.intro (c3) (And.intro (c4) (And.intro (hone) (And.intro (hone2) (And.intro (g1) (And.intro (g2) (And.intro (g3) (And.intro (g4) (And.intro (g5) (g6)))))))))))))))) (hc := hlk _) (h := ?_) | refine CallP.mk (And.intro (zfr_lit) (And.intro (z0) (And.intro (z1) (And.intro (c0) (And.intro (c1) (And.intro (c2) (And.intro (c3) (And.intro (c4) (And.intro (hone) (And.intro (hone2) (And.intro (g1) (And.intro (g2) (And.intro (g3) (And.intro (g4) (And.intro (g5) (g6)))))))))))))))) (hc := hsa _) (h := ?_) | refine CallP.mk (And.intro (zfr_lit) (And.intro (z0) (And.intro (z1) (And.intro (c0) (And.intro (c1) (And.intro (c2) (And.intro (c3) (And.intro (c4) (And.intro (hone) (And.intro (hone2) (And.intro (g1) (And.intro (g2) (And.intro (g3) (And.intro (g4) (And.intro (g5) (g6)))))))))))))))) (hc := hla _) (h := ?_) | refine CallP.mk (And.intro (zfr_lit) (And.intro (z0) (And.intro (z1) (And.intro (c0) (And.intro (c1) (And.intro (c2) (And.intro (c3) (And.intro (c4) (And.intro (hone) (And.intro (hone2) (And.intro (g1) (And.intro (g2) (And.intro (g3) (And.intro (g4) (And.intro (g5) (g6)))))))))))))))) (hc := head_at _) (h := ?_))))); refine RW.nil ⟨by kernel_rfl, Pruned.mk (h := ?_)⟩)
  refine SW.seq ?_
  (refine SW.regL [0, 1, 2, 4, 5, 6, 7, 8, 9, 10, 11, 12, 13, 14, 16] mixed ?_; (repeat (first | refine RW.ro (And.intro (zfr_lit) (And.intro (z0) (And.intro (z1) (And.intro (c0) (And.intro (c1) (And.intro (c2) (And.intro (c3) (And.intro (c4) (And.intro (hone) (And.intro (hone2) (And.intro (g1) (And.intro (g2) (And.intro (g3) (And.intro (g4) (And.intro (g5) (g6)))))))))))))))) (h := ?_) | refine RW.skip (h := ?_) | refine RW.op (And.intro (zfr_lit) (And.intro (z0) (And.intro (z1) (And.intro (c0) (And.intro (c1) (And.intro (c2) (And.intro (c3) (And.intro (c4) (And.intro (hone) (And.intro (hone2) (And.intro (g1) (And.intro (g2) (And.intro (g3) (And.intro (g4) (And.intro (g5) (g6)))))))))))))))) (h := ?_) | refine RW.opN (And.intro (zfr_lit) (And.intro (z0) (And.intro (z1) (And.intro (c0) (And.intro (c1) (And.intro (c2) (And.intro (c3) (And.intro (c4) (And.intro (hone) (And.intro (hone2) (And.intro (g1) (And.intro (g2) (And.intro (g3) (And.intro (g4) (And.intro (g5) (g6)))))))))))))))) (h := ?_) | refine RW.skip0 (h := ?_) | (refine RW.callC (h := ?_); (first | refine CallP.mk (And.intro (zfr_lit) (And.intro (z0) (And.intro (z1) (And.intro (c0) (And.intro (c1) (And.intro (c2) (And.intro (c3) (And.intro (c4) (And.intro (hone) (And.intro (hone2) (And.intro (g1) (And.intro (g2) (And.intro (g3) (And.intro (g4) (And.intro (g5) (g6)))))))))))))))) (hc := hg _) (h := ?_) | refine CallP.mk (And.intro (zfr_lit) (And.intro (z0) (And.intro (z1) (And.intro (c0) (And.intro (c1) (And.intro (c2) (And.intro (c3) (And.intro (c4) (And.intro (hone) (And.intro (hone2) (And.intro (g1) (And.intro (g2) (And.intro (g3) (And.intro (g4) (And.intro (g5) (g6)))))))))))))))) (hc := hA _) (h := ?_) | refine CallP.mk (And.intro (zfr_lit) (And.intro (z0) (And.intro (z1) (And.intro (c0) (And.intro (c1) (And.intro (c2) (And.intro (c3) (And.intro (c4) (And.intro (hone) (And.intro (hone2) (And.intro (g1) (And.intro (g2) (And.intro (g3) (And.intro (g4) (And.intro (g5) (g6)))))))))))))))) (hc := hA' _) (h := ?_) | refine CallP.mk (And.intro (zfr_lit) (And.intro (z0) (And.intro (z1) (And.intro (c0) (And.intro (c1) (And.intro (c2) (And.intro (c3) (And.intro (c4) (And.intro (hone) (And.intro (hone2) (And.intro (g1) (And.intro (g2) (And.intro (g3) (And.intro (g4) (And.intro (g5) (g6)))))))))))))))) (hc := hB _) (h := ?_) | refine CallP.mk (And.intro (zfr_lit) (And.intro (z0) (And.intro (z1) (And.intro (c0) (And.intro (c1) (And.intro (c2) (And.intro (c3) (And.intro (c4) (And.intro (hone) (And.intro (hone2) (And.intro (g1) (And.intro (g2) (And.intro (g3) (And.intro (g4) (And.intro (g5) (g6)))))))))))))))) (hc := hB' _) (h := ?_) | refine CallP.mk (And.intro (zfr_lit) (And.intro (z0) (And.intro (z1) (And.intro (c0) (And.intro (c1) (And.intro (c2) (And.intro (c3) (And.intro (c4) (And.intro (hone) (And.intro (hone2) (And.intro (g1) (And.intro (g2) (And.intro (g3) (And.intro (g4) (And.intro (g5) (g6)))))))))))))))) (hc := hS _) (h := ?_) | refine CallP.mk (And.intro (zfr_lit) (And.intro (z0) (And.intro (z1) (And.intro (c0) (And.intro (c1) (And.intro (c2) (And.intro (c3) (And.intro (c4) (And.intro (hone) (And.intro (hone2) (And.intro (g1) (And.intro (g2) (And.intro (g3) (And.intro (g4) (And.intro (g5) (g6)))))))))))))))) (hc := hS2 _) (h := ?_) | refine CallP.mk (And.intro (zfr_lit) (And.intro (z0) (And.intro (z1) (And.intro (c0) (And.intro (c1) (And.intro (c2) (And.intro (c3) (And.intro (c4) (And.intro (hone) (And.intro (hone2) (And.intro (g1) (And.intro (g2) (And.intro (g3) (And.intro (g4) (And.intro (g5) (g6)))))))))))))))) (hc := hlk _) (h := ?_) | refine CallP.mk (And.intro (zfr_lit) (And.intro (z0) (And.intro (z1) (And.intro (c0) (And.intro (c1) (And.intro (c2) (And.intro (c3) (And.intro (c4) (And.intro (hone) (And.intro (hone2) (And.intro (g1) (And.intro (g2) (And.intro (g3) (And.intro (g4) (And.intro (g5) (g6)))))))))))))))) (hc := hsa _) (h := ?_) | refine CallP.mk (And.intro (zfr_lit) (And.intro (z0) (And.intro (z1) (And.intro (c0) (And.intro (c1) (And.intro (c2) (And.intro (c3) (And.intro (c4) (And.intro (hone) (And.intro (hone2) (And.intro (g1) (And.intro (g2) (And.intro (g3) (And.intro (g4) (And.intro (g5) (g6)))))))))))))))) (hc := hla _) (h := ?_) | refine CallP.mk (And.intro (zfr_lit) (And.intro (z0) (And.intro (z1) (And.intro (c0) (And.intro (c1) (And.intro (c2) (And.intro (c3) (And.intro (c4) (And.intro (hone) (And.intro (hone2) (And.intro (g1) (And.intro (g2) (And.intro (g3) (And.intro (g4) (And.intro (g5) (g6)))))))))))))))) (hc := head_at _) (h := ?_))))); refine RW.nil ⟨by kernel_rfl, Pruned.mk (h := ?_)⟩)
  refine SW.seq ?_
  (refine SW.regL [0, 1, 2, 4, 5, 6, 7, 8, 9, 10, 11, 12, 13, 14, 16] mixed ?_; (repeat (first | refine RW.ro (And.intro (zfr_lit) (And.intro (z0) (And.intro (z1) (And.intro (c0) (And.intro (c1) (And.intro (c2) (And.intro (c3) (And.intro (c4) (And.intro (hone) (And.intro (hone2) (And.intro (g1) (And.intro (g2) (And.intro (g3) (And.intro (g4) (And.intro (g5) (g6)))))))))))))))) (h := ?_) | refine RW.skip (h := ?_) | refine RW.op (And.intro (zfr_lit) (And.intro (z0) (And.intro (z1) (And.intro (c0) (And.intro (c1) (And.intro (c2) (And.intro (c3) (And.intro (c4) (And.intro (hone) (And.intro (hone2) (And.intro (g1) (And.intro (g2) (And.intro (g3) (And.intro (g4) (And.intro (g5) (g6)))))))))))))))) (h := ?_) | refine RW.opN (And.intro (zfr_lit) (And.intro (z0) (And.intro (z1) (And.intro (c0) (And.intro (c1) (And.intro (c2) (And.intro (c3) (And.intro (c4) (And.intro (hone) (And.intro (hone2) (And.intro (g1) (And.intro (g2) (And.intro (g3) (And.intro (g4) (And.intro (g5) (g6)))))))))))))))) (h := ?_) | refine RW.skip0 (h := ?_) | (refine RW.callC (h := ?_); (first | refine CallP.mk (And.intro (zfr_lit) (And.intro (z0) (And.intro (z1) (And.intro (c0) (And.intro (c1) (And.intro (c2) (And.intro (c3) (And.intro (c4) (And.intro (hone) (And.intro (hone2) (And.intro (g1) (And.intro (g2) (And.intro (g3) (And.intro (g4) (And.intro (g5) (g6)))))))))))))))) (hc := hg _) (h := ?_) | refine CallP.mk (And.intro (zfr_lit) (And.intro (z0) (And.intro (z1) (And.intro (c0) (And.intro (c1) (And.intro (c2) (And.intro (c3) (And.intro (c4) (And.intro (hone) (And.intro (hone2) (And.intro (g1) (And.intro (g2) (And.intro (g3) (And.intro (g4) (And.intro (g5) (g6)))))))))))))))) (hc := hA _) (h := ?_) | refine CallP.mk (And.intro (zfr_lit) (And.intro (z0) (And.intro (z1) (And.intro (c0) (And.intro (c1) (And.intro (c2) (And.intro (c3) (And.intro (c4) (And.intro (hone) (And.intro (hone2) (And.intro (g1) (And.intro (g2) (And.intro (g3) (And.intro (g4) (And.intro (g5) (g6)))))))))))))))) (hc := hA' _) (h := ?_) | refine CallP.mk (And.intro (zfr_lit) (And.intro (z0) (And.intro (z1) (And.intro (c0) (And.intro (c1) (And.intro (c2) (And.intro (c3) (And.intro (c4) (And.intro (hone) (And.intro (hone2) (And.intro (g1) (And.intro (g2) (And.intro (g3) (And.intro (g4) (And.intro (g5) (g6)))))))))))))))) (hc := hB _) (h := ?_) | refine CallP.mk (And.intro (zfr_lit) (And.intro (z0) (And.intro (z1) (And.intro (c0) (And.intro (c1) (And.intro (c2) (And.intro (c3) (And.intro (c4) (And.intro (hone) (And.intro (hone2) (And.intro (g1) (And.intro (g2) (And.intro (g3) (And.intro (g4) (And.intro (g5) (g6)))))))))))))))) (hc := hB' _) (h := ?_) | refine CallP.mk (And.intro (zfr_lit) (And.intro (z0) (And.intro (z1) (And.intro (c0) (And.intro (c1) (And.intro (c2) (And.intro (c3) (And.intro (c4) (And.intro (hone) (And.intro (hone2) (And.intro (g1) (And.intro (g2) (And.intro (g3) (And.intro (g4) (And.intro (g5) (g6)))))))))))))))) (hc := hS _) (h := ?_) | refine CallP.mk (And.intro (zfr_lit) (And.intro (z0) (And.intro (z1) (And.intro (c0) (And.intro (c1) (And.intro (c2) (And.intro (c3) (And.intro (c4) (And.intro (hone) (And.intro (hone2) (And.intro (g1) (And.intro (g2) (And.intro (g3) (And.intro (g4) (And.intro (g5) (g6)))))))))))))))) (hc := hS2 _) (h := ?_) | refine CallP.mk (And.intro (zfr_lit) (And.intro (z0) (And.intro (z1) (And.intro (c0) (And.intro (c1) (And.intro (c2) (And.intro (c3) (And.intro (c4) (And.intro (hone) (And.intro (hone2) (And.intro (g1) (And.intro (g2) (And.intro (g3) (And.intro (g4) (And.intro (g5) (g6)))))))))))))))) (hc := hlk _) (h := ?_) | refine CallP.mk (And.intro (zfr_lit) (And.intro (z0) (And.intro (z1) (And.intro (c0) (And.intro (c1) (And.intro (c2) (And.intro (c3) (And.intro (c4) (And.intro (hone) (And.intro (hone2) (And.intro (g1) (And.intro (g2) (And.intro (g3) (And.intro (g4) (And.intro (g5) (g6)))))))))))))))) (hc := hsa _) (h := ?_) | refine CallP.mk (And.intro (zfr_lit) (And.intro (z0) (And.intro (z1) (And.intro (c0) (And.intro (c1) (And.intro (c2) (And.intro (c3) (And.intro (c4) (And.intro (hone) (And.intro (hone2) (And.intro (g1) (And.intro (g2) (And.intro (g3) (And.intro (g4) (And.intro (g5) (g6)))))))))))))))) (hc := hla _) (h := ?_) | refine CallP.mk (And.intro (zfr_lit) (And.intro (z0) (And.intro (z1) (And.intro (c0) (And.intro (c1) (And.intro (c2) (And.intro (c3) (And.intro (c4) (And.intro (hone) (And.intro (hone2) (And.intro (g1) (And.intro (g2) (And.intro (g3) (And.intro (g4) (And.intro (g5) (g6)))))))))))))))) (hc := head_at _) (h := ?_))))); refine RW.nil ⟨by kernel_rfl, Pruned.mk (h := ?_)⟩)
  refine SW.seq ?_
  (refine SW.regL [0, 1, 2, 4, 5, 6, 7, 8, 9, 10, 11, 12, 13, 14, 16] mixed ?_; (repeat (first | refine RW.ro (And.intro (zfr_lit) (And.intro (z0) (And.intro (z1) (And.intro (c0) (And.intro (c1) (And.intro (c2) (And.intro (c3) (And.intro (c4) (And.intro (hone) (And.intro (hone2) (And.intro (g1) (And.intro (g2) (And.intro (g3) (And.intro (g4) (And.intro (g5) (g6)))))))))))))))) (h := ?_) | refine RW.skip (h := ?_) | refine RW.op (And.intro (zfr_lit) (And.intro (z0) (And.intro (z1) (And.intro (c0) (And.intro (c1) (And.intro (c2) (And.intro (c3) (And.intro (c4) (And.intro (hone) (And.intro (hone2) (And.intro (g1) (And.intro (g2) (And.intro (g3) (And.intro (g4) (And.intro (g5) (g6)))))))))))))))) (h := ?_) | refine RW.opN (And.intro (zfr_lit) (And.intro (z0) (And.intro (z1) (And.intro (c0) (And.intro (c1) (And.intro (c2) (And.intro (c3) (And.intro (c4) (And.intro (hone) (And.intro (hone2) (And.intro (g1) (And.intro (g2) (And.intro (g3) (And.intro (g4) (And.intro (g5) (g6)))))))))))))))) (h := ?_) | refine RW.skip0 (h := ?_) | (refine RW.callC (h := ?_); (first | refine CallP.mk (And.intro (zfr_lit) (And.intro (z0) (And.intro (z1) (And.intro (c0) (And.intro (c1) (And.intro (c2) (And.intro (c3) (And.intro (c4) (And.intro (hone) (And.intro (hone2) (And.intro (g1) (And.intro (g2) (And.intro (g3) (And.intro (g4) (And.intro (g5) (g6)))))))))))))))) (hc := hg _) (h := ?_) | refine CallP.mk (And.intro (zfr_lit) (And.intro (z0) (And.intro (z1) (And.intro (c0) (And.intro (c1) (And.intro (c2) (And.intro (c3) (And.intro (c4) (And.intro (hone) (And.intro (hone2) (And.intro (g1) (And.intro (g2) (And.intro (g3) (And.intro (g4) (And.intro (g5) (g6)))))))))))))))) (hc := hA _) (h := ?_) | refine CallP.mk (And.intro (zfr_lit) (And.intro (z0) (And.intro (z1) (And.intro (c0) (And.intro (c1) (And.intro (c2) (And.intro (c3) (And.intro (c4) (And.intro (hone) (And.intro (hone2) (And.intro (g1) (And.intro (g2) (And.intro (g3) (And.intro (g4) (And.intro (g5) (g6)))))))))))))))) (hc := hA' _) (h := ?_) | refine CallP.mk (And.intro (zfr_lit) (And.intro (z0) (And.intro (z1) (And.intro (c0) (And.intro (c1) (And.intro (c2) (And.intro (c3) (And.intro (c4) (And.intro (hone) (And.intro (hone2) (And.intro (g1) (And.intro (g2) (And.intro (g3) (And.intro (g4) (And.intro (g5) (g6)))))))))))))))) (hc := hB _) (h := ?_) | refine CallP.mk (And.intro (zfr_lit) (And.intro (z0) (And.intro (z1) (And.intro (c0) (And.intro (c1) (And.intro (c2) (And.intro (c3) (And.intro (c4) (And.intro (hone) (And.intro (hone2) (And.intro (g1) (And.intro (g2) (And.intro (g3) (And.intro (g4) (And.intro (g5) (g6)))))))))))))))) (hc := hB' _) (h := ?_) | refine CallP.mk (And.intro (zfr_lit) (And.intro (z0) (And.intro (z1) (And.intro (c0) (And.intro (c1) (And.intro (c2) (And.intro (c3) (And.intro (c4) (And.intro (hone) (And.intro (hone2) (And.intro (g1) (And.intro (g2) (And.intro (g3) (And.intro (g4) (And.intro (g5) (g6)))))))))))))))) (hc := hS _) (h := ?_) | refine CallP.mk (And.intro (zfr_lit) (And.intro (z0) (And.intro (z1) (And.intro (c0) (And.intro (c1) (And.intro (c2) (And.intro (c3) (And.intro (c4) (And.intro (hone) (And.intro (hone2) (And.intro (g1) (And.intro (g2) (And.intro (g3) (And.intro (g4) (And.intro (g5) (g6)))))))))))))))) (hc := hS2 _) (h := ?_) | refine CallP.mk (And.intro (zfr_lit) (And.intro (z0) (And.intro (z1) (And.intro (c0) (And.intro (c1) (And.intro (c2) (And.intro (c3) (And.intro (c4) (And.intro (hone) (And.intro (hone2) (And.intro (g1) (And.intro (g2) (And.intro (g3) (And.intro (g4) (And.intro (g5) (g6)))))))))))))))) (hc := hlk _) (h := ?_) | refine CallP.mk (And.intro (zfr_lit) (And.intro (z0) (And.intro (z1) (And.intro (c0) (And.intro (c1) (And.intro (c2) (And.intro (c3) (And.intro (c4) (And.intro (hone) (And.intro (hone2) (And.intro (g1) (And.intro (g2) (And.intro (g3) (And.intro (g4) (And.intro (g5) (g6)))))))))))))))) (hc := hsa _) (h := ?_) | refine CallP.mk (And.intro (zfr_lit) (And.intro (z0) (And.intro (z1) (And.intro (c0) (And.intro (c1) (And.intro (c2) (And.intro (c3) (And.intro (c4) (And.intro (hone) (And.intro (hone2) (And.intro (g1) (And.intro (g2) (And.intro (g3) (And.intro (g4) (And.intro (g5) (g6)))))))))))))))) (hc := hla _) (h := ?_) | refine CallP.mk (And.intro (zfr_lit) (And.intro (z0) (And.intro (z1) (And.intro (c0) (And.intro (c1) (And.intro (c2) (And.intro (c3) (And.intro (c4) (And.intro (hone) (And.intro (hone2) (And.intro (g1) (And.intro (g2) (And.intro (g3) (And.intro (g4) (And.intro (g5) (g6)))))))))))))))) (hc := head_at _) (h := ?_))))); refine RW.nil ⟨by kernel_rfl, Pruned.mk (h := ?_)⟩)
  refine SW.seq ?_
  (refine SW.regL [0, 1, 2, 4, 5, 6, 7, 8, 9, 10, 11, 12, 13, 14, 16] mixed ?_; (repeat (first | refine RW.ro (And.intro (zfr_lit) (And.intro (z0) (And.intro (z1) (And.intro (c0) (And.intro (c1) (And.intro (c2) (And.intro (c3) (And.intro (c4) (And.intro (hone) (And.intro (hone2) (And.intro (g1) (And.intro (g2) (And.intro (g3) (And.intro (g4) (And.intro (g5) (g6)))))))))))))))) (h := ?_) | refine RW.skip (h := ?_) | refine RW.op (And.intro (zfr_lit) (And.intro (z0) (And.intro (z1) (And.intro (c0) (And.intro (c1) (And.intro (c2) (And.intro (c3) (And.intro (c4) (And.intro (hone) (And.intro (hone2) (And.intro (g1) (And.intro (g2) (And.intro (g3) (And.intro (g4) (And.intro (g5) (g6)))))))))))))))) (h := ?_) | refine RW.opN (And.intro (zfr_lit) (And.intro (z0) (And.intro (z1) (And.intro (c0) (And.intro (c1) (And.intro (c2) (And.intro (c3) (And.intro (c4) (And.intro (hone) (And.intro (hone2) (And.intro (g1) (And.intro (g2) (And.intro (g3) (And.intro (g4) (And.intro (g5) (g6)))))))))))))))) (h := ?_) | refine RW.skip0 (h := ?_) | (refine RW.callC (h := ?_); (first | refine CallP.mk (And.intro (zfr_lit) (And.intro (z0) (And.intro (z1) (And.intro (c0) (And.intro (c1) (And.intro (c2) (And.intro (c3) (And.intro (c4) (And.intro (hone) (And.intro (hone2) (And.intro (g1) (And.intro (g2) (And.intro (g3) (And.intro (g4) (And.intro (g5) (g6)))))))))))))))) (hc := hg _) (h := ?_) | refine CallP.mk (And.intro (zfr_lit) (And.intro (z0) (And.intro (z1) (And.intro (c0) (And.intro (c1) (And.intro (c2) (And.intro (c3) (And.intro (c4) (And.intro (hone) (And.intro (hone2) (And.intro (g1) (And.intro (g2) (And.intro (g3) (And.intro (g4) (And.intro (g5) (g6)))))))))))))))) (hc := hA _) (h := ?_) | refine CallP.mk (And.intro (zfr_lit) (And.intro (z0) (And.intro (z1) (And.intro (c0) (And.intro (c1) (And.intro (c2) (And.intro (c3) (And.intro (c4) (And.intro (hone) (And.intro (hone2) (And.intro (g1) (And.intro (g2) (And.intro (g3) (And.intro (g4) (And.intro (g5) (g6)))))))))))))))) (hc := hA' _) (h := ?_) | refine CallP.mk (And.intro (zfr_lit) (And.intro (z0) (And.intro (z1) (And.intro (c0) (And.intro (c1) (And.intro (c2) (And.intro (c3) (And.intro (c4) (And.intro (hone) (And.intro (hone2) (And.intro (g1) (And.intro (g2) (And.intro (g3) (And.intro (g4) (And.intro (g5) (g6)))))))))))))))) (hc := hB _) (h := ?_) | refine CallP.mk (And.intro (zfr_lit) (And.intro (z0) (And.intro (z1) (And.intro (c0) (And.intro (c1) (And.intro (c2) (And.intro (c3) (And.intro (c4) (And.intro (hone) (And.intro (hone2) (And.intro (g1) (And.intro (g2) (And.intro (g3) (And.intro (g4) (And.intro (g5) (g6)))))))))))))))) (hc := hB' _) (h := ?_) | refine CallP.mk (And.intro (zfr_lit) (And.intro (z0) (And.intro (z1) (And.intro (c0) (And.intro (c1) (And.intro (c2) (And.intro (c3) (And.intro (c4) (And.intro (hone) (And.intro (hone2) (And.intro (g1) (And.intro (g2) (And.intro (g3) (And.intro (g4) (And.intro (g5) (g6)))))))))))))))) (hc := hS _) (h := ?_) | refine CallP.mk (And.intro (zfr_lit) (And.intro (z0) (And.intro (z1) (And.intro (c0) (And.intro (c1) (And.intro (c2) (And.intro (c3) (And.intro (c4) (And.intro (hone) (And.intro (hone2) (And.intro (g1) (And.intro (g2) (And.intro (g3) (And.intro (g4) (And.intro (g5) (g6)))))))))))))))) (hc := hS2 _) (h := ?_) | refine CallP.mk (And.intro (zfr_lit) (And.intro (z0) (And.intro (z1) (And.intro (c0) (And.intro (c1) (And.intro (c2) (And.intro (c3) (And.intro (c4) (And.intro (hone) (And.intro (hone2) (And.intro (g1) (And.intro (g2) (And.intro (g3) (And.intro (g4) (And.intro (g5) (g6)))))))))))))))) (hc := hlk _) (h := ?_) | refine CallP.mk (And.intro (zfr_lit) (And.intro (z0) (And.intro (z1) (And.intro (c0) (And.intro (c1) (And.intro (c2) (And.intro (c3) (And.intro (c4) (And.intro (hone) (And.intro (hone2) (And.intro (g1) (And.intro (g2) (And.intro (g3) (And.intro (g4) (And.intro (g5) (g6)))))))))))))))) (hc := hsa _) (h := ?_) | refine CallP.mk (And.intro (zfr_lit) (And.intro (z0) (And.intro (z1) (And.intro (c0) (And.intro (c1) (And.intro (c2) (And.intro (c3) (And.intro (c4) (And.intro (hone) (And.intro (hone2) (And.intro (g1) (And.intro (g2) (And.intro (g3) (And.intro (g4) (And.intro (g5) (g6)))))))))))))))) (hc := hla _) (h := ?_) | refine CallP.mk (And.intro (zfr_lit) (And.intro (z0) (And.intro (z1) (And.intro (c0) (And.intro (c1) (And.intro (c2) (And.intro (c3) (And.intro (c4) (And.intro (hone) (And.intro (hone2) (And.intro (g1) (And.intro (g2) (And.intro (g3) (And.intro (g4) (And.intro (g5) (g6)))))))))))))))) (hc := head_at _) (h := ?_))))); refine RW.nil ⟨by kernel_rfl, Pruned.mk (h := ?_)⟩)
  refine SW.ret ?_
  exact End.mk [] (h4 := ⟨rfl, rfl⟩)
end Go.Proofs.Ytpbfnenlbkjhgaa

/-
  Rows whose own rows may be nil: nil held against a row of none.
-/
set_option linter.unusedVariables false
set_option linter.unusedSimpArgs false
set_option linter.unusedSectionVars false
namespace Go.Sl
open Go.RowKit

/-- A nil row as a row of none. -/
def nz : DV → DV
  | .nils => .sl 0 []
  | x => x
theorem RepD.nz {M : Mem} {v : Value} {x : DV} (h : RepD M x v) : RepD M (Go.Sl.nz x) v := by
  cases x with
  | nils => exact h.nils_sl
  | _ => exact h
theorem RepR.nz {M : Mem} {b : Nat} : ∀ (cs : List DV) (o : Nat), RepR M b o cs → RepR M b o (cs.map Go.Sl.nz)
  | [], o, h => by simp [RepR]
  | c :: cs, o, h => by
    simp only [RepR, List.map_cons] at h ⊢
    obtain ⟨⟨u, h1, h2⟩, h3⟩ := h
    exact ⟨⟨u, h1, h2.nz⟩, RepR.nz cs (o + 1) h3⟩
theorem RepD.nzr {M : Mem} {v : Value} {n : Nat} {cs : List DV} (h : RepD M (.sl n cs) v) : RepD M (.sl n (cs.map Go.Sl.nz)) v := by
  simp only [RepD] at h ⊢
  obtain ⟨A, c, h1, h2, h3, h4⟩ := h
  refine ⟨A, c, h1, h2, fun hn => by rw [h3 hn]; rfl, fun hn => ?_⟩
  obtain ⟨b, o, h5, h6⟩ := h4 hn
  exact ⟨b, o, h5, RepR.nz cs o h6⟩
theorem rps_nzr {p : Nat → Prop} {μ : Nat → Nm} {M : Mem} {n : Nat} {cs : List DV} {r r' : List SV} (hr : ∀ vs, Rps p μ M r' vs → Rps p μ M r vs) (vs : List Value) (h : Rps p μ M (.d (.sl n cs) :: r') vs) : Rps p μ M (.d (.sl n (cs.map Go.Sl.nz)) :: r) vs := by
  obtain ⟨u, us, rfl, h1, h2⟩ := Rps.cons_iff.1 h
  exact Rps.cons_iff.2 ⟨u, us, rfl, Rp.d_iff.2 (Rp.d_iff.1 h1).nzr, hr us h2⟩
theorem rps_nil_row {p : Nat → Prop} {μ : Nat → Nm} {M : Mem} {r r' : List SV} (hr : ∀ vs, Rps p μ M r' vs → Rps p μ M r vs) (vs : List Value) (h : Rps p μ M (.d .nils :: r') vs) : Rps p μ M (.d (.sl 0 []) :: r) vs := by
  obtain ⟨u, us, rfl, h1, h2⟩ := Rps.cons_iff.1 h
  exact Rps.cons_iff.2 ⟨u, us, rfl, nils_sl p μ M u h1, hr us h2⟩
theorem rps_keep {p : Nat → Prop} {μ : Nat → Nm} {M : Mem} {x : SV} {r r' : List SV} (hr : ∀ vs, Rps p μ M r' vs → Rps p μ M r vs) (vs : List Value) (h : Rps p μ M (x :: r') vs) : Rps p μ M (x :: r) vs := by
  obtain ⟨u, us, rfl, h1, h2⟩ := Rps.cons_iff.1 h
  exact Rps.cons_iff.2 ⟨u, us, rfl, h1, hr us h2⟩
theorem rps_nzs {p : Nat → Prop} {μ : Nat → Nm} {M : Mem} : ∀ (ds : List DV) (vs : List Value), Rps p μ M (ds.map SV.d) vs → Rps p μ M ((ds.map Go.Sl.nz).map SV.d) vs
  | [], vs, h => h
  | d :: ds, vs, h => by
    obtain ⟨u, us, rfl, h1, h2⟩ := Rps.cons_iff.1 h
    exact Rps.cons_iff.2 ⟨u, us, rfl, Rp.d_iff.2 (Rp.d_iff.1 h1).nz, rps_nzs ds us h2⟩
theorem rps_nza {p : Nat → Prop} {μ : Nat → Nm} {M : Mem} {ds : List DV} {r r' : List SV} (hr : ∀ vs, Rps p μ M r' vs → Rps p μ M r vs) (vs : List Value) (h : Rps p μ M (.agg (ds.map SV.d) :: r') vs) : Rps p μ M (.agg ((ds.map Go.Sl.nz).map SV.d) :: r) vs := by
  obtain ⟨u, us, rfl, h1, h2⟩ := Rps.cons_iff.1 h
  obtain ⟨ws, e, h3⟩ := Rp.agg_iff.1 h1
  exact Rps.cons_iff.2 ⟨_, us, rfl, Rp.agg_iff.2 ⟨ws, e, rps_nzs ds _ h3⟩, hr us h2⟩

/-! ### api.Op -/
def OpD.nz (o : OpD) : OpD := { o with lines := Go.Sl.nz o.lines }
theorem OpD.nz_ds (o : OpD) : o.nz.ds = o.ds.map Go.Sl.nz := rfl
theorem ops_nz (l : List OpD) : ((l.map OpD.nz).flatMap OpD.ds) = (l.flatMap OpD.ds).map Go.Sl.nz := by
  induction l with
  | nil => rfl
  | cons o l ih => simp only [List.map_cons, List.flatMap_cons, List.map_append, ih, OpD.nz_ds]
/-- What an operation's data are of. -/
structure OpD.good (o : OpD) : Prop where
  dot : o.dot.wf
  dep : o.dep.wf
  time : o.time < 18446744073709551616
  who : o.who < 4294967296
  cart : o.cart.wf
  kind : o.kind < 256
  cred : o.cred.wf
  to : o.to < 4294967296
  roles : o.roles < 256
  depth : o.depth < 256
  cap : o.cap < 18446744073709551616
  at_ : o.at_.wf
  ver : o.ver.wf
  item : o.item < 4294967296
  qty : o.qty < 4294967296
  price : o.price < 4294967296
  lines : o.lines = .nils ∨ ∃ n cs, o.lines = .sl n cs ∧ n ≤ 9223372036854775807
theorem OpD.good.nz {o : OpD} (h : o.good) : o.nz.good := ⟨h.dot, h.dep, h.time, h.who, h.cart, h.kind, h.cred, h.to, h.roles, h.depth, h.cap, h.at_, h.ver, h.item, h.qty, h.price, by
  rcases h.lines with e | ⟨n, cs, e, hn⟩
  · exact .inr ⟨0, [], by show Go.Sl.nz o.lines = _; rw [e]; rfl, by omega⟩
  · exact .inr ⟨n, cs, by show Go.Sl.nz o.lines = _; rw [e]; rfl, hn⟩⟩
theorem OpD.good.row {o : OpD} (h : o.good) : ∃ n cs, o.nz.lines = .sl n cs ∧ n ≤ 9223372036854775807 := by
  rcases h.lines with e | ⟨n, cs, e, hn⟩
  · exact ⟨0, [], by show Go.Sl.nz o.lines = _; rw [e]; rfl, by omega⟩
  · exact ⟨n, cs, by show Go.Sl.nz o.lines = _; rw [e]; rfl, hn⟩
/-- A row of cells, cut. -/
theorem cutR {ds x : List DV} {a n b : Nat} (h : (ds.drop a).take n = x) (hb : a + n = b) : ds.drop a = x ++ ds.drop b := by
  rw [← h, ← hb, ← List.drop_drop, List.take_append_drop]
end Go.Sl

/-
  What the statements' arguments read as: operations with their lines, and rows of them.
-/
set_option linter.unusedSectionVars false
set_option linter.unusedVariables false
set_option linter.unusedSimpArgs false
namespace Go.Proofs.Ytpbfnenlbkjhgaa
open Go.Sl Go.Proofs

theorem argSV_agg {P : Program} {t : TypeId} {n : Nat} {ds : List DV} (h : tySz P t = some (some n)) : argSV P t ds = .agg (ds.map .d) := by simp [argSV, h]
theorem argSV_one {P : Program} {t : TypeId} {ds : List DV} (h : tySz P t = some none) : argSV P t ds = .d (ds.headD .nilp) := by simp [argSV, h]
set_option maxRecDepth 100000 in
theorem vec_fit {d : Nat} {ds : List DV} (h : Fit Try.prog (d + 2) T_api_Vector ds) : ∃ v : Vec, v.wf ∧ ds = v.ds :=
  fit_vec (P := Try.prog) (t := T_api_Vector) (e := T_uint32) Try.underlying28 Try.underlying26 (by kernel_rfl) (by kernel_rfl) h
set_option maxRecDepth 100000 in
theorem dot_fit {d : Nat} {ds : List DV} (h : Fit Try.prog (d + 2) T_api_Dot ds) : ∃ x : Dt, x.wf ∧ ds = x.ds :=
  fit_dot (P := Try.prog) (t := T_api_Dot) Try.underlying46 rfl rfl rfl rfl Try.underlying5 Try.underlying26 (by kernel_rfl) (by kernel_rfl) (by kernel_rfl) h
set_option maxRecDepth 100000 in
theorem claim_fit {d : Nat} {ds : List DV} (h : Fit Try.prog (d + 3) T_api_Claim ds) : ∃ x : Cm, x.wf ∧ ds = x.ds := by
  have f0 := fit_field (P := Try.prog) (t := T_api_Claim) Try.underlying85 h 0 _ rfl
  have f1 := fit_field (P := Try.prog) (t := T_api_Claim) Try.underlying85 h 1 _ rfl
  have hl := fit_len (P := Try.prog) (t := T_api_Claim) Try.underlying85 h
  rw [show Try.prog.cellsOf T_api_Claim = 4 from by kernel_rfl] at hl
  obtain ⟨x0, w0, e0⟩ := dot_fit (d := d) f0
  obtain ⟨x1, w1, e1⟩ := dot_fit (d := d) f1
  refine ⟨⟨x0, x1⟩, ⟨w0, w1⟩, ?_⟩
  have g0 : ds.drop 0 = x0.ds ++ ds.drop 2 := cutR (n := 2) e0 rfl
  have g1 : ds.drop 2 = x1.ds ++ ds.drop 4 := cutR (n := 2) e1 rfl
  have g : ds.drop 4 = [] := List.drop_of_length_le (by omega)
  have g' : ds = ds.drop 0 := rfl
  rw [g', g0, g1, g]
  rfl
set_option maxRecDepth 100000 in
theorem lines_fit {d : Nat} {ds : List DV} (h : Fit Try.prog (d + 4) T_L_api_Claim ds) : ds = [.nils] ∨ ∃ l : List Cm, (∀ x ∈ l, x.wf) ∧ l.length ≤ 9223372036854775807 ∧ ds = [.sl l.length (l.flatMap Cm.ds)] :=
  fit_slice Cm.ds Cm.wf (P := Try.prog) (t := T_L_api_Claim) (e := T_api_Claim) Try.underlying48 (fun _ h => claim_fit h) h
/-- What an operation's data are of. -/
structure OpF (o : OpD) : Prop where
  dot : o.dot.wf
  lines : o.lines = .nils ∨ ∃ cl : List Cm, o.lines = .sl cl.length (cl.flatMap Cm.ds) ∧ cl.length ≤ 9223372036854775807
set_option maxRecDepth 100000 in
set_option maxHeartbeats 2000000 in
theorem op_fit {d : Nat} {ds : List DV} (h : Fit Try.prog (d + 5) T_api_Op ds) : ∃ o : OpD, OpF o ∧ ds = o.ds := by
  have f0 := fit_field (P := Try.prog) (t := T_api_Op) Try.underlying50 h 0 _ rfl
  have f1 := fit_field (P := Try.prog) (t := T_api_Op) Try.underlying50 h 1 _ rfl
  have f2 := fit_field (P := Try.prog) (t := T_api_Op) Try.underlying50 h 2 _ rfl
  have f3 := fit_field (P := Try.prog) (t := T_api_Op) Try.underlying50 h 3 _ rfl
  have f4 := fit_field (P := Try.prog) (t := T_api_Op) Try.underlying50 h 4 _ rfl
  have f5 := fit_field (P := Try.prog) (t := T_api_Op) Try.underlying50 h 5 _ rfl
  have f6 := fit_field (P := Try.prog) (t := T_api_Op) Try.underlying50 h 6 _ rfl
  have f7 := fit_field (P := Try.prog) (t := T_api_Op) Try.underlying50 h 7 _ rfl
  have f8 := fit_field (P := Try.prog) (t := T_api_Op) Try.underlying50 h 8 _ rfl
  have f9 := fit_field (P := Try.prog) (t := T_api_Op) Try.underlying50 h 9 _ rfl
  have f10 := fit_field (P := Try.prog) (t := T_api_Op) Try.underlying50 h 10 _ rfl
  have f11 := fit_field (P := Try.prog) (t := T_api_Op) Try.underlying50 h 11 _ rfl
  have f12 := fit_field (P := Try.prog) (t := T_api_Op) Try.underlying50 h 12 _ rfl
  have f13 := fit_field (P := Try.prog) (t := T_api_Op) Try.underlying50 h 13 _ rfl
  have f14 := fit_field (P := Try.prog) (t := T_api_Op) Try.underlying50 h 14 _ rfl
  have f15 := fit_field (P := Try.prog) (t := T_api_Op) Try.underlying50 h 15 _ rfl
  have f16 := fit_field (P := Try.prog) (t := T_api_Op) Try.underlying50 h 16 _ rfl
  have hl := fit_len (P := Try.prog) (t := T_api_Op) Try.underlying50 h
  rw [show Try.prog.cellsOf T_api_Op = 29 from by kernel_rfl] at hl
  obtain ⟨x0, w0, e0⟩ := dot_fit (d := d + 2) f0
  obtain ⟨x1, w1, e1⟩ := vec_fit (d := d + 2) f1
  obtain ⟨x2, w2, e2⟩ := fit_u64 (P := Try.prog) Try.underlying47 f2
  obtain ⟨x3, w3, e3⟩ := fit_u32 (P := Try.prog) Try.underlying26 f3
  obtain ⟨x4, w4, e4⟩ := dot_fit (d := d + 2) f4
  obtain ⟨x5, w5, e5⟩ := fit_u8 (P := Try.prog) Try.underlying5 f5
  obtain ⟨x6, w6, e6⟩ := dot_fit (d := d + 2) f6
  obtain ⟨x7, w7, e7⟩ := fit_u32 (P := Try.prog) Try.underlying26 f7
  obtain ⟨x8, w8, e8⟩ := fit_u8 (P := Try.prog) Try.underlying5 f8
  obtain ⟨x9, w9, e9⟩ := fit_u8 (P := Try.prog) Try.underlying5 f9
  obtain ⟨x10, w10, e10⟩ := fit_u64 (P := Try.prog) Try.underlying47 f10
  obtain ⟨x11, w11, e11⟩ := dot_fit (d := d + 2) f11
  obtain ⟨x12, w12, e12⟩ := dot_fit (d := d + 2) f12
  obtain ⟨x13, w13, e13⟩ := fit_u32 (P := Try.prog) Try.underlying26 f13
  obtain ⟨x14, w14, e14⟩ := fit_u32 (P := Try.prog) Try.underlying26 f14
  obtain ⟨x15, w15, e15⟩ := fit_u32 (P := Try.prog) Try.underlying26 f15
  have e16 : ∃ y, (ds.drop 28).take 1 = [y] ∧ (y = .nils ∨ ∃ cl : List Cm, y = .sl cl.length (cl.flatMap Cm.ds) ∧ cl.length ≤ 9223372036854775807) := by
    rcases lines_fit (d := d) f16 with e | ⟨cl, _, hn, e⟩
    · exact ⟨.nils, e, .inl rfl⟩
    · exact ⟨_, e, .inr ⟨cl, rfl, hn⟩⟩
  obtain ⟨x16, e16, w16⟩ := e16
  refine ⟨⟨x0, x1, x2, x3, x4, x5, x6, x7, x8, x9, x10, x11, x12, x13, x14, x15, x16⟩, ⟨w0, w16⟩, ?_⟩
  have g0 : ds.drop 0 = x0.ds ++ ds.drop 2 := cutR (n := 2) e0 rfl
  have g1 : ds.drop 2 = x1.ds ++ ds.drop 10 := cutR (n := 8) e1 rfl
  have g2 : ds.drop 10 = [.int .u64 x2] ++ ds.drop 11 := cutR (n := 1) e2 rfl
  have g3 : ds.drop 11 = [.int .u32 x3] ++ ds.drop 12 := cutR (n := 1) e3 rfl
  have g4 : ds.drop 12 = x4.ds ++ ds.drop 14 := cutR (n := 2) e4 rfl
  have g5 : ds.drop 14 = [.int .u8 x5] ++ ds.drop 15 := cutR (n := 1) e5 rfl
  have g6 : ds.drop 15 = x6.ds ++ ds.drop 17 := cutR (n := 2) e6 rfl
  have g7 : ds.drop 17 = [.int .u32 x7] ++ ds.drop 18 := cutR (n := 1) e7 rfl
  have g8 : ds.drop 18 = [.int .u8 x8] ++ ds.drop 19 := cutR (n := 1) e8 rfl
  have g9 : ds.drop 19 = [.int .u8 x9] ++ ds.drop 20 := cutR (n := 1) e9 rfl
  have g10 : ds.drop 20 = [.int .u64 x10] ++ ds.drop 21 := cutR (n := 1) e10 rfl
  have g11 : ds.drop 21 = x11.ds ++ ds.drop 23 := cutR (n := 2) e11 rfl
  have g12 : ds.drop 23 = x12.ds ++ ds.drop 25 := cutR (n := 2) e12 rfl
  have g13 : ds.drop 25 = [.int .u32 x13] ++ ds.drop 26 := cutR (n := 1) e13 rfl
  have g14 : ds.drop 26 = [.int .u32 x14] ++ ds.drop 27 := cutR (n := 1) e14 rfl
  have g15 : ds.drop 27 = [.int .u32 x15] ++ ds.drop 28 := cutR (n := 1) e15 rfl
  have g16 : ds.drop 28 = [x16] ++ ds.drop 29 := cutR (n := 1) e16 rfl
  have g : ds.drop 29 = [] := List.drop_of_length_le (by omega)
  have g' : ds = ds.drop 0 := rfl
  rw [g', g0, g1, g2, g3, g4, g5, g6, g7, g8, g9, g10, g11, g12, g13, g14, g15, g16, g]
  rfl
set_option maxRecDepth 100000 in
theorem ops_fit {d : Nat} {ds : List DV} (h : Fit Try.prog (d + 6) T_L_api_Op ds) : ds = [.nils] ∨ ∃ l : List OpD, (∀ x ∈ l, OpF x) ∧ l.length ≤ 9223372036854775807 ∧ ds = [.sl l.length (l.flatMap OpD.ds)] :=
  fit_slice OpD.ds OpF (P := Try.prog) (t := T_L_api_Op) (e := T_api_Op) Try.underlying25 (fun _ h => op_fit h) h
theorem ops_arg (x : DV) : argSV Try.prog T_L_api_Op [x] = .d x := by rw [argSV_one (by kernel_rfl)]; rfl
theorem vec_arg (v : Vec) : argSV Try.prog T_api_Vector v.ds = .agg v.cells := by rw [argSV_agg (n := 8) (by kernel_rfl), Vec.map_ds]
theorem flat_mem {l : List OpD} {o : OpD} (h : o ∈ l) {x : DV} (hx : x ∈ o.ds) : x ∈ l.flatMap OpD.ds := List.mem_flatMap.2 ⟨o, h, hx⟩
theorem line_mem (o : OpD) : o.lines ∈ o.ds := by simp [OpD.ds]
set_option maxRecDepth 100000 in
/-- A short row of operations, nil or not, is held against one whose lines are rows. -/
theorem ops_weak {d : Nat} {ds : List DV} (h : Fit Try.prog (d + 6) T_L_api_Op ds) (hs : smallR 1048576 ds) : ∃ x l, ds = [x] ∧ l.length ≤ 1048576 ∧ (∀ o, o ∈ l → o.lin ∧ o.cl.length ≤ 1048576 ∧ o.dot.wf) ∧
    ∀ (p : Nat → Prop) (μ : Nat → Nm) (M : Mem) (r r' : List SV) (hr : ∀ vs, Rps p μ M r' vs → Rps p μ M r vs) (vs : List Value), Rps p μ M (.d x :: r') vs → Rps p μ M (ops l :: r) vs := by
  rcases ops_fit h with rfl | ⟨l, hl, hn, rfl⟩
  · exact ⟨.nils, [], rfl, by simp, by simp, fun p μ M r r' hr vs hv => rps_nil_row hr vs hv⟩
  · simp only [smallR, DV.small, and_true] at hs
    obtain ⟨h1, h2⟩ := hs
    rw [smallR_iff] at h2
    refine ⟨_, l.map OpD.nz, rfl, by simpa using h1, fun o ho => ?_, fun p μ M r r' hr vs hv => ?_⟩
    · obtain ⟨q, hq, rfl⟩ := List.mem_map.1 ho
      have hd : q.nz.dot.wf := (hl q hq).dot
      rcases (hl q hq).lines with e | ⟨cl, e, hcl⟩
      · have := OpD.lin.of (o := q.nz) (l := []) (by show Go.Sl.nz q.lines = _; rw [e]; rfl) (by simp)
        exact ⟨this.1, by rw [this.2]; simp, hd⟩
      · have hz := OpD.lin.of (o := q.nz) (l := cl) (by show Go.Sl.nz q.lines = _; rw [e]; rfl) hcl
        have hm := h2 _ (flat_mem hq (line_mem q))
        rw [e] at hm
        simp only [DV.small] at hm
        exact ⟨hz.1, by rw [hz.2]; exact hm.1, hd⟩
    · have := rps_nzr hr vs hv
      rw [← ops_nz] at this
      simpa [ops] using this
end Go.Proofs.Ytpbfnenlbkjhgaa
