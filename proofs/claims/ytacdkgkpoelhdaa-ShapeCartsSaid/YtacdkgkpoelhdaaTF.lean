/-
  Operations' forms: what a kind does not have is zero.
-/
import Derived.Test.YtacdkgkpoelhdaaT6
import Derived.Test.YtacdkgkpoelhdaaTE
set_option linter.unusedSectionVars false
set_option linter.unusedVariables false
set_option linter.unusedSimpArgs false
namespace Go.Proofs.Ytacdkgkpoelhdaa
open Go.Sl Go.Proofs
attribute [local irreducible] SW RW SCd SC CallP Pruned
set_option maxHeartbeats 4000000 in
theorem zero_n (o : OpD) (nl : Nat) (cs : List DV) (hl : o.lines = .sl nl cs) (hk : o.kind < 256) (hS : hasK o.kind = []) : Go.Sl.Pure Try.prog ref05_zero.f [.agg o.cells] (bl (zeroV [] o nl)) := by
  have hh := has05_at o.kind hk
  rw [hS] at hh
  have f0 : decide (99 ∈ ([] : List Nat)) = false := by decide
  have i0 := in05_at [] (by decide) 99
  rw [f0] at i0
  have f1 : decide (116 ∈ ([] : List Nat)) = false := by decide
  have i1 := in05_at [] (by decide) 116
  rw [f1] at i1
  have f2 : decide (114 ∈ ([] : List Nat)) = false := by decide
  have i2 := in05_at [] (by decide) 114
  rw [f2] at i2
  have f3 : decide (100 ∈ ([] : List Nat)) = false := by decide
  have i3 := in05_at [] (by decide) 100
  rw [f3] at i3
  have f4 : decide (112 ∈ ([] : List Nat)) = false := by decide
  have i4 := in05_at [] (by decide) 112
  rw [f4] at i4
  have f5 : decide (97 ∈ ([] : List Nat)) = false := by decide
  have i5 := in05_at [] (by decide) 97
  rw [f5] at i5
  have f6 : decide (118 ∈ ([] : List Nat)) = false := by decide
  have i6 := in05_at [] (by decide) 118
  rw [f6] at i6
  have f7 : decide (105 ∈ ([] : List Nat)) = false := by decide
  have i7 := in05_at [] (by decide) 105
  rw [f7] at i7
  have f8 : decide (113 ∈ ([] : List Nat)) = false := by decide
  have i8 := in05_at [] (by decide) 113
  rw [f8] at i8
  have f9 : decide (101 ∈ ([] : List Nat)) = false := by decide
  have i9 := in05_at [] (by decide) 101
  rw [f9] at i9
  have f10 : decide (108 ∈ ([] : List Nat)) = false := by decide
  have i10 := in05_at [] (by decide) 108
  rw [f10] at i10
  refine ref05_zero.enter (by first | rfl | simp [SV.ok, SV.oks]) (by first | rfl | simp [Hp.ok, Ob.ok, SV.ok, SV.oks, Vec.cells_ok]) (by simp) ?_
  unfold ref05_zero.s
  have cz := And.intro hh True.intro
  refine SW.seq ?_
  refine SW.g1 [0, 1, 2, 3, 4] mixed bq_tt hh ?_
  refine SW.seq ?_
  refine SW.g1 [0, 1, 2, 3, 4] mixed bq_tt hh ?_
  refine SW.seq ?_
  refine SW.g1 [0, 1, 2, 3, 4] mixed bq_tt hh ?_
  refine SW.seq ?_
  have cz := And.intro i0 (And.intro i1 (And.intro i2 (And.intro i3 (And.intro i4 (And.intro i5 (And.intro i6 (And.intro i7 (And.intro i8 (And.intro i9 (And.intro i10 True.intro))))))))))
  refine SW.gB [0, 1, 2, 3, 4] mixed (hl) cz ?_
  rcases z0 : decide (o.cred = (⟨0, 0⟩ : Dt)) with _ | _
  · refine RW.gE (hl) cz ?_
    refine SW.ret ?_
    exact End.mk [] (h4 := ⟨by simp only [zeroV, f0, f1, f2, f3, f4, f5, f6, f7, f8, f9, f10, z0, Bool.true_or, Bool.or_true, Bool.false_or, Bool.and_false, Bool.false_and, Bool.true_and, Bool.and_true, Bool.or_false]; rfl, rfl⟩)
  refine RW.gG (hl) cz ?_
  rcases z1 : ((o.to : Int) == 0) with _ | _
  · refine RW.gE (hl) cz ?_
    refine SW.ret ?_
    exact End.mk [] (h4 := ⟨by simp only [zeroV, f0, f1, f2, f3, f4, f5, f6, f7, f8, f9, f10, z0, z1, Bool.true_or, Bool.or_true, Bool.false_or, Bool.and_false, Bool.false_and, Bool.true_and, Bool.and_true, Bool.or_false]; rfl, rfl⟩)
  refine RW.gG (hl) cz ?_
  rcases z2 : ((o.roles : Int) == 0) with _ | _
  · refine RW.gE (hl) cz ?_
    refine SW.ret ?_
    exact End.mk [] (h4 := ⟨by simp only [zeroV, f0, f1, f2, f3, f4, f5, f6, f7, f8, f9, f10, z0, z1, z2, Bool.true_or, Bool.or_true, Bool.false_or, Bool.and_false, Bool.false_and, Bool.true_and, Bool.and_true, Bool.or_false]; rfl, rfl⟩)
  refine RW.gG (hl) cz ?_
  rcases z3 : ((o.depth : Int) == 0) with _ | _
  · refine RW.gE (hl) cz ?_
    refine SW.ret ?_
    exact End.mk [] (h4 := ⟨by simp only [zeroV, f0, f1, f2, f3, f4, f5, f6, f7, f8, f9, f10, z0, z1, z2, z3, Bool.true_or, Bool.or_true, Bool.false_or, Bool.and_false, Bool.false_and, Bool.true_and, Bool.and_true, Bool.or_false]; rfl, rfl⟩)
  refine RW.gG (hl) cz ?_
  rcases z4 : ((o.cap : Int) == 0) with _ | _
  · refine RW.gE (hl) cz ?_
    refine SW.ret ?_
    exact End.mk [] (h4 := ⟨by simp only [zeroV, f0, f1, f2, f3, f4, f5, f6, f7, f8, f9, f10, z0, z1, z2, z3, z4, Bool.true_or, Bool.or_true, Bool.false_or, Bool.and_false, Bool.false_and, Bool.true_and, Bool.and_true, Bool.or_false]; rfl, rfl⟩)
  refine RW.gG (hl) cz ?_
  rcases z5 : decide (o.at_ = (⟨0, 0⟩ : Dt)) with _ | _
  · refine RW.gE (hl) cz ?_
    refine SW.ret ?_
    exact End.mk [] (h4 := ⟨by simp only [zeroV, f0, f1, f2, f3, f4, f5, f6, f7, f8, f9, f10, z0, z1, z2, z3, z4, z5, Bool.true_or, Bool.or_true, Bool.false_or, Bool.and_false, Bool.false_and, Bool.true_and, Bool.and_true, Bool.or_false]; rfl, rfl⟩)
  refine RW.gG (hl) cz ?_
  rcases z6 : decide (o.ver = (⟨0, 0⟩ : Dt)) with _ | _
  · refine RW.gE (hl) cz ?_
    refine SW.ret ?_
    exact End.mk [] (h4 := ⟨by simp only [zeroV, f0, f1, f2, f3, f4, f5, f6, f7, f8, f9, f10, z0, z1, z2, z3, z4, z5, z6, Bool.true_or, Bool.or_true, Bool.false_or, Bool.and_false, Bool.false_and, Bool.true_and, Bool.and_true, Bool.or_false]; rfl, rfl⟩)
  refine RW.gG (hl) cz ?_
  rcases z7 : ((o.item : Int) == 0) with _ | _
  · refine RW.gE (hl) cz ?_
    refine SW.ret ?_
    exact End.mk [] (h4 := ⟨by simp only [zeroV, f0, f1, f2, f3, f4, f5, f6, f7, f8, f9, f10, z0, z1, z2, z3, z4, z5, z6, z7, Bool.true_or, Bool.or_true, Bool.false_or, Bool.and_false, Bool.false_and, Bool.true_and, Bool.and_true, Bool.or_false]; rfl, rfl⟩)
  refine RW.gG (hl) cz ?_
  rcases z8 : ((o.qty : Int) == 0) with _ | _
  · refine RW.gE (hl) cz ?_
    refine SW.ret ?_
    exact End.mk [] (h4 := ⟨by simp only [zeroV, f0, f1, f2, f3, f4, f5, f6, f7, f8, f9, f10, z0, z1, z2, z3, z4, z5, z6, z7, z8, Bool.true_or, Bool.or_true, Bool.false_or, Bool.and_false, Bool.false_and, Bool.true_and, Bool.and_true, Bool.or_false]; rfl, rfl⟩)
  refine RW.gG (hl) cz ?_
  rcases z9 : ((o.price : Int) == 0) with _ | _
  · refine RW.gE (hl) cz ?_
    refine SW.ret ?_
    exact End.mk [] (h4 := ⟨by simp only [zeroV, f0, f1, f2, f3, f4, f5, f6, f7, f8, f9, f10, z0, z1, z2, z3, z4, z5, z6, z7, z8, z9, Bool.true_or, Bool.or_true, Bool.false_or, Bool.and_false, Bool.false_and, Bool.true_and, Bool.and_true, Bool.or_false]; rfl, rfl⟩)
  refine RW.gG (hl) cz ?_
  rcases z10 : ((nl : Int) == 0) with _ | _
  · refine RW.gE (hl) cz ?_
    refine SW.ret ?_
    exact End.mk [] (h4 := ⟨by simp only [zeroV, f0, f1, f2, f3, f4, f5, f6, f7, f8, f9, f10, z0, z1, z2, z3, z4, z5, z6, z7, z8, z9, z10, Bool.true_or, Bool.or_true, Bool.false_or, Bool.and_false, Bool.false_and, Bool.true_and, Bool.and_true, Bool.or_false]; rfl, rfl⟩)
  refine RW.gE (hl) cz ?_
  refine SW.ret ?_
  exact End.mk [] (h4 := ⟨by simp only [zeroV, f0, f1, f2, f3, f4, f5, f6, f7, f8, f9, f10, z0, z1, z2, z3, z4, z5, z6, z7, z8, z9, z10, Bool.true_or, Bool.or_true, Bool.false_or, Bool.and_self, Bool.true_and, Bool.and_true]; rfl, rfl⟩)
end Go.Proofs.Ytacdkgkpoelhdaa
namespace Go.Proofs.Ytacdkgkpoelhdaa
open Go.Sl Go.Proofs
attribute [local irreducible] SW RW SCd SC CallP Pruned
set_option maxHeartbeats 4000000 in
theorem zero_g (o : OpD) (nl : Nat) (cs : List DV) (hl : o.lines = .sl nl cs) (hk : o.kind < 256) (hS : hasK o.kind = [99, 116, 114, 100, 112]) : Go.Sl.Pure Try.prog ref05_zero.f [.agg o.cells] (bl (zeroV [99, 116, 114, 100, 112] o nl)) := by
  have hh := has05_at o.kind hk
  rw [hS] at hh
  have f0 : decide (99 ∈ ([99, 116, 114, 100, 112] : List Nat)) = true := by decide
  have i0 := in05_at [99, 116, 114, 100, 112] (by decide) 99
  rw [f0] at i0
  have f1 : decide (116 ∈ ([99, 116, 114, 100, 112] : List Nat)) = true := by decide
  have i1 := in05_at [99, 116, 114, 100, 112] (by decide) 116
  rw [f1] at i1
  have f2 : decide (114 ∈ ([99, 116, 114, 100, 112] : List Nat)) = true := by decide
  have i2 := in05_at [99, 116, 114, 100, 112] (by decide) 114
  rw [f2] at i2
  have f3 : decide (100 ∈ ([99, 116, 114, 100, 112] : List Nat)) = true := by decide
  have i3 := in05_at [99, 116, 114, 100, 112] (by decide) 100
  rw [f3] at i3
  have f4 : decide (112 ∈ ([99, 116, 114, 100, 112] : List Nat)) = true := by decide
  have i4 := in05_at [99, 116, 114, 100, 112] (by decide) 112
  rw [f4] at i4
  have f5 : decide (97 ∈ ([99, 116, 114, 100, 112] : List Nat)) = false := by decide
  have i5 := in05_at [99, 116, 114, 100, 112] (by decide) 97
  rw [f5] at i5
  have f6 : decide (118 ∈ ([99, 116, 114, 100, 112] : List Nat)) = false := by decide
  have i6 := in05_at [99, 116, 114, 100, 112] (by decide) 118
  rw [f6] at i6
  have f7 : decide (105 ∈ ([99, 116, 114, 100, 112] : List Nat)) = false := by decide
  have i7 := in05_at [99, 116, 114, 100, 112] (by decide) 105
  rw [f7] at i7
  have f8 : decide (113 ∈ ([99, 116, 114, 100, 112] : List Nat)) = false := by decide
  have i8 := in05_at [99, 116, 114, 100, 112] (by decide) 113
  rw [f8] at i8
  have f9 : decide (101 ∈ ([99, 116, 114, 100, 112] : List Nat)) = false := by decide
  have i9 := in05_at [99, 116, 114, 100, 112] (by decide) 101
  rw [f9] at i9
  have f10 : decide (108 ∈ ([99, 116, 114, 100, 112] : List Nat)) = false := by decide
  have i10 := in05_at [99, 116, 114, 100, 112] (by decide) 108
  rw [f10] at i10
  refine ref05_zero.enter (by first | rfl | simp [SV.ok, SV.oks]) (by first | rfl | simp [Hp.ok, Ob.ok, SV.ok, SV.oks, Vec.cells_ok]) (by simp) ?_
  unfold ref05_zero.s
  have cz := And.intro hh True.intro
  refine SW.seq ?_
  refine SW.g1 [0, 1, 2, 3, 4] mixed bq_tt hh ?_
  refine SW.seq ?_
  refine SW.g1 [0, 1, 2, 3, 4] mixed bq_tt hh ?_
  refine SW.seq ?_
  refine SW.g1 [0, 1, 2, 3, 4] mixed bq_tt hh ?_
  refine SW.seq ?_
  have cz := And.intro i0 (And.intro i1 (And.intro i2 (And.intro i3 (And.intro i4 (And.intro i5 (And.intro i6 (And.intro i7 (And.intro i8 (And.intro i9 (And.intro i10 True.intro))))))))))
  refine SW.gB [0, 1, 2, 3, 4] mixed (hl) cz ?_
  rcases z5 : decide (o.at_ = (⟨0, 0⟩ : Dt)) with _ | _
  · refine RW.gE (hl) cz ?_
    refine SW.ret ?_
    exact End.mk [] (h4 := ⟨by simp only [zeroV, f0, f1, f2, f3, f4, f5, f6, f7, f8, f9, f10, z5, Bool.true_or, Bool.or_true, Bool.false_or, Bool.and_false, Bool.false_and, Bool.true_and, Bool.and_true, Bool.or_false]; rfl, rfl⟩)
  refine RW.gG (hl) cz ?_
  rcases z6 : decide (o.ver = (⟨0, 0⟩ : Dt)) with _ | _
  · refine RW.gE (hl) cz ?_
    refine SW.ret ?_
    exact End.mk [] (h4 := ⟨by simp only [zeroV, f0, f1, f2, f3, f4, f5, f6, f7, f8, f9, f10, z5, z6, Bool.true_or, Bool.or_true, Bool.false_or, Bool.and_false, Bool.false_and, Bool.true_and, Bool.and_true, Bool.or_false]; rfl, rfl⟩)
  refine RW.gG (hl) cz ?_
  rcases z7 : ((o.item : Int) == 0) with _ | _
  · refine RW.gE (hl) cz ?_
    refine SW.ret ?_
    exact End.mk [] (h4 := ⟨by simp only [zeroV, f0, f1, f2, f3, f4, f5, f6, f7, f8, f9, f10, z5, z6, z7, Bool.true_or, Bool.or_true, Bool.false_or, Bool.and_false, Bool.false_and, Bool.true_and, Bool.and_true, Bool.or_false]; rfl, rfl⟩)
  refine RW.gG (hl) cz ?_
  rcases z8 : ((o.qty : Int) == 0) with _ | _
  · refine RW.gE (hl) cz ?_
    refine SW.ret ?_
    exact End.mk [] (h4 := ⟨by simp only [zeroV, f0, f1, f2, f3, f4, f5, f6, f7, f8, f9, f10, z5, z6, z7, z8, Bool.true_or, Bool.or_true, Bool.false_or, Bool.and_false, Bool.false_and, Bool.true_and, Bool.and_true, Bool.or_false]; rfl, rfl⟩)
  refine RW.gG (hl) cz ?_
  rcases z9 : ((o.price : Int) == 0) with _ | _
  · refine RW.gE (hl) cz ?_
    refine SW.ret ?_
    exact End.mk [] (h4 := ⟨by simp only [zeroV, f0, f1, f2, f3, f4, f5, f6, f7, f8, f9, f10, z5, z6, z7, z8, z9, Bool.true_or, Bool.or_true, Bool.false_or, Bool.and_false, Bool.false_and, Bool.true_and, Bool.and_true, Bool.or_false]; rfl, rfl⟩)
  refine RW.gG (hl) cz ?_
  rcases z10 : ((nl : Int) == 0) with _ | _
  · refine RW.gE (hl) cz ?_
    refine SW.ret ?_
    exact End.mk [] (h4 := ⟨by simp only [zeroV, f0, f1, f2, f3, f4, f5, f6, f7, f8, f9, f10, z5, z6, z7, z8, z9, z10, Bool.true_or, Bool.or_true, Bool.false_or, Bool.and_false, Bool.false_and, Bool.true_and, Bool.and_true, Bool.or_false]; rfl, rfl⟩)
  refine RW.gE (hl) cz ?_
  refine SW.ret ?_
  exact End.mk [] (h4 := ⟨by simp only [zeroV, f0, f1, f2, f3, f4, f5, f6, f7, f8, f9, f10, z5, z6, z7, z8, z9, z10, Bool.true_or, Bool.or_true, Bool.false_or, Bool.and_self, Bool.true_and, Bool.and_true]; rfl, rfl⟩)
end Go.Proofs.Ytacdkgkpoelhdaa
namespace Go.Proofs.Ytacdkgkpoelhdaa
open Go.Sl Go.Proofs
attribute [local irreducible] SW RW SCd SC CallP Pruned
set_option maxHeartbeats 4000000 in
theorem zero_x (o : OpD) (nl : Nat) (cs : List DV) (hl : o.lines = .sl nl cs) (hk : o.kind < 256) (hS : hasK o.kind = [99, 97]) : Go.Sl.Pure Try.prog ref05_zero.f [.agg o.cells] (bl (zeroV [99, 97] o nl)) := by
  have hh := has05_at o.kind hk
  rw [hS] at hh
  have f0 : decide (99 ∈ ([99, 97] : List Nat)) = true := by decide
  have i0 := in05_at [99, 97] (by decide) 99
  rw [f0] at i0
  have f1 : decide (116 ∈ ([99, 97] : List Nat)) = false := by decide
  have i1 := in05_at [99, 97] (by decide) 116
  rw [f1] at i1
  have f2 : decide (114 ∈ ([99, 97] : List Nat)) = false := by decide
  have i2 := in05_at [99, 97] (by decide) 114
  rw [f2] at i2
  have f3 : decide (100 ∈ ([99, 97] : List Nat)) = false := by decide
  have i3 := in05_at [99, 97] (by decide) 100
  rw [f3] at i3
  have f4 : decide (112 ∈ ([99, 97] : List Nat)) = false := by decide
  have i4 := in05_at [99, 97] (by decide) 112
  rw [f4] at i4
  have f5 : decide (97 ∈ ([99, 97] : List Nat)) = true := by decide
  have i5 := in05_at [99, 97] (by decide) 97
  rw [f5] at i5
  have f6 : decide (118 ∈ ([99, 97] : List Nat)) = false := by decide
  have i6 := in05_at [99, 97] (by decide) 118
  rw [f6] at i6
  have f7 : decide (105 ∈ ([99, 97] : List Nat)) = false := by decide
  have i7 := in05_at [99, 97] (by decide) 105
  rw [f7] at i7
  have f8 : decide (113 ∈ ([99, 97] : List Nat)) = false := by decide
  have i8 := in05_at [99, 97] (by decide) 113
  rw [f8] at i8
  have f9 : decide (101 ∈ ([99, 97] : List Nat)) = false := by decide
  have i9 := in05_at [99, 97] (by decide) 101
  rw [f9] at i9
  have f10 : decide (108 ∈ ([99, 97] : List Nat)) = false := by decide
  have i10 := in05_at [99, 97] (by decide) 108
  rw [f10] at i10
  refine ref05_zero.enter (by first | rfl | simp [SV.ok, SV.oks]) (by first | rfl | simp [Hp.ok, Ob.ok, SV.ok, SV.oks, Vec.cells_ok]) (by simp) ?_
  unfold ref05_zero.s
  have cz := And.intro hh True.intro
  refine SW.seq ?_
  refine SW.g1 [0, 1, 2, 3, 4] mixed bq_tt hh ?_
  refine SW.seq ?_
  refine SW.g1 [0, 1, 2, 3, 4] mixed bq_tt hh ?_
  refine SW.seq ?_
  refine SW.g1 [0, 1, 2, 3, 4] mixed bq_tt hh ?_
  refine SW.seq ?_
  have cz := And.intro i0 (And.intro i1 (And.intro i2 (And.intro i3 (And.intro i4 (And.intro i5 (And.intro i6 (And.intro i7 (And.intro i8 (And.intro i9 (And.intro i10 True.intro))))))))))
  refine SW.gB [0, 1, 2, 3, 4] mixed (hl) cz ?_
  rcases z1 : ((o.to : Int) == 0) with _ | _
  · refine RW.gE (hl) cz ?_
    refine SW.ret ?_
    exact End.mk [] (h4 := ⟨by simp only [zeroV, f0, f1, f2, f3, f4, f5, f6, f7, f8, f9, f10, z1, Bool.true_or, Bool.or_true, Bool.false_or, Bool.and_false, Bool.false_and, Bool.true_and, Bool.and_true, Bool.or_false]; rfl, rfl⟩)
  refine RW.gG (hl) cz ?_
  rcases z2 : ((o.roles : Int) == 0) with _ | _
  · refine RW.gE (hl) cz ?_
    refine SW.ret ?_
    exact End.mk [] (h4 := ⟨by simp only [zeroV, f0, f1, f2, f3, f4, f5, f6, f7, f8, f9, f10, z1, z2, Bool.true_or, Bool.or_true, Bool.false_or, Bool.and_false, Bool.false_and, Bool.true_and, Bool.and_true, Bool.or_false]; rfl, rfl⟩)
  refine RW.gG (hl) cz ?_
  rcases z3 : ((o.depth : Int) == 0) with _ | _
  · refine RW.gE (hl) cz ?_
    refine SW.ret ?_
    exact End.mk [] (h4 := ⟨by simp only [zeroV, f0, f1, f2, f3, f4, f5, f6, f7, f8, f9, f10, z1, z2, z3, Bool.true_or, Bool.or_true, Bool.false_or, Bool.and_false, Bool.false_and, Bool.true_and, Bool.and_true, Bool.or_false]; rfl, rfl⟩)
  refine RW.gG (hl) cz ?_
  rcases z4 : ((o.cap : Int) == 0) with _ | _
  · refine RW.gE (hl) cz ?_
    refine SW.ret ?_
    exact End.mk [] (h4 := ⟨by simp only [zeroV, f0, f1, f2, f3, f4, f5, f6, f7, f8, f9, f10, z1, z2, z3, z4, Bool.true_or, Bool.or_true, Bool.false_or, Bool.and_false, Bool.false_and, Bool.true_and, Bool.and_true, Bool.or_false]; rfl, rfl⟩)
  refine RW.gG (hl) cz ?_
  rcases z6 : decide (o.ver = (⟨0, 0⟩ : Dt)) with _ | _
  · refine RW.gE (hl) cz ?_
    refine SW.ret ?_
    exact End.mk [] (h4 := ⟨by simp only [zeroV, f0, f1, f2, f3, f4, f5, f6, f7, f8, f9, f10, z1, z2, z3, z4, z6, Bool.true_or, Bool.or_true, Bool.false_or, Bool.and_false, Bool.false_and, Bool.true_and, Bool.and_true, Bool.or_false]; rfl, rfl⟩)
  refine RW.gG (hl) cz ?_
  rcases z7 : ((o.item : Int) == 0) with _ | _
  · refine RW.gE (hl) cz ?_
    refine SW.ret ?_
    exact End.mk [] (h4 := ⟨by simp only [zeroV, f0, f1, f2, f3, f4, f5, f6, f7, f8, f9, f10, z1, z2, z3, z4, z6, z7, Bool.true_or, Bool.or_true, Bool.false_or, Bool.and_false, Bool.false_and, Bool.true_and, Bool.and_true, Bool.or_false]; rfl, rfl⟩)
  refine RW.gG (hl) cz ?_
  rcases z8 : ((o.qty : Int) == 0) with _ | _
  · refine RW.gE (hl) cz ?_
    refine SW.ret ?_
    exact End.mk [] (h4 := ⟨by simp only [zeroV, f0, f1, f2, f3, f4, f5, f6, f7, f8, f9, f10, z1, z2, z3, z4, z6, z7, z8, Bool.true_or, Bool.or_true, Bool.false_or, Bool.and_false, Bool.false_and, Bool.true_and, Bool.and_true, Bool.or_false]; rfl, rfl⟩)
  refine RW.gG (hl) cz ?_
  rcases z9 : ((o.price : Int) == 0) with _ | _
  · refine RW.gE (hl) cz ?_
    refine SW.ret ?_
    exact End.mk [] (h4 := ⟨by simp only [zeroV, f0, f1, f2, f3, f4, f5, f6, f7, f8, f9, f10, z1, z2, z3, z4, z6, z7, z8, z9, Bool.true_or, Bool.or_true, Bool.false_or, Bool.and_false, Bool.false_and, Bool.true_and, Bool.and_true, Bool.or_false]; rfl, rfl⟩)
  refine RW.gG (hl) cz ?_
  rcases z10 : ((nl : Int) == 0) with _ | _
  · refine RW.gE (hl) cz ?_
    refine SW.ret ?_
    exact End.mk [] (h4 := ⟨by simp only [zeroV, f0, f1, f2, f3, f4, f5, f6, f7, f8, f9, f10, z1, z2, z3, z4, z6, z7, z8, z9, z10, Bool.true_or, Bool.or_true, Bool.false_or, Bool.and_false, Bool.false_and, Bool.true_and, Bool.and_true, Bool.or_false]; rfl, rfl⟩)
  refine RW.gE (hl) cz ?_
  refine SW.ret ?_
  exact End.mk [] (h4 := ⟨by simp only [zeroV, f0, f1, f2, f3, f4, f5, f6, f7, f8, f9, f10, z1, z2, z3, z4, z6, z7, z8, z9, z10, Bool.true_or, Bool.or_true, Bool.false_or, Bool.and_self, Bool.true_and, Bool.and_true]; rfl, rfl⟩)
end Go.Proofs.Ytacdkgkpoelhdaa
namespace Go.Proofs.Ytacdkgkpoelhdaa
open Go.Sl Go.Proofs
attribute [local irreducible] SW RW SCd SC CallP Pruned
set_option maxHeartbeats 4000000 in
theorem zero_b (o : OpD) (nl : Nat) (cs : List DV) (hl : o.lines = .sl nl cs) (hk : o.kind < 256) (hS : hasK o.kind = [99, 105, 113, 101]) : Go.Sl.Pure Try.prog ref05_zero.f [.agg o.cells] (bl (zeroV [99, 105, 113, 101] o nl)) := by
  have hh := has05_at o.kind hk
  rw [hS] at hh
  have f0 : decide (99 ∈ ([99, 105, 113, 101] : List Nat)) = true := by decide
  have i0 := in05_at [99, 105, 113, 101] (by decide) 99
  rw [f0] at i0
  have f1 : decide (116 ∈ ([99, 105, 113, 101] : List Nat)) = false := by decide
  have i1 := in05_at [99, 105, 113, 101] (by decide) 116
  rw [f1] at i1
  have f2 : decide (114 ∈ ([99, 105, 113, 101] : List Nat)) = false := by decide
  have i2 := in05_at [99, 105, 113, 101] (by decide) 114
  rw [f2] at i2
  have f3 : decide (100 ∈ ([99, 105, 113, 101] : List Nat)) = false := by decide
  have i3 := in05_at [99, 105, 113, 101] (by decide) 100
  rw [f3] at i3
  have f4 : decide (112 ∈ ([99, 105, 113, 101] : List Nat)) = false := by decide
  have i4 := in05_at [99, 105, 113, 101] (by decide) 112
  rw [f4] at i4
  have f5 : decide (97 ∈ ([99, 105, 113, 101] : List Nat)) = false := by decide
  have i5 := in05_at [99, 105, 113, 101] (by decide) 97
  rw [f5] at i5
  have f6 : decide (118 ∈ ([99, 105, 113, 101] : List Nat)) = false := by decide
  have i6 := in05_at [99, 105, 113, 101] (by decide) 118
  rw [f6] at i6
  have f7 : decide (105 ∈ ([99, 105, 113, 101] : List Nat)) = true := by decide
  have i7 := in05_at [99, 105, 113, 101] (by decide) 105
  rw [f7] at i7
  have f8 : decide (113 ∈ ([99, 105, 113, 101] : List Nat)) = true := by decide
  have i8 := in05_at [99, 105, 113, 101] (by decide) 113
  rw [f8] at i8
  have f9 : decide (101 ∈ ([99, 105, 113, 101] : List Nat)) = true := by decide
  have i9 := in05_at [99, 105, 113, 101] (by decide) 101
  rw [f9] at i9
  have f10 : decide (108 ∈ ([99, 105, 113, 101] : List Nat)) = false := by decide
  have i10 := in05_at [99, 105, 113, 101] (by decide) 108
  rw [f10] at i10
  refine ref05_zero.enter (by first | rfl | simp [SV.ok, SV.oks]) (by first | rfl | simp [Hp.ok, Ob.ok, SV.ok, SV.oks, Vec.cells_ok]) (by simp) ?_
  unfold ref05_zero.s
  have cz := And.intro hh True.intro
  refine SW.seq ?_
  refine SW.g1 [0, 1, 2, 3, 4] mixed bq_tt hh ?_
  refine SW.seq ?_
  refine SW.g1 [0, 1, 2, 3, 4] mixed bq_tt hh ?_
  refine SW.seq ?_
  refine SW.g1 [0, 1, 2, 3, 4] mixed bq_tt hh ?_
  refine SW.seq ?_
  have cz := And.intro i0 (And.intro i1 (And.intro i2 (And.intro i3 (And.intro i4 (And.intro i5 (And.intro i6 (And.intro i7 (And.intro i8 (And.intro i9 (And.intro i10 True.intro))))))))))
  refine SW.gB [0, 1, 2, 3, 4] mixed (hl) cz ?_
  rcases z1 : ((o.to : Int) == 0) with _ | _
  · refine RW.gE (hl) cz ?_
    refine SW.ret ?_
    exact End.mk [] (h4 := ⟨by simp only [zeroV, f0, f1, f2, f3, f4, f5, f6, f7, f8, f9, f10, z1, Bool.true_or, Bool.or_true, Bool.false_or, Bool.and_false, Bool.false_and, Bool.true_and, Bool.and_true, Bool.or_false]; rfl, rfl⟩)
  refine RW.gG (hl) cz ?_
  rcases z2 : ((o.roles : Int) == 0) with _ | _
  · refine RW.gE (hl) cz ?_
    refine SW.ret ?_
    exact End.mk [] (h4 := ⟨by simp only [zeroV, f0, f1, f2, f3, f4, f5, f6, f7, f8, f9, f10, z1, z2, Bool.true_or, Bool.or_true, Bool.false_or, Bool.and_false, Bool.false_and, Bool.true_and, Bool.and_true, Bool.or_false]; rfl, rfl⟩)
  refine RW.gG (hl) cz ?_
  rcases z3 : ((o.depth : Int) == 0) with _ | _
  · refine RW.gE (hl) cz ?_
    refine SW.ret ?_
    exact End.mk [] (h4 := ⟨by simp only [zeroV, f0, f1, f2, f3, f4, f5, f6, f7, f8, f9, f10, z1, z2, z3, Bool.true_or, Bool.or_true, Bool.false_or, Bool.and_false, Bool.false_and, Bool.true_and, Bool.and_true, Bool.or_false]; rfl, rfl⟩)
  refine RW.gG (hl) cz ?_
  rcases z4 : ((o.cap : Int) == 0) with _ | _
  · refine RW.gE (hl) cz ?_
    refine SW.ret ?_
    exact End.mk [] (h4 := ⟨by simp only [zeroV, f0, f1, f2, f3, f4, f5, f6, f7, f8, f9, f10, z1, z2, z3, z4, Bool.true_or, Bool.or_true, Bool.false_or, Bool.and_false, Bool.false_and, Bool.true_and, Bool.and_true, Bool.or_false]; rfl, rfl⟩)
  refine RW.gG (hl) cz ?_
  rcases z5 : decide (o.at_ = (⟨0, 0⟩ : Dt)) with _ | _
  · refine RW.gE (hl) cz ?_
    refine SW.ret ?_
    exact End.mk [] (h4 := ⟨by simp only [zeroV, f0, f1, f2, f3, f4, f5, f6, f7, f8, f9, f10, z1, z2, z3, z4, z5, Bool.true_or, Bool.or_true, Bool.false_or, Bool.and_false, Bool.false_and, Bool.true_and, Bool.and_true, Bool.or_false]; rfl, rfl⟩)
  refine RW.gG (hl) cz ?_
  rcases z6 : decide (o.ver = (⟨0, 0⟩ : Dt)) with _ | _
  · refine RW.gE (hl) cz ?_
    refine SW.ret ?_
    exact End.mk [] (h4 := ⟨by simp only [zeroV, f0, f1, f2, f3, f4, f5, f6, f7, f8, f9, f10, z1, z2, z3, z4, z5, z6, Bool.true_or, Bool.or_true, Bool.false_or, Bool.and_false, Bool.false_and, Bool.true_and, Bool.and_true, Bool.or_false]; rfl, rfl⟩)
  refine RW.gG (hl) cz ?_
  rcases z10 : ((nl : Int) == 0) with _ | _
  · refine RW.gE (hl) cz ?_
    refine SW.ret ?_
    exact End.mk [] (h4 := ⟨by simp only [zeroV, f0, f1, f2, f3, f4, f5, f6, f7, f8, f9, f10, z1, z2, z3, z4, z5, z6, z10, Bool.true_or, Bool.or_true, Bool.false_or, Bool.and_false, Bool.false_and, Bool.true_and, Bool.and_true, Bool.or_false]; rfl, rfl⟩)
  refine RW.gE (hl) cz ?_
  refine SW.ret ?_
  exact End.mk [] (h4 := ⟨by simp only [zeroV, f0, f1, f2, f3, f4, f5, f6, f7, f8, f9, f10, z1, z2, z3, z4, z5, z6, z10, Bool.true_or, Bool.or_true, Bool.false_or, Bool.and_self, Bool.true_and, Bool.and_true]; rfl, rfl⟩)
end Go.Proofs.Ytacdkgkpoelhdaa
namespace Go.Proofs.Ytacdkgkpoelhdaa
open Go.Sl Go.Proofs
attribute [local irreducible] SW RW SCd SC CallP Pruned
set_option maxHeartbeats 4000000 in
theorem zero_s (o : OpD) (nl : Nat) (cs : List DV) (hl : o.lines = .sl nl cs) (hk : o.kind < 256) (hS : hasK o.kind = [99, 97, 113]) : Go.Sl.Pure Try.prog ref05_zero.f [.agg o.cells] (bl (zeroV [99, 97, 113] o nl)) := by
  have hh := has05_at o.kind hk
  rw [hS] at hh
  have f0 : decide (99 ∈ ([99, 97, 113] : List Nat)) = true := by decide
  have i0 := in05_at [99, 97, 113] (by decide) 99
  rw [f0] at i0
  have f1 : decide (116 ∈ ([99, 97, 113] : List Nat)) = false := by decide
  have i1 := in05_at [99, 97, 113] (by decide) 116
  rw [f1] at i1
  have f2 : decide (114 ∈ ([99, 97, 113] : List Nat)) = false := by decide
  have i2 := in05_at [99, 97, 113] (by decide) 114
  rw [f2] at i2
  have f3 : decide (100 ∈ ([99, 97, 113] : List Nat)) = false := by decide
  have i3 := in05_at [99, 97, 113] (by decide) 100
  rw [f3] at i3
  have f4 : decide (112 ∈ ([99, 97, 113] : List Nat)) = false := by decide
  have i4 := in05_at [99, 97, 113] (by decide) 112
  rw [f4] at i4
  have f5 : decide (97 ∈ ([99, 97, 113] : List Nat)) = true := by decide
  have i5 := in05_at [99, 97, 113] (by decide) 97
  rw [f5] at i5
  have f6 : decide (118 ∈ ([99, 97, 113] : List Nat)) = false := by decide
  have i6 := in05_at [99, 97, 113] (by decide) 118
  rw [f6] at i6
  have f7 : decide (105 ∈ ([99, 97, 113] : List Nat)) = false := by decide
  have i7 := in05_at [99, 97, 113] (by decide) 105
  rw [f7] at i7
  have f8 : decide (113 ∈ ([99, 97, 113] : List Nat)) = true := by decide
  have i8 := in05_at [99, 97, 113] (by decide) 113
  rw [f8] at i8
  have f9 : decide (101 ∈ ([99, 97, 113] : List Nat)) = false := by decide
  have i9 := in05_at [99, 97, 113] (by decide) 101
  rw [f9] at i9
  have f10 : decide (108 ∈ ([99, 97, 113] : List Nat)) = false := by decide
  have i10 := in05_at [99, 97, 113] (by decide) 108
  rw [f10] at i10
  refine ref05_zero.enter (by first | rfl | simp [SV.ok, SV.oks]) (by first | rfl | simp [Hp.ok, Ob.ok, SV.ok, SV.oks, Vec.cells_ok]) (by simp) ?_
  unfold ref05_zero.s
  have cz := And.intro hh True.intro
  refine SW.seq ?_
  refine SW.g1 [0, 1, 2, 3, 4] mixed bq_tt hh ?_
  refine SW.seq ?_
  refine SW.g1 [0, 1, 2, 3, 4] mixed bq_tt hh ?_
  refine SW.seq ?_
  refine SW.g1 [0, 1, 2, 3, 4] mixed bq_tt hh ?_
  refine SW.seq ?_
  have cz := And.intro i0 (And.intro i1 (And.intro i2 (And.intro i3 (And.intro i4 (And.intro i5 (And.intro i6 (And.intro i7 (And.intro i8 (And.intro i9 (And.intro i10 True.intro))))))))))
  refine SW.gB [0, 1, 2, 3, 4] mixed (hl) cz ?_
  rcases z1 : ((o.to : Int) == 0) with _ | _
  · refine RW.gE (hl) cz ?_
    refine SW.ret ?_
    exact End.mk [] (h4 := ⟨by simp only [zeroV, f0, f1, f2, f3, f4, f5, f6, f7, f8, f9, f10, z1, Bool.true_or, Bool.or_true, Bool.false_or, Bool.and_false, Bool.false_and, Bool.true_and, Bool.and_true, Bool.or_false]; rfl, rfl⟩)
  refine RW.gG (hl) cz ?_
  rcases z2 : ((o.roles : Int) == 0) with _ | _
  · refine RW.gE (hl) cz ?_
    refine SW.ret ?_
    exact End.mk [] (h4 := ⟨by simp only [zeroV, f0, f1, f2, f3, f4, f5, f6, f7, f8, f9, f10, z1, z2, Bool.true_or, Bool.or_true, Bool.false_or, Bool.and_false, Bool.false_and, Bool.true_and, Bool.and_true, Bool.or_false]; rfl, rfl⟩)
  refine RW.gG (hl) cz ?_
  rcases z3 : ((o.depth : Int) == 0) with _ | _
  · refine RW.gE (hl) cz ?_
    refine SW.ret ?_
    exact End.mk [] (h4 := ⟨by simp only [zeroV, f0, f1, f2, f3, f4, f5, f6, f7, f8, f9, f10, z1, z2, z3, Bool.true_or, Bool.or_true, Bool.false_or, Bool.and_false, Bool.false_and, Bool.true_and, Bool.and_true, Bool.or_false]; rfl, rfl⟩)
  refine RW.gG (hl) cz ?_
  rcases z4 : ((o.cap : Int) == 0) with _ | _
  · refine RW.gE (hl) cz ?_
    refine SW.ret ?_
    exact End.mk [] (h4 := ⟨by simp only [zeroV, f0, f1, f2, f3, f4, f5, f6, f7, f8, f9, f10, z1, z2, z3, z4, Bool.true_or, Bool.or_true, Bool.false_or, Bool.and_false, Bool.false_and, Bool.true_and, Bool.and_true, Bool.or_false]; rfl, rfl⟩)
  refine RW.gG (hl) cz ?_
  rcases z6 : decide (o.ver = (⟨0, 0⟩ : Dt)) with _ | _
  · refine RW.gE (hl) cz ?_
    refine SW.ret ?_
    exact End.mk [] (h4 := ⟨by simp only [zeroV, f0, f1, f2, f3, f4, f5, f6, f7, f8, f9, f10, z1, z2, z3, z4, z6, Bool.true_or, Bool.or_true, Bool.false_or, Bool.and_false, Bool.false_and, Bool.true_and, Bool.and_true, Bool.or_false]; rfl, rfl⟩)
  refine RW.gG (hl) cz ?_
  rcases z7 : ((o.item : Int) == 0) with _ | _
  · refine RW.gE (hl) cz ?_
    refine SW.ret ?_
    exact End.mk [] (h4 := ⟨by simp only [zeroV, f0, f1, f2, f3, f4, f5, f6, f7, f8, f9, f10, z1, z2, z3, z4, z6, z7, Bool.true_or, Bool.or_true, Bool.false_or, Bool.and_false, Bool.false_and, Bool.true_and, Bool.and_true, Bool.or_false]; rfl, rfl⟩)
  refine RW.gG (hl) cz ?_
  rcases z9 : ((o.price : Int) == 0) with _ | _
  · refine RW.gE (hl) cz ?_
    refine SW.ret ?_
    exact End.mk [] (h4 := ⟨by simp only [zeroV, f0, f1, f2, f3, f4, f5, f6, f7, f8, f9, f10, z1, z2, z3, z4, z6, z7, z9, Bool.true_or, Bool.or_true, Bool.false_or, Bool.and_false, Bool.false_and, Bool.true_and, Bool.and_true, Bool.or_false]; rfl, rfl⟩)
  refine RW.gG (hl) cz ?_
  rcases z10 : ((nl : Int) == 0) with _ | _
  · refine RW.gE (hl) cz ?_
    refine SW.ret ?_
    exact End.mk [] (h4 := ⟨by simp only [zeroV, f0, f1, f2, f3, f4, f5, f6, f7, f8, f9, f10, z1, z2, z3, z4, z6, z7, z9, z10, Bool.true_or, Bool.or_true, Bool.false_or, Bool.and_false, Bool.false_and, Bool.true_and, Bool.and_true, Bool.or_false]; rfl, rfl⟩)
  refine RW.gE (hl) cz ?_
  refine SW.ret ?_
  exact End.mk [] (h4 := ⟨by simp only [zeroV, f0, f1, f2, f3, f4, f5, f6, f7, f8, f9, f10, z1, z2, z3, z4, z6, z7, z9, z10, Bool.true_or, Bool.or_true, Bool.false_or, Bool.and_self, Bool.true_and, Bool.and_true]; rfl, rfl⟩)
end Go.Proofs.Ytacdkgkpoelhdaa
namespace Go.Proofs.Ytacdkgkpoelhdaa
open Go.Sl Go.Proofs
attribute [local irreducible] SW RW SCd SC CallP Pruned
set_option maxHeartbeats 4000000 in
theorem zero_y (o : OpD) (nl : Nat) (cs : List DV) (hl : o.lines = .sl nl cs) (hk : o.kind < 256) (hS : hasK o.kind = [99, 97, 118]) : Go.Sl.Pure Try.prog ref05_zero.f [.agg o.cells] (bl (zeroV [99, 97, 118] o nl)) := by
  have hh := has05_at o.kind hk
  rw [hS] at hh
  have f0 : decide (99 ∈ ([99, 97, 118] : List Nat)) = true := by decide
  have i0 := in05_at [99, 97, 118] (by decide) 99
  rw [f0] at i0
  have f1 : decide (116 ∈ ([99, 97, 118] : List Nat)) = false := by decide
  have i1 := in05_at [99, 97, 118] (by decide) 116
  rw [f1] at i1
  have f2 : decide (114 ∈ ([99, 97, 118] : List Nat)) = false := by decide
  have i2 := in05_at [99, 97, 118] (by decide) 114
  rw [f2] at i2
  have f3 : decide (100 ∈ ([99, 97, 118] : List Nat)) = false := by decide
  have i3 := in05_at [99, 97, 118] (by decide) 100
  rw [f3] at i3
  have f4 : decide (112 ∈ ([99, 97, 118] : List Nat)) = false := by decide
  have i4 := in05_at [99, 97, 118] (by decide) 112
  rw [f4] at i4
  have f5 : decide (97 ∈ ([99, 97, 118] : List Nat)) = true := by decide
  have i5 := in05_at [99, 97, 118] (by decide) 97
  rw [f5] at i5
  have f6 : decide (118 ∈ ([99, 97, 118] : List Nat)) = true := by decide
  have i6 := in05_at [99, 97, 118] (by decide) 118
  rw [f6] at i6
  have f7 : decide (105 ∈ ([99, 97, 118] : List Nat)) = false := by decide
  have i7 := in05_at [99, 97, 118] (by decide) 105
  rw [f7] at i7
  have f8 : decide (113 ∈ ([99, 97, 118] : List Nat)) = false := by decide
  have i8 := in05_at [99, 97, 118] (by decide) 113
  rw [f8] at i8
  have f9 : decide (101 ∈ ([99, 97, 118] : List Nat)) = false := by decide
  have i9 := in05_at [99, 97, 118] (by decide) 101
  rw [f9] at i9
  have f10 : decide (108 ∈ ([99, 97, 118] : List Nat)) = false := by decide
  have i10 := in05_at [99, 97, 118] (by decide) 108
  rw [f10] at i10
  refine ref05_zero.enter (by first | rfl | simp [SV.ok, SV.oks]) (by first | rfl | simp [Hp.ok, Ob.ok, SV.ok, SV.oks, Vec.cells_ok]) (by simp) ?_
  unfold ref05_zero.s
  have cz := And.intro hh True.intro
  refine SW.seq ?_
  refine SW.g1 [0, 1, 2, 3, 4] mixed bq_tt hh ?_
  refine SW.seq ?_
  refine SW.g1 [0, 1, 2, 3, 4] mixed bq_tt hh ?_
  refine SW.seq ?_
  refine SW.g1 [0, 1, 2, 3, 4] mixed bq_tt hh ?_
  refine SW.seq ?_
  have cz := And.intro i0 (And.intro i1 (And.intro i2 (And.intro i3 (And.intro i4 (And.intro i5 (And.intro i6 (And.intro i7 (And.intro i8 (And.intro i9 (And.intro i10 True.intro))))))))))
  refine SW.gB [0, 1, 2, 3, 4] mixed (hl) cz ?_
  rcases z1 : ((o.to : Int) == 0) with _ | _
  · refine RW.gE (hl) cz ?_
    refine SW.ret ?_
    exact End.mk [] (h4 := ⟨by simp only [zeroV, f0, f1, f2, f3, f4, f5, f6, f7, f8, f9, f10, z1, Bool.true_or, Bool.or_true, Bool.false_or, Bool.and_false, Bool.false_and, Bool.true_and, Bool.and_true, Bool.or_false]; rfl, rfl⟩)
  refine RW.gG (hl) cz ?_
  rcases z2 : ((o.roles : Int) == 0) with _ | _
  · refine RW.gE (hl) cz ?_
    refine SW.ret ?_
    exact End.mk [] (h4 := ⟨by simp only [zeroV, f0, f1, f2, f3, f4, f5, f6, f7, f8, f9, f10, z1, z2, Bool.true_or, Bool.or_true, Bool.false_or, Bool.and_false, Bool.false_and, Bool.true_and, Bool.and_true, Bool.or_false]; rfl, rfl⟩)
  refine RW.gG (hl) cz ?_
  rcases z3 : ((o.depth : Int) == 0) with _ | _
  · refine RW.gE (hl) cz ?_
    refine SW.ret ?_
    exact End.mk [] (h4 := ⟨by simp only [zeroV, f0, f1, f2, f3, f4, f5, f6, f7, f8, f9, f10, z1, z2, z3, Bool.true_or, Bool.or_true, Bool.false_or, Bool.and_false, Bool.false_and, Bool.true_and, Bool.and_true, Bool.or_false]; rfl, rfl⟩)
  refine RW.gG (hl) cz ?_
  rcases z4 : ((o.cap : Int) == 0) with _ | _
  · refine RW.gE (hl) cz ?_
    refine SW.ret ?_
    exact End.mk [] (h4 := ⟨by simp only [zeroV, f0, f1, f2, f3, f4, f5, f6, f7, f8, f9, f10, z1, z2, z3, z4, Bool.true_or, Bool.or_true, Bool.false_or, Bool.and_false, Bool.false_and, Bool.true_and, Bool.and_true, Bool.or_false]; rfl, rfl⟩)
  refine RW.gG (hl) cz ?_
  rcases z7 : ((o.item : Int) == 0) with _ | _
  · refine RW.gE (hl) cz ?_
    refine SW.ret ?_
    exact End.mk [] (h4 := ⟨by simp only [zeroV, f0, f1, f2, f3, f4, f5, f6, f7, f8, f9, f10, z1, z2, z3, z4, z7, Bool.true_or, Bool.or_true, Bool.false_or, Bool.and_false, Bool.false_and, Bool.true_and, Bool.and_true, Bool.or_false]; rfl, rfl⟩)
  refine RW.gG (hl) cz ?_
  rcases z8 : ((o.qty : Int) == 0) with _ | _
  · refine RW.gE (hl) cz ?_
    refine SW.ret ?_
    exact End.mk [] (h4 := ⟨by simp only [zeroV, f0, f1, f2, f3, f4, f5, f6, f7, f8, f9, f10, z1, z2, z3, z4, z7, z8, Bool.true_or, Bool.or_true, Bool.false_or, Bool.and_false, Bool.false_and, Bool.true_and, Bool.and_true, Bool.or_false]; rfl, rfl⟩)
  refine RW.gG (hl) cz ?_
  rcases z9 : ((o.price : Int) == 0) with _ | _
  · refine RW.gE (hl) cz ?_
    refine SW.ret ?_
    exact End.mk [] (h4 := ⟨by simp only [zeroV, f0, f1, f2, f3, f4, f5, f6, f7, f8, f9, f10, z1, z2, z3, z4, z7, z8, z9, Bool.true_or, Bool.or_true, Bool.false_or, Bool.and_false, Bool.false_and, Bool.true_and, Bool.and_true, Bool.or_false]; rfl, rfl⟩)
  refine RW.gG (hl) cz ?_
  rcases z10 : ((nl : Int) == 0) with _ | _
  · refine RW.gE (hl) cz ?_
    refine SW.ret ?_
    exact End.mk [] (h4 := ⟨by simp only [zeroV, f0, f1, f2, f3, f4, f5, f6, f7, f8, f9, f10, z1, z2, z3, z4, z7, z8, z9, z10, Bool.true_or, Bool.or_true, Bool.false_or, Bool.and_false, Bool.false_and, Bool.true_and, Bool.and_true, Bool.or_false]; rfl, rfl⟩)
  refine RW.gE (hl) cz ?_
  refine SW.ret ?_
  exact End.mk [] (h4 := ⟨by simp only [zeroV, f0, f1, f2, f3, f4, f5, f6, f7, f8, f9, f10, z1, z2, z3, z4, z7, z8, z9, z10, Bool.true_or, Bool.or_true, Bool.false_or, Bool.and_self, Bool.true_and, Bool.and_true]; rfl, rfl⟩)
end Go.Proofs.Ytacdkgkpoelhdaa
namespace Go.Proofs.Ytacdkgkpoelhdaa
open Go.Sl Go.Proofs
attribute [local irreducible] SW RW SCd SC CallP Pruned
set_option maxHeartbeats 4000000 in
theorem zero_z (o : OpD) (nl : Nat) (cs : List DV) (hl : o.lines = .sl nl cs) (hk : o.kind < 256) (hS : hasK o.kind = [99, 108]) : Go.Sl.Pure Try.prog ref05_zero.f [.agg o.cells] (bl (zeroV [99, 108] o nl)) := by
  have hh := has05_at o.kind hk
  rw [hS] at hh
  have f0 : decide (99 ∈ ([99, 108] : List Nat)) = true := by decide
  have i0 := in05_at [99, 108] (by decide) 99
  rw [f0] at i0
  have f1 : decide (116 ∈ ([99, 108] : List Nat)) = false := by decide
  have i1 := in05_at [99, 108] (by decide) 116
  rw [f1] at i1
  have f2 : decide (114 ∈ ([99, 108] : List Nat)) = false := by decide
  have i2 := in05_at [99, 108] (by decide) 114
  rw [f2] at i2
  have f3 : decide (100 ∈ ([99, 108] : List Nat)) = false := by decide
  have i3 := in05_at [99, 108] (by decide) 100
  rw [f3] at i3
  have f4 : decide (112 ∈ ([99, 108] : List Nat)) = false := by decide
  have i4 := in05_at [99, 108] (by decide) 112
  rw [f4] at i4
  have f5 : decide (97 ∈ ([99, 108] : List Nat)) = false := by decide
  have i5 := in05_at [99, 108] (by decide) 97
  rw [f5] at i5
  have f6 : decide (118 ∈ ([99, 108] : List Nat)) = false := by decide
  have i6 := in05_at [99, 108] (by decide) 118
  rw [f6] at i6
  have f7 : decide (105 ∈ ([99, 108] : List Nat)) = false := by decide
  have i7 := in05_at [99, 108] (by decide) 105
  rw [f7] at i7
  have f8 : decide (113 ∈ ([99, 108] : List Nat)) = false := by decide
  have i8 := in05_at [99, 108] (by decide) 113
  rw [f8] at i8
  have f9 : decide (101 ∈ ([99, 108] : List Nat)) = false := by decide
  have i9 := in05_at [99, 108] (by decide) 101
  rw [f9] at i9
  have f10 : decide (108 ∈ ([99, 108] : List Nat)) = true := by decide
  have i10 := in05_at [99, 108] (by decide) 108
  rw [f10] at i10
  refine ref05_zero.enter (by first | rfl | simp [SV.ok, SV.oks]) (by first | rfl | simp [Hp.ok, Ob.ok, SV.ok, SV.oks, Vec.cells_ok]) (by simp) ?_
  unfold ref05_zero.s
  have cz := And.intro hh True.intro
  refine SW.seq ?_
  refine SW.g1 [0, 1, 2, 3, 4] mixed bq_tt hh ?_
  refine SW.seq ?_
  refine SW.g1 [0, 1, 2, 3, 4] mixed bq_tt hh ?_
  refine SW.seq ?_
  refine SW.g1 [0, 1, 2, 3, 4] mixed bq_tt hh ?_
  refine SW.seq ?_
  have cz := And.intro i0 (And.intro i1 (And.intro i2 (And.intro i3 (And.intro i4 (And.intro i5 (And.intro i6 (And.intro i7 (And.intro i8 (And.intro i9 (And.intro i10 True.intro))))))))))
  refine SW.gB [0, 1, 2, 3, 4] mixed (hl) cz ?_
  rcases z1 : ((o.to : Int) == 0) with _ | _
  · refine RW.gE (hl) cz ?_
    refine SW.ret ?_
    exact End.mk [] (h4 := ⟨by simp only [zeroV, f0, f1, f2, f3, f4, f5, f6, f7, f8, f9, f10, z1, Bool.true_or, Bool.or_true, Bool.false_or, Bool.and_false, Bool.false_and, Bool.true_and, Bool.and_true, Bool.or_false]; rfl, rfl⟩)
  refine RW.gG (hl) cz ?_
  rcases z2 : ((o.roles : Int) == 0) with _ | _
  · refine RW.gE (hl) cz ?_
    refine SW.ret ?_
    exact End.mk [] (h4 := ⟨by simp only [zeroV, f0, f1, f2, f3, f4, f5, f6, f7, f8, f9, f10, z1, z2, Bool.true_or, Bool.or_true, Bool.false_or, Bool.and_false, Bool.false_and, Bool.true_and, Bool.and_true, Bool.or_false]; rfl, rfl⟩)
  refine RW.gG (hl) cz ?_
  rcases z3 : ((o.depth : Int) == 0) with _ | _
  · refine RW.gE (hl) cz ?_
    refine SW.ret ?_
    exact End.mk [] (h4 := ⟨by simp only [zeroV, f0, f1, f2, f3, f4, f5, f6, f7, f8, f9, f10, z1, z2, z3, Bool.true_or, Bool.or_true, Bool.false_or, Bool.and_false, Bool.false_and, Bool.true_and, Bool.and_true, Bool.or_false]; rfl, rfl⟩)
  refine RW.gG (hl) cz ?_
  rcases z4 : ((o.cap : Int) == 0) with _ | _
  · refine RW.gE (hl) cz ?_
    refine SW.ret ?_
    exact End.mk [] (h4 := ⟨by simp only [zeroV, f0, f1, f2, f3, f4, f5, f6, f7, f8, f9, f10, z1, z2, z3, z4, Bool.true_or, Bool.or_true, Bool.false_or, Bool.and_false, Bool.false_and, Bool.true_and, Bool.and_true, Bool.or_false]; rfl, rfl⟩)
  refine RW.gG (hl) cz ?_
  rcases z5 : decide (o.at_ = (⟨0, 0⟩ : Dt)) with _ | _
  · refine RW.gE (hl) cz ?_
    refine SW.ret ?_
    exact End.mk [] (h4 := ⟨by simp only [zeroV, f0, f1, f2, f3, f4, f5, f6, f7, f8, f9, f10, z1, z2, z3, z4, z5, Bool.true_or, Bool.or_true, Bool.false_or, Bool.and_false, Bool.false_and, Bool.true_and, Bool.and_true, Bool.or_false]; rfl, rfl⟩)
  refine RW.gG (hl) cz ?_
  rcases z6 : decide (o.ver = (⟨0, 0⟩ : Dt)) with _ | _
  · refine RW.gE (hl) cz ?_
    refine SW.ret ?_
    exact End.mk [] (h4 := ⟨by simp only [zeroV, f0, f1, f2, f3, f4, f5, f6, f7, f8, f9, f10, z1, z2, z3, z4, z5, z6, Bool.true_or, Bool.or_true, Bool.false_or, Bool.and_false, Bool.false_and, Bool.true_and, Bool.and_true, Bool.or_false]; rfl, rfl⟩)
  refine RW.gG (hl) cz ?_
  rcases z7 : ((o.item : Int) == 0) with _ | _
  · refine RW.gE (hl) cz ?_
    refine SW.ret ?_
    exact End.mk [] (h4 := ⟨by simp only [zeroV, f0, f1, f2, f3, f4, f5, f6, f7, f8, f9, f10, z1, z2, z3, z4, z5, z6, z7, Bool.true_or, Bool.or_true, Bool.false_or, Bool.and_false, Bool.false_and, Bool.true_and, Bool.and_true, Bool.or_false]; rfl, rfl⟩)
  refine RW.gG (hl) cz ?_
  rcases z8 : ((o.qty : Int) == 0) with _ | _
  · refine RW.gE (hl) cz ?_
    refine SW.ret ?_
    exact End.mk [] (h4 := ⟨by simp only [zeroV, f0, f1, f2, f3, f4, f5, f6, f7, f8, f9, f10, z1, z2, z3, z4, z5, z6, z7, z8, Bool.true_or, Bool.or_true, Bool.false_or, Bool.and_false, Bool.false_and, Bool.true_and, Bool.and_true, Bool.or_false]; rfl, rfl⟩)
  refine RW.gG (hl) cz ?_
  rcases z9 : ((o.price : Int) == 0) with _ | _
  · refine RW.gE (hl) cz ?_
    refine SW.ret ?_
    exact End.mk [] (h4 := ⟨by simp only [zeroV, f0, f1, f2, f3, f4, f5, f6, f7, f8, f9, f10, z1, z2, z3, z4, z5, z6, z7, z8, z9, Bool.true_or, Bool.or_true, Bool.false_or, Bool.and_false, Bool.false_and, Bool.true_and, Bool.and_true, Bool.or_false]; rfl, rfl⟩)
  refine RW.gE (hl) cz ?_
  refine SW.ret ?_
  exact End.mk [] (h4 := ⟨by simp only [zeroV, f0, f1, f2, f3, f4, f5, f6, f7, f8, f9, f10, z1, z2, z3, z4, z5, z6, z7, z8, z9, Bool.true_or, Bool.or_true, Bool.false_or, Bool.and_self, Bool.true_and, Bool.and_true]; rfl, rfl⟩)
end Go.Proofs.Ytacdkgkpoelhdaa
