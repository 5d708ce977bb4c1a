/-
  Shapes that are none.
-/
import Derived.Test.YtlgfknfdfnaedaaU6
import Derived.Test.YtlgfknfdfnaedaaUK
set_option linter.unusedSectionVars false
set_option linter.unusedVariables false
set_option linter.unusedSimpArgs false
namespace Go.Proofs.Ytlgfknfdfnaedaa
open Go.Sl Go.Proofs
section
attribute [local irreducible] SW RW SCd SC CallP Pruned
theorem noneN_ok : Go.Sl.Pure Try.prog shape_Shape_none.f [.d .nilp] (bl true) := by
  refine shape_Shape_none.enter (by first | rfl | simp [SV.ok, SV.oks]) (by first | rfl | simp [Hp.ok, Ob.ok, SV.ok, SV.oks, Vec.cells_ok]) (by simp) ?_
  dsimp only [shape_Shape_none.s, Co.M, Co.G, Co.J, Co.H, Co.N, Co.F, Co.C, Co.Z, Co.B, Co.b8, Co.b32, Co.b64, Co.i6, Co.z8, Co.z29]
  (repeat (first | refine SW.seq ?_ | refine SW.block ?_ | refine SW.g0 [0, 2] mixed bq_tt ?_ | refine SW.skip ?_ | refine SW.exit ?_ | refine SW.ret ?_ | refine SW.condT rfl ?_ | refine SW.condF rfl ?_))
  exact End.mk [] (h4 := ⟨rfl, rfl⟩)
theorem noneN_at (k : Nat) : SCd Try.prog shape_Shape_none.f [.d .nilp] [] k 0 (bl true) [] := noneN_ok.sc rfl k
theorem whyN_ok (o : OpD) : Go.Sl.Pure Try.prog shape_Shape_Why.f [.d .nilp, .agg o.cells] (i64 1) := by
  refine shape_Shape_Why.enter (by first | rfl | simp [SV.ok, SV.oks]) (by first | rfl | simp [Hp.ok, Ob.ok, SV.ok, SV.oks, Vec.cells_ok]) (by simp) ?_
  dsimp only [shape_Shape_Why.s, Co.M, Co.G, Co.J, Co.H, Co.N, Co.F, Co.C, Co.Z, Co.B, Co.b8, Co.b32, Co.b64, Co.i6, Co.z8, Co.z29]
  (repeat (first | refine SW.seq ?_ | refine SW.block ?_ | refine SW.g1 [0, 1, 2, 3, 4, 5, 6, 7, 9, 11, 37, 38, 39, 43] mixed bq_tt noneN_at ?_ | refine SW.skip ?_ | refine SW.exit ?_ | refine SW.ret ?_ | refine SW.condT rfl ?_ | refine SW.condF rfl ?_))
  exact End.mk [] (h4 := ⟨rfl, rfl⟩)
theorem whyN_at (o : OpD) (k : Nat) : SCd Try.prog shape_Shape_Why.f [.d .nilp, .agg o.cells] [] k 0 (i64 1) [] := (whyN_ok o).sc rfl k
theorem opN_ok (d : Dt) : Go.Sl.Pure Try.prog shape_Shape_Op.f [.d .nilp, .agg d.cells] (.tup [.agg OpD.zero.cells, bl false]) := by
  refine shape_Shape_Op.enter (by first | rfl | simp [SV.ok, SV.oks]) (by first | rfl | simp [Hp.ok, Ob.ok, SV.ok, SV.oks, Vec.cells_ok]) (by simp) ?_
  dsimp only [shape_Shape_Op.s, Co.M, Co.G, Co.J, Co.H, Co.N, Co.F, Co.C, Co.Z, Co.B, Co.b8, Co.b32, Co.b64, Co.i6, Co.z8, Co.z29]
  (repeat (first | refine SW.seq ?_ | refine SW.block ?_ | refine SW.g1 [0, 1, 3, 4, 5, 6, 7, 9] mixed bq_tt noneN_at ?_ | refine SW.skip ?_ | refine SW.exit ?_ | refine SW.ret ?_ | refine SW.condT rfl ?_ | refine SW.condF rfl ?_))
  exact End.mk [] (h4 := ⟨rfl, rfl⟩)
theorem opN_at (d : Dt) (k : Nat) : SCd Try.prog shape_Shape_Op.f [.d .nilp, .agg d.cells] [] k 0 (.tup [.agg OpD.zero.cells, bl false]) [] := (opN_ok d).sc rfl k
theorem goodN_ok (d : Dt) : Go.Sl.Pure Try.prog shape_Shape_Good.f [.d .nilp, .agg d.cells] (bl false) := by
  refine shape_Shape_Good.enter (by first | rfl | simp [SV.ok, SV.oks]) (by first | rfl | simp [Hp.ok, Ob.ok, SV.ok, SV.oks, Vec.cells_ok]) (by simp) ?_
  dsimp only [shape_Shape_Good.s, Co.M, Co.G, Co.J, Co.H, Co.N, Co.F, Co.C, Co.Z, Co.B, Co.b8, Co.b32, Co.b64, Co.i6, Co.z8, Co.z29]
  (repeat (first | refine SW.seq ?_ | refine SW.block ?_ | (refine SW.regL [0, 1, 3, 4, 5, 6] mixed ?_; (repeat (first | refine RW.ro bq_tt (h := ?_) | refine RW.skip (h := ?_) | refine RW.op bq_tt (h := ?_) | refine RW.opN bq_tt (h := ?_) | refine RW.skip0 (h := ?_) | (refine RW.callC (h := ?_); (first | refine CallP.mk bq_tt (hc := opN_at _ _) (h := ?_))))); refine RW.nil ⟨by kernel_rfl, Pruned.mk (h := ?_)⟩) | refine SW.skip ?_ | refine SW.exit ?_ | refine SW.ret ?_ | refine SW.condT rfl ?_ | refine SW.condF rfl ?_))
  exact End.mk [] (h4 := ⟨rfl, rfl⟩)
theorem goodN_at (d : Dt) (k : Nat) : SCd Try.prog shape_Shape_Good.f [.d .nilp, .agg d.cells] [] k 0 (bl false) [] := (goodN_ok d).sc rfl k
theorem versN_ok (d : Dt) : Go.Sl.Pure Try.prog shape_Shape_Versions.f [.d .nilp, .agg d.cells] (.d .nils) := by
  refine shape_Shape_Versions.enter (by first | rfl | simp [SV.ok, SV.oks]) (by first | rfl | simp [Hp.ok, Ob.ok, SV.ok, SV.oks, Vec.cells_ok]) (by simp) ?_
  dsimp only [shape_Shape_Versions.s, Co.M, Co.G, Co.J, Co.H, Co.N, Co.F, Co.C, Co.Z, Co.B, Co.b8, Co.b32, Co.b64, Co.i6, Co.z8, Co.z29]
  (repeat (first | refine SW.seq ?_ | refine SW.block ?_ | refine SW.g1 [0, 1, 3, 4, 5, 6, 7, 18, 25, 27, 33] mixed bq_tt noneN_at ?_ | refine SW.skip ?_ | refine SW.exit ?_ | refine SW.ret ?_ | refine SW.condT rfl ?_ | refine SW.condF rfl ?_))
  exact End.mk [] (h4 := ⟨rfl, rfl⟩)
theorem versN_at (d : Dt) (k : Nat) : SCd Try.prog shape_Shape_Versions.f [.d .nilp, .agg d.cells] [] k 0 (.d .nils) [] := (versN_ok d).sc rfl k
theorem dotsN_ok : Go.Sl.Pure Try.prog shape_Shape_Dots.f [.d .nilp] (.d .nils) := by
  refine shape_Shape_Dots.enter (by first | rfl | simp [SV.ok, SV.oks]) (by first | rfl | simp [Hp.ok, Ob.ok, SV.ok, SV.oks, Vec.cells_ok]) (by simp) ?_
  dsimp only [shape_Shape_Dots.s, Co.M, Co.G, Co.J, Co.H, Co.N, Co.F, Co.C, Co.Z, Co.B, Co.b8, Co.b32, Co.b64, Co.i6, Co.z8, Co.z29]
  (repeat (first | refine SW.seq ?_ | refine SW.block ?_ | refine SW.g1 [0, 2, 4] mixed bq_tt noneN_at ?_ | refine SW.skip ?_ | refine SW.exit ?_ | refine SW.ret ?_ | refine SW.condT rfl ?_ | refine SW.condF rfl ?_))
  exact End.mk [] (h4 := ⟨rfl, rfl⟩)
theorem dotsN_at (k : Nat) : SCd Try.prog shape_Shape_Dots.f [.d .nilp] [] k 0 (.d .nils) [] := dotsN_ok.sc rfl k
theorem treeN_ok : Go.Sl.Pure Try.prog shape_Shape_Tree.f [.d .nilp] (.d .nilp) := by
  refine shape_Shape_Tree.enter (by first | rfl | simp [SV.ok, SV.oks]) (by first | rfl | simp [Hp.ok, Ob.ok, SV.ok, SV.oks, Vec.cells_ok]) (by simp) ?_
  dsimp only [shape_Shape_Tree.s, Co.M, Co.G, Co.J, Co.H, Co.N, Co.F, Co.C, Co.Z, Co.B, Co.b8, Co.b32, Co.b64, Co.i6, Co.z8, Co.z29]
  (repeat (first | refine SW.seq ?_ | refine SW.block ?_ | refine SW.g1 [0, 2, 4] mixed bq_tt noneN_at ?_ | refine SW.skip ?_ | refine SW.exit ?_ | refine SW.ret ?_ | refine SW.condT rfl ?_ | refine SW.condF rfl ?_))
  exact End.mk [] (h4 := ⟨rfl, rfl⟩)
theorem treeN_at (k : Nat) : SCd Try.prog shape_Shape_Tree.f [.d .nilp] [] k 0 (.d .nilp) [] := treeN_ok.sc rfl k
abbrev Zs : Hp := [(0, .box 57 [.d .nilp, .d .nilm, .d .nilm, .d .nilm])]
abbrev Zb (b : Nat) : Hp := [(b, .box 57 [.d .nilp, .d .nilm, .d .nilm, .d .nilm])]
theorem Zs.sc {f : FuncId} {args : List SV} {v : SV} (h : SB Try.prog f (.ptr 0 0 :: args) Zs 1 0 fun r F => r = v ∧ F = Zs) (ha : ∀ ρ, SV.rens ρ args = args) (hv : ∀ ρ, v.ren ρ = v) (b k : Nat) : SCd Try.prog f (.ptr b 0 :: args) (Zb b) k 0 v (Zb b) := by
  have := SB.atL [b] h (by simp) (fun i hi => by rcases (show i = 0 by simpa using hi) with rfl; simp [lk_cons]) k
  simp only [SV.rens, SV.ren, ha, hv] at this
  exact this
theorem noneZ_sb : SB Try.prog shape_Shape_none.f [.ptr 0 0] Zs 1 0 fun r F => r = bl true ∧ F = Zs := by
  refine shape_Shape_none.enter (by first | rfl | simp [SV.ok, SV.oks]) (by first | rfl | simp [Hp.ok, Ob.ok, SV.ok, SV.oks, Vec.cells_ok]) (by simp) ?_
  dsimp only [shape_Shape_none.s, Co.M, Co.G, Co.J, Co.H, Co.N, Co.F, Co.C, Co.Z, Co.B, Co.b8, Co.b32, Co.b64, Co.i6, Co.z8, Co.z29]
  (repeat (first | refine SW.seq ?_ | refine SW.block ?_ | refine SW.g0 [0, 2] mixed bq_tt ?_ | refine SW.skip ?_ | refine SW.exit ?_ | refine SW.ret ?_ | refine SW.condT rfl ?_ | refine SW.condF rfl ?_))
  exact End.mk Zs (h4 := ⟨rfl, rfl⟩)
theorem noneZ_at (b k : Nat) : SCd Try.prog shape_Shape_none.f [.ptr b 0] (Zb b) k 0 (bl true) (Zb b) := Zs.sc noneZ_sb (fun _ => rfl) (fun _ => rfl) b k
theorem whyZ_sb (o : OpD) : SB Try.prog shape_Shape_Why.f [.ptr 0 0, .agg o.cells] Zs 1 0 fun r F => r = i64 1 ∧ F = Zs := by
  refine shape_Shape_Why.enter (by first | rfl | simp [SV.ok, SV.oks]) (by first | rfl | simp [Hp.ok, Ob.ok, SV.ok, SV.oks, Vec.cells_ok]) (by simp) ?_
  dsimp only [shape_Shape_Why.s, Co.M, Co.G, Co.J, Co.H, Co.N, Co.F, Co.C, Co.Z, Co.B, Co.b8, Co.b32, Co.b64, Co.i6, Co.z8, Co.z29]
  (repeat (first | refine SW.seq ?_ | refine SW.block ?_ | refine SW.g1 [0, 1, 2, 3, 4, 5, 6, 7, 9, 11, 37, 38, 39, 43] mixed bq_tt (noneZ_at 0) ?_ | refine SW.skip ?_ | refine SW.exit ?_ | refine SW.ret ?_ | refine SW.condT rfl ?_ | refine SW.condF rfl ?_))
  exact End.mk Zs (h4 := ⟨rfl, rfl⟩)
theorem whyZ_at (o : OpD) (b k : Nat) : SCd Try.prog shape_Shape_Why.f [.ptr b 0, .agg o.cells] (Zb b) k 0 (i64 1) (Zb b) := Zs.sc (whyZ_sb o) (fun ρ => by simp [SV.rens, SV.ren, OpD.cells_ren]) (fun _ => rfl) b k
theorem opZ_sb (d : Dt) : SB Try.prog shape_Shape_Op.f [.ptr 0 0, .agg d.cells] Zs 1 0 fun r F => r = .tup [.agg OpD.zero.cells, bl false] ∧ F = Zs := by
  refine shape_Shape_Op.enter (by first | rfl | simp [SV.ok, SV.oks]) (by first | rfl | simp [Hp.ok, Ob.ok, SV.ok, SV.oks, Vec.cells_ok]) (by simp) ?_
  dsimp only [shape_Shape_Op.s, Co.M, Co.G, Co.J, Co.H, Co.N, Co.F, Co.C, Co.Z, Co.B, Co.b8, Co.b32, Co.b64, Co.i6, Co.z8, Co.z29]
  (repeat (first | refine SW.seq ?_ | refine SW.block ?_ | refine SW.g1 [0, 1, 3, 4, 5, 6, 7, 9] mixed bq_tt (noneZ_at 0) ?_ | refine SW.skip ?_ | refine SW.exit ?_ | refine SW.ret ?_ | refine SW.condT rfl ?_ | refine SW.condF rfl ?_))
  exact End.mk Zs (h4 := ⟨rfl, rfl⟩)
theorem opZ_at (d : Dt) (b k : Nat) : SCd Try.prog shape_Shape_Op.f [.ptr b 0, .agg d.cells] (Zb b) k 0 (.tup [.agg OpD.zero.cells, bl false]) (Zb b) := Zs.sc (opZ_sb d) (fun ρ => by simp [SV.rens, SV.ren, Dt.cells_ren]) (fun _ => rfl) b k
theorem goodZ_sb (d : Dt) : SB Try.prog shape_Shape_Good.f [.ptr 0 0, .agg d.cells] Zs 1 0 fun r F => r = bl false ∧ F = Zs := by
  refine shape_Shape_Good.enter (by first | rfl | simp [SV.ok, SV.oks]) (by first | rfl | simp [Hp.ok, Ob.ok, SV.ok, SV.oks, Vec.cells_ok]) (by simp) ?_
  dsimp only [shape_Shape_Good.s, Co.M, Co.G, Co.J, Co.H, Co.N, Co.F, Co.C, Co.Z, Co.B, Co.b8, Co.b32, Co.b64, Co.i6, Co.z8, Co.z29]
  (repeat (first | refine SW.seq ?_ | refine SW.block ?_ | refine SW.g1 [0, 1, 3, 4, 5, 6] mixed bq_tt (opZ_at d 0) ?_ | refine SW.skip ?_ | refine SW.exit ?_ | refine SW.ret ?_ | refine SW.condT rfl ?_ | refine SW.condF rfl ?_))
  exact End.mk Zs (h4 := ⟨rfl, rfl⟩)
theorem goodZ_at (d : Dt) (b k : Nat) : SCd Try.prog shape_Shape_Good.f [.ptr b 0, .agg d.cells] (Zb b) k 0 (bl false) (Zb b) := Zs.sc (goodZ_sb d) (fun ρ => by simp [SV.rens, SV.ren, Dt.cells_ren]) (fun _ => rfl) b k
theorem versZ_sb (d : Dt) : SB Try.prog shape_Shape_Versions.f [.ptr 0 0, .agg d.cells] Zs 1 0 fun r F => r = .d .nils ∧ F = Zs := by
  refine shape_Shape_Versions.enter (by first | rfl | simp [SV.ok, SV.oks]) (by first | rfl | simp [Hp.ok, Ob.ok, SV.ok, SV.oks, Vec.cells_ok]) (by simp) ?_
  dsimp only [shape_Shape_Versions.s, Co.M, Co.G, Co.J, Co.H, Co.N, Co.F, Co.C, Co.Z, Co.B, Co.b8, Co.b32, Co.b64, Co.i6, Co.z8, Co.z29]
  (repeat (first | refine SW.seq ?_ | refine SW.block ?_ | refine SW.g1 [0, 1, 3, 4, 5, 6, 7, 18, 25, 27, 33] mixed bq_tt (noneZ_at 0) ?_ | refine SW.skip ?_ | refine SW.exit ?_ | refine SW.ret ?_ | refine SW.condT rfl ?_ | refine SW.condF rfl ?_))
  exact End.mk Zs (h4 := ⟨rfl, rfl⟩)
theorem versZ_at (d : Dt) (b k : Nat) : SCd Try.prog shape_Shape_Versions.f [.ptr b 0, .agg d.cells] (Zb b) k 0 (.d .nils) (Zb b) := Zs.sc (versZ_sb d) (fun ρ => by simp [SV.rens, SV.ren, Dt.cells_ren]) (fun _ => rfl) b k
theorem dotsZ_sb : SB Try.prog shape_Shape_Dots.f [.ptr 0 0] Zs 1 0 fun r F => r = .d .nils ∧ F = Zs := by
  refine shape_Shape_Dots.enter (by first | rfl | simp [SV.ok, SV.oks]) (by first | rfl | simp [Hp.ok, Ob.ok, SV.ok, SV.oks, Vec.cells_ok]) (by simp) ?_
  dsimp only [shape_Shape_Dots.s, Co.M, Co.G, Co.J, Co.H, Co.N, Co.F, Co.C, Co.Z, Co.B, Co.b8, Co.b32, Co.b64, Co.i6, Co.z8, Co.z29]
  (repeat (first | refine SW.seq ?_ | refine SW.block ?_ | refine SW.g1 [0, 2, 4] mixed bq_tt (noneZ_at 0) ?_ | refine SW.skip ?_ | refine SW.exit ?_ | refine SW.ret ?_ | refine SW.condT rfl ?_ | refine SW.condF rfl ?_))
  exact End.mk Zs (h4 := ⟨rfl, rfl⟩)
theorem dotsZ_at (b k : Nat) : SCd Try.prog shape_Shape_Dots.f [.ptr b 0] (Zb b) k 0 (.d .nils) (Zb b) := Zs.sc dotsZ_sb (fun _ => rfl) (fun _ => rfl) b k
theorem treeZ_sb : SB Try.prog shape_Shape_Tree.f [.ptr 0 0] Zs 1 0 fun r F => r = .d .nilp ∧ F = Zs := by
  refine shape_Shape_Tree.enter (by first | rfl | simp [SV.ok, SV.oks]) (by first | rfl | simp [Hp.ok, Ob.ok, SV.ok, SV.oks, Vec.cells_ok]) (by simp) ?_
  dsimp only [shape_Shape_Tree.s, Co.M, Co.G, Co.J, Co.H, Co.N, Co.F, Co.C, Co.Z, Co.B, Co.b8, Co.b32, Co.b64, Co.i6, Co.z8, Co.z29]
  (repeat (first | refine SW.seq ?_ | refine SW.block ?_ | refine SW.g1 [0, 2, 4] mixed bq_tt (noneZ_at 0) ?_ | refine SW.skip ?_ | refine SW.exit ?_ | refine SW.ret ?_ | refine SW.condT rfl ?_ | refine SW.condF rfl ?_))
  exact End.mk Zs (h4 := ⟨rfl, rfl⟩)
theorem treeZ_at (b k : Nat) : SCd Try.prog shape_Shape_Tree.f [.ptr b 0] (Zb b) k 0 (.d .nilp) (Zb b) := Zs.sc treeZ_sb (fun _ => rfl) (fun _ => rfl) b k
theorem row2 (a b : SV) : spl (spl [.d .nilp, .d .nilp] 0 [a]) 1 [b] = [a, b] := rfl
set_option maxHeartbeats 4000000 in
theorem law_none (o : OpD) : SB Try.prog law17_ShapeNone.f [.agg o.cells] [] 0 0 (fun r F => r = bl true) := by
  refine law17_ShapeNone.enter (by first | rfl | simp [SV.ok, SV.oks]) (by first | rfl | simp [Hp.ok, Ob.ok, SV.ok, SV.oks, Vec.cells_ok]) (by simp) ?_
  dsimp only [law17_ShapeNone.s, Co.M, Co.G, Co.J, Co.H, Co.N, Co.F, Co.C, Co.Z, Co.B, Co.b8, Co.b32, Co.b64, Co.i6, Co.z8, Co.z29]
  refine SW.seq ?_
  refine SW.g0 [0, 1, 2, 3, 4, 5, 6, 8, 14, 59] mixed bq_tt ?_
  refine SW.seq ?_
  refine SW.g0 [0, 1, 2, 3, 4, 5, 6, 8, 14, 59] mixed bq_tt ?_
  refine SW.seq ?_
  refine SW.g0 [0, 1, 2, 3, 4, 5, 6, 8, 14, 59] mixed (row2) ?_
  refine SW.seq (SW.seq ?_)
  refine SW.g0 [0, 1, 2, 3, 4, 5, 6, 8, 14, 59] mixed bq_tt ?_
  refine SW.block ?_
  refine SW.loopA (α := {i : Nat // i ≤ 2}) (fun i => ⟨[(5, i64 i.1), (1, .ptr 0 0), (4, .gs 2 2)], [(2, .arr 25 1 2 [.d .nilp, .ptr 1 0]), (1, .box 57 [.d .nilp, .d .nilm, .d .nilm, .d .nilm]), (0, .box 37 o.cells)], 3⟩) (fun i => 2 - i.1) ⟨0, by omega⟩ id bq_tt (round := ?_)
  rintro ⟨i, hi⟩
  rcases (show i = 0 ∨ i = 1 ∨ i = 2 by omega) with rfl | rfl | rfl
  · (repeat (first | refine SW.seq ?_ | refine SW.block ?_ | (refine SW.regL [0, 1, 2, 3, 4, 5, 6, 8, 14, 59] mixed ?_; (repeat (first | refine RW.ro bq_tt (h := ?_) | refine RW.skip (h := ?_) | refine RW.op bq_tt (h := ?_) | refine RW.opN bq_tt (h := ?_) | refine RW.skip0 (h := ?_) | (refine RW.callC (h := ?_); (first | refine CallP.mk bq_tt (hc := opN_at o.dot _) (h := ?_) | refine CallP.mk bq_tt (hc := whyN_at o _) (h := ?_) | refine CallP.mk bq_tt (hc := goodN_at o.dot _) (h := ?_) | refine CallP.mk bq_tt (hc := versN_at o.dot _) (h := ?_) | refine CallP.mk bq_tt (hc := dotsN_at _) (h := ?_) | refine CallP.mk bq_tt (hc := treeN_at _) (h := ?_))))); refine RW.nil ⟨conf_of (by kernel_rfl), Pruned.mk (h := ?_)⟩) | refine SW.skip ?_ | refine SW.exit ?_ | refine SW.ret ?_ | refine SW.condT rfl ?_ | refine SW.condF rfl ?_))
    exact ⟨⟨1, by omega⟩, id, by simp, Weak.mk bq_tt⟩
  · (repeat (first | refine SW.seq ?_ | refine SW.block ?_ | (refine SW.regL [0, 1, 2, 3, 4, 5, 6, 8, 14, 59] mixed ?_; (repeat (first | refine RW.ro bq_tt (h := ?_) | refine RW.skip (h := ?_) | refine RW.op bq_tt (h := ?_) | refine RW.opN bq_tt (h := ?_) | refine RW.skip0 (h := ?_) | (refine RW.callC (h := ?_); (first | refine CallP.mk bq_tt (hc := opZ_at o.dot 1 _) (h := ?_) | refine CallP.mk bq_tt (hc := whyZ_at o 1 _) (h := ?_) | refine CallP.mk bq_tt (hc := goodZ_at o.dot 1 _) (h := ?_) | refine CallP.mk bq_tt (hc := versZ_at o.dot 1 _) (h := ?_) | refine CallP.mk bq_tt (hc := dotsZ_at 1 _) (h := ?_) | refine CallP.mk bq_tt (hc := treeZ_at 1 _) (h := ?_))))); refine RW.nil ⟨conf_of (by kernel_rfl), Pruned.mk (h := ?_)⟩) | refine SW.skip ?_ | refine SW.exit ?_ | refine SW.ret ?_ | refine SW.condT rfl ?_ | refine SW.condF rfl ?_))
    exact ⟨⟨2, by omega⟩, id, by simp, Weak.mk bq_tt⟩
  · (repeat (first | refine SW.seq ?_ | refine SW.block ?_ | refine SW.g1 [0, 1, 2, 3, 4, 5, 6, 8, 14, 59] mixed bq_tt head17_at ?_ | refine SW.skip ?_ | refine SW.exit ?_ | refine SW.ret ?_ | refine SW.condT rfl ?_ | refine SW.condF rfl ?_))
    exact End.mk [] (h4 := rfl)
end
end Go.Proofs.Ytlgfknfdfnaedaa
