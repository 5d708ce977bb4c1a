/-
  Buffers: a buffer that is none.
-/
import Derived.Test.YtnakpdoioammhaaDoorUF
set_option linter.unusedSectionVars false
set_option linter.unusedVariables false
set_option linter.unusedSimpArgs false
namespace Go.Proofs.YtnakpdoioammhaaDoor
open Go.Sl Go.Proofs
attribute [local irreducible] SW RW SCd SC CallP Pruned
abbrev zb : List SV := [.d (.int .i64 0), .d (.int .u32 0), .d (.int .u32 0), .d (.int .u32 0), .d (.int .u32 0), .d (.int .u32 0), .d (.int .u32 0), .d (.int .u32 0), .d (.int .u32 0), .d .nilm]
theorem noneN_sb : SB Tryd.prog buffer_Buffer_none.f [.d .nilp] [] 0 0 fun r F => r = bl true ∧ F = [] := by
  refine buffer_Buffer_none.enter (by simp [SV.ok, SV.oks]) (by simp [Hp.ok, Ob.ok, SV.ok, SV.oks]) (by simp) ?_
  dsimp only [buffer_Buffer_none.s, Co.M, Co.G, Co.J, Co.H, Co.N, Co.F, Co.C, Co.Z, Co.B, Co.b8, Co.b32, Co.b64, Co.i6, Co.z8, Co.z29]
  refine SW.seq ?_
  (refine SW.regL [0, 2] mixed ?_; (repeat (first | refine RW.ro bq_tt (h := ?_) | refine RW.skip (h := ?_) | refine RW.op bq_tt (h := ?_) | refine RW.opN bq_tt (h := ?_) | refine RW.skip0 (h := ?_))); refine RW.nil ⟨by kernel_rfl, Pruned.mk (h := ?_)⟩)
  refine SW.seq ?_
  (refine SW.regL [0, 2] mixed ?_; (repeat (first | refine RW.ro bq_tt (h := ?_) | refine RW.skip (h := ?_) | refine RW.op bq_tt (h := ?_) | refine RW.opN bq_tt (h := ?_) | refine RW.skip0 (h := ?_))); refine RW.nil ⟨by kernel_rfl, Pruned.mk (h := ?_)⟩)
  refine SW.ret ?_
  exact End.mk [] (h4 := ⟨rfl, rfl⟩) (h6 := by simp [Hp.ok, Ob.ok, SV.ok, SV.oks])
theorem noneN_at (k : Nat) : SCd Tryd.prog buffer_Buffer_none.f [.d .nilp] [] k 0 (bl true) [] := by
  have h := SB.atL [] noneN_sb (by simp) (by simp [lk]) k
  simpa [SV.rens, SV.ren, atN, Hp.ren, Ob.ren] using h
theorem hasN_sb : SB Tryd.prog buffer_Buffer_Has.f [.d .nilp] [] 0 0 fun r F => r = .agg Vec.zero.cells ∧ F = [] := by
  refine buffer_Buffer_Has.enter (by simp [SV.ok, SV.oks]) (by simp [Hp.ok, Ob.ok, SV.ok, SV.oks]) (by simp) ?_
  have c1 := fun k => noneN_at k
  dsimp only [buffer_Buffer_Has.s, Co.M, Co.G, Co.J, Co.H, Co.N, Co.F, Co.C, Co.Z, Co.B, Co.b8, Co.b32, Co.b64, Co.i6, Co.z8, Co.z29]
  refine SW.seq ?_
  (refine SW.regL [0, 2, 4] mixed ?_; (repeat (first | refine RW.ro bq_tt (h := ?_) | refine RW.skip (h := ?_) | refine RW.op bq_tt (h := ?_) | refine RW.opN bq_tt (h := ?_) | refine RW.skip0 (h := ?_))); refine RW.nil ⟨by kernel_rfl, Pruned.mk (h := ?_)⟩)
  refine SW.seq (SW.seq ?_)
  (refine SW.regL [0, 2, 4] mixed ?_; (repeat (first | refine RW.ro bq_tt (h := ?_) | refine RW.skip (h := ?_) | refine RW.op bq_tt (h := ?_) | refine RW.opN bq_tt (h := ?_) | refine RW.skip0 (h := ?_) | (refine RW.callC (h := ?_); (first | refine CallP.mk bq_tt (hc := c1 _) (h := ?_))))); refine RW.nil ⟨by kernel_rfl, Pruned.mk (h := ?_)⟩)
  refine SW.condT rfl (SW.seq ?_)
  (refine SW.regL [0, 2, 4] mixed ?_; (repeat (first | refine RW.ro bq_tt (h := ?_) | refine RW.skip (h := ?_) | refine RW.op bq_tt (h := ?_) | refine RW.opN bq_tt (h := ?_) | refine RW.skip0 (h := ?_))); refine RW.nil ⟨by kernel_rfl, Pruned.mk (h := ?_)⟩)
  refine SW.ret ?_
  exact End.mk [] (h4 := ⟨rfl, rfl⟩) (h6 := by simp [Hp.ok, Ob.ok, SV.ok, SV.oks])
theorem hasN_at (k : Nat) : SCd Tryd.prog buffer_Buffer_Has.f [.d .nilp] [] k 0 (.agg Vec.zero.cells) [] := by
  have h := SB.atL [] hasN_sb (by simp) (by simp [lk]) k
  simpa [SV.rens, SV.ren, atN, Hp.ren, Ob.ren, Vec.cells_ren] using h
theorem waitsN_sb : SB Tryd.prog buffer_Buffer_Waits.f [.d .nilp] [] 0 0 fun r F => r = .d .nils ∧ F = [] := by
  refine buffer_Buffer_Waits.enter (by simp [SV.ok, SV.oks]) (by simp [Hp.ok, Ob.ok, SV.ok, SV.oks]) (by simp) ?_
  have c1 := fun k => noneN_at k
  dsimp only [buffer_Buffer_Waits.s, Co.M, Co.G, Co.J, Co.H, Co.N, Co.F, Co.C, Co.Z, Co.B, Co.b8, Co.b32, Co.b64, Co.i6, Co.z8, Co.z29]
  refine SW.seq ?_
  (refine SW.regL [0, 2, 3, 5, 7, 9, 10, 11, 12] mixed ?_; (repeat (first | refine RW.ro bq_tt (h := ?_) | refine RW.skip (h := ?_) | refine RW.op bq_tt (h := ?_) | refine RW.opN bq_tt (h := ?_) | refine RW.skip0 (h := ?_))); refine RW.nil ⟨by kernel_rfl, Pruned.mk (h := ?_)⟩)
  refine SW.seq (SW.seq ?_)
  (refine SW.regL [0, 2, 3, 5, 7, 9, 10, 11, 12] mixed ?_; (repeat (first | refine RW.ro bq_tt (h := ?_) | refine RW.skip (h := ?_) | refine RW.op bq_tt (h := ?_) | refine RW.opN bq_tt (h := ?_) | refine RW.skip0 (h := ?_) | (refine RW.callC (h := ?_); (first | refine CallP.mk bq_tt (hc := c1 _) (h := ?_))))); refine RW.nil ⟨by kernel_rfl, Pruned.mk (h := ?_)⟩)
  refine SW.condT rfl (SW.seq ?_)
  (refine SW.regL [0, 2, 3, 5, 7, 9, 10, 11, 12] mixed ?_; (repeat (first | refine RW.ro bq_tt (h := ?_) | refine RW.skip (h := ?_) | refine RW.op bq_tt (h := ?_) | refine RW.opN bq_tt (h := ?_) | refine RW.skip0 (h := ?_))); refine RW.nil ⟨by kernel_rfl, Pruned.mk (h := ?_)⟩)
  refine SW.ret ?_
  exact End.mk [] (h4 := ⟨rfl, rfl⟩) (h6 := by simp [Hp.ok, Ob.ok, SV.ok, SV.oks])
theorem waitsN_at (k : Nat) : SCd Tryd.prog buffer_Buffer_Waits.f [.d .nilp] [] k 0 (.d .nils) [] := by
  have h := SB.atL [] waitsN_sb (by simp) (by simp [lk]) k
  simpa [SV.rens, SV.ren, atN, Hp.ren, Ob.ren] using h
theorem copyN_sb : SB Tryd.prog buffer_Buffer_Copy.f [.d .nilp] [] 0 0 fun r F => r = .d .nilp ∧ F = [] := by
  refine buffer_Buffer_Copy.enter (by simp [SV.ok, SV.oks]) (by simp [Hp.ok, Ob.ok, SV.ok, SV.oks]) (by simp) ?_
  have c1 := fun k => noneN_at k
  dsimp only [buffer_Buffer_Copy.s, Co.M, Co.G, Co.J, Co.H, Co.N, Co.F, Co.C, Co.Z, Co.B, Co.b8, Co.b32, Co.b64, Co.i6, Co.z8, Co.z29]
  refine SW.seq ?_
  (refine SW.regL [0, 2, 4] mixed ?_; (repeat (first | refine RW.ro bq_tt (h := ?_) | refine RW.skip (h := ?_) | refine RW.op bq_tt (h := ?_) | refine RW.opN bq_tt (h := ?_) | refine RW.skip0 (h := ?_))); refine RW.nil ⟨by kernel_rfl, Pruned.mk (h := ?_)⟩)
  refine SW.seq (SW.seq ?_)
  (refine SW.regL [0, 2, 4] mixed ?_; (repeat (first | refine RW.ro bq_tt (h := ?_) | refine RW.skip (h := ?_) | refine RW.op bq_tt (h := ?_) | refine RW.opN bq_tt (h := ?_) | refine RW.skip0 (h := ?_) | (refine RW.callC (h := ?_); (first | refine CallP.mk bq_tt (hc := c1 _) (h := ?_))))); refine RW.nil ⟨by kernel_rfl, Pruned.mk (h := ?_)⟩)
  refine SW.condT rfl (SW.seq ?_)
  (refine SW.regL [0, 2, 4] mixed ?_; (repeat (first | refine RW.ro bq_tt (h := ?_) | refine RW.skip (h := ?_) | refine RW.op bq_tt (h := ?_) | refine RW.opN bq_tt (h := ?_) | refine RW.skip0 (h := ?_))); refine RW.nil ⟨by kernel_rfl, Pruned.mk (h := ?_)⟩)
  refine SW.ret ?_
  exact End.mk [] (h4 := ⟨rfl, rfl⟩) (h6 := by simp [Hp.ok, Ob.ok, SV.ok, SV.oks])
theorem copyN_at (k : Nat) : SCd Tryd.prog buffer_Buffer_Copy.f [.d .nilp] [] k 0 (.d .nilp) [] := by
  have h := SB.atL [] copyN_sb (by simp) (by simp [lk]) k
  simpa [SV.rens, SV.ren, atN, Hp.ren, Ob.ren] using h
theorem putN_sb (l : List OpD) : SB Tryd.prog buffer_Buffer_Put.f [.d .nilp, ops l] [] 0 0 fun r F => r = .tup [.d .nils, i64 1] ∧ F = [] := by
  refine buffer_Buffer_Put.enter (by simp [SV.ok, SV.oks, SV.oks_d, ops]) (by simp [Hp.ok, Ob.ok, SV.ok, SV.oks]) (by simp) ?_
  have c1 := fun k => noneN_at k
  dsimp only [buffer_Buffer_Put.s, Co.M, Co.G, Co.J, Co.H, Co.N, Co.F, Co.C, Co.Z, Co.B, Co.b8, Co.b32, Co.b64, Co.i6, Co.z8, Co.z29]
  refine SW.seq ?_
  (refine SW.regL [0, 1, 2, 4, 5, 7, 9, 10, 11, 12, 13, 14, 17, 21, 22, 23, 24, 48, 64, 90] mixed ?_; (repeat (first | refine RW.ro bq_tt (h := ?_) | refine RW.skip (h := ?_) | refine RW.op bq_tt (h := ?_) | refine RW.opN bq_tt (h := ?_) | refine RW.skip0 (h := ?_))); refine RW.nil ⟨by kernel_rfl, Pruned.mk (h := ?_)⟩)
  refine SW.seq (SW.block (SW.seq ?_))
  (refine SW.regL [0, 1, 2, 4, 5, 7, 9, 10, 11, 12, 13, 14, 17, 21, 22, 23, 24, 48, 64, 90] mixed ?_; (repeat (first | refine RW.ro bq_tt (h := ?_) | refine RW.skip (h := ?_) | refine RW.op bq_tt (h := ?_) | refine RW.opN bq_tt (h := ?_) | refine RW.skip0 (h := ?_) | (refine RW.callC (h := ?_); (first | refine CallP.mk bq_tt (hc := c1 _) (h := ?_))))); refine RW.nil ⟨by kernel_rfl, Pruned.mk (h := ?_)⟩)
  refine SW.condT rfl (SW.seq ?_)
  (refine SW.regL [0, 1, 2, 4, 5, 7, 9, 10, 11, 12, 13, 14, 17, 21, 22, 23, 24, 48, 64, 90] mixed ?_; (repeat (first | refine RW.ro bq_tt (h := ?_) | refine RW.skip (h := ?_) | refine RW.op bq_tt (h := ?_) | refine RW.opN bq_tt (h := ?_) | refine RW.skip0 (h := ?_))); refine RW.nil ⟨by kernel_rfl, Pruned.mk (h := ?_)⟩)
  refine SW.ret ?_
  exact End.mk [] (h4 := ⟨rfl, rfl⟩) (h6 := by simp [Hp.ok, Ob.ok, SV.ok, SV.oks])
theorem putN_at (l : List OpD) (k : Nat) : SCd Tryd.prog buffer_Buffer_Put.f [.d .nilp, ops l] [] k 0 (.tup [.d .nils, .d (.int .i64 1)]) [] := by
  have h := SB.atL [] (putN_sb l) (by simp) (by simp [lk]) k
  simpa [SV.rens, SV.ren, atN, Hp.ren, Ob.ren, ops] using h
theorem noneZ_sb : SB Tryd.prog buffer_Buffer_none.f [.ptr 0 0] [(0, .box 58 zb)] 1 0 fun r F => r = bl true ∧ F = [(0, .box 58 zb)] := by
  refine buffer_Buffer_none.enter (by simp [SV.ok, SV.oks]) (by simp [Hp.ok, Ob.ok, SV.ok, SV.oks]) (by simp) ?_
  dsimp only [buffer_Buffer_none.s, Co.M, Co.G, Co.J, Co.H, Co.N, Co.F, Co.C, Co.Z, Co.B, Co.b8, Co.b32, Co.b64, Co.i6, Co.z8, Co.z29]
  refine SW.seq ?_
  (refine SW.regL [0, 2] mixed ?_; (repeat (first | refine RW.ro bq_tt (h := ?_) | refine RW.skip (h := ?_) | refine RW.op bq_tt (h := ?_) | refine RW.opN bq_tt (h := ?_) | refine RW.skip0 (h := ?_))); refine RW.nil ⟨by kernel_rfl, Pruned.mk (h := ?_)⟩)
  refine SW.seq ?_
  (refine SW.regL [0, 2] mixed ?_; (repeat (first | refine RW.ro bq_tt (h := ?_) | refine RW.skip (h := ?_) | refine RW.op bq_tt (h := ?_) | refine RW.opN bq_tt (h := ?_) | refine RW.skip0 (h := ?_))); refine RW.nil ⟨by kernel_rfl, Pruned.mk (h := ?_)⟩)
  refine SW.ret ?_
  exact End.mk [(0, .box 58 zb)] (h4 := ⟨rfl, rfl⟩) (h6 := by simp [Hp.ok, Ob.ok, SV.ok, SV.oks])
theorem noneZ_at (q : Nat) (k : Nat) : SCd Tryd.prog buffer_Buffer_none.f [.ptr q 0] [(q, .box 58 zb)] k 0 (bl true) [(q, .box 58 zb)] := by
  have h := SB.atL [q] noneZ_sb (by simp) (by simp [lk]) k
  simpa [SV.rens, SV.ren, atN, Hp.ren, Ob.ren] using h
theorem hasZ_sb : SB Tryd.prog buffer_Buffer_Has.f [.ptr 0 0] [(0, .box 58 zb)] 1 0 fun r F => r = .agg Vec.zero.cells ∧ F = [(0, .box 58 zb)] := by
  refine buffer_Buffer_Has.enter (by simp [SV.ok, SV.oks]) (by simp [Hp.ok, Ob.ok, SV.ok, SV.oks]) (by simp) ?_
  have c1 := fun k => noneZ_at 0 k
  dsimp only [buffer_Buffer_Has.s, Co.M, Co.G, Co.J, Co.H, Co.N, Co.F, Co.C, Co.Z, Co.B, Co.b8, Co.b32, Co.b64, Co.i6, Co.z8, Co.z29]
  refine SW.seq ?_
  (refine SW.regL [0, 2, 4] mixed ?_; (repeat (first | refine RW.ro bq_tt (h := ?_) | refine RW.skip (h := ?_) | refine RW.op bq_tt (h := ?_) | refine RW.opN bq_tt (h := ?_) | refine RW.skip0 (h := ?_))); refine RW.nil ⟨by kernel_rfl, Pruned.mk (h := ?_)⟩)
  refine SW.seq (SW.seq ?_)
  (refine SW.regL [0, 2, 4] mixed ?_; (repeat (first | refine RW.ro bq_tt (h := ?_) | refine RW.skip (h := ?_) | refine RW.op bq_tt (h := ?_) | refine RW.opN bq_tt (h := ?_) | refine RW.skip0 (h := ?_) | (refine RW.callC (h := ?_); (first | refine CallP.mk bq_tt (hc := c1 _) (h := ?_))))); refine RW.nil ⟨by kernel_rfl, Pruned.mk (h := ?_)⟩)
  refine SW.condT rfl (SW.seq ?_)
  (refine SW.regL [0, 2, 4] mixed ?_; (repeat (first | refine RW.ro bq_tt (h := ?_) | refine RW.skip (h := ?_) | refine RW.op bq_tt (h := ?_) | refine RW.opN bq_tt (h := ?_) | refine RW.skip0 (h := ?_))); refine RW.nil ⟨by kernel_rfl, Pruned.mk (h := ?_)⟩)
  refine SW.ret ?_
  exact End.mk [(0, .box 58 zb)] (h4 := ⟨rfl, rfl⟩) (h6 := by simp [Hp.ok, Ob.ok, SV.ok, SV.oks])
theorem hasZ_at (q : Nat) (k : Nat) : SCd Tryd.prog buffer_Buffer_Has.f [.ptr q 0] [(q, .box 58 zb)] k 0 (.agg Vec.zero.cells) [(q, .box 58 zb)] := by
  have h := SB.atL [q] hasZ_sb (by simp) (by simp [lk]) k
  simpa [SV.rens, SV.ren, atN, Hp.ren, Ob.ren, Vec.cells_ren] using h
theorem waitsZ_sb : SB Tryd.prog buffer_Buffer_Waits.f [.ptr 0 0] [(0, .box 58 zb)] 1 0 fun r F => r = .d .nils ∧ F = [(0, .box 58 zb)] := by
  refine buffer_Buffer_Waits.enter (by simp [SV.ok, SV.oks]) (by simp [Hp.ok, Ob.ok, SV.ok, SV.oks]) (by simp) ?_
  have c1 := fun k => noneZ_at 0 k
  dsimp only [buffer_Buffer_Waits.s, Co.M, Co.G, Co.J, Co.H, Co.N, Co.F, Co.C, Co.Z, Co.B, Co.b8, Co.b32, Co.b64, Co.i6, Co.z8, Co.z29]
  refine SW.seq ?_
  (refine SW.regL [0, 2, 3, 5, 7, 9, 10, 11, 12] mixed ?_; (repeat (first | refine RW.ro bq_tt (h := ?_) | refine RW.skip (h := ?_) | refine RW.op bq_tt (h := ?_) | refine RW.opN bq_tt (h := ?_) | refine RW.skip0 (h := ?_))); refine RW.nil ⟨by kernel_rfl, Pruned.mk (h := ?_)⟩)
  refine SW.seq (SW.seq ?_)
  (refine SW.regL [0, 2, 3, 5, 7, 9, 10, 11, 12] mixed ?_; (repeat (first | refine RW.ro bq_tt (h := ?_) | refine RW.skip (h := ?_) | refine RW.op bq_tt (h := ?_) | refine RW.opN bq_tt (h := ?_) | refine RW.skip0 (h := ?_) | (refine RW.callC (h := ?_); (first | refine CallP.mk bq_tt (hc := c1 _) (h := ?_))))); refine RW.nil ⟨by kernel_rfl, Pruned.mk (h := ?_)⟩)
  refine SW.condT rfl (SW.seq ?_)
  (refine SW.regL [0, 2, 3, 5, 7, 9, 10, 11, 12] mixed ?_; (repeat (first | refine RW.ro bq_tt (h := ?_) | refine RW.skip (h := ?_) | refine RW.op bq_tt (h := ?_) | refine RW.opN bq_tt (h := ?_) | refine RW.skip0 (h := ?_))); refine RW.nil ⟨by kernel_rfl, Pruned.mk (h := ?_)⟩)
  refine SW.ret ?_
  exact End.mk [(0, .box 58 zb)] (h4 := ⟨rfl, rfl⟩) (h6 := by simp [Hp.ok, Ob.ok, SV.ok, SV.oks])
theorem waitsZ_at (q : Nat) (k : Nat) : SCd Tryd.prog buffer_Buffer_Waits.f [.ptr q 0] [(q, .box 58 zb)] k 0 (.d .nils) [(q, .box 58 zb)] := by
  have h := SB.atL [q] waitsZ_sb (by simp) (by simp [lk]) k
  simpa [SV.rens, SV.ren, atN, Hp.ren, Ob.ren] using h
theorem copyZ_sb : SB Tryd.prog buffer_Buffer_Copy.f [.ptr 0 0] [(0, .box 58 zb)] 1 0 fun r F => r = .d .nilp ∧ F = [(0, .box 58 zb)] := by
  refine buffer_Buffer_Copy.enter (by simp [SV.ok, SV.oks]) (by simp [Hp.ok, Ob.ok, SV.ok, SV.oks]) (by simp) ?_
  have c1 := fun k => noneZ_at 0 k
  dsimp only [buffer_Buffer_Copy.s, Co.M, Co.G, Co.J, Co.H, Co.N, Co.F, Co.C, Co.Z, Co.B, Co.b8, Co.b32, Co.b64, Co.i6, Co.z8, Co.z29]
  refine SW.seq ?_
  (refine SW.regL [0, 2, 4] mixed ?_; (repeat (first | refine RW.ro bq_tt (h := ?_) | refine RW.skip (h := ?_) | refine RW.op bq_tt (h := ?_) | refine RW.opN bq_tt (h := ?_) | refine RW.skip0 (h := ?_))); refine RW.nil ⟨by kernel_rfl, Pruned.mk (h := ?_)⟩)
  refine SW.seq (SW.seq ?_)
  (refine SW.regL [0, 2, 4] mixed ?_; (repeat (first | refine RW.ro bq_tt (h := ?_) | refine RW.skip (h := ?_) | refine RW.op bq_tt (h := ?_) | refine RW.opN bq_tt (h := ?_) | refine RW.skip0 (h := ?_) | (refine RW.callC (h := ?_); (first | refine CallP.mk bq_tt (hc := c1 _) (h := ?_))))); refine RW.nil ⟨by kernel_rfl, Pruned.mk (h := ?_)⟩)
  refine SW.condT rfl (SW.seq ?_)
  (refine SW.regL [0, 2, 4] mixed ?_; (repeat (first | refine RW.ro bq_tt (h := ?_) | refine RW.skip (h := ?_) | refine RW.op bq_tt (h := ?_) | refine RW.opN bq_tt (h := ?_) | refine RW.skip0 (h := ?_))); refine RW.nil ⟨by kernel_rfl, Pruned.mk (h := ?_)⟩)
  refine SW.ret ?_
  exact End.mk [(0, .box 58 zb)] (h4 := ⟨rfl, rfl⟩) (h6 := by simp [Hp.ok, Ob.ok, SV.ok, SV.oks])
theorem copyZ_at (q : Nat) (k : Nat) : SCd Tryd.prog buffer_Buffer_Copy.f [.ptr q 0] [(q, .box 58 zb)] k 0 (.d .nilp) [(q, .box 58 zb)] := by
  have h := SB.atL [q] copyZ_sb (by simp) (by simp [lk]) k
  simpa [SV.rens, SV.ren, atN, Hp.ren, Ob.ren] using h
theorem putZ_sb (l : List OpD) : SB Tryd.prog buffer_Buffer_Put.f [.ptr 0 0, ops l] [(0, .box 58 zb)] 1 0 fun r F => r = .tup [.d .nils, i64 1] ∧ F = [(0, .box 58 zb)] := by
  refine buffer_Buffer_Put.enter (by simp [SV.ok, SV.oks, SV.oks_d, ops]) (by simp [Hp.ok, Ob.ok, SV.ok, SV.oks]) (by simp) ?_
  have c1 := fun k => noneZ_at 0 k
  dsimp only [buffer_Buffer_Put.s, Co.M, Co.G, Co.J, Co.H, Co.N, Co.F, Co.C, Co.Z, Co.B, Co.b8, Co.b32, Co.b64, Co.i6, Co.z8, Co.z29]
  refine SW.seq ?_
  (refine SW.regL [0, 1, 2, 4, 5, 7, 9, 10, 11, 12, 13, 14, 17, 21, 22, 23, 24, 48, 64, 90] mixed ?_; (repeat (first | refine RW.ro bq_tt (h := ?_) | refine RW.skip (h := ?_) | refine RW.op bq_tt (h := ?_) | refine RW.opN bq_tt (h := ?_) | refine RW.skip0 (h := ?_))); refine RW.nil ⟨by kernel_rfl, Pruned.mk (h := ?_)⟩)
  refine SW.seq (SW.block (SW.seq ?_))
  (refine SW.regL [0, 1, 2, 4, 5, 7, 9, 10, 11, 12, 13, 14, 17, 21, 22, 23, 24, 48, 64, 90] mixed ?_; (repeat (first | refine RW.ro bq_tt (h := ?_) | refine RW.skip (h := ?_) | refine RW.op bq_tt (h := ?_) | refine RW.opN bq_tt (h := ?_) | refine RW.skip0 (h := ?_) | (refine RW.callC (h := ?_); (first | refine CallP.mk bq_tt (hc := c1 _) (h := ?_))))); refine RW.nil ⟨by kernel_rfl, Pruned.mk (h := ?_)⟩)
  refine SW.condT rfl (SW.seq ?_)
  (refine SW.regL [0, 1, 2, 4, 5, 7, 9, 10, 11, 12, 13, 14, 17, 21, 22, 23, 24, 48, 64, 90] mixed ?_; (repeat (first | refine RW.ro bq_tt (h := ?_) | refine RW.skip (h := ?_) | refine RW.op bq_tt (h := ?_) | refine RW.opN bq_tt (h := ?_) | refine RW.skip0 (h := ?_))); refine RW.nil ⟨by kernel_rfl, Pruned.mk (h := ?_)⟩)
  refine SW.ret ?_
  exact End.mk [(0, .box 58 zb)] (h4 := ⟨rfl, rfl⟩) (h6 := by simp [Hp.ok, Ob.ok, SV.ok, SV.oks])
theorem putZ_at (l : List OpD) (q : Nat) (k : Nat) : SCd Tryd.prog buffer_Buffer_Put.f [.ptr q 0, ops l] [(q, .box 58 zb)] k 0 (.tup [.d .nils, .d (.int .i64 1)]) [(q, .box 58 zb)] := by
  have h := SB.atL [q] (putZ_sb l) (by simp) (by simp [lk]) k
  simpa [SV.rens, SV.ren, atN, Hp.ren, Ob.ren, ops] using h
abbrev nH (o : OpD) : Hp := [(2, .arr 23 1 2 [.d .nilp, .ptr 1 0]), (1, .box 58 zb), (0, .box 37 o.cells)]
set_option maxRecDepth 100000 in
set_option maxHeartbeats 8000000 in
theorem law_none11 (o : OpD) : Go.Sl.Pure Tryd.prog law11_BufferNone.f [.agg o.cells] (bl true) := by
  refine law11_BufferNone.enter (by first | rfl | simp [SV.ok, SV.oks]) (by first | rfl | simp [Hp.ok, Ob.ok, SV.ok, SV.oks, Vec.cells_ok]) (by simp) ?_
  dsimp only [law11_BufferNone.s, Co.M, Co.G, Co.J, Co.H, Co.N, Co.F, Co.C, Co.Z, Co.B, Co.b8, Co.b32, Co.b64, Co.i6, Co.z8, Co.z29]
  have la : o.cells.length = 29 := rfl
  have ta : List.take 29 o.cells = o.cells := rfl
  have d2 : ∀ d : Vec, decide (d = d) = true := fun d => by simp
  have r1 : SV.rens id o.cells = o.cells := SV.rens_d _
  have r2 : SV.oks (fun n => decide (n < 3)) o.cells = true := OpD.cells_ok o _
  refine SW.seq ?_
  (refine SW.regL [0, 1, 2, 3, 4, 5, 6, 7, 15, 60] mixed ?_; (repeat (first | refine RW.ro bq_tt (h := ?_) | refine RW.skip (h := ?_) | refine RW.op bq_tt (h := ?_) | refine RW.opN bq_tt (h := ?_) | refine RW.skip0 (h := ?_) | refine lit1 rfl rfl (h := ?_))); refine RW.nil ⟨conf_of (by kernel_rfl), Pruned.mk (h := ?_)⟩)
  refine SW.seq ?_
  (refine SW.regL [0, 1, 2, 3, 4, 5, 6, 7, 15, 60] mixed ?_; (repeat (first | refine RW.ro bq_tt (h := ?_) | refine RW.skip (h := ?_) | refine RW.op bq_tt (h := ?_) | refine RW.opN bq_tt (h := ?_) | refine RW.skip0 (h := ?_) | refine lit1 rfl rfl (h := ?_))); refine RW.nil ⟨conf_of (by kernel_rfl), Pruned.mk (h := ?_)⟩)
  refine SW.seq ?_
  have s1 : spl (spl [SV.d .nilp, SV.d .nilp] 0 [SV.d .nilp]) 1 [SV.ptr 1 0] = [SV.d .nilp, SV.ptr 1 0] := rfl
  have s2 : spl [SV.d .nilp, SV.d .nilp] 0 [SV.d .nilp] = [SV.d .nilp, SV.d .nilp] := rfl
  have s3 : spl [SV.d .nilp, SV.d .nilp] 1 [SV.ptr 1 0] = [SV.d .nilp, SV.ptr 1 0] := rfl
  have s4 : datas [SV.d .nilp, SV.ptr 1 0] = none := rfl
  (have fx := (And.intro (s1) (And.intro (s2) (And.intro (s3) (s4)))); refine SW.regL [0, 1, 2, 3, 4, 5, 6, 7, 15, 60] mixed ?_; (repeat (first | refine RW.ro fx (h := ?_) | refine RW.skip (h := ?_) | refine RW.op fx (h := ?_) | refine RW.opN fx (h := ?_) | refine RW.skip0 (h := ?_))); refine RW.nil ⟨conf_of (by kernel_rfl), Pruned.mk (h := ?_)⟩)
  refine SW.seq (SW.seq ?_)
  (refine SW.regL [0, 1, 2, 3, 4, 5, 6, 7, 15, 60] mixed ?_; (repeat (first | refine RW.ro bq_tt (h := ?_) | refine RW.skip (h := ?_) | refine RW.op bq_tt (h := ?_) | refine RW.opN bq_tt (h := ?_) | refine RW.skip0 (h := ?_))); refine RW.nil ⟨conf_of (by kernel_rfl), Pruned.mk (h := ?_)⟩)
  refine SW.block ?_
  refine SW.loopA (α := {i : Nat // i ≤ 2}) (fun i => ⟨[(5, i64 i.1), (4, .gs 2 2), (1, .ptr 0 0)], nH o, 3⟩) (fun i => 2 - i.1) ⟨0, by omega⟩ id (And.intro r1 r2) (round := ?_)
  rintro ⟨i, hi⟩
  dsimp only
  refine SW.seq (SW.seq ?_)
  match i, hi with
  | 0, _ =>
    have c1 := fun k => putN_at [o] k
    have c2 := fun k => hasN_at k
    have c3 := fun k => waitsN_at k
    have c4 := fun k => copyN_at k
    have h1 : decide (((0 : Nat) : Int) < 2) = true := rfl
    have e0 : ((0 : Nat) : Int) = 0 := rfl
    rw [e0]
    (refine SW.regL [0, 1, 2, 3, 4, 5, 6, 7, 15, 60] mixed ?_; (repeat (first | refine RW.ro bq_tt (h := ?_) | refine RW.skip (h := ?_) | refine RW.op bq_tt (h := ?_) | refine RW.opN bq_tt (h := ?_) | refine RW.skip0 (h := ?_))); refine RW.nil ⟨conf_of (by kernel_rfl), Pruned.mk (h := ?_)⟩)
    refine SW.condT rfl (SW.skip (SW.seq (SW.block (SW.seq ?_))))
    (refine SW.regL [0, 1, 2, 3, 4, 5, 6, 7, 15, 60] mixed ?_; (repeat (first | refine RW.ro (And.intro (la) (ta)) (h := ?_) | refine RW.skip (h := ?_) | refine RW.op (And.intro (la) (ta)) (h := ?_) | refine RW.opN (And.intro (la) (ta)) (h := ?_) | refine RW.skip0 (h := ?_) | refine lit1 rfl rfl (h := ?_) | (refine RW.callC (h := ?_); (first | refine CallP.mk (And.intro (la) (ta)) (hc := c1 _) (h := ?_))))); refine RW.nil ⟨conf_of (by kernel_rfl), Pruned.mk (h := ?_)⟩)
    refine SW.seq ?_
    (refine SW.regL [0, 1, 2, 3, 4, 5, 6, 7, 15, 60] mixed ?_; (repeat (first | refine RW.ro (d2) (h := ?_) | refine RW.skip (h := ?_) | refine RW.op (d2) (h := ?_) | refine RW.opN (d2) (h := ?_) | refine RW.skip0 (h := ?_) | (refine RW.callC (h := ?_); (first | refine CallP.mk (d2) (hc := c2 _) (h := ?_) | refine CallP.mk (d2) (hc := c3 _) (h := ?_) | refine CallP.mk (d2) (hc := c4 _) (h := ?_))))); refine RW.nil ⟨conf_of (by kernel_rfl), Pruned.mk (h := ?_)⟩)
    refine SW.condF rfl (SW.skip ?_)
    (refine SW.regL [0, 1, 2, 3, 4, 5, 6, 7, 15, 60] mixed ?_; (repeat (first | refine RW.ro bq_tt (h := ?_) | refine RW.skip (h := ?_) | refine RW.op bq_tt (h := ?_) | refine RW.opN bq_tt (h := ?_) | refine RW.skip0 (h := ?_))); refine RW.nil ⟨conf_of (by kernel_rfl), Pruned.mk (h := ?_)⟩)
    refine ⟨⟨1, by omega⟩, id, by show 2 - 1 < 2 - 0; omega, ?_⟩
    exact Weak.mk (And.intro r1 r2)
  | 1, _ =>
    have c1 := fun k => putZ_at [o] 1 k
    have c2 := fun k => hasZ_at 1 k
    have c3 := fun k => waitsZ_at 1 k
    have c4 := fun k => copyZ_at 1 k
    have e0 : ((1 : Nat) : Int) = 1 := rfl
    rw [e0]
    (refine SW.regL [0, 1, 2, 3, 4, 5, 6, 7, 15, 60] mixed ?_; (repeat (first | refine RW.ro bq_tt (h := ?_) | refine RW.skip (h := ?_) | refine RW.op bq_tt (h := ?_) | refine RW.opN bq_tt (h := ?_) | refine RW.skip0 (h := ?_))); refine RW.nil ⟨conf_of (by kernel_rfl), Pruned.mk (h := ?_)⟩)
    refine SW.condT rfl (SW.skip (SW.seq (SW.block (SW.seq ?_))))
    (refine SW.regL [0, 1, 2, 3, 4, 5, 6, 7, 15, 60] mixed ?_; (repeat (first | refine RW.ro (And.intro (la) (ta)) (h := ?_) | refine RW.skip (h := ?_) | refine RW.op (And.intro (la) (ta)) (h := ?_) | refine RW.opN (And.intro (la) (ta)) (h := ?_) | refine RW.skip0 (h := ?_) | refine lit1 rfl rfl (h := ?_) | (refine RW.callC (h := ?_); (first | refine CallP.mk (And.intro (la) (ta)) (hc := c1 _) (h := ?_))))); refine RW.nil ⟨conf_of (by kernel_rfl), Pruned.mk (h := ?_)⟩)
    refine SW.seq ?_
    (refine SW.regL [0, 1, 2, 3, 4, 5, 6, 7, 15, 60] mixed ?_; (repeat (first | refine RW.ro (d2) (h := ?_) | refine RW.skip (h := ?_) | refine RW.op (d2) (h := ?_) | refine RW.opN (d2) (h := ?_) | refine RW.skip0 (h := ?_) | (refine RW.callC (h := ?_); (first | refine CallP.mk (d2) (hc := c2 _) (h := ?_) | refine CallP.mk (d2) (hc := c3 _) (h := ?_) | refine CallP.mk (d2) (hc := c4 _) (h := ?_))))); refine RW.nil ⟨conf_of (by kernel_rfl), Pruned.mk (h := ?_)⟩)
    refine SW.condF rfl (SW.skip ?_)
    (refine SW.regL [0, 1, 2, 3, 4, 5, 6, 7, 15, 60] mixed ?_; (repeat (first | refine RW.ro bq_tt (h := ?_) | refine RW.skip (h := ?_) | refine RW.op bq_tt (h := ?_) | refine RW.opN bq_tt (h := ?_) | refine RW.skip0 (h := ?_))); refine RW.nil ⟨conf_of (by kernel_rfl), Pruned.mk (h := ?_)⟩)
    refine ⟨⟨2, by omega⟩, id, by show 2 - 2 < 2 - 1; omega, ?_⟩
    exact Weak.mk (And.intro r1 r2)
  | 2, _ =>
    have e0 : ((2 : Nat) : Int) = 2 := rfl
    rw [e0]
    (refine SW.regL [0, 1, 2, 3, 4, 5, 6, 7, 15, 60] mixed ?_; (repeat (first | refine RW.ro bq_tt (h := ?_) | refine RW.skip (h := ?_) | refine RW.op bq_tt (h := ?_) | refine RW.opN bq_tt (h := ?_) | refine RW.skip0 (h := ?_))); refine RW.nil ⟨conf_of (by kernel_rfl), Pruned.mk (h := ?_)⟩)
    refine SW.condF rfl (SW.exit (SW.seq ?_))
    (refine SW.regL [0, 1, 2, 3, 4, 5, 6, 7, 15, 60] mixed ?_; (repeat (first | refine RW.ro bq_tt (h := ?_) | refine RW.skip (h := ?_) | refine RW.op bq_tt (h := ?_) | refine RW.opN bq_tt (h := ?_) | refine RW.skip0 (h := ?_) | (refine RW.callC (h := ?_); (first | refine CallP.mk bq_tt (hc := head11_at _) (h := ?_))))); refine RW.nil ⟨conf_of (by kernel_rfl), Pruned.mk (h := ?_)⟩)
    refine SW.ret ?_
    exact End.mk [] (h4 := ⟨rfl, rfl⟩)
end Go.Proofs.YtnakpdoioammhaaDoor
