/-
  What the document's examples of vectors come to.
-/
import Derived.Test.YtdnjkeeiopcipaaW04h
import Derived.Test.YtdnjkeeiopcipaaW04f
import Derived.Test.YtdnjkeeiopcipaaW04g
import Derived.Test.YtdnjkeeiopcipaaSlA
set_option linter.unusedSectionVars false
set_option linter.unusedVariables false
set_option linter.unusedSimpArgs false
namespace Go.Proofs.Ytdnjkeeiopcipaa
open Go.Sl Go.Proofs
attribute [local irreducible] SW RW SCd SC CallP Pruned

abbrev z3 (a b c : Nat) : Vec := ⟨a, b, c, 0, 0, 0, 0, 0⟩
theorem v_at (a b c k : Nat) : SCd Try.prog law04_v.f [.d (.int .u32 (a : Int)), .d (.int .u32 (b : Int)), .d (.int .u32 (c : Int))] [] k 0 (.agg (z3 a b c).cells) [] := (v_ok a b c).sc rfl k
theorem z3_wf {a b c : Nat} (ha : a < 4294967296) (hb : b < 4294967296) (hc : c < 4294967296) : (z3 a b c).wf := by
  intro r hr
  match r, hr with
  | 0, _ => exact ha
  | 1, _ => exact hb
  | 2, _ => exact hc
  | 3, _ => exact (by decide : 0 < 4294967296)
  | 4, _ => exact (by decide : 0 < 4294967296)
  | 5, _ => exact (by decide : 0 < 4294967296)
  | 6, _ => exact (by decide : 0 < 4294967296)
  | 7, _ => exact (by decide : 0 < 4294967296)
theorem h_next (k : Nat) : SCd Try.prog vector_Next.f [.agg (z3 1 2 0).cells, .d (.int .u8 1)] [] k 0 (.tup [.agg (Dt.mk 1 3).cells, i64 0]) [] := next_at (z3 1 2 0) (z3_wf (by decide) (by decide) (by decide)) 1 (by decide) k
theorem h_next2 (k : Nat) : SCd Try.prog vector_Next.f [.agg (z3 1 2 0).cells, .d (.int .u8 8)] [] k 0 (.tup [.agg Dt.zero.cells, i64 2]) [] := next_at (z3 1 2 0) (z3_wf (by decide) (by decide) (by decide)) 8 (by decide) k
theorem h_put (k : Nat) : SCd Try.prog vector_Put.f [.agg (z3 1 2 0).cells, .agg (Dt.mk 1 3).cells] [] k 0 (.tup [.agg (z3 1 3 0).cells, i64 0]) [] := put_at (z3 1 2 0) (z3_wf (by decide) (by decide) (by decide)) ⟨1, 3⟩ ⟨by decide, by decide⟩ k
theorem h_put2 (k : Nat) : SCd Try.prog vector_Put.f [.agg (z3 1 2 0).cells, .agg (Dt.mk 1 4).cells] [] k 0 (.tup [.agg Vec.zero.cells, i64 9]) [] := put_at (z3 1 2 0) (z3_wf (by decide) (by decide) (by decide)) ⟨1, 4⟩ ⟨by decide, by decide⟩ k
theorem h_lacks (k : Nat) : SCd Try.prog vector_Lacks.f [.agg (z3 1 2 0).cells, .agg (z3 2 2 1).cells] [] k 0 (.tup [dots [⟨0, 2⟩, ⟨2, 1⟩], i64 0]) [] := lacks_at (z3 1 2 0) (z3 2 2 1) (z3_wf (by decide) (by decide) (by decide)) (z3_wf (by decide) (by decide) (by decide)) k
theorem h_merge (k : Nat) : SCd Try.prog vector_Merge.f [.d (.sl 2 ((z3 1 2 0).ds ++ (z3 0 3 1).ds))] [] k 0 (.agg (z3 1 3 1).cells) [] := merge2_at (z3 1 2 0) (z3 0 3 1) k
theorem h_meet (k : Nat) : SCd Try.prog vector_Meet.f [.d (.sl 2 ((z3 1 2 0).ds ++ (z3 0 3 1).ds))] [] k 0 (.agg (z3 0 2 0).cells) [] := meet2_at (z3 1 2 0) (z3 0 3 1) k
theorem h_above (k : Nat) : SCd Try.prog vector_Above.f [.agg (z3 1 2 0).cells, .agg (z3 1 1 0).cells] [] k 0 (bl true) [] := above_at (z3 1 2 0) (z3 1 1 0) k
theorem h_beside (k : Nat) : SCd Try.prog vector_Beside.f [.agg (z3 1 2 0).cells, .agg (z3 0 3 0).cells] [] k 0 (bl true) [] := beside_at (z3 1 2 0) (z3 0 3 0) k
theorem h_cov (k : Nat) : SCd Try.prog vector_Covers.f [.agg (z3 1 2 0).cells, .agg (Dt.mk 1 2).cells] [] k 0 (bl true) [] := covers_at (z3 1 2 0) ⟨1, 2⟩ k
theorem h_cov2 (k : Nat) : SCd Try.prog vector_Covers.f [.agg (z3 1 2 0).cells, .agg (Dt.mk 2 1).cells] [] k 0 (bl false) [] := covers_at (z3 1 2 0) ⟨2, 1⟩ k
theorem h_same (k : Nat) : SCd Try.prog ref03_Same.f [dots [⟨0, 2⟩, ⟨2, 1⟩], .d (.sl 2 ((Dt.mk 0 2).ds ++ (Dt.mk 2 1).ds))] [] k 0 (bl true) [] := (ref03_same [⟨0, 2⟩, ⟨2, 1⟩] [⟨0, 2⟩, ⟨2, 1⟩] (by decide) (by decide)).sc rfl k
theorem h_count (k : Nat) : SCd Try.prog vector_Count.f [.agg (z3 1 2 0).cells] [] k 0 (.d (.int .u64 3)) [] := count_at (z3 1 2 0) (z3_wf (by decide) (by decide) (by decide)) k
theorem h_tops (k : Nat) : SCd Try.prog vector_Tops.f [.d (.sl 4 ((z3 1 0 0).ds ++ ((z3 0 1 0).ds ++ ((z3 1 0 0).ds ++ (z3 0 0 0).ds))))] [] k 0 (vecs [z3 1 0 0, z3 0 1 0]) [] := (tops_ok [z3 1 0 0, z3 0 1 0, z3 1 0 0, z3 0 0 0] (by decide)).sc rfl k
theorem h_same4 (k : Nat) : SCd Try.prog ref04_Same.f [vecs [z3 1 0 0, z3 0 1 0], .d (.sl 2 ((z3 1 0 0).ds ++ (z3 0 1 0).ds))] [] k 0 (bl true) [] := (ref04_same [z3 1 0 0, z3 0 1 0] [z3 1 0 0, z3 0 1 0] (by decide) (by decide)).sc rfl k

set_option maxRecDepth 100000 in
theorem head_ok : Go.Sl.Pure Try.prog law04_head.f [] (bl true) := by
  refine law04_head.enter (by first | rfl | simp [SV.ok, SV.oks]) (by first | rfl | simp [Hp.ok, Ob.ok, SV.ok, SV.oks, Vec.cells_ok]) (by simp) ?_
  unfold law04_head.s
  (repeat (first | refine SW.seq ?_ | refine SW.block ?_ | (refine SW.regL [0, 1, 2, 3, 4, 6, 8, 9, 10] mixed ?_; (repeat (first | refine RW.ro bq_tt (h := ?_) | refine RW.skip (h := ?_) | refine RW.op bq_tt (h := ?_) | refine RW.opN bq_tt (h := ?_) | refine RW.skip0 (h := ?_) | (refine RW.callC (h := ?_); (first | refine CallP.mk bq_tt (hc := v_at _ _ _ _) (h := ?_) | refine CallP.mk bq_tt (hc := h_next _) (h := ?_) | refine CallP.mk bq_tt (hc := h_next2 _) (h := ?_) | refine CallP.mk bq_tt (hc := h_put _) (h := ?_) | refine CallP.mk bq_tt (hc := h_put2 _) (h := ?_) | refine CallP.mk bq_tt (hc := h_lacks _) (h := ?_) | refine CallP.mk bq_tt (hc := h_merge _) (h := ?_) | refine CallP.mk bq_tt (hc := h_meet _) (h := ?_) | refine CallP.mk bq_tt (hc := h_above _) (h := ?_) | refine CallP.mk bq_tt (hc := h_beside _) (h := ?_) | refine CallP.mk bq_tt (hc := h_cov _) (h := ?_) | refine CallP.mk bq_tt (hc := h_cov2 _) (h := ?_) | refine CallP.mk bq_tt (hc := h_same _) (h := ?_) | refine CallP.mk bq_tt (hc := h_count _) (h := ?_) | refine CallP.mk bq_tt (hc := h_tops _) (h := ?_) | refine CallP.mk bq_tt (hc := h_same4 _) (h := ?_))))); refine RW.nil ⟨by kernel_rfl, Pruned.mk (h := ?_)⟩) | refine SW.skip ?_ | refine SW.exit ?_ | refine SW.ret ?_ | refine SW.condT rfl ?_ | refine SW.condF rfl ?_))
  exact End.mk [] (h4 := ⟨rfl, rfl⟩)
theorem head_at (k : Nat) : SCd Try.prog law04_head.f [] [] k 0 (bl true) [] := head_ok.sc rfl k
end Go.Proofs.Ytdnjkeeiopcipaa
