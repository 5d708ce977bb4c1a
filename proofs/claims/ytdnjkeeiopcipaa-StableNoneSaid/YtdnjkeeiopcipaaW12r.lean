/-
  Trackers: the law of trackers that are none.
-/
import Derived.Test.YtdnjkeeiopcipaaW12q
set_option linter.unusedSectionVars false
set_option linter.unusedVariables false
set_option linter.unusedSimpArgs false
namespace Go.Proofs.Ytdnjkeeiopcipaa
open Go.Sl Go.Proofs
theorem head12_at (k : Nat) : SCd Try.prog law12_head.f [] [] k 0 (bl true) [] := head12_ok.sc rfl k
section
attribute [local irreducible] SW RW SCd SC CallP Pruned zC
set_option maxHeartbeats 2000000 in
theorem law_none (r : Nat) (hr : r < 256) (x : Vec) : Go.Sl.Pure Try.prog law12_StableNone.f [u8 r, .agg x.cells] (bl true) := by
  refine law12_StableNone.enter (by first | rfl | simp [SV.ok, SV.oks]) (by first | rfl | simp [Hp.ok, Ob.ok, SV.ok, SV.oks, Vec.cells_ok]) (by simp) ?_
  unfold law12_StableNone.s
  refine SW.seq ?_
  (refine SW.regL [0, 1, 3, 4, 5, 6, 7, 8, 10, 16, 65] mixed ?_; (repeat (first | refine RW.ro bq_tt (h := ?_) | refine RW.skip (h := ?_) | refine RW.op bq_tt (h := ?_) | refine RW.opN bq_tt (h := ?_) | refine RW.skip0 (h := ?_))); refine RW.nil ⟨conf_of (by kernel_rfl), Pruned.mk (h := ?_)⟩)
  refine SW.seq ?_
  (refine SW.regL [0, 1, 3, 4, 5, 6, 7, 8, 10, 16, 65] mixed ?_; (repeat (first | refine RW.ro bq_tt (h := ?_) | refine RW.skip (h := ?_) | refine RW.op bq_tt (h := ?_) | refine RW.opN bq_tt (h := ?_) | refine RW.skip0 (h := ?_))); refine RW.nil ⟨conf_of (by kernel_rfl), Pruned.mk (h := ?_)⟩)
  refine SW.seq ?_
  dsimp only
  have s1 : ∀ (cs : List SV) (o : Nat) (c : SV), spl cs o [c] = cs.set o c := fun _ _ _ => rfl
  have s2 : ∀ (x y : SV) (l : List SV), (x :: l).set 0 y = y :: l := fun _ _ _ => rfl
  have s3 : ∀ (x z y : SV) (l : List SV), (x :: z :: l).set 1 y = x :: y :: l := fun _ _ _ _ => rfl
  (refine SW.regL [0, 1, 3, 4, 5, 6, 7, 8, 10, 16, 65] mixed ?_; (repeat (first | refine RW.ro (And.intro (s1) (And.intro (s2) (s3))) (h := ?_) | refine RW.skip (h := ?_) | refine RW.op (And.intro (s1) (And.intro (s2) (s3))) (h := ?_) | refine RW.opN (And.intro (s1) (And.intro (s2) (s3))) (h := ?_) | refine RW.skip0 (h := ?_))); refine RW.nil ⟨conf_of (by kernel_rfl), Pruned.mk (h := ?_)⟩)
  refine SW.weak id (st1 := ⟨[(0, u8 r), (3, .ptr 0 0), (6, .gs 2 2)], [(2, .arr 26 1 2 [.d .nilp, .ptr 1 0]), (0, .box 25 x.cells), (1, .box 93 zC)], 3⟩) (Weak.same (by simp) (by simp [EnvW, List.lookup, SV.ren, SV.ok]) (by simp [Hp.ok, Ob.ok, SV.oks, SV.ok, Vec.cells_ok, zC_ok]) ?_) ?_
  · intro y hy
    simp only [List.mem_cons, List.not_mem_nil, or_false] at hy
    rcases hy with rfl | rfl | rfl
    · rfl
    · rfl
    · unfold zC; rfl
  refine SW.seq (SW.seq ?_)
  (refine SW.regL [0, 1, 3, 4, 5, 6, 7, 8, 10, 16, 65] mixed ?_; (repeat (first | refine RW.ro bq_tt (h := ?_) | refine RW.skip (h := ?_) | refine RW.op bq_tt (h := ?_) | refine RW.opN bq_tt (h := ?_) | refine RW.skip0 (h := ?_))); refine RW.nil ⟨conf_of (by kernel_rfl), Pruned.mk (h := ?_)⟩)
  refine SW.block ?_
  refine SW.loop (α := {i : Nat // i ≤ 2}) (fun i => ⟨[(7, i64 i.1), (0, u8 r), (3, .ptr 0 0), (6, .gs 2 2)], [(2, .arr 26 1 2 [.d .nilp, .ptr 1 0]), (0, .box 25 x.cells), (1, .box 93 zC)], 3⟩) (fun i => 2 - i.1) ⟨0, by omega⟩ id ?_ ?_
  · exact Weak.same (by simp) (by simp [EnvW, List.lookup, SV.ren, SV.ok]) (by simp [Hp.ok, Ob.ok, SV.oks, SV.ok, Vec.cells_ok, zC_ok]) (by simp [lk_cons])
  rintro ⟨i, hi⟩
  have w3 : ∀ st, st ∈ ([] : List Nat) → True := fun _ _ => trivial
  rcases (show i = 0 ∨ i = 1 ∨ i = 2 by omega) with rfl | rfl | rfl
  · (repeat (first | refine SW.seq ?_ | refine SW.block ?_ | (refine SW.regL [0, 1, 3, 4, 5, 6, 7, 8, 10, 16, 65] mixed ?_; (repeat (first | refine RW.ro bq_tt (h := ?_) | refine RW.skip (h := ?_) | refine RW.op bq_tt (h := ?_) | refine RW.opN bq_tt (h := ?_) | refine RW.skip0 (h := ?_) | (refine RW.callC (h := ?_); (first | refine CallP.mk bq_tt (hc := counts0_at r hr _) (h := ?_) | refine CallP.mk bq_tt (hc := has0_at x _) (h := ?_) | refine CallP.mk bq_tt (hc := hear0_at r hr x _) (h := ?_) | refine CallP.mk bq_tt (hc := stable0_at _) (h := ?_) | refine CallP.mk bq_tt (hc := own0_at _) (h := ?_) | refine CallP.mk bq_tt (hc := waits0_at _) (h := ?_) | refine CallP.mk bq_tt (hc := copy0_at _) (h := ?_))))); refine RW.nil ⟨conf_of (by kernel_rfl), Pruned.mk (h := ?_)⟩) | refine SW.skip ?_ | refine SW.exit ?_ | refine SW.ret ?_ | refine SW.condT rfl ?_ | refine SW.condF rfl ?_))
    exact ⟨⟨1, by omega⟩, id, by simp, Weak.same (by simp) (by simp [EnvW, List.lookup, SV.ren, SV.ok]) (by simp [Hp.ok, Ob.ok, SV.oks, SV.ok, Vec.cells_ok, zC_ok]) (by simp [lk_cons])⟩
  · (repeat (first | refine SW.seq ?_ | refine SW.block ?_ | (refine SW.regL [0, 1, 3, 4, 5, 6, 7, 8, 10, 16, 65] mixed ?_; (repeat (first | refine RW.ro bq_tt (h := ?_) | refine RW.skip (h := ?_) | refine RW.op bq_tt (h := ?_) | refine RW.opN bq_tt (h := ?_) | refine RW.skip0 (h := ?_) | (refine RW.callC (h := ?_); (first | refine CallP.mk bq_tt (hc := countsz_at r hr (b := 1) (by omega)) (h := ?_) | refine CallP.mk bq_tt (hc := hasz_at x (b := 1) (by omega)) (h := ?_) | refine CallP.mk bq_tt (hc := hearz_at r hr x (b := 1) (by omega)) (h := ?_) | refine CallP.mk bq_tt (hc := stablez_at (b := 1) (by omega)) (h := ?_) | refine CallP.mk bq_tt (hc := ownz_at (b := 1) (by omega)) (h := ?_) | refine CallP.mk bq_tt (hc := waitsz_at (b := 1) (by omega)) (h := ?_) | refine CallP.mk bq_tt (hc := copyz_at (b := 1) (by omega)) (h := ?_))))); refine RW.nil ⟨conf_of (by kernel_rfl), Pruned.mk (h := ?_)⟩) | refine SW.skip ?_ | refine SW.exit ?_ | refine SW.ret ?_ | refine SW.condT rfl ?_ | refine SW.condF rfl ?_))
    exact ⟨⟨2, by omega⟩, id, by simp, Weak.same (by simp) (by simp [EnvW, List.lookup, SV.ren, SV.ok]) (by simp [Hp.ok, Ob.ok, SV.oks, SV.ok, Vec.cells_ok, zC_ok]) (by simp [lk_cons])⟩
  · (repeat (first | refine SW.seq ?_ | refine SW.block ?_ | (refine SW.regL [0, 1, 3, 4, 5, 6, 7, 8, 10, 16, 65] mixed ?_; (repeat (first | refine RW.ro bq_tt (h := ?_) | refine RW.skip (h := ?_) | refine RW.op bq_tt (h := ?_) | refine RW.opN bq_tt (h := ?_) | refine RW.skip0 (h := ?_) | (refine RW.callC (h := ?_); (first | refine CallP.mk bq_tt (hc := head12_at _) (h := ?_))))); refine RW.nil ⟨conf_of (by kernel_rfl), Pruned.mk (h := ?_)⟩) | refine SW.skip ?_ | refine SW.exit ?_ | refine SW.ret ?_ | refine SW.condT rfl ?_ | refine SW.condF rfl ?_))
    exact End.mk [] (h4 := ⟨rfl, rfl⟩)
end
end Go.Proofs.Ytdnjkeeiopcipaa
