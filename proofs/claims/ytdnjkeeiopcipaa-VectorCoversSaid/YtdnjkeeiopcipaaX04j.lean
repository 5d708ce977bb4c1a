/-
  The laws of vectors answer true.
-/
import Derived.Test.YtdnjkeeiopcipaaX04i
import Derived.Test.YtdnjkeeiopcipaaLawV
set_option linter.unusedSectionVars false
set_option linter.unusedVariables false
set_option linter.unusedSimpArgs false
namespace Go.Proofs.Ytdnjkeeiopcipaa
open Go.Sl Go.Proofs
attribute [local irreducible] SW RW SCd SC CallP Pruned

theorem all_merge_at (l : List Vec) (hl : l.length < 1000000000) (k : Nat) : SCd Try.prog vector_Merge.f [vecs l] [] k 0 (.agg (Vec.all max l).cells) [] := (merge_ok l hl).sc rfl k
theorem all_meet_at (l : List Vec) (hl : l.length < 1000000000) (k : Nat) : SCd Try.prog vector_Meet.f [vecs l] [] k 0 (.agg (Vec.all min l).cells) [] := (meet_ok l hl).sc rfl k
theorem merge3_at (a b c : Vec) (k : Nat) : SCd Try.prog vector_Merge.f [.d (.sl 3 (a.ds ++ (b.ds ++ c.ds)))] [] k 0 (.agg (Vec.zip max (Vec.zip max a b) c).cells) [] := (merge_ok [a, b, c] (by simp)).sc rfl k
theorem meet3_at (a b c : Vec) (k : Nat) : SCd Try.prog vector_Meet.f [.d (.sl 3 (a.ds ++ (b.ds ++ c.ds)))] [] k 0 (.agg (Vec.zip min (Vec.zip min a b) c).cells) [] := (meet_ok [a, b, c] (by simp)).sc rfl k

theorem bne_t {n : Nat} (h : n ≠ 0) : (((n : Nat) : Int) != 0) = true := by simp; omega
theorem bne_f : ((((0 : Nat)) : Int) != 0) = false := rfl
theorem dt_ne {a b : Dt} (h : a ≠ b) : decide (a = b) = false := by simp [h]
theorem dt_eq {a b : Dt} (h : a = b) : decide (a = b) = true := by simp [h]

set_option maxRecDepth 100000 in
set_option maxHeartbeats 4000000 in
theorem law_covers (a b : Vec) (d : Dt) (ha : a.wf) (hb : b.wf) (hd : d.wf) : Go.Sl.Pure Try.prog law04_VectorCovers.f [.agg a.cells, .agg b.cells, .agg d.cells] (bl true) := by
  refine law04_VectorCovers.enter (by first | rfl | simp [SV.ok, SV.oks]) (by first | rfl | simp [Hp.ok, Ob.ok, SV.ok, SV.oks, Vec.cells_ok]) (by simp) ?_
  unfold law04_VectorCovers.s
  have hdr : d.r < 256 := hd.1
  have h1 := Vec.covers_merge a b d
  have h2 := Vec.covers_meet a b d
  have h3 := fun h : a.above b = true => Vec.covers_above h d
  have hnx := next_at a ha d.r hdr
  have hput := fun k : Nat => head_at k
  have hpw := ha
  refine SW.seq ?_
  (refine SW.regL [0, 1, 2, 3, 4, 5, 6, 7, 8, 9, 10, 11, 12, 54, 63] mixed ?_; (repeat (first | refine RW.ro bq_tt (h := ?_) | refine RW.skip (h := ?_) | refine RW.op bq_tt (h := ?_) | refine RW.opN bq_tt (h := ?_) | refine RW.skip0 (h := ?_) | (refine RW.callC (h := ?_); (first | refine CallP.mk bq_tt (hc := head_at _) (h := ?_) | refine CallP.mk bq_tt (hc := covers_at _ _ _) (h := ?_) | refine CallP.mk bq_tt (hc := merge2_at _ _ _) (h := ?_) | refine CallP.mk bq_tt (hc := meet2_at _ _ _) (h := ?_) | refine CallP.mk bq_tt (hc := above_at _ _ _) (h := ?_) | refine CallP.mk bq_tt (hc := hnx _) (h := ?_) | refine CallP.mk bq_tt (hc := hput _) (h := ?_) | refine CallP.mk bq_tt (hc := count_at _ (by first | assumption | omega) _) (h := ?_) | refine CallP.mk bq_tt (hc := count_at _ hpw _) (h := ?_))))); refine RW.nil ⟨by kernel_rfl, Pruned.mk (h := ?_)⟩)
  refine SW.seq ?_
  (refine SW.regL [0, 1, 2, 3, 4, 5, 6, 7, 8, 9, 10, 11, 12, 54, 63] mixed ?_; (repeat (first | refine RW.ro bq_tt (h := ?_) | refine RW.skip (h := ?_) | refine RW.op bq_tt (h := ?_) | refine RW.opN bq_tt (h := ?_) | refine RW.skip0 (h := ?_) | (refine RW.callC (h := ?_); (first | refine CallP.mk bq_tt (hc := head_at _) (h := ?_) | refine CallP.mk bq_tt (hc := covers_at _ _ _) (h := ?_) | refine CallP.mk bq_tt (hc := merge2_at _ _ _) (h := ?_) | refine CallP.mk bq_tt (hc := meet2_at _ _ _) (h := ?_) | refine CallP.mk bq_tt (hc := above_at _ _ _) (h := ?_) | refine CallP.mk bq_tt (hc := hnx _) (h := ?_) | refine CallP.mk bq_tt (hc := hput _) (h := ?_) | refine CallP.mk bq_tt (hc := count_at _ (by first | assumption | omega) _) (h := ?_) | refine CallP.mk bq_tt (hc := count_at _ hpw _) (h := ?_))))); refine RW.nil ⟨by kernel_rfl, Pruned.mk (h := ?_)⟩)
  refine SW.cut ⟨[(3, .ptr 0 0), (4, .ptr 1 0), (5, .ptr 2 0), (7, bl (a.covers d))], [(0, .box 25 a.cells), (1, .box 25 b.cells), (2, .box 44 d.cells)], 3⟩ id ?_ ?_
  · rcases hx : a.covers d <;> rcases hy : b.covers d <;> rcases hab : a.above b
    all_goals first
      | (simp [hx, hy, hab] at h3; done)
      | skip
    all_goals
      rw [hx, hy] at h1 h2
      (repeat (first | refine SW.seq ?_ | refine SW.block ?_ | (refine SW.regL [0, 1, 2, 3, 4, 5, 6, 7, 8, 9, 10, 11, 12, 54, 63] mixed ?_; (repeat (first | refine RW.ro (And.intro (hx) (And.intro (hy) (And.intro (hab) (And.intro (h1) (And.intro (h2) (And.intro (Bool.or_false) (And.intro (Bool.or_true) (Bool.and_false)))))))) (h := ?_) | refine RW.skip (h := ?_) | refine RW.op (And.intro (hx) (And.intro (hy) (And.intro (hab) (And.intro (h1) (And.intro (h2) (And.intro (Bool.or_false) (And.intro (Bool.or_true) (Bool.and_false)))))))) (h := ?_) | refine RW.opN (And.intro (hx) (And.intro (hy) (And.intro (hab) (And.intro (h1) (And.intro (h2) (And.intro (Bool.or_false) (And.intro (Bool.or_true) (Bool.and_false)))))))) (h := ?_) | refine RW.skip0 (h := ?_) | (refine RW.callC (h := ?_); (first | refine CallP.mk (And.intro (hx) (And.intro (hy) (And.intro (hab) (And.intro (h1) (And.intro (h2) (And.intro (Bool.or_false) (And.intro (Bool.or_true) (Bool.and_false)))))))) (hc := head_at _) (h := ?_) | refine CallP.mk (And.intro (hx) (And.intro (hy) (And.intro (hab) (And.intro (h1) (And.intro (h2) (And.intro (Bool.or_false) (And.intro (Bool.or_true) (Bool.and_false)))))))) (hc := covers_at _ _ _) (h := ?_) | refine CallP.mk (And.intro (hx) (And.intro (hy) (And.intro (hab) (And.intro (h1) (And.intro (h2) (And.intro (Bool.or_false) (And.intro (Bool.or_true) (Bool.and_false)))))))) (hc := merge2_at _ _ _) (h := ?_) | refine CallP.mk (And.intro (hx) (And.intro (hy) (And.intro (hab) (And.intro (h1) (And.intro (h2) (And.intro (Bool.or_false) (And.intro (Bool.or_true) (Bool.and_false)))))))) (hc := meet2_at _ _ _) (h := ?_) | refine CallP.mk (And.intro (hx) (And.intro (hy) (And.intro (hab) (And.intro (h1) (And.intro (h2) (And.intro (Bool.or_false) (And.intro (Bool.or_true) (Bool.and_false)))))))) (hc := above_at _ _ _) (h := ?_) | refine CallP.mk (And.intro (hx) (And.intro (hy) (And.intro (hab) (And.intro (h1) (And.intro (h2) (And.intro (Bool.or_false) (And.intro (Bool.or_true) (Bool.and_false)))))))) (hc := hnx _) (h := ?_) | refine CallP.mk (And.intro (hx) (And.intro (hy) (And.intro (hab) (And.intro (h1) (And.intro (h2) (And.intro (Bool.or_false) (And.intro (Bool.or_true) (Bool.and_false)))))))) (hc := hput _) (h := ?_) | refine CallP.mk (And.intro (hx) (And.intro (hy) (And.intro (hab) (And.intro (h1) (And.intro (h2) (And.intro (Bool.or_false) (And.intro (Bool.or_true) (Bool.and_false)))))))) (hc := count_at _ (by first | assumption | omega) _) (h := ?_) | refine CallP.mk (And.intro (hx) (And.intro (hy) (And.intro (hab) (And.intro (h1) (And.intro (h2) (And.intro (Bool.or_false) (And.intro (Bool.or_true) (Bool.and_false)))))))) (hc := count_at _ hpw _) (h := ?_))))); refine RW.nil ⟨by kernel_rfl, Pruned.mk (h := ?_)⟩) | refine SW.skip ?_ | refine SW.exit ?_ | refine SW.ret ?_ | refine SW.condT rfl ?_ | refine SW.condF rfl ?_))
      exact Weak.mk hx
  by_cases hn0 : (a.next d.r).2 = 0
  · obtain ⟨r8, hne, e1⟩ := Vec.next_ok hn0
    rw [hn0, e1] at hnx
    have hg := ha d.r r8
    have hdw : (Dt.mk d.r (a.get d.r + 1)).wf := ⟨hdr, by show a.get d.r + 1 < 4294967296; omega⟩
    clear hput hpw
    have hput := put_at a ha ⟨d.r, a.get d.r + 1⟩ hdw
    rw [Vec.put_next r8] at hput
    have c1 := Vec.covers_not_next (v := a) r8
    have c2 := Vec.covers_put_next (v := a) r8
    have c3 := Vec.count_put a r8
    have c4 := Vec.above_put a r8
    have c5 := Vec.covers_put (v := a) r8 d
    have c6 := Vec.count_lt a ha
    have hpw : (a.set d.r (a.get d.r + 1)).wf := Vec.set_wf ha hdw.2
    by_cases hq : d = ⟨d.r, a.get d.r + 1⟩
    · have hq' := dt_eq hq
      rw [hq'] at c5
      (repeat (first | refine SW.seq ?_ | refine SW.block ?_ | (refine SW.regL [0, 1, 2, 3, 4, 5, 6, 7, 8, 9, 10, 11, 12, 54, 63] mixed ?_; (repeat (first | refine RW.ro (And.intro (c1) (And.intro (c2) (And.intro (c3) (And.intro (c4) (And.intro (c5) (And.intro (hq') (And.intro (Bool.or_false) (And.intro (Bool.or_true) (Bool.and_false))))))))) (h := ?_) | refine RW.skip (h := ?_) | refine RW.op (And.intro (c1) (And.intro (c2) (And.intro (c3) (And.intro (c4) (And.intro (c5) (And.intro (hq') (And.intro (Bool.or_false) (And.intro (Bool.or_true) (Bool.and_false))))))))) (h := ?_) | refine RW.opN (And.intro (c1) (And.intro (c2) (And.intro (c3) (And.intro (c4) (And.intro (c5) (And.intro (hq') (And.intro (Bool.or_false) (And.intro (Bool.or_true) (Bool.and_false))))))))) (h := ?_) | refine RW.skip0 (h := ?_) | (refine RW.callC (h := ?_); (first | refine CallP.mk (And.intro (c1) (And.intro (c2) (And.intro (c3) (And.intro (c4) (And.intro (c5) (And.intro (hq') (And.intro (Bool.or_false) (And.intro (Bool.or_true) (Bool.and_false))))))))) (hc := head_at _) (h := ?_) | refine CallP.mk (And.intro (c1) (And.intro (c2) (And.intro (c3) (And.intro (c4) (And.intro (c5) (And.intro (hq') (And.intro (Bool.or_false) (And.intro (Bool.or_true) (Bool.and_false))))))))) (hc := covers_at _ _ _) (h := ?_) | refine CallP.mk (And.intro (c1) (And.intro (c2) (And.intro (c3) (And.intro (c4) (And.intro (c5) (And.intro (hq') (And.intro (Bool.or_false) (And.intro (Bool.or_true) (Bool.and_false))))))))) (hc := merge2_at _ _ _) (h := ?_) | refine CallP.mk (And.intro (c1) (And.intro (c2) (And.intro (c3) (And.intro (c4) (And.intro (c5) (And.intro (hq') (And.intro (Bool.or_false) (And.intro (Bool.or_true) (Bool.and_false))))))))) (hc := meet2_at _ _ _) (h := ?_) | refine CallP.mk (And.intro (c1) (And.intro (c2) (And.intro (c3) (And.intro (c4) (And.intro (c5) (And.intro (hq') (And.intro (Bool.or_false) (And.intro (Bool.or_true) (Bool.and_false))))))))) (hc := above_at _ _ _) (h := ?_) | refine CallP.mk (And.intro (c1) (And.intro (c2) (And.intro (c3) (And.intro (c4) (And.intro (c5) (And.intro (hq') (And.intro (Bool.or_false) (And.intro (Bool.or_true) (Bool.and_false))))))))) (hc := hnx _) (h := ?_) | refine CallP.mk (And.intro (c1) (And.intro (c2) (And.intro (c3) (And.intro (c4) (And.intro (c5) (And.intro (hq') (And.intro (Bool.or_false) (And.intro (Bool.or_true) (Bool.and_false))))))))) (hc := hput _) (h := ?_) | refine CallP.mk (And.intro (c1) (And.intro (c2) (And.intro (c3) (And.intro (c4) (And.intro (c5) (And.intro (hq') (And.intro (Bool.or_false) (And.intro (Bool.or_true) (Bool.and_false))))))))) (hc := count_at _ (by first | assumption | omega) _) (h := ?_) | refine CallP.mk (And.intro (c1) (And.intro (c2) (And.intro (c3) (And.intro (c4) (And.intro (c5) (And.intro (hq') (And.intro (Bool.or_false) (And.intro (Bool.or_true) (Bool.and_false))))))))) (hc := count_at _ hpw _) (h := ?_))))); refine RW.nil ⟨by kernel_rfl, Pruned.mk (h := ?_)⟩) | refine SW.skip ?_ | refine SW.exit ?_ | refine SW.ret ?_ | refine SW.condT rfl ?_ | refine SW.condF rfl ?_))
      exact End.mk [] (h4 := ⟨rfl, rfl⟩)
    · have hq' := dt_ne hq
      rw [hq'] at c5
      rcases hx : a.covers d
      all_goals
        rw [hx] at c5
        (repeat (first | refine SW.seq ?_ | refine SW.block ?_ | (refine SW.regL [0, 1, 2, 3, 4, 5, 6, 7, 8, 9, 10, 11, 12, 54, 63] mixed ?_; (repeat (first | refine RW.ro (And.intro (hx) (And.intro (c1) (And.intro (c2) (And.intro (c3) (And.intro (c4) (And.intro (c5) (And.intro (hq') (And.intro (Bool.or_false) (And.intro (Bool.or_true) (Bool.and_false)))))))))) (h := ?_) | refine RW.skip (h := ?_) | refine RW.op (And.intro (hx) (And.intro (c1) (And.intro (c2) (And.intro (c3) (And.intro (c4) (And.intro (c5) (And.intro (hq') (And.intro (Bool.or_false) (And.intro (Bool.or_true) (Bool.and_false)))))))))) (h := ?_) | refine RW.opN (And.intro (hx) (And.intro (c1) (And.intro (c2) (And.intro (c3) (And.intro (c4) (And.intro (c5) (And.intro (hq') (And.intro (Bool.or_false) (And.intro (Bool.or_true) (Bool.and_false)))))))))) (h := ?_) | refine RW.skip0 (h := ?_) | (refine RW.callC (h := ?_); (first | refine CallP.mk (And.intro (hx) (And.intro (c1) (And.intro (c2) (And.intro (c3) (And.intro (c4) (And.intro (c5) (And.intro (hq') (And.intro (Bool.or_false) (And.intro (Bool.or_true) (Bool.and_false)))))))))) (hc := head_at _) (h := ?_) | refine CallP.mk (And.intro (hx) (And.intro (c1) (And.intro (c2) (And.intro (c3) (And.intro (c4) (And.intro (c5) (And.intro (hq') (And.intro (Bool.or_false) (And.intro (Bool.or_true) (Bool.and_false)))))))))) (hc := covers_at _ _ _) (h := ?_) | refine CallP.mk (And.intro (hx) (And.intro (c1) (And.intro (c2) (And.intro (c3) (And.intro (c4) (And.intro (c5) (And.intro (hq') (And.intro (Bool.or_false) (And.intro (Bool.or_true) (Bool.and_false)))))))))) (hc := merge2_at _ _ _) (h := ?_) | refine CallP.mk (And.intro (hx) (And.intro (c1) (And.intro (c2) (And.intro (c3) (And.intro (c4) (And.intro (c5) (And.intro (hq') (And.intro (Bool.or_false) (And.intro (Bool.or_true) (Bool.and_false)))))))))) (hc := meet2_at _ _ _) (h := ?_) | refine CallP.mk (And.intro (hx) (And.intro (c1) (And.intro (c2) (And.intro (c3) (And.intro (c4) (And.intro (c5) (And.intro (hq') (And.intro (Bool.or_false) (And.intro (Bool.or_true) (Bool.and_false)))))))))) (hc := above_at _ _ _) (h := ?_) | refine CallP.mk (And.intro (hx) (And.intro (c1) (And.intro (c2) (And.intro (c3) (And.intro (c4) (And.intro (c5) (And.intro (hq') (And.intro (Bool.or_false) (And.intro (Bool.or_true) (Bool.and_false)))))))))) (hc := hnx _) (h := ?_) | refine CallP.mk (And.intro (hx) (And.intro (c1) (And.intro (c2) (And.intro (c3) (And.intro (c4) (And.intro (c5) (And.intro (hq') (And.intro (Bool.or_false) (And.intro (Bool.or_true) (Bool.and_false)))))))))) (hc := hput _) (h := ?_) | refine CallP.mk (And.intro (hx) (And.intro (c1) (And.intro (c2) (And.intro (c3) (And.intro (c4) (And.intro (c5) (And.intro (hq') (And.intro (Bool.or_false) (And.intro (Bool.or_true) (Bool.and_false)))))))))) (hc := count_at _ (by first | assumption | omega) _) (h := ?_) | refine CallP.mk (And.intro (hx) (And.intro (c1) (And.intro (c2) (And.intro (c3) (And.intro (c4) (And.intro (c5) (And.intro (hq') (And.intro (Bool.or_false) (And.intro (Bool.or_true) (Bool.and_false)))))))))) (hc := count_at _ hpw _) (h := ?_))))); refine RW.nil ⟨by kernel_rfl, Pruned.mk (h := ?_)⟩) | refine SW.skip ?_ | refine SW.exit ?_ | refine SW.ret ?_ | refine SW.condT rfl ?_ | refine SW.condF rfl ?_))
        exact End.mk [] (h4 := ⟨rfl, rfl⟩)
  · have hne := bne_t hn0
    (repeat (first | refine SW.seq ?_ | refine SW.block ?_ | (refine SW.regL [0, 1, 2, 3, 4, 5, 6, 7, 8, 9, 10, 11, 12, 54, 63] mixed ?_; (repeat (first | refine RW.ro (hne) (h := ?_) | refine RW.skip (h := ?_) | refine RW.op (hne) (h := ?_) | refine RW.opN (hne) (h := ?_) | refine RW.skip0 (h := ?_) | (refine RW.callC (h := ?_); (first | refine CallP.mk (hne) (hc := head_at _) (h := ?_) | refine CallP.mk (hne) (hc := covers_at _ _ _) (h := ?_) | refine CallP.mk (hne) (hc := merge2_at _ _ _) (h := ?_) | refine CallP.mk (hne) (hc := meet2_at _ _ _) (h := ?_) | refine CallP.mk (hne) (hc := above_at _ _ _) (h := ?_) | refine CallP.mk (hne) (hc := hnx _) (h := ?_) | refine CallP.mk (hne) (hc := hput _) (h := ?_) | refine CallP.mk (hne) (hc := count_at _ (by first | assumption | omega) _) (h := ?_) | refine CallP.mk (hne) (hc := count_at _ hpw _) (h := ?_))))); refine RW.nil ⟨by kernel_rfl, Pruned.mk (h := ?_)⟩) | refine SW.skip ?_ | refine SW.exit ?_ | refine SW.ret ?_ | refine SW.condT rfl ?_ | refine SW.condF rfl ?_))
    exact End.mk [] (h4 := ⟨rfl, rfl⟩)
end Go.Proofs.Ytdnjkeeiopcipaa
