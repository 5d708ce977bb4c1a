/-
  Trackers: the walk of head.
-/
import Derived.Test.YtdnjkeeiopcipaaM12m
set_option linter.unusedSectionVars false
set_option linter.unusedVariables false
set_option linter.unusedSimpArgs false
namespace Go.Proofs.Ytdnjkeeiopcipaa
open Go.Sl Go.Proofs
theorem c0 : SCd Try.prog stable_New.f [.d (.int .i64 2), .d (.int .u8 0)] [] 0 9 (.tup [.ptr 0 0, .d (.int .i64 0)]) hd0.hp := new_at 2 0 (by omega) (by omega) 0
abbrev vb (x : Vec) : Ob := .box 25 x.cells
theorem lkg {T : Tk} {k n : Nat} (h : T.good k) (hn : k ≤ n) : lk T.hp n = none := Tk.lkk h.lt hn
theorem okg {T : Tk} {k n : Nat} (h : T.good k) (hn : k ≤ n) : T.hp.ok (fun m => decide (m < n)) = true := Hp.ok_less hn (Tk.okk h.lt)
theorem n1 : hd1.bx = hd0.bx ∧ hd1.nm = hd0.nm := hd0.hasV_bx _
theorem n4 : hd4.bx = hd3.bx ∧ hd4.nm = hd3.nm := hd3.hasV_bx _
theorem n5 : hd5.bx = hd4.bx ∧ hd5.nm = hd4.nm := hd4.hasV_bx _
theorem subc {T : Tk} {k n : Nat} {o : Ob} (h : T.good k) (hn : k ≤ n) : HSub T.hp ((n, o) :: T.hp) := Tk.hsub1 (h.mono hn).lt
theorem sub_cons {F H : Hp} {n : Nat} {o : Ob} (hn : lk F n = none) (h : HSub F H) : HSub F ((n, o) :: H) := fun m ob hm => by
  rw [lk_cons, if_neg fun e => by rw [e, hn] at hm; cases hm]
  exact h m ob hm
theorem nd_cons {H : Hp} {n : Nat} {o : Ob} (hn : lk H n = none) (h : (H.map (·.1)).Nodup) : (((n, o) :: H).map (·.1)).Nodup := by
  rw [List.map_cons, List.nodup_cons]
  refine ⟨fun hm => ?_, h⟩
  obtain ⟨o', ho⟩ := lk_of_mem hm
  rw [hn] at ho; cases ho
theorem ok_vb {H : Hp} {n kx : Nat} {x : Vec} (h : H.ok (fun m => decide (m < kx)) = true) (hn : n < kx) : Hp.ok (fun m => decide (m < kx)) ((n, vb x) :: H) = true := by
  simp only [Hp.ok, List.all_cons, vbox_ok, Bool.and_true, Bool.and_eq_true, decide_eq_true_eq] at h ⊢
  exact ⟨hn, h⟩
theorem z3 : lk hd3.hp 21 = none := Tk.lko (by rw [b3]; decide) (by decide +kernel)
theorem z4 : lk hd4.hp 21 = none := Tk.lko (by rw [b4]; decide) (by decide +kernel)
theorem z5 : lk hd5.hp 21 = none := Tk.lko (by rw [b5]; decide) (by decide +kernel)
section
attribute [local irreducible] SW RW SCd SC CallP Pruned Tk.hp hd0 hd1 hd2 hd3 hd4 hd5 hd6
set_option maxHeartbeats 4000000 in
theorem head12_ok : Go.Sl.Pure Try.prog law12_head.f [] (bl true) := by
  refine law12_head.enter (by first | rfl | simp [SV.ok, SV.oks]) (by first | rfl | simp [Hp.ok, Ob.ok, SV.ok, SV.oks, Vec.cells_ok]) (by simp) ?_
  unfold law12_head.s
  refine SW.seq ?_
  (refine SW.regL [0, 1, 2, 3, 4, 5, 6, 7, 8, 9, 10, 11, 21] mixed ?_; (repeat (first | refine RW.ro bq_tt (h := ?_) | refine RW.skip (h := ?_) | refine RW.op bq_tt (h := ?_) | refine RW.opN bq_tt (h := ?_) | refine RW.skip0 (h := ?_) | (refine RW.callC (h := ?_); (first | refine CallP.mk bq_tt (hc := c0) (h := ?_))))); refine RW.nil ⟨conf_of (by kernel_rfl), Pruned.mk (h := ?_)⟩)
  obtain ⟨Y, hY⟩ : ∃ Y, hsets [] hd0.hp = Y := ⟨_, rfl⟩
  have sY : HSub hd0.hp Y := by rw [← hY]; exact subX (H := []) (F := []) (HSub.nil _)
  refine SW.seq ?_
  (refine SW.regL [0, 1, 2, 3, 4, 5, 6, 7, 8, 9, 10, 11, 21] mixed ?_; (repeat (first | refine RW.ro (hY) (h := ?_) | refine RW.skip (h := ?_) | refine RW.op (hY) (h := ?_) | refine RW.opN (hY) (h := ?_) | refine RW.skip0 (h := ?_) | (refine RW.callC (h := ?_); (first | refine CallP.mk (hY) (hc := c0) (h := ?_))))); refine RW.nil ⟨conf_of (by kernel_rfl), Pruned.mk (h := ?_)⟩)
  refine SW.weak id (st1 := ⟨[(1, .ptr 0 0), (2, .d (.int .i64 0))], hd0.hp, 9⟩) (Weak.same (by simp) (by simp [EnvW, List.lookup, SV.ren, SV.ok]) (okg g0 (show 9 ≤ 9 by omega)) (fun x hx => sY _ _ (lk_of_nodup (Tk.nodup g0.sep) x hx))) ?_
  refine SW.seq (SW.seq ?_)
  (refine SW.regL [0, 1, 2, 3, 4, 5, 6, 7, 8, 9, 10, 11, 21] mixed ?_; (repeat (first | refine RW.ro bq_tt (h := ?_) | refine RW.skip (h := ?_) | refine RW.op bq_tt (h := ?_) | refine RW.opN bq_tt (h := ?_) | refine RW.skip0 (h := ?_))); refine RW.nil ⟨conf_of (by kernel_rfl), Pruned.mk (h := ?_)⟩)
  refine SW.condF rfl (SW.skip ?_)
  have a1 : hsets (hdels hd0.hp hd1.hp hd0.hp) hd1.hp = hd1.hp := Tk.mrg0 g0.sep n1.1 n1.2
  obtain ⟨X2, h2⟩ : ∃ X, hsets (hdels hd1.hp hd2.hp hd1.hp) hd2.hp = X := ⟨_, rfl⟩
  have s2 : HSub hd2.hp X2 := by rw [← h2]; exact subX fun _ _ h => h
  have a2 : hsets (hdels X2 hd2.hp hd2.hp) hd2.hp = X2 := Tk.selfX g2.sep s2
  have e2 : List.lookup 21 X2 = none := by
    show lk X2 21 = none
    rw [← h2, outX (fun _ _ h => h) (lkg g1 (by omega)) (lkg g2 (by omega))]; exact lkg g1 (by omega)
  refine SW.seq ?_
  (refine SW.regL [0, 1, 2, 3, 4, 5, 6, 7, 8, 9, 10, 11, 21] mixed ?_; (repeat (first | refine RW.ro (And.intro (a1) (And.intro (h2) (And.intro (a2) (e2)))) (h := ?_) | refine RW.skip (h := ?_) | refine RW.op (And.intro (a1) (And.intro (h2) (And.intro (a2) (e2)))) (h := ?_) | refine RW.opN (And.intro (a1) (And.intro (h2) (And.intro (a2) (e2)))) (h := ?_) | refine RW.skip0 (h := ?_) | (refine RW.callC (h := ?_); (first | refine CallP.mk (And.intro (a1) (And.intro (h2) (And.intro (a2) (e2)))) (hc := v_at 2 0 _) (h := ?_) | refine CallP.mk (And.intro (a1) (And.intro (h2) (And.intro (a2) (e2)))) (hc := v_at 1 0 _) (h := ?_) | refine CallP.mk (And.intro (a1) (And.intro (h2) (And.intro (a2) (e2)))) (hs := (fun _ _ h => h)) (hc := c1) (h := ?_) | refine CallP.mk (And.intro (a1) (And.intro (h2) (And.intro (a2) (e2)))) (hs := (fun _ _ h => h)) (hc := c2) (h := ?_) | refine CallP.mk (And.intro (a1) (And.intro (h2) (And.intro (a2) (e2)))) (hs := s2) (hc := c3) (h := ?_))))); refine RW.nil ⟨conf_of (by kernel_rfl), Pruned.mk (h := ?_)⟩)
  refine SW.weak id (st1 := ⟨[(1, .ptr 0 0), (3, .d (.int .i64 0)), (4, .d (.int .i64 0)), (5, .ptr 21 0)], (21, vb (v2 1 0)) :: hd2.hp, 22⟩) (Weak.same (by simp) (by simp [EnvW, List.lookup, SV.ren, SV.ok]) (ok_vb (okg g2 (show 17 ≤ 22 by omega)) (show 21 < 22 by omega)) (fun x hx => ?_)) ?_
  · rcases List.mem_cons.1 hx with rfl | hx
    · simp [lk_cons]
    · have := lk_of_nodup (Tk.nodup g2.sep) x hx
      have hne : x.1 ≠ 21 := fun e => by rw [e, lkg g2 (by omega)] at this; cases this
      rw [lk_cons, if_neg hne]
      exact s2 _ _ this
  have q2 : HSub hd2.hp ((21, vb (v2 1 0)) :: hd2.hp) := subc g2 (by omega)
  obtain ⟨X3, h3⟩ : ∃ X, hsets (hdels ((21, vb (v2 1 0)) :: hd2.hp) hd3.hp hd2.hp) hd3.hp = X := ⟨_, rfl⟩
  have s3 : HSub hd3.hp X3 := by rw [← h3]; exact subX q2
  have a3 : hsets (hdels X3 hd3.hp hd3.hp) hd3.hp = X3 := Tk.selfX g3.sep s3
  have e3 : List.lookup 29 X3 = none := by
    show lk X3 29 = none
    rw [← h3, outX q2 (lkg g2 (by omega)) (lkg g3 (by omega)), lk_cons, if_neg (by omega)]; exact lkg g2 (by omega)
  refine SW.seq ?_
  (refine SW.regL [0, 1, 2, 3, 4, 5, 6, 7, 8, 9, 10, 11, 21] mixed ?_; (repeat (first | refine RW.ro (And.intro (h3) (And.intro (a3) (e3))) (h := ?_) | refine RW.skip (h := ?_) | refine RW.op (And.intro (h3) (And.intro (a3) (e3))) (h := ?_) | refine RW.opN (And.intro (h3) (And.intro (a3) (e3))) (h := ?_) | refine RW.skip0 (h := ?_) | (refine RW.callC (h := ?_); (first | refine CallP.mk (And.intro (h3) (And.intro (a3) (e3))) (hc := v_at 2 1 _) (h := ?_) | refine CallP.mk (And.intro (h3) (And.intro (a3) (e3))) (hs := q2) (hc := c4) (h := ?_) | refine CallP.mk (And.intro (h3) (And.intro (a3) (e3))) (hs := s3) (hc := c5) (h := ?_) | refine CallP.mk (And.intro (h3) (And.intro (a3) (e3))) (hs := s3) (hc := c6) (h := ?_))))); refine RW.nil ⟨conf_of (by kernel_rfl), Pruned.mk (h := ?_)⟩)
  refine SW.weak id (st1 := ⟨[(1, .ptr 0 0), (3, .d (.int .i64 0)), (4, .d (.int .i64 0)), (5, .ptr 21 0), (6, .d (.int .i64 0)), (7, .ptr 29 0), (8, .d (.int .i64 1))], (29, vb (v2 1 0)) :: (21, vb (v2 1 0)) :: hd3.hp, 30⟩) (Weak.same (by simp) (by simp [EnvW, List.lookup, SV.ren, SV.ok]) (ok_vb (ok_vb (okg g3 (show 25 ≤ 30 by omega)) (show 21 < 30 by omega)) (show 29 < 30 by omega)) (fun x hx => ?_)) ?_
  · rcases List.mem_cons.1 hx with rfl | hx
    · simp [lk_cons]
    rcases List.mem_cons.1 hx with rfl | hx
    · show lk ((29, vb (v2 1 0)) :: X3) 21 = some (vb (v2 1 0))
      rw [lk_cons, if_neg (by omega), ← h3, outX q2 (lkg g2 (by omega)) z3, lk_cons, if_pos rfl]
    · have := lk_of_nodup (Tk.nodup g3.sep) x hx
      have hne : x.1 ≠ 29 := fun e => by rw [e, lkg g3 (by omega)] at this; cases this
      rw [lk_cons, if_neg hne]
      exact s3 _ _ this
  have q3 : HSub hd3.hp ((29, vb (v2 1 0)) :: (21, vb (v2 1 0)) :: hd3.hp) := sub_cons (lkg g3 (by omega)) (sub_cons z3 fun _ _ h => h)
  have q4 : HSub hd4.hp ((29, vb (v2 1 0)) :: (21, vb (v2 1 0)) :: hd4.hp) := sub_cons (lkg g4 (by omega)) (sub_cons z4 fun _ _ h => h)
  have a4 : hsets (hdels ((29, vb (v2 1 0)) :: (21, vb (v2 1 0)) :: hd3.hp) hd4.hp hd3.hp) hd4.hp = (29, vb (v2 1 0)) :: (21, vb (v2 1 0)) :: hd4.hp :=
    mrg_tail (pre := [(29, vb (v2 1 0)), (21, vb (v2 1 0))]) (Tk.hp_same n4.1 n4.2) (nd_cons (by show lk ((21, vb (v2 1 0)) :: hd3.hp) 29 = none; rw [lk_cons, if_neg (by omega)]; exact lkg g3 (by omega)) (nd_cons z3 (Tk.nodup g3.sep)))
  have a5 : hsets (hdels ((29, vb (v2 1 0)) :: (21, vb (v2 1 0)) :: hd4.hp) hd4.hp hd4.hp) hd4.hp = (29, vb (v2 1 0)) :: (21, vb (v2 1 0)) :: hd4.hp := Tk.selfX g4.sep q4
  have e4 : List.lookup 36 hd4.hp = none := lkg g4 (by omega)
  refine SW.seq ?_
  (refine SW.regL [0, 1, 2, 3, 4, 5, 6, 7, 8, 9, 10, 11, 21] mixed ?_; (repeat (first | refine RW.ro (And.intro (a4) (And.intro (a5) (e4))) (h := ?_) | refine RW.skip (h := ?_) | refine RW.op (And.intro (a4) (And.intro (a5) (e4))) (h := ?_) | refine RW.opN (And.intro (a4) (And.intro (a5) (e4))) (h := ?_) | refine RW.skip0 (h := ?_) | (refine RW.callC (h := ?_); (first | refine CallP.mk (And.intro (a4) (And.intro (a5) (e4))) (hc := v_at 2 1 _) (h := ?_) | refine CallP.mk (And.intro (a4) (And.intro (a5) (e4))) (hs := q3) (hc := c7) (h := ?_) | refine CallP.mk (And.intro (a4) (And.intro (a5) (e4))) (hs := q4) (hc := c8) (h := ?_) | refine CallP.mk (And.intro (a4) (And.intro (a5) (e4))) (hs := q4) (hc := c9) (h := ?_))))); refine RW.nil ⟨conf_of (by kernel_rfl), Pruned.mk (h := ?_)⟩)
  have q5 : HSub hd4.hp ((36, vb (v2 2 1)) :: (29, vb (v2 1 0)) :: (21, vb (v2 1 0)) :: hd4.hp) := sub_cons (lkg g4 (by omega)) q4
  have a6 : hsets (hdels ((36, vb (v2 2 1)) :: (29, vb (v2 1 0)) :: (21, vb (v2 1 0)) :: hd4.hp) hd5.hp hd4.hp) hd5.hp = (36, vb (v2 2 1)) :: (29, vb (v2 1 0)) :: (21, vb (v2 1 0)) :: hd5.hp :=
    mrg_tail (pre := [(36, vb (v2 2 1)), (29, vb (v2 1 0)), (21, vb (v2 1 0))]) (Tk.hp_same n5.1 n5.2) (nd_cons (by show lk ((29, vb (v2 1 0)) :: (21, vb (v2 1 0)) :: hd4.hp) 36 = none; rw [lk_cons, if_neg (by omega), lk_cons, if_neg (by omega)]; exact lkg g4 (by omega)) (nd_cons (by show lk ((21, vb (v2 1 0)) :: hd4.hp) 29 = none; rw [lk_cons, if_neg (by omega)]; exact lkg g4 (by omega)) (nd_cons z4 (Tk.nodup g4.sep))))
  have q6 : HSub hd5.hp ((36, vb (v2 2 1)) :: (29, vb (v2 1 0)) :: (21, vb (v2 1 0)) :: hd5.hp) := sub_cons (lkg g5 (by omega)) (sub_cons (lkg g5 (by omega)) (sub_cons z5 fun _ _ h => h))
  obtain ⟨X6, h6⟩ : ∃ X, hsets (hdels ((36, vb (v2 2 1)) :: (29, vb (v2 1 0)) :: (21, vb (v2 1 0)) :: hd5.hp) hd6.hp hd5.hp) hd6.hp = X := ⟨_, rfl⟩
  have s6 : HSub hd6.hp X6 := by rw [← h6]; exact subX q6
  obtain ⟨X7, h7⟩ : ∃ X, hsets (hdels X6 (hd6.hearV 0 (v2 9 0) 50).1.hp hd6.hp) (hd6.hearV 0 (v2 9 0) 50).1.hp = X := ⟨_, rfl⟩
  refine SW.seq ?_
  (refine SW.regL [0, 1, 2, 3, 4, 5, 6, 7, 8, 9, 10, 11, 21] mixed ?_; (repeat (first | refine RW.ro (And.intro (a6) (And.intro (h6) (h7))) (h := ?_) | refine RW.skip (h := ?_) | refine RW.op (And.intro (a6) (And.intro (h6) (h7))) (h := ?_) | refine RW.opN (And.intro (a6) (And.intro (h6) (h7))) (h := ?_) | refine RW.skip0 (h := ?_) | (refine RW.callC (h := ?_); (first | refine CallP.mk (And.intro (a6) (And.intro (h6) (h7))) (hc := v_at 1 0 _) (h := ?_) | refine CallP.mk (And.intro (a6) (And.intro (h6) (h7))) (hc := v_at 2 1 _) (h := ?_) | refine CallP.mk (And.intro (a6) (And.intro (h6) (h7))) (hc := v_at 1 1 _) (h := ?_) | refine CallP.mk (And.intro (a6) (And.intro (h6) (h7))) (hc := v_at 0 0 _) (h := ?_) | refine CallP.mk (And.intro (a6) (And.intro (h6) (h7))) (hc := v_at 9 0 _) (h := ?_) | refine CallP.mk (And.intro (a6) (And.intro (h6) (h7))) (hs := q5) (hc := c10) (h := ?_) | refine CallP.mk (And.intro (a6) (And.intro (h6) (h7))) (hs := q6) (hc := c11) (h := ?_) | refine CallP.mk (And.intro (a6) (And.intro (h6) (h7))) (hs := s6) (hc := c12) (h := ?_))))); refine RW.nil ⟨conf_of (by kernel_rfl), Pruned.mk (h := ?_)⟩)
  refine SW.ret ?_
  exact End.mk [] (h4 := ⟨rfl, rfl⟩)
end
end Go.Proofs.Ytdnjkeeiopcipaa
