/-
  Trackers: the walk of head.
-/
import Derived.Test.YtdnjkeeiopcipaaQ3
set_option linter.unusedSectionVars false
set_option linter.unusedVariables false
set_option linter.unusedSimpArgs false
namespace Go.Proofs.Ytdnjkeeiopcipaa
open Go.Sl Go.Proofs
theorem c0 : SCd Try.prog stable_New.f [.d (.int .i64 2), .d (.int .u8 0)] [] 0 9 (.tup [.ptr 0 0, .d (.int .i64 0)]) hd0.hp := new_at 2 0 (by omega) (by omega) 0
abbrev vb (x : Vec) : Ob := .box 25 x.cells
theorem lkg {T : Tk} {k n : Nat} (h : T.good k) (hn : k ≤ n) : lk T.hp n = none := Tk.lkk h.lt hn
theorem okg {T : Tk} {k n : Nat} (h : T.good k) (hn : k ≤ n) : T.hp.ok (fun m => decide (m < n)) = true := Hp.ok_less hn (Tk.okk h.lt)
theorem n1 : hd1.bx = hd0.bx ∧ hd1.nm = hd0.nm := hd0.hasV_bx _
theorem n4 : hd4.bx = hd3.bx ∧ hd4.nm = hd3.nm := hd3.hasV_bx _
theorem n5 : hd5.bx = hd4.bx ∧ hd5.nm = hd4.nm := hd4.hasV_bx _
theorem subc {T : Tk} {k n : Nat} {o : Ob} (h : T.good k) (hn : k ≤ n) : HSub T.hp ((n, o) :: T.hp) := Tk.hsub1 (h.mono hn).lt
theorem sub_cons {F H : Hp} {n : Nat} {o : Ob} (hn : lk F n = none) (h : HSub F H) : HSub F ((n, o) :: H) := fun m ob hm => by
  rw [lk_cons, if_neg fun e => by rw [e, hn] at hm; cases hm]
  exact h m ob hm
theorem nd_cons {H : Hp} {n : Nat} {o : Ob} (hn : lk H n = none) (h : (H.map (·.1)).Nodup) : (((n, o) :: H).map (·.1)).Nodup := by
  rw [List.map_cons, List.nodup_cons]
  refine ⟨fun hm => ?_, h⟩
  obtain ⟨o', ho⟩ := lk_of_mem hm
  rw [hn] at ho; cases ho
theorem ok_vb {H : Hp} {n kx : Nat} {x : Vec} (h : H.ok (fun m => decide (m < kx)) = true) (hn : n < kx) : Hp.ok (fun m => decide (m < kx)) ((n, vb x) :: H) = true := by
  simp only [Hp.ok, List.all_cons, vbox_ok, Bool.and_true, Bool.and_eq_true, decide_eq_true_eq] at h ⊢
  exact ⟨hn, h⟩
theorem z3 : lk hd3.hp 21 = none := Tk.lko (by rw [b3]; decide) (by decide +kernel)
theorem z4 : lk hd4.hp 21 = none := Tk.lko (by rw [b4]; decide) (by decide +kernel)
theorem z5 : lk hd5.hp 21 = none := Tk.lko (by rw [b5]; decide) (by decide +kernel)
section
attribute [local irreducible] SW RW SCd SC CallP Pruned Tk.hp hd0 hd1 hd2 hd3 hd4 hd5 hd6
set_option maxHeartbeats 4000000 in
theorem head12_ok : Go.Sl.Pure Try.prog law12_head.f [] (bl true) := by
  refine law12_head.enter (by first | rfl | simp [SV.ok, SV.oks]) (by first | rfl | simp [Hp.ok, Ob.ok, SV.ok, SV.oks, Vec.cells_ok]) (by simp) ?_
  unfold law12_head.s
  refine SW.seq ?_
  (refine SW.regL [0, 1, 2, 3, 4, 5, 6, 7, 8, 9, 10, 11, 21] mixed ?_; (repeat (first | refine RW.ro bq_tt (h := ?_) | refine RW.skip (h := ?_) | refine RW.op bq_tt (h := ?_) | refine RW.opN bq_tt (h := ?_) | refine RW.skip0 (h := ?_) | (refine RW.callC (h := ?_); (first | refine CallP.mk bq_tt (hc := c0) (h := ?_))))); refine RW.nil ⟨conf_of (by kernel_rfl), Pruned.mk (h := ?_)⟩)
  obtain ⟨Y, hY⟩ : ∃ Y, hsets [] hd0.hp = Y := ⟨_, rfl⟩
  have sY : HSub hd0.hp Y := by rw [← hY]; exact subX (H := []) (F := []) (HSub.nil _)
  refine SW.seq ?_
  (refine SW.regL [0, 1, 2, 3, 4, 5, 6, 7, 8, 9, 10, 11, 21] mixed ?_; (repeat (first | refine RW.ro (hY) (h := ?_) | refine RW.skip (h := ?_) | refine RW.op (hY) (h := ?_) | refine RW.opN (hY) (h := ?_) | refine RW.skip0 (h := ?_) | (refine RW.callC (h := ?_); (first | refine CallP.mk (hY) (hc := c0) (h := ?_))))); refine RW.nil ⟨conf_of (by kernel_rfl), Pruned.mk (h := ?_)⟩)
  refine SW.weak id (st1 := ⟨[(1, .ptr 0 0), (2, .d (.int .i64 0))], hd0.hp, 9⟩) (Weak.same (by simp) (by simp [EnvW, List.lookup, SV.ren, SV.ok]) (okg g0 (show 9 ≤ 9 by omega)) (fun x hx => sY _ _ (lk_of_nodup (Tk.nodup g0.sep) x hx))) ?_
  refine SW.seq (SW.seq ?_)
  (refine SW.regL [0, 1, 2, 3, 4, 5, 6, 7, 8, 9, 10, 11, 21] mixed ?_; (repeat (first | refine RW.ro bq_tt (h := ?_) | refine RW.skip (h := ?_) | refine RW.op bq_tt (h := ?_) | refine RW.opN bq_tt (h := ?_) | refine RW.skip0 (h := ?_))); refine RW.nil ⟨conf_of (by kernel_rfl), Pruned.mk (h := ?_)⟩)
  refine SW.condF rfl (SW.skip ?_)
  have a1 : hsets (hdels hd0.hp hd1.hp hd0.hp) hd1.hp = hd1.hp := Tk.mrg0 g0.sep n1.1 n1.2
  obtain ⟨X2, h2⟩ : ∃ X, hsets (hdels hd1.hp hd2.hp hd1.hp) hd2.hp = X := ⟨_, rfl⟩
  have s2 : HSub hd2.hp X2 := by rw [← h2]; exact subX fun _ _ h => h
  have a2 : hsets (hdels X2 hd2.hp hd2.hp) hd2.hp = X2 := Tk.selfX g2.sep s2
  have e2 : List.lookup 21 X2 = none := by
    show lk X2 21 = none
    rw [← h2, outX (fun _ _ h => h) (lkg g1 (by omega)) (lkg g2 (by omega))]; exact lkg g1 (by omega)
  refine SW.seq ?_
  (refine SW.regL [0, 1, 2, 3, 4, 5, 6, 7, 8, 9, 10, 11, 21] mixed ?_; (repeat (first | refine RW.ro (And.intro (a1) (And.intro (h2) (And.intro (a2) (e2)))) (h := ?_) | refine RW.skip (h := ?_) | refine RW.op (And.intro (a1) (And.intro (h2) (And.intro (a2) (e2)))) (h := ?_) | refine RW.opN (And.intro (a1) (And.intro (h2) (And.intro (a2) (e2)))) (h := ?_) | refine RW.skip0 (h := ?_) | (refine RW.callC (h := ?_); (first | refine CallP.mk (And.intro (a1) (And.intro (h2) (And.intro (a2) (e2)))) (hc := v_at 2 0 _) (h := ?_) | refine CallP.mk (And.intro (a1) (And.intro (h2) (And.intro (a2) (e2)))) (hc := v_at 1 0 _) (h := ?_) | refine CallP.mk (And.intro (a1) (And.intro (h2) (And.intro (a2) (e2)))) (hs := (fun _ _ h => h)) (hc := c1) (h := ?_) | refine CallP.mk (And.intro (a1) (And.intro (h2) (And.intro (a2) (e2)))) (hs := (fun _ _ h => h)) (hc := c2) (h := ?_) | refine CallP.mk (And.intro (a1) (And.intro (h2) (And.intro (a2) (e2)))) (hs := s2) (hc := c3) (h := ?_))))); refine RW.nil ⟨conf_of (by kernel_rfl), Pruned.mk (h := ?_)⟩)
  refine SW.weak id (st1 := ⟨[(1, .ptr 0 0), (3, .d (.int .i64 0)), (4, .d (.int .i64 0)), (5, .ptr 21 0)], (21, vb (v2 1 0)) :: hd2.hp, 22⟩) (Weak.same (by simp) (by simp [EnvW, List.lookup, SV.ren, SV.ok]) (ok_vb (okg g2 (show 17 ≤ 22 by omega)) (show 21 < 22 by omega)) (fun x hx => ?_)) ?_
  · rcases List.mem_cons.1 hx with rfl | hx
    · simp [lk_cons]
    · have := lk_of_nodup (Tk.nodup g2.sep) x hx
      have hne : x.1 ≠ 21 := fun e => by rw [e, lkg g2 (by omega)] at this; cases this
      rw [lk_cons, if_neg hne]
      exact s2 _ _ this
  have q2 : HSub hd2.hp ((21, vb (v2 1 0)) :: hd2.hp) := subc g2 (by omega)
  obtain ⟨X3, h3⟩ : ∃ X, hsets (hdels ((21, vb (v2 1 0)) :: hd2.hp) hd3.hp hd2.hp) hd3.hp = X := ⟨_, rfl⟩
  have s3 : HSub hd3.hp X3 := by rw [← h3]; exact subX q2
  have a3 : hsets (hdels X3 hd3.hp hd3.hp) hd3.hp = X3 := Tk.selfX g3.sep s3
  have e3 : List.lookup 29 X3 = none := by
    show lk X3 29 = none
    rw [← h3, outX q2 (lkg g2 (by omega)) (lkg g3 (by omega)), lk_cons, if_neg (by omega)]; exact lkg g2 (by omega)
  refine SW.seq ?_
  (refine SW.regL [0, 1, 2, 3, 4, 5, 6, 7, 8, 9, 10, 11, 21] mixed ?_; (repeat (first | refine RW.ro (And.intro (h3) (And.intro (a3) (e3))) (h := ?_) | refine RW.skip (h := ?_) | refine RW.op (And.intro (h3) (And.intro (a3) (e3))) (h := ?_) | refine RW.opN (And.intro (h3) (And.intro (a3) (e3))) (h := ?_) | refine RW.skip0 (h := ?_) | (refine RW.callC (h := ?_); (first | refine CallP.mk (And.intro (h3) (And.intro (a3) (e3))) (hc := v_at 2 1 _) (h := ?_) | refine CallP.mk (And.intro (h3) (And.intro (a3) (e3))) (hs := q2) (hc := c4) (h := ?_) | refine CallP.mk (And.intro (h3) (And.intro (a3) (e3))) (hs := s3) (hc := c5) (h := ?_) | refine CallP.mk (And.intro (h3) (And.intro (a3) (e3))) (hs := s3) (hc := c6) (h := ?_))))); refine RW.nil ⟨conf_of (by kernel_rfl), Pruned.mk (h := ?_)⟩)
  refine SW.weak id (st1 := ⟨[(1, .ptr 0 0), (3, .d (.int .i64 0)), (4, .d (.int .i64 0)), (5, .ptr 21 0), (6, .d (.int .i64 0)), (7, .ptr 29 0), (8, .d (.int .i64 1))], (29, vb (v2 1 0)) :: (21, vb (v2 1 0)) :: hd3.hp, 30⟩) (Weak.same (by simp) (by simp [EnvW, List.lookup, SV.ren, SV.ok]) (ok_vb (ok_vb (okg g3 (show 25 ≤ 30 by omega)) (show 21 < 30 by omega)) (show 29 < 30 by omega)) (fun x hx => ?_)) ?_
  · rcases List.mem_cons.1 hx with rfl | hx
    · simp [lk_cons]
    rcases List.mem_cons.1 hx with rfl | hx
    · show lk ((29, vb (v2 1 0)) :: X3) 21 = some (vb (v2 1 0))
      rw [lk_cons, if_neg (by omega), ← h3, outX q2 (lkg g2 (by omega)) z3, lk_cons, if_pos rfl]
    · have := lk_of_nodup (Tk.nodup g3.sep) x hx
      have hne : x.1 ≠ 29 := fun e => by rw [e, lkg g3 (by omega)] at this; cases this
      rw [lk_cons, if_neg hne]
      exact s3 _ _ this
  have q3 : HSub hd3.hp ((29, vb (v2 1 0)) :: (21, vb (v2 1 0)) :: hd3.hp) := sub_cons (lkg g3 (by omega)) (sub_cons z3 fun _ _ h => h)
  have q4 : HSub hd4.hp ((29, vb (v2 1 0)) :: (21, vb (v2 1 0)) :: hd4.hp) := sub_cons (lkg g4 (by omega)) (sub_cons z4 fun _ _ h => h)
  have a4 : hsets (hdels ((29, vb (v2 1 0)) :: (21, vb (v2 1 0)) :: hd3.hp) hd4.hp hd3.hp) hd4.hp = (29, vb (v2 1 0)) :: (21, vb (v2 1 0)) :: hd4.hp :=
    mrg_tail (pre := [(29, vb (v2 1 0)), (21, vb (v2 1 0))]) (Tk.hp_same n4.1 n4.2) (nd_cons (by show lk ((21, vb (v2 1 0)) :: hd3.hp) 29 = none; rw [lk_cons, if_neg (by omega)]; exact lkg g3 (by omega)) (nd_cons z3 (Tk.nodup g3.sep)))
  have a5 : hsets (hdels ((29, vb (v2 1 0)) :: (21, vb (v2 1 0)) :: hd4.hp) hd4.hp hd4.hp) hd4.hp = (29, vb (v2 1 0)) :: (21, vb (v2 1 0)) :: hd4.hp := Tk.selfX g4.sep q4
  have e4 : List.lookup 36 hd4.hp = none := lkg g4 (by omega)
  refine SW.seq ?_
  (refine SW.regL [0, 1, 2, 3, 4, 5, 6, 7, 8, 9, 10, 11, 21] mixed ?_; (repeat (first | refine RW.ro (And.intro (a4) (And.intro (a5) (e4))) (h := ?_) | refine RW.skip (h := ?_) | refine RW.op (And.intro (a4) (And.intro (a5) (e4))) (h := ?_) | refine RW.opN (And.intro (a4) (And.intro (a5) (e4))) (h := ?_) | refine RW.skip0 (h := ?_) | (refine RW.callC (h := ?_); (first | refine CallP.mk (And.intro (a4) (And.intro (a5) (e4))) (hc := v_at 2 1 _) (h := ?_) | refine CallP.mk (And.intro (a4) (And.intro (a5) (e4))) (hs := q3) (hc := c7) (h := ?_) | refine CallP.mk (And.intro (a4) (And.intro (a5) (e4))) (hs := q4) (hc := c8) (h := ?_) | refine CallP.mk (And.intro (a4) (And.intro (a5) (e4))) (hs := q4) (hc := c9) (h := ?_))))); refine RW.nil ⟨conf_of (by kernel_rfl), Pruned.mk (h := ?_)⟩)
  have q5 : HSub hd4.hp ((36, vb (v2 2 1)) :: (29, vb (v2 1 0)) :: (21, vb (v2 1 0)) :: hd4.hp) := sub_cons (lkg g4 (by omega)) q4
  have a6 : hsets (hdels ((36, vb (v2 2 1)) :: (29, vb (v2 1 0)) :: (21, vb (v2 1 0)) :: hd4.hp) hd5.hp hd4.hp) hd5.hp = (36, vb (v2 2 1)) :: (29, vb (v2 1 0)) :: (21, vb (v2 1 0)) :: hd5.hp :=
    mrg_tail (pre := [(36, vb (v2 2 1)), (29, vb (v2 1 0)), (21, vb (v2 1 0))]) (Tk.hp_same n5.1 n5.2) (nd_cons (by show lk ((29, vb (v2 1 0)) :: (21, vb (v2 1 0)) :: hd4.hp) 36 = none; rw [lk_cons, if_neg (by omega), lk_cons, if_neg (by omega)]; exact lkg g4 (by omega)) (nd_cons (by show lk ((21, vb (v2 1 0)) :: hd4.hp) 29 = none; rw [lk_cons, if_neg (by omega)]; exact lkg g4 (by omega)) (nd_cons z4 (Tk.nodup g4.sep))))
  have q6 : HSub hd5.hp ((36, vb (v2 2 1)) :: (29, vb (v2 1 0)) :: (21, vb (v2 1 0)) :: hd5.hp) := sub_cons (lkg g5 (by omega)) (sub_cons (lkg g5 (by omega)) (sub_cons z5 fun _ _ h => h))
  obtain ⟨X6, h6⟩ : ∃ X, hsets (hdels ((36, vb (v2 2 1)) :: (29, vb (v2 1 0)) :: (21, vb (v2 1 0)) :: hd5.hp) hd6.hp hd5.hp) hd6.hp = X := ⟨_, rfl⟩
  have s6 : HSub hd6.hp X6 := by rw [← h6]; exact subX q6
  obtain ⟨X7, h7⟩ : ∃ X, hsets (hdels X6 (hd6.hearV 0 (v2 9 0) 50).1.hp hd6.hp) (hd6.hearV 0 (v2 9 0) 50).1.hp = X := ⟨_, rfl⟩
  refine SW.seq ?_
  (refine SW.regL [0, 1, 2, 3, 4, 5, 6, 7, 8, 9, 10, 11, 21] mixed ?_; (repeat (first | refine RW.ro (And.intro (a6) (And.intro (h6) (h7))) (h := ?_) | refine RW.skip (h := ?_) | refine RW.op (And.intro (a6) (And.intro (h6) (h7))) (h := ?_) | refine RW.opN (And.intro (a6) (And.intro (h6) (h7))) (h := ?_) | refine RW.skip0 (h := ?_) | (refine RW.callC (h := ?_); (first | refine CallP.mk (And.intro (a6) (And.intro (h6) (h7))) (hc := v_at 1 0 _) (h := ?_) | refine CallP.mk (And.intro (a6) (And.intro (h6) (h7))) (hc := v_at 2 1 _) (h := ?_) | refine CallP.mk (And.intro (a6) (And.intro (h6) (h7))) (hc := v_at 1 1 _) (h := ?_) | refine CallP.mk (And.intro (a6) (And.intro (h6) (h7))) (hc := v_at 0 0 _) (h := ?_) | refine CallP.mk (And.intro (a6) (And.intro (h6) (h7))) (hc := v_at 9 0 _) (h := ?_) | refine CallP.mk (And.intro (a6) (And.intro (h6) (h7))) (hs := q5) (hc := c10) (h := ?_) | refine CallP.mk (And.intro (a6) (And.intro (h6) (h7))) (hs := q6) (hc := c11) (h := ?_) | refine CallP.mk (And.intro (a6) (And.intro (h6) (h7))) (hs := s6) (hc := c12) (h := ?_))))); refine RW.nil ⟨conf_of (by kernel_rfl), Pruned.mk (h := ?_)⟩)
  refine SW.ret ?_
  exact End.mk [] (h4 := ⟨rfl, rfl⟩)
end
end Go.Proofs.Ytdnjkeeiopcipaa

/-
  Trackers that are none.
-/
set_option linter.unusedSectionVars false
set_option linter.unusedVariables false
set_option linter.unusedSimpArgs false
namespace Go.Proofs.Ytdnjkeeiopcipaa
open Go.Sl Go.Proofs

def zC : List SV := newC 0 0 0 0
theorem zC0 : zC[0]? = some (.d (.int .i64 0)) := rfl
theorem zC_ok (q : Nat → Bool) : SV.oks q zC = true := rfl
section
attribute [local irreducible] SW RW SCd SC CallP Pruned zC
theorem none0_ok : Go.Sl.Pure Try.prog stable_Tracker_none.f [.d .nilp] (bl true) := by
  refine stable_Tracker_none.enter (by first | rfl | simp [SV.ok, SV.oks]) (by first | rfl | simp [Hp.ok, Ob.ok, SV.ok, SV.oks, Vec.cells_ok]) (by simp) ?_
  unfold stable_Tracker_none.s
  (repeat (first | refine SW.seq ?_ | refine SW.block ?_ | (refine SW.regL [0, 2] mixed ?_; (repeat (first | refine RW.ro bq_tt (h := ?_) | refine RW.skip (h := ?_) | refine RW.op bq_tt (h := ?_) | refine RW.opN bq_tt (h := ?_) | refine RW.skip0 (h := ?_))); refine RW.nil ⟨by kernel_rfl, Pruned.mk (h := ?_)⟩) | refine SW.skip ?_ | refine SW.exit ?_ | refine SW.ret ?_ | refine SW.condT rfl ?_ | refine SW.condF rfl ?_))
  exact End.mk [] (h4 := ⟨rfl, rfl⟩)
theorem none0_at (k : Nat) : SCd Try.prog stable_Tracker_none.f [.d .nilp] [] k 0 (bl true) [] := none0_ok.sc rfl k
/-- A tracker of no replica, at its own name. -/
abbrev Zh (b : Nat) : Hp := [(b, .box 93 zC)]
theorem Zh_ok {b k : Nat} (h : b < k) : (Zh b).ok (fun n => decide (n < k)) = true := by
  simp only [Zh, Hp.ok, List.all_cons, List.all_nil, Ob.ok, zC_ok, Bool.and_true, decide_eq_true_eq]; exact h
theorem Zh_here {P : Program} {f : FuncId} {args : List SV} {b k nk : Nat} {v : SV} (hv : ∀ q, v.ok q = true) (ha : ∀ q, q b = true → SV.oks q args = true)
    (h : SB P f args (Zh b) k nk fun x F => x = v ∧ F = Zh b) : SCd P f args (Zh b) k nk v (Zh b) := by
  unfold SCd
  have a2 : (lk (Zh b) b).isSome = true := by simp [lk_cons]
  have ok : ∀ q : Nat → Bool, q b = true → (Zh b).ok q = true := fun q h => by simp only [Zh, Hp.ok, List.all_cons, List.all_nil, Ob.ok, zC_ok, h, Bool.and_true]
  refine h.here (fun n => (lk (Zh b) n).isSome) (fun n h e => by rw [e] at h; cases h) (ha _ a2) (ok _ a2) ?_
  rintro x F ⟨rfl, rfl⟩ _ _
  exact ⟨hv _, ok _ (by simp only [a2, Bool.true_or])⟩
theorem zsub {b k : Nat} {o : Ob} (h : b < k) : HSub (Zh b) ((k, o) :: Zh b) := fun n ob hn => by
  rw [lk_cons, if_neg fun e => ?_]
  · exact hn
  · rw [e, lk_cons, if_neg (by omega)] at hn; simp [lk_nil] at hn
theorem nonez_at {b k : Nat} (hb : b < k) : SCd Try.prog stable_Tracker_none.f [.ptr b 0] (Zh b) k 0 (bl true) (Zh b) := by
  refine Zh_here (fun _ => rfl) (fun q h => by simp [SV.oks, SV.ok, h]) ?_
  refine stable_Tracker_none.enter (by simp [SV.ok, SV.oks]; omega) (Zh_ok hb) (by simp) ?_
  unfold stable_Tracker_none.s
  have z := zC0
  (repeat (first | refine SW.seq ?_ | refine SW.block ?_ | (refine SW.regL [0, 2] mixed ?_; (repeat (first | refine RW.ro (z) (h := ?_) | refine RW.skip (h := ?_) | refine RW.op (z) (h := ?_) | refine RW.opN (z) (h := ?_) | refine RW.skip0 (h := ?_))); refine RW.nil ⟨conf_of (by kernel_rfl), Pruned.mk (h := ?_)⟩) | refine SW.skip ?_ | refine SW.exit ?_ | refine SW.ret ?_ | refine SW.condT rfl ?_ | refine SW.condF rfl ?_))
  exact End.mk (Zh b) (h3 := fun _ _ h => h) (h4 := ⟨rfl, rfl⟩) (h6 := Zh_ok hb)
theorem counts0_ok (r : Nat) (hr : r < 256) : Go.Sl.Pure Try.prog stable_Tracker_Counts.f [.d .nilp, u8 r] (.tup [.agg Vec.zero.cells, i64 1]) := by
  refine stable_Tracker_Counts.enter (by first | rfl | simp [SV.ok, SV.oks]) (by first | rfl | simp [Hp.ok, Ob.ok, SV.ok, SV.oks, Vec.cells_ok]) (by simp) ?_
  unfold stable_Tracker_Counts.s
  (repeat (first | refine SW.seq ?_ | refine SW.block ?_ | (refine SW.regL [0, 1, 4, 5, 6, 10] mixed ?_; (repeat (first | refine RW.ro bq_tt (h := ?_) | refine RW.skip (h := ?_) | refine RW.op bq_tt (h := ?_) | refine RW.opN bq_tt (h := ?_) | refine RW.skip0 (h := ?_) | (refine RW.callC (h := ?_); (first | refine CallP.mk bq_tt (hc := none0_at _) (h := ?_))))); refine RW.nil ⟨conf_of (by kernel_rfl), Pruned.mk (h := ?_)⟩) | refine SW.skip ?_ | refine SW.exit ?_ | refine SW.ret ?_ | refine SW.condT rfl ?_ | refine SW.condF rfl ?_))
  exact End.mk [] (h1 := rvV_vec (k := 0) (by simp [List.lookup]) lk_cons_same rfl) (h2 := by simp [ldo]) (h4 := ⟨rfl, rfl⟩)
theorem counts0_at (r : Nat) (hr : r < 256) (k : Nat) : SCd Try.prog stable_Tracker_Counts.f [.d .nilp, u8 r] [] k 0 (.tup [.agg Vec.zero.cells, i64 1]) [] := (counts0_ok r hr).sc rfl k
theorem countsz_at (r : Nat) (hr : r < 256) {b k : Nat} (hb : b < k) : SCd Try.prog stable_Tracker_Counts.f [.ptr b 0, u8 r] (Zh b) k 0 (.tup [.agg Vec.zero.cells, i64 1]) (Zh b) := by
  refine Zh_here (fun _ => rfl) (fun q h => by simp [SV.oks, SV.ok, h]) ?_
  refine stable_Tracker_Counts.enter (by simp [SV.ok, SV.oks]; try omega) (Zh_ok hb) (by simp) ?_
  unfold stable_Tracker_Counts.s
  have f1 := ne4 (show k ≠ b by omega)
  (repeat (first | refine SW.seq ?_ | refine SW.block ?_ | (refine SW.regL [0, 1, 4, 5, 6, 10] mixed ?_; (repeat (first | refine RW.ro (f1) (h := ?_) | refine RW.skip (h := ?_) | refine RW.op (f1) (h := ?_) | refine RW.opN (f1) (h := ?_) | refine RW.skip0 (h := ?_) | (refine RW.callC (h := ?_); (first | refine CallP.mk (f1) (hs := (by first | exact fun _ _ h => h | exact zsub (by omega))) (hc := nonez_at (by omega)) (h := ?_))))); refine RW.nil ⟨conf_of (by kernel_rfl), Pruned.mk (h := ?_)⟩) | refine SW.skip ?_ | refine SW.exit ?_ | refine SW.ret ?_ | refine SW.condT rfl ?_ | refine SW.condF rfl ?_))
  exact End.mk (Zh b) (h1 := rvV_vec (k := k) (by simp [List.lookup]) lk_cons_same rfl) (h2 := by simp [ldo]) (h3 := by first | exact fun _ _ h => h | exact zsub (by omega)) (h4 := ⟨rfl, rfl⟩) (h6 := Zh_ok (by omega))
theorem has0_ok (v : Vec) : Go.Sl.Pure Try.prog stable_Tracker_Has.f [.d .nilp, .agg v.cells] (i64 1) := by
  refine stable_Tracker_Has.enter (by first | rfl | simp [SV.ok, SV.oks]) (by first | rfl | simp [Hp.ok, Ob.ok, SV.ok, SV.oks, Vec.cells_ok]) (by simp) ?_
  unfold stable_Tracker_Has.s
  (repeat (first | refine SW.seq ?_ | refine SW.block ?_ | (refine SW.regL [0, 1, 3, 4, 5, 8, 13] mixed ?_; (repeat (first | refine RW.ro bq_tt (h := ?_) | refine RW.skip (h := ?_) | refine RW.op bq_tt (h := ?_) | refine RW.opN bq_tt (h := ?_) | refine RW.skip0 (h := ?_) | (refine RW.callC (h := ?_); (first | refine CallP.mk bq_tt (hc := none0_at _) (h := ?_))))); refine RW.nil ⟨conf_of (by kernel_rfl), Pruned.mk (h := ?_)⟩) | refine SW.skip ?_ | refine SW.exit ?_ | refine SW.ret ?_ | refine SW.condT rfl ?_ | refine SW.condF rfl ?_))
  exact End.mk [] (h4 := ⟨rfl, rfl⟩)
theorem has0_at (v : Vec) (k : Nat) : SCd Try.prog stable_Tracker_Has.f [.d .nilp, .agg v.cells] [] k 0 (i64 1) [] := (has0_ok v).sc rfl k
theorem hasz_at (v : Vec) {b k : Nat} (hb : b < k) : SCd Try.prog stable_Tracker_Has.f [.ptr b 0, .agg v.cells] (Zh b) k 0 (i64 1) (Zh b) := by
  refine Zh_here (fun _ => rfl) (fun q h => by simp [SV.oks, SV.ok, h]) ?_
  refine stable_Tracker_Has.enter (by simp [SV.ok, SV.oks]; try omega) (Zh_ok hb) (by simp) ?_
  unfold stable_Tracker_Has.s
  have f1 := ne4 (show k ≠ b by omega)
  (repeat (first | refine SW.seq ?_ | refine SW.block ?_ | (refine SW.regL [0, 1, 3, 4, 5, 8, 13] mixed ?_; (repeat (first | refine RW.ro (f1) (h := ?_) | refine RW.skip (h := ?_) | refine RW.op (f1) (h := ?_) | refine RW.opN (f1) (h := ?_) | refine RW.skip0 (h := ?_) | (refine RW.callC (h := ?_); (first | refine CallP.mk (f1) (hs := (by first | exact fun _ _ h => h | exact zsub (by omega))) (hc := nonez_at (by omega)) (h := ?_))))); refine RW.nil ⟨conf_of (by kernel_rfl), Pruned.mk (h := ?_)⟩) | refine SW.skip ?_ | refine SW.exit ?_ | refine SW.ret ?_ | refine SW.condT rfl ?_ | refine SW.condF rfl ?_))
  exact End.mk (Zh b) (h3 := by first | exact fun _ _ h => h | exact zsub (by omega)) (h4 := ⟨rfl, rfl⟩) (h6 := Zh_ok (by omega))
theorem hear0_ok (r : Nat) (hr : r < 256) (v : Vec) : Go.Sl.Pure Try.prog stable_Tracker_Hear.f [.d .nilp, u8 r, .agg v.cells] (i64 1) := by
  refine stable_Tracker_Hear.enter (by first | rfl | simp [SV.ok, SV.oks]) (by first | rfl | simp [Hp.ok, Ob.ok, SV.ok, SV.oks, Vec.cells_ok]) (by simp) ?_
  unfold stable_Tracker_Hear.s
  (repeat (first | refine SW.seq ?_ | refine SW.block ?_ | (refine SW.regL [0, 1, 2, 5, 6, 7, 10, 24, 40, 53] mixed ?_; (repeat (first | refine RW.ro bq_tt (h := ?_) | refine RW.skip (h := ?_) | refine RW.op bq_tt (h := ?_) | refine RW.opN bq_tt (h := ?_) | refine RW.skip0 (h := ?_) | (refine RW.callC (h := ?_); (first | refine CallP.mk bq_tt (hc := none0_at _) (h := ?_))))); refine RW.nil ⟨conf_of (by kernel_rfl), Pruned.mk (h := ?_)⟩) | refine SW.skip ?_ | refine SW.exit ?_ | refine SW.ret ?_ | refine SW.condT rfl ?_ | refine SW.condF rfl ?_))
  exact End.mk [] (h4 := ⟨rfl, rfl⟩)
theorem hear0_at (r : Nat) (hr : r < 256) (v : Vec) (k : Nat) : SCd Try.prog stable_Tracker_Hear.f [.d .nilp, u8 r, .agg v.cells] [] k 0 (i64 1) [] := (hear0_ok r hr v).sc rfl k
theorem hearz_at (r : Nat) (hr : r < 256) (v : Vec) {b k : Nat} (hb : b < k) : SCd Try.prog stable_Tracker_Hear.f [.ptr b 0, u8 r, .agg v.cells] (Zh b) k 0 (i64 1) (Zh b) := by
  refine Zh_here (fun _ => rfl) (fun q h => by simp [SV.oks, SV.ok, h]) ?_
  refine stable_Tracker_Hear.enter (by simp [SV.ok, SV.oks]; try omega) (Zh_ok hb) (by simp) ?_
  unfold stable_Tracker_Hear.s
  have f1 := ne4 (show k ≠ b by omega)
  (repeat (first | refine SW.seq ?_ | refine SW.block ?_ | (refine SW.regL [0, 1, 2, 5, 6, 7, 10, 24, 40, 53] mixed ?_; (repeat (first | refine RW.ro (f1) (h := ?_) | refine RW.skip (h := ?_) | refine RW.op (f1) (h := ?_) | refine RW.opN (f1) (h := ?_) | refine RW.skip0 (h := ?_) | (refine RW.callC (h := ?_); (first | refine CallP.mk (f1) (hs := (by first | exact fun _ _ h => h | exact zsub (by omega))) (hc := nonez_at (by omega)) (h := ?_))))); refine RW.nil ⟨conf_of (by kernel_rfl), Pruned.mk (h := ?_)⟩) | refine SW.skip ?_ | refine SW.exit ?_ | refine SW.ret ?_ | refine SW.condT rfl ?_ | refine SW.condF rfl ?_))
  exact End.mk (Zh b) (h3 := by first | exact fun _ _ h => h | exact zsub (by omega)) (h4 := ⟨rfl, rfl⟩) (h6 := Zh_ok (by omega))
theorem stable0_ok  : Go.Sl.Pure Try.prog stable_Tracker_Stable.f [.d .nilp] (.agg Vec.zero.cells) := by
  refine stable_Tracker_Stable.enter (by first | rfl | simp [SV.ok, SV.oks]) (by first | rfl | simp [Hp.ok, Ob.ok, SV.ok, SV.oks, Vec.cells_ok]) (by simp) ?_
  unfold stable_Tracker_Stable.s
  (repeat (first | refine SW.seq ?_ | refine SW.block ?_ | (refine SW.regL [0, 2, 4] mixed ?_; (repeat (first | refine RW.ro bq_tt (h := ?_) | refine RW.skip (h := ?_) | refine RW.op bq_tt (h := ?_) | refine RW.opN bq_tt (h := ?_) | refine RW.skip0 (h := ?_) | (refine RW.callC (h := ?_); (first | refine CallP.mk bq_tt (hc := none0_at _) (h := ?_))))); refine RW.nil ⟨conf_of (by kernel_rfl), Pruned.mk (h := ?_)⟩) | refine SW.skip ?_ | refine SW.exit ?_ | refine SW.ret ?_ | refine SW.condT rfl ?_ | refine SW.condF rfl ?_))
  exact End.mk [] (h1 := rvV_vec (k := 0) (by simp [List.lookup]) lk_cons_same rfl) (h2 := by simp [ldo]) (h4 := ⟨rfl, rfl⟩)
theorem stable0_at  (k : Nat) : SCd Try.prog stable_Tracker_Stable.f [.d .nilp] [] k 0 (.agg Vec.zero.cells) [] := (stable0_ok ).sc rfl k
theorem stablez_at  {b k : Nat} (hb : b < k) : SCd Try.prog stable_Tracker_Stable.f [.ptr b 0] (Zh b) k 0 (.agg Vec.zero.cells) (Zh b) := by
  refine Zh_here (fun _ => rfl) (fun q h => by simp [SV.oks, SV.ok, h]) ?_
  refine stable_Tracker_Stable.enter (by simp [SV.ok, SV.oks]; try omega) (Zh_ok hb) (by simp) ?_
  unfold stable_Tracker_Stable.s
  have f1 := ne4 (show k ≠ b by omega)
  (repeat (first | refine SW.seq ?_ | refine SW.block ?_ | (refine SW.regL [0, 2, 4] mixed ?_; (repeat (first | refine RW.ro (f1) (h := ?_) | refine RW.skip (h := ?_) | refine RW.op (f1) (h := ?_) | refine RW.opN (f1) (h := ?_) | refine RW.skip0 (h := ?_) | (refine RW.callC (h := ?_); (first | refine CallP.mk (f1) (hs := (by first | exact fun _ _ h => h | exact zsub (by omega))) (hc := nonez_at (by omega)) (h := ?_))))); refine RW.nil ⟨conf_of (by kernel_rfl), Pruned.mk (h := ?_)⟩) | refine SW.skip ?_ | refine SW.exit ?_ | refine SW.ret ?_ | refine SW.condT rfl ?_ | refine SW.condF rfl ?_))
  exact End.mk (Zh b) (h1 := rvV_vec (k := k) (by simp [List.lookup]) lk_cons_same rfl) (h2 := by simp [ldo]) (h3 := by first | exact fun _ _ h => h | exact zsub (by omega)) (h4 := ⟨rfl, rfl⟩) (h6 := Zh_ok (by omega))
theorem own0_ok  : Go.Sl.Pure Try.prog stable_Tracker_Own.f [.d .nilp] (.agg Vec.zero.cells) := by
  refine stable_Tracker_Own.enter (by first | rfl | simp [SV.ok, SV.oks]) (by first | rfl | simp [Hp.ok, Ob.ok, SV.ok, SV.oks, Vec.cells_ok]) (by simp) ?_
  unfold stable_Tracker_Own.s
  (repeat (first | refine SW.seq ?_ | refine SW.block ?_ | (refine SW.regL [0, 2, 4] mixed ?_; (repeat (first | refine RW.ro bq_tt (h := ?_) | refine RW.skip (h := ?_) | refine RW.op bq_tt (h := ?_) | refine RW.opN bq_tt (h := ?_) | refine RW.skip0 (h := ?_) | (refine RW.callC (h := ?_); (first | refine CallP.mk bq_tt (hc := none0_at _) (h := ?_))))); refine RW.nil ⟨conf_of (by kernel_rfl), Pruned.mk (h := ?_)⟩) | refine SW.skip ?_ | refine SW.exit ?_ | refine SW.ret ?_ | refine SW.condT rfl ?_ | refine SW.condF rfl ?_))
  exact End.mk [] (h1 := rvV_vec (k := 0) (by simp [List.lookup]) lk_cons_same rfl) (h2 := by simp [ldo]) (h4 := ⟨rfl, rfl⟩)
theorem own0_at  (k : Nat) : SCd Try.prog stable_Tracker_Own.f [.d .nilp] [] k 0 (.agg Vec.zero.cells) [] := (own0_ok ).sc rfl k
theorem ownz_at  {b k : Nat} (hb : b < k) : SCd Try.prog stable_Tracker_Own.f [.ptr b 0] (Zh b) k 0 (.agg Vec.zero.cells) (Zh b) := by
  refine Zh_here (fun _ => rfl) (fun q h => by simp [SV.oks, SV.ok, h]) ?_
  refine stable_Tracker_Own.enter (by simp [SV.ok, SV.oks]; try omega) (Zh_ok hb) (by simp) ?_
  unfold stable_Tracker_Own.s
  have f1 := ne4 (show k ≠ b by omega)
  (repeat (first | refine SW.seq ?_ | refine SW.block ?_ | (refine SW.regL [0, 2, 4] mixed ?_; (repeat (first | refine RW.ro (f1) (h := ?_) | refine RW.skip (h := ?_) | refine RW.op (f1) (h := ?_) | refine RW.opN (f1) (h := ?_) | refine RW.skip0 (h := ?_) | (refine RW.callC (h := ?_); (first | refine CallP.mk (f1) (hs := (by first | exact fun _ _ h => h | exact zsub (by omega))) (hc := nonez_at (by omega)) (h := ?_))))); refine RW.nil ⟨conf_of (by kernel_rfl), Pruned.mk (h := ?_)⟩) | refine SW.skip ?_ | refine SW.exit ?_ | refine SW.ret ?_ | refine SW.condT rfl ?_ | refine SW.condF rfl ?_))
  exact End.mk (Zh b) (h1 := rvV_vec (k := k) (by simp [List.lookup]) lk_cons_same rfl) (h2 := by simp [ldo]) (h3 := by first | exact fun _ _ h => h | exact zsub (by omega)) (h4 := ⟨rfl, rfl⟩) (h6 := Zh_ok (by omega))
theorem waits0_ok  : Go.Sl.Pure Try.prog stable_Tracker_Waits.f [.d .nilp] (i64 0) := by
  refine stable_Tracker_Waits.enter (by first | rfl | simp [SV.ok, SV.oks]) (by first | rfl | simp [Hp.ok, Ob.ok, SV.ok, SV.oks, Vec.cells_ok]) (by simp) ?_
  unfold stable_Tracker_Waits.s
  (repeat (first | refine SW.seq ?_ | refine SW.block ?_ | (refine SW.regL [0, 2, 3, 5, 7, 11, 12, 13] mixed ?_; (repeat (first | refine RW.ro bq_tt (h := ?_) | refine RW.skip (h := ?_) | refine RW.op bq_tt (h := ?_) | refine RW.opN bq_tt (h := ?_) | refine RW.skip0 (h := ?_) | (refine RW.callC (h := ?_); (first | refine CallP.mk bq_tt (hc := none0_at _) (h := ?_))))); refine RW.nil ⟨conf_of (by kernel_rfl), Pruned.mk (h := ?_)⟩) | refine SW.skip ?_ | refine SW.exit ?_ | refine SW.ret ?_ | refine SW.condT rfl ?_ | refine SW.condF rfl ?_))
  exact End.mk [] (h4 := ⟨rfl, rfl⟩)
theorem waits0_at  (k : Nat) : SCd Try.prog stable_Tracker_Waits.f [.d .nilp] [] k 0 (i64 0) [] := (waits0_ok ).sc rfl k
theorem waitsz_at  {b k : Nat} (hb : b < k) : SCd Try.prog stable_Tracker_Waits.f [.ptr b 0] (Zh b) k 0 (i64 0) (Zh b) := by
  refine Zh_here (fun _ => rfl) (fun q h => by simp [SV.oks, SV.ok, h]) ?_
  refine stable_Tracker_Waits.enter (by simp [SV.ok, SV.oks]; try omega) (Zh_ok hb) (by simp) ?_
  unfold stable_Tracker_Waits.s
  have f1 := ne4 (show k ≠ b by omega)
  (repeat (first | refine SW.seq ?_ | refine SW.block ?_ | (refine SW.regL [0, 2, 3, 5, 7, 11, 12, 13] mixed ?_; (repeat (first | refine RW.ro (f1) (h := ?_) | refine RW.skip (h := ?_) | refine RW.op (f1) (h := ?_) | refine RW.opN (f1) (h := ?_) | refine RW.skip0 (h := ?_) | (refine RW.callC (h := ?_); (first | refine CallP.mk (f1) (hs := (by first | exact fun _ _ h => h | exact zsub (by omega))) (hc := nonez_at (by omega)) (h := ?_))))); refine RW.nil ⟨conf_of (by kernel_rfl), Pruned.mk (h := ?_)⟩) | refine SW.skip ?_ | refine SW.exit ?_ | refine SW.ret ?_ | refine SW.condT rfl ?_ | refine SW.condF rfl ?_))
  exact End.mk (Zh b) (h3 := by first | exact fun _ _ h => h | exact zsub (by omega)) (h4 := ⟨rfl, rfl⟩) (h6 := Zh_ok (by omega))
theorem copy0_ok  : Go.Sl.Pure Try.prog stable_Tracker_Copy.f [.d .nilp] (.d .nilp) := by
  refine stable_Tracker_Copy.enter (by first | rfl | simp [SV.ok, SV.oks]) (by first | rfl | simp [Hp.ok, Ob.ok, SV.ok, SV.oks, Vec.cells_ok]) (by simp) ?_
  unfold stable_Tracker_Copy.s
  (repeat (first | refine SW.seq ?_ | refine SW.block ?_ | (refine SW.regL [0, 2, 3, 4, 5, 7, 14, 15, 16] mixed ?_; (repeat (first | refine RW.ro bq_tt (h := ?_) | refine RW.skip (h := ?_) | refine RW.op bq_tt (h := ?_) | refine RW.opN bq_tt (h := ?_) | refine RW.skip0 (h := ?_) | (refine RW.callC (h := ?_); (first | refine CallP.mk bq_tt (hc := none0_at _) (h := ?_))))); refine RW.nil ⟨conf_of (by kernel_rfl), Pruned.mk (h := ?_)⟩) | refine SW.skip ?_ | refine SW.exit ?_ | refine SW.ret ?_ | refine SW.condT rfl ?_ | refine SW.condF rfl ?_))
  exact End.mk [] (h4 := ⟨rfl, rfl⟩)
theorem copy0_at  (k : Nat) : SCd Try.prog stable_Tracker_Copy.f [.d .nilp] [] k 0 (.d .nilp) [] := (copy0_ok ).sc rfl k
theorem copyz_at  {b k : Nat} (hb : b < k) : SCd Try.prog stable_Tracker_Copy.f [.ptr b 0] (Zh b) k 0 (.d .nilp) (Zh b) := by
  refine Zh_here (fun _ => rfl) (fun q h => by simp [SV.oks, SV.ok, h]) ?_
  refine stable_Tracker_Copy.enter (by simp [SV.ok, SV.oks]; try omega) (Zh_ok hb) (by simp) ?_
  unfold stable_Tracker_Copy.s
  have f1 := ne4 (show k ≠ b by omega)
  (repeat (first | refine SW.seq ?_ | refine SW.block ?_ | (refine SW.regL [0, 2, 3, 4, 5, 7, 14, 15, 16] mixed ?_; (repeat (first | refine RW.ro (f1) (h := ?_) | refine RW.skip (h := ?_) | refine RW.op (f1) (h := ?_) | refine RW.opN (f1) (h := ?_) | refine RW.skip0 (h := ?_) | (refine RW.callC (h := ?_); (first | refine CallP.mk (f1) (hs := (by first | exact fun _ _ h => h | exact zsub (by omega))) (hc := nonez_at (by omega)) (h := ?_))))); refine RW.nil ⟨conf_of (by kernel_rfl), Pruned.mk (h := ?_)⟩) | refine SW.skip ?_ | refine SW.exit ?_ | refine SW.ret ?_ | refine SW.condT rfl ?_ | refine SW.condF rfl ?_))
  exact End.mk (Zh b) (h3 := by first | exact fun _ _ h => h | exact zsub (by omega)) (h4 := ⟨rfl, rfl⟩) (h6 := Zh_ok (by omega))
end
end Go.Proofs.Ytdnjkeeiopcipaa

/-
  Trackers: the law of trackers that are none.
-/
set_option linter.unusedSectionVars false
set_option linter.unusedVariables false
set_option linter.unusedSimpArgs false
namespace Go.Proofs.Ytdnjkeeiopcipaa
open Go.Sl Go.Proofs
theorem head12_at (k : Nat) : SCd Try.prog law12_head.f [] [] k 0 (bl true) [] := head12_ok.sc rfl k
section
attribute [local irreducible] SW RW SCd SC CallP Pruned zC
set_option maxHeartbeats 2000000 in
theorem law_none (r : Nat) (hr : r < 256) (x : Vec) : Go.Sl.Pure Try.prog law12_StableNone.f [u8 r, .agg x.cells] (bl true) := by
  refine law12_StableNone.enter (by first | rfl | simp [SV.ok, SV.oks]) (by first | rfl | simp [Hp.ok, Ob.ok, SV.ok, SV.oks, Vec.cells_ok]) (by simp) ?_
  unfold law12_StableNone.s
  refine SW.seq ?_
  (refine SW.regL [0, 1, 3, 4, 5, 6, 7, 8, 10, 16, 65] mixed ?_; (repeat (first | refine RW.ro bq_tt (h := ?_) | refine RW.skip (h := ?_) | refine RW.op bq_tt (h := ?_) | refine RW.opN bq_tt (h := ?_) | refine RW.skip0 (h := ?_))); refine RW.nil ⟨conf_of (by kernel_rfl), Pruned.mk (h := ?_)⟩)
  refine SW.seq ?_
  (refine SW.regL [0, 1, 3, 4, 5, 6, 7, 8, 10, 16, 65] mixed ?_; (repeat (first | refine RW.ro bq_tt (h := ?_) | refine RW.skip (h := ?_) | refine RW.op bq_tt (h := ?_) | refine RW.opN bq_tt (h := ?_) | refine RW.skip0 (h := ?_))); refine RW.nil ⟨conf_of (by kernel_rfl), Pruned.mk (h := ?_)⟩)
  refine SW.seq ?_
  dsimp only
  have s1 : ∀ (cs : List SV) (o : Nat) (c : SV), spl cs o [c] = cs.set o c := fun _ _ _ => rfl
  have s2 : ∀ (x y : SV) (l : List SV), (x :: l).set 0 y = y :: l := fun _ _ _ => rfl
  have s3 : ∀ (x z y : SV) (l : List SV), (x :: z :: l).set 1 y = x :: y :: l := fun _ _ _ _ => rfl
  (refine SW.regL [0, 1, 3, 4, 5, 6, 7, 8, 10, 16, 65] mixed ?_; (repeat (first | refine RW.ro (And.intro (s1) (And.intro (s2) (s3))) (h := ?_) | refine RW.skip (h := ?_) | refine RW.op (And.intro (s1) (And.intro (s2) (s3))) (h := ?_) | refine RW.opN (And.intro (s1) (And.intro (s2) (s3))) (h := ?_) | refine RW.skip0 (h := ?_))); refine RW.nil ⟨conf_of (by kernel_rfl), Pruned.mk (h := ?_)⟩)
  refine SW.weak id (st1 := ⟨[(0, u8 r), (3, .ptr 0 0), (6, .gs 2 2)], [(2, .arr 26 1 2 [.d .nilp, .ptr 1 0]), (0, .box 25 x.cells), (1, .box 93 zC)], 3⟩) (Weak.same (by simp) (by simp [EnvW, List.lookup, SV.ren, SV.ok]) (by simp [Hp.ok, Ob.ok, SV.oks, SV.ok, Vec.cells_ok, zC_ok]) ?_) ?_
  · intro y hy
    simp only [List.mem_cons, List.not_mem_nil, or_false] at hy
    rcases hy with rfl | rfl | rfl
    · rfl
    · rfl
    · unfold zC; rfl
  refine SW.seq (SW.seq ?_)
  (refine SW.regL [0, 1, 3, 4, 5, 6, 7, 8, 10, 16, 65] mixed ?_; (repeat (first | refine RW.ro bq_tt (h := ?_) | refine RW.skip (h := ?_) | refine RW.op bq_tt (h := ?_) | refine RW.opN bq_tt (h := ?_) | refine RW.skip0 (h := ?_))); refine RW.nil ⟨conf_of (by kernel_rfl), Pruned.mk (h := ?_)⟩)
  refine SW.block ?_
  refine SW.loop (α := {i : Nat // i ≤ 2}) (fun i => ⟨[(7, i64 i.1), (0, u8 r), (3, .ptr 0 0), (6, .gs 2 2)], [(2, .arr 26 1 2 [.d .nilp, .ptr 1 0]), (0, .box 25 x.cells), (1, .box 93 zC)], 3⟩) (fun i => 2 - i.1) ⟨0, by omega⟩ id ?_ ?_
  · exact Weak.same (by simp) (by simp [EnvW, List.lookup, SV.ren, SV.ok]) (by simp [Hp.ok, Ob.ok, SV.oks, SV.ok, Vec.cells_ok, zC_ok]) (by simp [lk_cons])
  rintro ⟨i, hi⟩
  have w3 : ∀ st, st ∈ ([] : List Nat) → True := fun _ _ => trivial
  rcases (show i = 0 ∨ i = 1 ∨ i = 2 by omega) with rfl | rfl | rfl
  · (repeat (first | refine SW.seq ?_ | refine SW.block ?_ | (refine SW.regL [0, 1, 3, 4, 5, 6, 7, 8, 10, 16, 65] mixed ?_; (repeat (first | refine RW.ro bq_tt (h := ?_) | refine RW.skip (h := ?_) | refine RW.op bq_tt (h := ?_) | refine RW.opN bq_tt (h := ?_) | refine RW.skip0 (h := ?_) | (refine RW.callC (h := ?_); (first | refine CallP.mk bq_tt (hc := counts0_at r hr _) (h := ?_) | refine CallP.mk bq_tt (hc := has0_at x _) (h := ?_) | refine CallP.mk bq_tt (hc := hear0_at r hr x _) (h := ?_) | refine CallP.mk bq_tt (hc := stable0_at _) (h := ?_) | refine CallP.mk bq_tt (hc := own0_at _) (h := ?_) | refine CallP.mk bq_tt (hc := waits0_at _) (h := ?_) | refine CallP.mk bq_tt (hc := copy0_at _) (h := ?_))))); refine RW.nil ⟨conf_of (by kernel_rfl), Pruned.mk (h := ?_)⟩) | refine SW.skip ?_ | refine SW.exit ?_ | refine SW.ret ?_ | refine SW.condT rfl ?_ | refine SW.condF rfl ?_))
    exact ⟨⟨1, by omega⟩, id, by simp, Weak.same (by simp) (by simp [EnvW, List.lookup, SV.ren, SV.ok]) (by simp [Hp.ok, Ob.ok, SV.oks, SV.ok, Vec.cells_ok, zC_ok]) (by simp [lk_cons])⟩
  · (repeat (first | refine SW.seq ?_ | refine SW.block ?_ | (refine SW.regL [0, 1, 3, 4, 5, 6, 7, 8, 10, 16, 65] mixed ?_; (repeat (first | refine RW.ro bq_tt (h := ?_) | refine RW.skip (h := ?_) | refine RW.op bq_tt (h := ?_) | refine RW.opN bq_tt (h := ?_) | refine RW.skip0 (h := ?_) | (refine RW.callC (h := ?_); (first | refine CallP.mk bq_tt (hc := countsz_at r hr (b := 1) (by omega)) (h := ?_) | refine CallP.mk bq_tt (hc := hasz_at x (b := 1) (by omega)) (h := ?_) | refine CallP.mk bq_tt (hc := hearz_at r hr x (b := 1) (by omega)) (h := ?_) | refine CallP.mk bq_tt (hc := stablez_at (b := 1) (by omega)) (h := ?_) | refine CallP.mk bq_tt (hc := ownz_at (b := 1) (by omega)) (h := ?_) | refine CallP.mk bq_tt (hc := waitsz_at (b := 1) (by omega)) (h := ?_) | refine CallP.mk bq_tt (hc := copyz_at (b := 1) (by omega)) (h := ?_))))); refine RW.nil ⟨conf_of (by kernel_rfl), Pruned.mk (h := ?_)⟩) | refine SW.skip ?_ | refine SW.exit ?_ | refine SW.ret ?_ | refine SW.condT rfl ?_ | refine SW.condF rfl ?_))
    exact ⟨⟨2, by omega⟩, id, by simp, Weak.same (by simp) (by simp [EnvW, List.lookup, SV.ren, SV.ok]) (by simp [Hp.ok, Ob.ok, SV.oks, SV.ok, Vec.cells_ok, zC_ok]) (by simp [lk_cons])⟩
  · (repeat (first | refine SW.seq ?_ | refine SW.block ?_ | (refine SW.regL [0, 1, 3, 4, 5, 6, 7, 8, 10, 16, 65] mixed ?_; (repeat (first | refine RW.ro bq_tt (h := ?_) | refine RW.skip (h := ?_) | refine RW.op bq_tt (h := ?_) | refine RW.opN bq_tt (h := ?_) | refine RW.skip0 (h := ?_) | (refine RW.callC (h := ?_); (first | refine CallP.mk bq_tt (hc := head12_at _) (h := ?_))))); refine RW.nil ⟨conf_of (by kernel_rfl), Pruned.mk (h := ?_)⟩) | refine SW.skip ?_ | refine SW.exit ?_ | refine SW.ret ?_ | refine SW.condT rfl ?_ | refine SW.condF rfl ?_))
    exact End.mk [] (h4 := ⟨rfl, rfl⟩)
end
end Go.Proofs.Ytdnjkeeiopcipaa

/-
  Trackers: what they come to, of all that was heard; whatever the order.
-/
set_option linter.unusedSectionVars false
set_option linter.unusedVariables false
set_option linter.unusedSimpArgs false
namespace Go.Proofs.Ytdnjkeeiopcipaa
open Go.Sl Go.Proofs

def wkeys : Option (VMap × Nat) → List Vec
  | none => []
  | some (L, _) => MM.keys L
theorem wkeys_len : ∀ x : Option (VMap × Nat), (wkeys x).length = wlen x
  | none => rfl
  | some (L, c) => by simp [wkeys, wlen, MM.keys]
theorem wkeys_nodup {T : Tk} (h : T.ww) {r : Nat} (hr : r < 8) : (wkeys (T.wt r)).Nodup := by
  cases e : T.wt r with
  | none => simp [wkeys]
  | some x => obtain ⟨L, c⟩ := x; exact (h r hr L c e).keys

/-- A tracker, of what its own has, and of what was heard. -/
structure Tk.Is (T : Tk) (H : Vec) (S : Nat → Vec → Prop) : Prop where
  has : T.has = H
  own : T.cnt T.own = H
  cle : ∀ r, r < T.n → r ≠ T.own → ∀ q, q < 8 → ∀ b, (T.cnt r).get q ≤ b ↔ ∀ v, S r v → v.get r ≤ H.get r → v.get q ≤ b
  wts : ∀ r, r < T.n → r ≠ T.own → ∀ v, v ∈ wkeys (T.wt r) ↔ S r v ∧ H.get r < v.get r
  wno : ∀ r, (T.n ≤ r ∨ r = T.own) → T.wt r = none
/-- The same, not settled yet. -/
structure Tk.Pre (T : Tk) (H : Vec) (S : Nat → Vec → Prop) : Prop where
  has : T.has = H
  cle : ∀ r, r < T.n → r ≠ T.own → ∀ q, q < 8 → ∀ b, ((T.cnt r).get q ≤ b ∧ ∀ v, v ∈ wkeys (T.wt r) → v.get r ≤ H.get r → v.get q ≤ b) ↔ ∀ v, S r v → v.get r ≤ H.get r → v.get q ≤ b
  wts : ∀ r, r < T.n → r ≠ T.own → ∀ v, H.get r < v.get r → (v ∈ wkeys (T.wt r) ↔ S r v)
  wno : ∀ r, (T.n ≤ r ∨ r = T.own) → T.wt r = none

def Tk.cw (T : Tk) (r : Nat) : Vec × Option (VMap × Nat) := match T.wt r with
  | none => (T.cnt r, none)
  | some (L, c) => (settC T.has r (T.cnt r) L, some (settW T.has r (T.cnt r) L, c))
theorem Tk.sett_cw (T : Tk) (r i : Nat) : (T.sett r).cnt i = (if i = r then (T.cw r).1 else T.cnt i) ∧ (T.sett r).wt i = (if i = r then (T.cw r).2 else T.wt i) := by
  unfold Tk.sett Tk.cw
  cases h : T.wt r with
  | none =>
    dsimp only
    constructor
    · split
      · rename_i e; rw [e]
      · rfl
    · split
      · rename_i e; rw [e, h]
      · rfl
  | some x =>
    obtain ⟨L, c⟩ := x
    exact ⟨rfl, rfl⟩
theorem Tk.settTo_cw (T : Tk) (i : Nat) : ∀ m, (T.settTo m).cnt i = (if i < m then (T.cw i).1 else T.cnt i) ∧ (T.settTo m).wt i = (if i < m then (T.cw i).2 else T.wt i)
  | 0 => by simp [Tk.settTo]
  | m + 1 => by
    obtain ⟨h1, h2⟩ := Tk.settTo_cw T i m
    obtain ⟨g1, g2⟩ := Tk.sett_cw (T.settTo m) m i
    obtain ⟨_, _, _, _, hh⟩ := T.settTo_bx m
    have hcw : i = m → (T.settTo m).cw m = T.cw m := fun e => by
      subst e
      rw [if_neg (Nat.lt_irrefl _)] at h1 h2
      unfold Tk.cw
      rw [h2, h1, hh]
    simp only [Tk.settTo]
    rw [g1, g2]
    by_cases e : i = m
    · rw [if_pos e, if_pos e, hcw e, if_pos (by omega), if_pos (by omega), e]
      exact ⟨rfl, rfl⟩
    · rw [if_neg e, if_neg e, h1, h2]
      by_cases h : i < m
      · rw [if_pos h, if_pos h, if_pos (by omega), if_pos (by omega)]; exact ⟨rfl, rfl⟩
      · rw [if_neg h, if_neg h, if_neg (by omega), if_neg (by omega)]; exact ⟨rfl, rfl⟩
theorem Tk.settle_n (T : Tk) : T.settle.n = T.n ∧ T.settle.own = T.own ∧ T.settle.has = T.has := by
  obtain ⟨_, _, h3, h4, h5⟩ := T.settTo_bx T.n
  exact ⟨h3, h4, h5⟩
theorem Tk.cw_le (T : Tk) (r q b : Nat) (hq : q < 8) : (T.cw r).1.get q ≤ b ↔ (T.cnt r).get q ≤ b ∧ ∀ v, v ∈ wkeys (T.wt r) → v.get r ≤ T.has.get r → v.get q ≤ b := by
  unfold Tk.cw
  cases h : T.wt r with
  | none => simp [wkeys]
  | some x =>
    obtain ⟨L, c⟩ := x
    show (settC T.has r (T.cnt r) L).get q ≤ b ↔ _
    unfold settC
    rw [joinL_le hq]
    simp only [wkeys, List.mem_filter, due, decide_eq_true_eq, and_imp]
theorem Tk.cw_mem (T : Tk) (r : Nat) (v : Vec) : v ∈ wkeys (T.cw r).2 ↔ v ∈ wkeys (T.wt r) ∧ T.has.get r < v.get r ∧ (T.cw r).1.above v = false := by
  unfold Tk.cw
  cases h : T.wt r with
  | none => simp [wkeys]
  | some x =>
    obtain ⟨L, c⟩ := x
    simp only [wkeys, MM.keys, settW, List.mem_map, List.mem_filter, due, Bool.and_eq_true, Bool.not_eq_true', decide_eq_false_iff_not, Nat.not_le]
    constructor
    · rintro ⟨x, ⟨h1, h2, h3⟩, rfl⟩
      exact ⟨⟨x, h1, rfl⟩, h2, h3⟩
    · rintro ⟨⟨x, h1, rfl⟩, h2, h3⟩
      exact ⟨x, ⟨h1, h2, h3⟩, rfl⟩
theorem Tk.Pre.settle {T : Tk} {H : Vec} {S : Nat → Vec → Prop} (h : T.Pre H S) (hn : T.n ≤ 8) (ho : T.own < T.n) : T.settle.Is H S := by
  obtain ⟨e1, e2, e3⟩ := T.settle_n
  have hc : ∀ i, T.settle.cnt i = if i = T.own then T.has else (T.settTo T.n).cnt i := fun i => rfl
  have hw : ∀ i, T.settle.wt i = (T.settTo T.n).wt i := fun i => rfl
  have hle : ∀ r, r < T.n → r ≠ T.own → ∀ q, q < 8 → ∀ b, (T.cw r).1.get q ≤ b ↔ ∀ v, S r v → v.get r ≤ H.get r → v.get q ≤ b := fun r hr hro q hq b => by
    rw [T.cw_le r q b hq, h.has]; exact h.cle r hr hro q hq b
  refine ⟨e3.trans h.has, ?_, fun r hr hro q hq b => ?_, fun r hr hro v => ?_, fun r hr => ?_⟩
  · rw [e2, hc, if_pos rfl, h.has]
  · rw [e1] at hr
    rw [e2] at hro
    rw [hc, if_neg hro, (T.settTo_cw r T.n).1, if_pos hr]
    exact hle r hr hro q hq b
  · rw [e1] at hr
    rw [e2] at hro
    rw [hw, (T.settTo_cw r T.n).2, if_pos hr, T.cw_mem, h.has]
    constructor
    · rintro ⟨h1, h2, _⟩
      exact ⟨(h.wts r hr hro v h2).1 h1, h2⟩
    · rintro ⟨h1, h2⟩
      refine ⟨(h.wts r hr hro v h2).2 h1, h2, ?_⟩
      cases ha : (T.cw r).1.above v with
      | false => rfl
      | true =>
        have a1 := Vec.above_iff.1 ha r (by omega)
        have a2 := (hle r hr hro r (by omega) (H.get r)).2 fun v _ hv => hv
        omega
  · rw [e1, e2] at hr
    rw [hw, (T.settTo_cw r T.n).2]
    have := h.wno r hr
    split
    · unfold Tk.cw; rw [this]
    · exact this
theorem newT_is (n own k : Nat) : (newT n own k).Is Vec.zero (fun _ _ => False) := by
  refine ⟨rfl, rfl, fun r _ _ q hq b => ?_, fun r _ _ v => ?_, fun r _ => rfl⟩
  · have : ((newT n own k).cnt r).get q = 0 := Vec.zero_get q
    rw [this]
    simp
  · simp [newT, wkeys]
theorem Tk.Is.hasV {T : Tk} {H : Vec} {S : Nat → Vec → Prop} (h : T.Is H S) (hn : T.n ≤ 8) (ho : T.own < T.n) {v : Vec} (h0 : (T.hasV v).2 = 0) : (T.hasV v).1.Is v S := by
  unfold Tk.hasV at h0 ⊢
  split at h0
  · cases h0
  rename_i hm
  rw [if_neg hm]
  split at h0
  · cases h0
  rename_i ha
  rw [if_neg ha]
  have ha : v.above T.has = true := by simpa using ha
  rw [h.has] at ha
  refine Tk.Pre.settle (T := T.setH v) ⟨rfl, fun r hr hro q hq b => ?_, fun r hr hro u hu => ?_, h.wno⟩ hn ho
  · have hr : r < T.n := hr
    have hro : r ≠ T.own := hro
    have hv := Vec.above_iff.1 ha r (by omega)
    show ((T.cnt r).get q ≤ b ∧ ∀ u, u ∈ wkeys (T.wt r) → u.get r ≤ v.get r → u.get q ≤ b) ↔ _
    rw [h.cle r hr hro q hq b]
    constructor
    · rintro ⟨h1, h2⟩ u hu hle
      by_cases hh : u.get r ≤ H.get r
      · exact h1 u hu hh
      · exact h2 u ((h.wts r hr hro u).2 ⟨hu, by omega⟩) hle
    · intro h1
      exact ⟨fun u hu hle => h1 u hu (by omega), fun u hu hle => h1 u ((h.wts r hr hro u).1 hu).1 hle⟩
  · have hr : r < T.n := hr
    have hro : r ≠ T.own := hro
    have hv := Vec.above_iff.1 ha r (by omega)
    show u ∈ wkeys (T.wt r) ↔ _
    have hu : v.get r < u.get r := hu
    rw [h.wts r hr hro u]
    exact ⟨fun h => h.1, fun h => ⟨h, by omega⟩⟩
theorem Tk.Is.heard {T : Tk} {H : Vec} {S : Nat → Vec → Prop} (h : T.Is H S) (hn : T.n ≤ 8) (ho : T.own < T.n) {r : Nat} (hr : r < T.n) (hro : r ≠ T.own) (v : Vec) (k : Nat) :
    (((T.opn r k).addw r v).settle).Is H (fun i u => S i u ∨ (i = r ∧ u = v)) := by
  obtain ⟨_, o2, o3, o4, o5⟩ := T.opn_bx r k
  obtain ⟨_, _, a3, a4⟩ := (T.opn r k).addw_bx r v
  have a5 : ((T.opn r k).addw r v).has = T.has := by
    rw [← o4]; unfold Tk.addw; split <;> rfl
  have a6 : ((T.opn r k).addw r v).cnt = T.cnt := by
    rw [← o5]; unfold Tk.addw; split <;> rfl
  have wo : ∀ i, i ≠ r → ((T.opn r k).addw r v).wt i = T.wt i := fun i hi => by
    have q1 : ((T.opn r k).addw r v).wt i = (T.opn r k).wt i := by
      unfold Tk.addw; split
      · rfl
      · exact if_neg hi
    rw [q1]
    unfold Tk.opn; split
    · exact if_neg hi
    · rfl
  have wr : ∀ u, u ∈ wkeys (((T.opn r k).addw r v).wt r) ↔ u ∈ wkeys (T.wt r) ∨ u = v := fun u => by
    have q1 : ∀ (T' : Tk) L c, T'.wt r = some (L, c) → (T'.addw r v).wt r = some (MM.put L c v 1, MM.clk L c v) := fun T' L c e => by
      unfold Tk.addw; rw [e]; exact if_pos rfl
    have key : ∀ (L : VMap) c, u ∈ MM.keys (MM.put L c v 1) ↔ u ∈ MM.keys L ∨ u = v := fun L c => by
      rw [MM.keys_put]
      split
      · rename_i hh
        exact ⟨.inl, fun h => h.elim id fun h => h ▸ MM.has_iff.1 hh⟩
      · simp
    cases e : T.wt r with
    | none =>
      have : (T.opn r k).wt r = some ([], 0) := by unfold Tk.opn; rw [e]; exact if_pos rfl
      rw [q1 _ _ _ this]
      exact key [] 0
    | some x =>
      obtain ⟨L, c⟩ := x
      have : (T.opn r k).wt r = some (L, c) := by unfold Tk.opn; rw [e]; exact e
      rw [q1 _ _ _ this]
      exact key L c
  refine Tk.Pre.settle (T := (T.opn r k).addw r v) ⟨a5.trans h.has, fun i hi hio q hq b => ?_, fun i hi hio u hu => ?_, fun i hi => ?_⟩ (by rw [a3, o2]; exact hn) (by rw [a4, o3, a3, o2]; exact ho)
  · rw [a3, o2] at hi
    rw [a4, o3] at hio
    rw [a6, h.cle i hi hio q hq b]
    by_cases e : i = r
    · subst e
      simp only [wr]
      constructor
      · rintro ⟨h1, h2⟩ u (hu | ⟨_, rfl⟩) hle
        · exact h1 u hu hle
        · exact h2 u (.inr rfl) hle
      · intro h1
        exact ⟨fun u hu hle => h1 u (.inl hu) hle, fun u hu hle => hu.elim (fun hu => h1 u (.inl ((h.wts i hi hio u).1 hu).1) hle) fun e => h1 u (.inr ⟨trivial, e⟩) hle⟩
    · rw [wo i e]
      constructor
      · rintro ⟨h1, _⟩ u (hu | ⟨e', _⟩) hle
        · exact h1 u hu hle
        · exact absurd e' e
      · intro h1
        exact ⟨fun u hu hle => h1 u (.inl hu) hle, fun u hu hle => h1 u (.inl ((h.wts i hi hio u).1 hu).1) hle⟩
  · rw [a3, o2] at hi
    rw [a4, o3] at hio
    by_cases e : i = r
    · subst e
      rw [wr, h.wts i hi hio u]
      constructor
      · rintro (h1 | rfl)
        · exact .inl h1.1
        · exact .inr ⟨rfl, rfl⟩
      · rintro (h1 | ⟨_, rfl⟩)
        · exact .inl ⟨h1, hu⟩
        · exact .inr rfl
    · rw [wo i e, h.wts i hi hio u]
      constructor
      · rintro ⟨h1, _⟩; exact .inl h1
      · rintro (h1 | ⟨e', _⟩)
        · exact ⟨h1, hu⟩
        · exact absurd e' e
  · rw [a3, o2, a4, o3] at hi
    rw [wo i (by omega)]
    exact h.wno i hi
/-- Whether Hear takes it down: of a replica that is one, and not the own. -/
def Tk.takes (T : Tk) (r : Nat) (v : Vec) : Bool := decide (r < T.n) && T.may v && decide (r ≠ T.own)
theorem Tk.Is.congr {T : Tk} {H : Vec} {S S' : Nat → Vec → Prop} (h : T.Is H S) (hS : ∀ r v, S r v ↔ S' r v) : T.Is H S' := by
  have : S = S' := funext fun r => funext fun v => propext (hS r v)
  rw [← this]; exact h
theorem Tk.Is.hearV {T : Tk} {H : Vec} {S : Nat → Vec → Prop} (h : T.Is H S) (hn : T.n ≤ 8) (ho : T.own < T.n) (r : Nat) (v : Vec) (k : Nat) :
    (T.hearV r v k).1.Is H (fun i u => S i u ∨ (i = r ∧ u = v ∧ T.takes r v = true)) := by
  unfold Tk.hearV Tk.takes
  by_cases h1 : T.n ≤ r
  · rw [if_pos h1]
    refine h.congr fun i u => ⟨.inl, fun hh => hh.elim id fun hh => ?_⟩
    have := hh.2.2
    simp at this
    omega
  rw [if_neg h1]
  by_cases h2 : T.may v = false
  · rw [if_pos h2]
    refine h.congr fun i u => ⟨.inl, fun hh => hh.elim id fun hh => ?_⟩
    have := hh.2.2
    simp [h2] at this
  rw [if_neg h2]
  by_cases h3 : r = T.own
  · rw [if_pos h3]
    have : T.Is H (fun i u => S i u ∨ (i = r ∧ u = v ∧ (decide (r < T.n) && T.may v && decide (r ≠ T.own)) = true)) := h.congr fun i u => ⟨.inl, fun hh => hh.elim id fun hh => by
      have := hh.2.2
      simp [h3] at this⟩
    split <;> exact this
  · rw [if_neg h3]
    refine (h.heard hn ho (by omega) h3 v k).congr fun i u => ?_
    have : (decide (r < T.n) && T.may v && decide (r ≠ T.own)) = true := by simp [h3]; exact ⟨by omega, by simpa using h2⟩
    simp only [this, and_true]

/-- Two that were told the same tell the same. -/
theorem Tk.Is.cnt_eq {T U : Tk} {H : Vec} {S : Nat → Vec → Prop} (h : T.Is H S) (g : U.Is H S) (hn : U.n = T.n) (ho : U.own = T.own) {r : Nat} (hr : r < T.n) : T.cnt r = U.cnt r := by
  by_cases e : r = T.own
  · rw [e, h.own, ← ho, g.own]
  · exact Vec.ext_le fun q hq b => by rw [h.cle r hr e q hq b, g.cle r (hn ▸ hr) (ho ▸ e) q hq b]
theorem Tk.Is.stab_eq {T U : Tk} {H : Vec} {S : Nat → Vec → Prop} (h : T.Is H S) (g : U.Is H S) (hn : U.n = T.n) (ho : U.own = T.own) : T.stab = U.stab := by
  unfold Tk.stab
  rw [hn]
  congr 1
  refine List.map_congr_left fun r hr => h.cnt_eq g hn ho (by simpa using hr)
theorem Tk.Is.wlen_eq {T U : Tk} {H : Vec} {S : Nat → Vec → Prop} (h : T.Is H S) (g : U.Is H S) (hn : U.n = T.n) (ho : U.own = T.own) (h1 : T.ww) (h2 : U.ww) {r : Nat} (hr : r < 8) : wlen (T.wt r) = wlen (U.wt r) := by
  by_cases e : T.n ≤ r ∨ r = T.own
  · rw [h.wno r e, g.wno r (by rw [hn, ho]; exact e)]
  · have e1 : r < T.n := by omega
    have e2 : r ≠ T.own := fun x => e (.inr x)
    rw [← wkeys_len, ← wkeys_len]
    refine List.Perm.length_eq ((List.perm_ext_iff_of_nodup (wkeys_nodup h1 hr) (wkeys_nodup h2 hr)).2 fun v => ?_)
    rw [h.wts r e1 e2 v, g.wts r (hn ▸ e1) (ho ▸ e2) v]
theorem Tk.Is.wsum_eq {T U : Tk} {H : Vec} {S : Nat → Vec → Prop} (h : T.Is H S) (g : U.Is H S) (hn : U.n = T.n) (ho : U.own = T.own) (h1 : T.ww) (h2 : U.ww) : ∀ {i : Nat}, i ≤ 8 → T.wsum i = U.wsum i
  | 0, _ => rfl
  | i + 1, hi => by
    simp only [Tk.wsum]
    rw [h.wsum_eq g hn ho h1 h2 (by omega : i ≤ 8), h.wlen_eq g hn ho h1 h2 (by omega : i < 8)]
end Go.Proofs.Ytdnjkeeiopcipaa

/-
  Duo trackers beside each other.
-/
set_option linter.unusedSectionVars false
set_option linter.unusedVariables false
set_option linter.unusedSimpArgs false
namespace Go.Proofs.Ytdnjkeeiopcipaa
open Go.Sl Go.Proofs

/-- An act. -/
structure Ac where
  own : Bool
  r : Nat
  v : Vec
def Ac.ds (a : Ac) : List DV := .bool a.own :: .int .u8 a.r :: a.v.ds
theorem Ac.ds_len (a : Ac) : a.ds.length = 10 := rfl
theorem ac_own {l : List Ac} {i : Nat} {x : Ac} (h : l[i]? = some x) : (List.map SV.d (l.flatMap Ac.ds))[i * 10]? = some (bl x.own) := by
  rw [List.getElem?_map]
  have := flat_get Ac.ds 10 (fun _ => rfl) l i 0 x h (by omega)
  rw [Nat.add_zero] at this
  rw [this]; rfl
theorem ac_r {l : List Ac} {i : Nat} {x : Ac} (h : l[i]? = some x) : (List.map SV.d (l.flatMap Ac.ds))[i * 10 + 1]? = some (u8 x.r) := by
  rw [List.getElem?_map, flat_get Ac.ds 10 (fun _ => rfl) l i 1 x h (by omega)]; rfl
theorem ac_v {l : List Ac} {i : Nat} {x : Ac} (h : l[i]? = some x) : List.take 8 (List.drop (i * 10 + 2) (List.map SV.d (l.flatMap Ac.ds))) = x.v.cells := by
  have h1 := flat_take Ac.ds 10 (fun _ => rfl) l i x h
  have h2 : (l.flatMap Ac.ds).drop (i * 10 + 2) = ((l.flatMap Ac.ds).drop (i * 10)).drop 2 := by rw [List.drop_drop]
  rw [← List.map_drop, ← List.map_take, h2]
  have h3 : (((l.flatMap Ac.ds).drop (i * 10)).drop 2).take 8 = (((l.flatMap Ac.ds).drop (i * 10)).take 10).drop 2 := by rw [List.drop_take]
  rw [h3, h1]; rfl
theorem ac_len (l : List Ac) : (l.flatMap Ac.ds).length = l.length * 10 := flat_length Ac.ds 10 (fun _ => rfl) l
theorem ac_room {l : List Ac} {i : Nat} {x : Ac} (h : l[i]? = some x) : (i * 10 + 2 + 8 ≤ (List.map SV.d (l.flatMap Ac.ds)).length) = True := eq_true (by
  have := lt_of_get h
  rw [List.length_map, ac_len]
  omega)

theorem lk_app (F G : Hp) (m : Nat) : lk (F ++ G) m = (lk F m).or (lk G m) := by
  unfold lk
  exact List.lookup_append ..
theorem Tk.ne_of_lk {T : Tk} (hs : T.sep) {m : Nat} (h : lk T.hp m = none) : m ≠ T.bx ∧ ∀ r, r < 8 → T.nm r ≠ m := by
  refine ⟨fun e => ?_, fun r hr e => ?_⟩
  · rw [e, show lk T.hp T.bx = _ from Tk.lkb] at h; cases h
  · rw [← e, show lk T.hp (T.nm r) = _ from Tk.lkm hs hr] at h; cases h
theorem Tk.has_lk {T : Tk} (hs : T.sep) (v : Vec) {m : Nat} (h : lk T.hp m = none) : lk (T.hasV v).1.hp m = none := by
  obtain ⟨h1, h2⟩ := Tk.ne_of_lk hs h
  obtain ⟨b1, b2⟩ := T.hasV_bx v
  exact Tk.lko (by rw [b1]; exact h1) fun r hr => by rw [b2]; exact h2 r hr
theorem Tk.hear_lk {T : Tk} (hs : T.sep) (r k : Nat) (v : Vec) {m : Nat} (h : lk T.hp m = none) (hk : m ≠ k) : lk (T.hearV r v k).1.hp m = none := by
  obtain ⟨h1, h2⟩ := Tk.ne_of_lk hs h
  obtain ⟨b1, b2⟩ := T.hear_nm r k v
  exact Tk.lko (by rw [b1]; exact h1) fun i hi => (b2 i).elim (fun e => by rw [e]; exact h2 i hi) fun e => by rw [e]; exact Ne.symm hk
theorem Tk.hear_n (T : Tk) (r k : Nat) (v : Vec) : (T.hearV r v k).1.n = T.n ∧ (T.hearV r v k).1.own = T.own := by
  unfold Tk.hearV
  split
  · exact ⟨rfl, rfl⟩
  split
  · exact ⟨rfl, rfl⟩
  split
  · split <;> exact ⟨rfl, rfl⟩
  · obtain ⟨e1, e2, _⟩ := ((T.opn r k).addw r v).settle_n
    obtain ⟨_, _, a3, a4⟩ := (T.opn r k).addw_bx r v
    obtain ⟨_, o2, o3, _⟩ := T.opn_bx r k
    exact ⟨e1.trans (a3.trans o2), e2.trans (a4.trans o3)⟩
theorem Tk.has_n (T : Tk) (v : Vec) : (T.hasV v).1.n = T.n ∧ (T.hasV v).1.own = T.own := by
  unfold Tk.hasV
  split
  · exact ⟨rfl, rfl⟩
  split
  · exact ⟨rfl, rfl⟩
  · obtain ⟨e1, e2, _⟩ := (T.setH v).settle_n
    exact ⟨e1, e2⟩
/-! how many wait -/
theorem Tk.settle_wl (T : Tk) (i : Nat) : wlen (T.settle.wt i) ≤ wlen (T.wt i) := by
  have hw : T.settle.wt i = (T.settTo T.n).wt i := rfl
  rw [hw, (T.settTo_cw i T.n).2]
  split
  · unfold Tk.cw
    cases T.wt i with
    | none => exact Nat.le_refl _
    | some x => exact List.length_filter_le _ _
  · exact Nat.le_refl _
theorem Tk.has_wl (T : Tk) (v : Vec) (i : Nat) : wlen ((T.hasV v).1.wt i) ≤ wlen (T.wt i) := by
  unfold Tk.hasV
  split
  · exact Nat.le_refl _
  split
  · exact Nat.le_refl _
  · exact (T.setH v).settle_wl i
theorem Tk.hear_wl (T : Tk) (r k : Nat) (v : Vec) (i : Nat) : wlen ((T.hearV r v k).1.wt i) ≤ wlen (T.wt i) + 1 := by
  unfold Tk.hearV
  split
  · exact Nat.le_succ _
  split
  · exact Nat.le_succ _
  split
  · split <;> exact Nat.le_succ _
  · refine Nat.le_trans (Tk.settle_wl _ i) ?_
    have h1 : wlen ((T.opn r k).wt i) = wlen (T.wt i) := by
      unfold Tk.opn
      split
      · rename_i h
        dsimp only
        split
        · rename_i e; rw [e, h]; rfl
        · rfl
      · rfl
    rw [← h1]
    unfold Tk.addw
    split
    · exact Nat.le_succ _
    · rename_i L c h
      by_cases e : i = r
      · subst e
        rw [show ((T.opn i k).setW i (some (MM.put L c v 1, MM.clk L c v))).wt i = some (MM.put L c v 1, MM.clk L c v) from if_pos rfl, h]
        show (MM.put L c v 1).length ≤ L.length + 1
        have hl := congrArg List.length (MM.keys_put (L := L) (c := c) (a := v) (v := 1))
        simp only [MM.keys, List.length_map] at hl
        rw [hl]
        split
        · simp
        · simp
      · rw [show ((T.opn r k).setW r (some (MM.put L c v 1, MM.clk L c v))).wt i = (T.opn r k).wt i from if_neg e]
        exact Nat.le_succ _
theorem Tk.wsum_le {T : Tk} {b : Nat} (h : ∀ i, wlen (T.wt i) ≤ b) : ∀ i, T.wsum i ≤ i * b
  | 0 => by simp [Tk.wsum]
  | i + 1 => by
    have h1 := Tk.wsum_le h i
    have h2 := h i
    simp only [Tk.wsum, Nat.add_mul, Nat.one_mul]
    omega

/-- Duo trackers beside each other, and beside what is called 0. -/
structure Duo (A B : Tk) (k n own : Nat) : Prop where
  a : A.good k
  b : B.good k
  an : A.n = n
  bn : B.n = n
  ao : A.own = own
  bo : B.own = own
  za : lk A.hp 0 = none
  zb : lk B.hp 0 = none
  d : ∀ m, lk B.hp m ≠ none → lk A.hp m = none
  z : 0 < k
section
variable {A B : Tk} {k n own : Nat} (h : Duo A B k n own)
include h
theorem Duo.d' (m : Nat) (hm : lk A.hp m ≠ none) : lk B.hp m = none := by
  cases hh : lk B.hp m with
  | none => rfl
  | some o => exact absurd (h.d m (by rw [hh]; simp)) hm
theorem Duo.subA {o : Ob} : HSub A.hp ((0, o) :: (A.hp ++ B.hp)) := fun m ob hm => by
  rw [lk_cons, if_neg fun e => by rw [e, h.za] at hm; cases hm]
  rw [lk_app, hm]; rfl
theorem Duo.subB {o : Ob} : HSub B.hp ((0, o) :: (A.hp ++ B.hp)) := fun m ob hm => by
  rw [lk_cons, if_neg fun e => by rw [e, h.zb] at hm; cases hm]
  rw [lk_app, h.d m (by rw [hm]; simp), hm]; rfl
theorem Duo.mono {k' : Nat} (hk : k ≤ k') : Duo A B k' n own := ⟨h.a.mono hk, h.b.mono hk, h.an, h.bn, h.ao, h.bo, h.za, h.zb, h.d, by have := h.z; omega⟩
theorem Duo.ok {o : Ob} (ho : ∀ q, o.ok q = true) : Hp.ok (fun m => decide (m < k)) ((0, o) :: (A.hp ++ B.hp)) = true := by
  have h1 := Tk.okk h.a.lt
  have h2 := Tk.okk h.b.lt
  simp only [Hp.ok, List.all_cons, List.all_append, ho, Bool.and_true, Bool.and_eq_true, decide_eq_true_eq] at h1 h2 ⊢
  exact ⟨h.z, h1, h2⟩
theorem Duo.lks {o : Ob} : ∀ x, x ∈ ((0, o) :: (A.hp ++ B.hp) : Hp) → lk ((0, o) :: (A.hp ++ B.hp)) x.1 = some x.2 := fun x hx => by
  rcases List.mem_cons.1 hx with rfl | hx
  · rw [lk_cons, if_pos rfl]
  rcases List.mem_append.1 hx with hx | hx
  · exact h.subA _ _ (lk_of_nodup (Tk.nodup h.a.sep) x hx)
  · exact h.subB _ _ (lk_of_nodup (Tk.nodup h.b.sep) x hx)
theorem Duo.fresh {o : Ob} {m : Nat} (hm : k ≤ m) : lk ((0, o) :: (A.hp ++ B.hp)) m = none := by
  have := h.z
  rw [lk_cons, if_neg (by omega), lk_app, show lk A.hp m = none from Tk.lkk h.a.lt hm, show lk B.hp m = none from Tk.lkk h.b.lt hm]; rfl
theorem Duo.stepA {A' : Tk} {o : Ob} (hA : A'.sep) (hd : ∀ m, m < k → lk A.hp m = none → lk A'.hp m = none) :
    ∀ x, x ∈ ((0, o) :: (A'.hp ++ B.hp) : Hp) → lk (hsets (hdels ((0, o) :: (A.hp ++ B.hp)) A'.hp A.hp) A'.hp) x.1 = some x.2 := fun x hx => by
  have out : ∀ m ob, m < k → lk A.hp m = none → lk ((0, o) :: (A.hp ++ B.hp)) m = some ob → lk (hsets (hdels ((0, o) :: (A.hp ++ B.hp)) A'.hp A.hp) A'.hp) m = some ob := fun m ob h1 h2 h3 => by
    rw [outX h.subA h2 (hd m h1 h2)]; exact h3
  rcases List.mem_cons.1 hx with rfl | hx
  · exact out 0 o h.z h.za (by rw [lk_cons, if_pos rfl])
  rcases List.mem_append.1 hx with hx | hx
  · exact subX h.subA _ _ (lk_of_nodup (Tk.nodup hA) x hx)
  · have hl := lk_of_nodup (Tk.nodup h.b.sep) x hx
    refine out x.1 x.2 ?_ (h.d _ (by rw [hl]; simp)) (h.subB _ _ hl)
    rcases Nat.lt_or_ge x.1 k with h1 | h1
    · exact h1
    · rw [show lk B.hp x.1 = none from Tk.lkk h.b.lt h1] at hl; cases hl
theorem Duo.stepB {B' : Tk} {o : Ob} (hB : B'.sep) (hd : ∀ m, m < k → lk B.hp m = none → lk B'.hp m = none) :
    ∀ x, x ∈ ((0, o) :: (A.hp ++ B'.hp) : Hp) → lk (hsets (hdels ((0, o) :: (A.hp ++ B.hp)) B'.hp B.hp) B'.hp) x.1 = some x.2 := fun x hx => by
  have out : ∀ m ob, m < k → lk B.hp m = none → lk ((0, o) :: (A.hp ++ B.hp)) m = some ob → lk (hsets (hdels ((0, o) :: (A.hp ++ B.hp)) B'.hp B.hp) B'.hp) m = some ob := fun m ob h1 h2 h3 => by
    rw [outX h.subB h2 (hd m h1 h2)]; exact h3
  rcases List.mem_cons.1 hx with rfl | hx
  · exact out 0 o h.z h.zb (by rw [lk_cons, if_pos rfl])
  rcases List.mem_append.1 hx with hx | hx
  · have hl := lk_of_nodup (Tk.nodup h.a.sep) x hx
    refine out x.1 x.2 ?_ (h.d' _ (by rw [hl]; simp)) (h.subA _ _ hl)
    rcases Nat.lt_or_ge x.1 k with h1 | h1
    · exact h1
    · rw [show lk A.hp x.1 = none from Tk.lkk h.a.lt h1] at hl; cases hl
  · exact subX h.subB _ _ (lk_of_nodup (Tk.nodup hB) x hx)
theorem Duo.hearA (r : Nat) (v : Vec) : Duo (A.hearV r v (k + 2)).1 B (k + 6) n own := by
  have hg := Tk.hearV_good (h.a.mono (show k ≤ k + 2 by omega)) r v
  obtain ⟨e1, e2⟩ := A.hear_n r (k + 2) v
  have hz := h.z
  refine ⟨hg.mono (by omega), h.b.mono (by omega), e1.trans h.an, h.bn, e2.trans h.ao, h.bo, Tk.hear_lk h.a.sep r _ v h.za (by omega), h.zb, fun m hm => ?_, by omega⟩
  refine Tk.hear_lk h.a.sep r _ v (h.d m hm) fun e => hm ?_
  exact Tk.lkk h.b.lt (by omega)
theorem Duo.hearB (r : Nat) (v : Vec) : Duo A (B.hearV r v (k + 2)).1 (k + 6) n own := by
  have hg := Tk.hearV_good (h.b.mono (show k ≤ k + 2 by omega)) r v
  obtain ⟨e1, e2⟩ := B.hear_n r (k + 2) v
  have hz := h.z
  refine ⟨h.a.mono (by omega), hg.mono (by omega), h.an, e1.trans h.bn, h.ao, e2.trans h.bo, h.za, Tk.hear_lk h.b.sep r _ v h.zb (by omega), fun m hm => ?_, by omega⟩
  cases hh : lk A.hp m with
  | none => rfl
  | some o =>
    have h1 : m ≠ k + 2 := fun e => by rw [show lk A.hp m = none from Tk.lkk h.a.lt (by omega)] at hh; cases hh
    exact absurd (Tk.hear_lk h.b.sep r _ v (h.d' m (by rw [hh]; simp)) h1) hm
theorem Duo.hasA (v : Vec) : Duo (A.hasV v).1 B k n own := by
  obtain ⟨e1, e2⟩ := A.has_n v
  exact ⟨Tk.hasV_good h.a v, h.b, e1.trans h.an, h.bn, e2.trans h.ao, h.bo, Tk.has_lk h.a.sep v h.za, h.zb, fun m hm => Tk.has_lk h.a.sep v (h.d m hm), h.z⟩
theorem Duo.hasB (v : Vec) : Duo A (B.hasV v).1 k n own := by
  obtain ⟨e1, e2⟩ := B.has_n v
  refine ⟨h.a, Tk.hasV_good h.b v, h.an, e1.trans h.bn, h.ao, e2.trans h.bo, h.za, Tk.has_lk h.b.sep v h.zb, fun m hm => ?_, h.z⟩
  cases hh : lk A.hp m with
  | none => rfl
  | some o => exact absurd (Tk.has_lk h.b.sep v (h.d' m (by rw [hh]; simp))) hm
end
theorem newT_lk {n own b m : Nat} (h : m < b ∨ b + 9 ≤ m) : lk (newT n own b).hp m = none := Tk.lko (by show m ≠ b; omega) fun r hr => by show b + 1 + r ≠ m; omega
theorem newT_two {n own : Nat} (hn : 1 ≤ n ∧ n ≤ 8) (ho : own < n) : Duo (newT n own 1) (newT n own 10) 19 n own := by
  refine ⟨(newT_good hn ho 1).mono (by omega), newT_good hn ho 10, rfl, rfl, rfl, rfl, newT_lk (by omega), newT_lk (by omega), fun m hm => ?_, by omega⟩
  rcases Nat.lt_or_ge m 10 with h1 | h1
  · exact absurd (newT_lk (.inl h1)) hm
  · exact newT_lk (.inr (by omega))
theorem Tk.takes_new {T : Tk} {n own : Nat} (h1 : T.n = n) (h2 : T.own = own) (r : Nat) (v : Vec) : T.takes r v = (newT n own 0).takes r v := by
  unfold Tk.takes Tk.may
  rw [h1, h2]; rfl
theorem Tk.may_new {T : Tk} {n own : Nat} (h1 : T.n = n) (v : Vec) : T.may v = (newT n own 0).may v := by
  unfold Tk.may
  rw [h1]; rfl
/-- All that the first of a row, or the last, tell. -/
def toldTo (n own : Nat) (l : List Ac) (p : Nat → Prop) : Nat → Vec → Prop := fun r v => ∃ j x, p j ∧ l[j]? = some x ∧ x.r ≠ 0 ∧ x.r = r ∧ x.v = v ∧ (newT n own 0).takes r v = true
end Go.Proofs.Ytdnjkeeiopcipaa

/-
  Trackers: the law of acks turned.
-/
set_option linter.unusedSectionVars false
set_option linter.unusedVariables false
set_option linter.unusedSimpArgs false
namespace Go.Proofs.Ytdnjkeeiopcipaa
open Go.Sl Go.Proofs

theorem newZ_at (n own : Nat) (hn : 1 ≤ n ∧ n ≤ 8) (ho : own < n) (k : Nat) (x : SV) (hx : x = u8 own) : SCd Try.prog stable_New.f [i64 n, x] [] k 9 (.tup [.ptr k 0, .d (.int .i64 0)]) (newT n own k).hp := by rw [hx]; exact new_at n own hn ho k
theorem new0_at (n : Int) (own : Nat) (hn : -9223372036854775808 ≤ n ∧ n < 9223372036854775808) (ho : own < 256) (hbad : ¬ (1 ≤ n ∧ n ≤ 8 ∧ (own : Int) < n)) (k : Nat) (x : SV) (hx : x = u8 own) :
    SCd Try.prog stable_New.f [.d (.int .i64 n), x] [] k 0 (.tup [.d .nilp, .d (.int .i64 2)]) [] := by rw [hx]; exact (new0_sb n own hn ho hbad).sc rfl k
theorem toldTo_succ {n own : Nat} {l : List Ac} {i : Nat} {x : Ac} (hx : l[i]? = some x) (h0 : x.r ≠ 0) (r : Nat) (v : Vec) :
    (toldTo n own l (· < i) r v ∨ (r = x.r ∧ v = x.v ∧ (newT n own 0).takes x.r x.v = true)) ↔ toldTo n own l (· < i + 1) r v := by
  constructor
  · rintro (⟨j, y, h1, h2⟩ | ⟨rfl, rfl, h3⟩)
    · exact ⟨j, y, by omega, h2⟩
    · exact ⟨i, x, by omega, hx, h0, rfl, rfl, h3⟩
  · rintro ⟨j, y, h1, h2, h3, h4, h5, h6⟩
    rcases Nat.lt_or_ge j i with h | h
    · exact .inl ⟨j, y, h, h2, h3, h4, h5, h6⟩
    · have e : j = i := by omega
      subst e
      rw [hx] at h2
      injection h2 with h2
      subst h2
      exact .inr ⟨h4.symm, h5.symm, by rw [h4, h5]; exact h6⟩
theorem toldTo_skip {n own : Nat} {l : List Ac} {i : Nat} {x : Ac} (hx : l[i]? = some x) (h0 : x.r = 0) (r : Nat) (v : Vec) : toldTo n own l (· < i) r v ↔ toldTo n own l (· < i + 1) r v := by
  constructor
  · rintro ⟨j, y, h1, h2⟩; exact ⟨j, y, by omega, h2⟩
  · rintro ⟨j, y, h1, h2, h3, h4⟩
    refine ⟨j, y, ?_, h2, h3, h4⟩
    rcases Nat.lt_or_ge j i with h | h
    · exact h
    · have e : j = i := by omega
      subst e
      rw [hx] at h2
      injection h2 with h2
      subst h2
      exact absurd h0 h3
theorem toldDn_succ {n own : Nat} {l : List Ac} {m i : Nat} {x : Ac} (hi : i < m) (hx : l[i]? = some x) (h0 : x.r ≠ 0) (r : Nat) (v : Vec) :
    (toldTo n own l (fun j => (i : Int) < j ∧ j < m) r v ∨ (r = x.r ∧ v = x.v ∧ (newT n own 0).takes x.r x.v = true)) ↔ toldTo n own l (fun j => (i : Int) - 1 < j ∧ j < m) r v := by
  constructor
  · rintro (⟨j, y, h1, h2⟩ | ⟨rfl, rfl, h3⟩)
    · exact ⟨j, y, ⟨by omega, h1.2⟩, h2⟩
    · exact ⟨i, x, ⟨by omega, hi⟩, hx, h0, rfl, rfl, h3⟩
  · rintro ⟨j, y, h1, h2, h3, h4, h5, h6⟩
    rcases Nat.lt_or_ge i j with h | h
    · exact .inl ⟨j, y, ⟨by omega, h1.2⟩, h2, h3, h4, h5, h6⟩
    · have e : j = i := by omega
      subst e
      rw [hx] at h2
      injection h2 with h2
      subst h2
      exact .inr ⟨h4.symm, h5.symm, by rw [h4, h5]; exact h6⟩
theorem toldDn_skip {n own : Nat} {l : List Ac} {m i : Nat} {x : Ac} (hx : l[i]? = some x) (h0 : x.r = 0) (r : Nat) (v : Vec) : toldTo n own l (fun j => (i : Int) < j ∧ j < m) r v ↔ toldTo n own l (fun j => (i : Int) - 1 < j ∧ j < m) r v := by
  constructor
  · rintro ⟨j, y, h1, h2⟩; exact ⟨j, y, ⟨by omega, h1.2⟩, h2⟩
  · rintro ⟨j, y, h1, h2, h3, h4⟩
    refine ⟨j, y, ⟨?_, h1.2⟩, h2, h3, h4⟩
    rcases Nat.lt_or_ge i j with h | h
    · omega
    · have e : j = i := by omega
      subst e
      rw [hx] at h2
      injection h2 with h2
      subst h2
      exact absurd h0 h3

section
attribute [local irreducible] SW RW SCd SC CallP Pruned Tk.hp Tk.cells newT Tk.hasV Tk.hearV Tk.stab Tk.wsum
set_option maxHeartbeats 4000000 in
theorem turned_body (n : Nat) (hn : 1 ≤ n ∧ n ≤ 8) (l : List Ac) (hl : ∀ x, x ∈ l → x.r < 256) (hlen : l.length ≤ 9223372036854775807) (has : Vec) : Go.Sl.Pure Try.prog law12_StableTurned.f [i64 n, .d (.sl l.length (l.flatMap Ac.ds)), .agg has.cells] (bl true) := by
  refine law12_StableTurned.enter (by first | rfl | simp [SV.ok, SV.oks]) (by first | rfl | simp [Hp.ok, Ob.ok, SV.ok, SV.oks, Vec.cells_ok]) (by simp) ?_
  unfold law12_StableTurned.s
  have hT0 := newT_two (own := 0) hn (by omega)
  obtain ⟨A, hA⟩ : ∃ A, newT n 0 1 = A := ⟨_, rfl⟩
  obtain ⟨B, hB⟩ : ∃ B, newT n 0 10 = B := ⟨_, rfl⟩
  rw [hA, hB] at hT0
  have bA : A.bx = 1 := by rw [← hA]; unfold newT; rfl
  have bB : B.bx = 10 := by rw [← hB]; unfold newT; rfl
  have hc1 := newZ_at n 0 hn (by omega) 1 (.d (.int .u8 0)) rfl
  have hc2 := newZ_at n 0 hn (by omega) 10 (.d (.int .u8 0)) rfl
  rw [hA] at hc1
  rw [hB] at hc2
  obtain ⟨X1, h1⟩ : ∃ X, hsets [(0, Ob.box 25 has.cells)] A.hp = X := ⟨_, rfl⟩
  obtain ⟨X2, h2⟩ : ∃ X, hsets X1 B.hp = X := ⟨_, rfl⟩
  refine SW.seq ?_
  (refine SW.regL [0, 1, 2, 5, 6, 7, 8, 9, 11, 12, 13, 33, 38, 45, 53, 69, 77] mixed ?_; (repeat (first | refine RW.ro bq_tt (h := ?_) | refine RW.skip (h := ?_) | refine RW.op bq_tt (h := ?_) | refine RW.opN bq_tt (h := ?_) | refine RW.skip0 (h := ?_))); refine RW.nil ⟨conf_of (by kernel_rfl), Pruned.mk (h := ?_)⟩)
  refine SW.seq ?_
  (refine SW.regL [0, 1, 2, 5, 6, 7, 8, 9, 11, 12, 13, 33, 38, 45, 53, 69, 77] mixed ?_; (repeat (first | refine RW.ro (h1) (h := ?_) | refine RW.skip (h := ?_) | refine RW.op (h1) (h := ?_) | refine RW.opN (h1) (h := ?_) | refine RW.skip0 (h := ?_) | (refine RW.callC (h := ?_); (first | refine CallP.mk (h1) (hc := hc1) (h := ?_))))); refine RW.nil ⟨conf_of (by kernel_rfl), Pruned.mk (h := ?_)⟩)
  refine SW.seq ?_
  (refine SW.regL [0, 1, 2, 5, 6, 7, 8, 9, 11, 12, 13, 33, 38, 45, 53, 69, 77] mixed ?_; (repeat (first | refine RW.ro (h2) (h := ?_) | refine RW.skip (h := ?_) | refine RW.op (h2) (h := ?_) | refine RW.opN (h2) (h := ?_) | refine RW.skip0 (h := ?_) | (refine RW.callC (h := ?_); (first | refine CallP.mk (h2) (hc := hc2) (h := ?_))))); refine RW.nil ⟨conf_of (by kernel_rfl), Pruned.mk (h := ?_)⟩)
  refine SW.weak id (st1 := ⟨[(0, i64 n), (1, .d (.sl l.length (l.flatMap Ac.ds))), (5, .ptr 0 0), (7, .ptr A.bx 0), (8, .d (.int .i64 0)), (9, .ptr B.bx 0)], (0, .box 25 has.cells) :: (A.hp ++ B.hp), 19⟩) (Weak.same (by simp) (by simp [EnvW, List.lookup, SV.ren, SV.ok, bA, bB]) (hT0.ok fun _ => rfl) (fun x hx => ?_)) ?_
  · have s1 : HSub A.hp X1 := by rw [← h1]; exact subX (H := [(0, Ob.box 25 has.cells)]) (F := []) (HSub.nil _)
    have s2 : HSub B.hp X2 := by rw [← h2]; exact subX (H := X1) (F := []) (HSub.nil _)
    have o2 : ∀ m, lk B.hp m = none → lk X2 m = lk X1 m := fun m hm => by rw [← h2]; exact outX (H := X1) (F := []) (HSub.nil _) rfl hm
    have o1 : ∀ m, lk A.hp m = none → lk X1 m = lk [(0, Ob.box 25 has.cells)] m := fun m hm => by rw [← h1]; exact outX (H := [(0, Ob.box 25 has.cells)]) (F := []) (HSub.nil _) rfl hm
    rcases List.mem_cons.1 hx with rfl | hx
    · dsimp only
      rw [o2 0 hT0.zb, o1 0 hT0.za]; rfl
    rcases List.mem_append.1 hx with hx | hx
    · have hl := lk_of_nodup (Tk.nodup hT0.a.sep) x hx
      rw [o2 x.1 (hT0.d' _ (by rw [hl]; simp))]
      exact s1 _ _ hl
    · exact s2 _ _ (lk_of_nodup (Tk.nodup hT0.b.sep) x hx)
  refine SW.seq (SW.seq ?_)
  (refine SW.regL [0, 1, 2, 5, 6, 7, 8, 9, 11, 12, 13, 33, 38, 45, 53, 69, 77] mixed ?_; (repeat (first | refine RW.ro bq_tt (h := ?_) | refine RW.skip (h := ?_) | refine RW.op bq_tt (h := ?_) | refine RW.opN bq_tt (h := ?_) | refine RW.skip0 (h := ?_))); refine RW.nil ⟨conf_of (by kernel_rfl), Pruned.mk (h := ?_)⟩)
  refine SW.condF rfl (SW.skip ?_)
  refine (?_ : Sl.SW _ _ _ _ _ _)
  refine SW.seq (SW.seq ?_)
  have sA0 : HSub A.hp ((0, Ob.box 25 has.cells) :: (A.hp ++ B.hp)) := hT0.subA
  have hcH := has_at (T := A) hT0.a.sep hT0.a.lt hT0.a.n0 hT0.a.n8 hT0.a.own8 hT0.a.ww has
  obtain ⟨X3, h3⟩ : ∃ X, hsets (hdels ((0, Ob.box 25 has.cells) :: (A.hp ++ B.hp)) (A.hasV has).1.hp A.hp) (A.hasV has).1.hp = X := ⟨_, rfl⟩
  by_cases hv0 : (A.hasV has).2 = 0
  case neg =>
    have e1 : ((((A.hasV has).2 : Nat) : Int) != 0) = true := by simpa using hv0
    (refine SW.regL [0, 1, 2, 5, 6, 7, 8, 9, 11, 12, 13, 33, 38, 45, 53, 69, 77] mixed ?_; (repeat (first | refine RW.ro (And.intro (h3) (e1)) (h := ?_) | refine RW.skip (h := ?_) | refine RW.op (And.intro (h3) (e1)) (h := ?_) | refine RW.opN (And.intro (h3) (e1)) (h := ?_) | refine RW.skip0 (h := ?_) | (refine RW.callC (h := ?_); (first | refine CallP.mk (And.intro (h3) (e1)) (hs := sA0) (hc := hcH) (h := ?_))))); refine RW.nil ⟨conf_of (by kernel_rfl), Pruned.mk (h := ?_)⟩)
    refine SW.condT rfl (SW.seq ?_)
    refine SW.weak id (st1 := ⟨[], [], 24⟩) (Weak.same (by simp) (by simp [EnvW]) rfl (fun x hx => by cases hx)) ?_
    (refine SW.regL [0, 1, 2, 5, 6, 7, 8, 9, 11, 12, 13, 33, 38, 45, 53, 69, 77] mixed ?_; (repeat (first | refine RW.ro bq_tt (h := ?_) | refine RW.skip (h := ?_) | refine RW.op bq_tt (h := ?_) | refine RW.opN bq_tt (h := ?_) | refine RW.skip0 (h := ?_) | (refine RW.callC (h := ?_); (first | refine CallP.mk bq_tt (hc := head12_at _) (h := ?_))))); refine RW.nil ⟨conf_of (by kernel_rfl), Pruned.mk (h := ?_)⟩)
    refine SW.ret ?_
    exact End.mk [] (h4 := ⟨rfl, rfl⟩)
  have e1 : ((((A.hasV has).2 : Nat) : Int) != 0) = false := by rw [hv0]; rfl
  (refine SW.regL [0, 1, 2, 5, 6, 7, 8, 9, 11, 12, 13, 33, 38, 45, 53, 69, 77] mixed ?_; (repeat (first | refine RW.ro (And.intro (h3) (e1)) (h := ?_) | refine RW.skip (h := ?_) | refine RW.op (And.intro (h3) (e1)) (h := ?_) | refine RW.opN (And.intro (h3) (e1)) (h := ?_) | refine RW.skip0 (h := ?_) | (refine RW.callC (h := ?_); (first | refine CallP.mk (And.intro (h3) (e1)) (hs := sA0) (hc := hcH) (h := ?_))))); refine RW.nil ⟨conf_of (by kernel_rfl), Pruned.mk (h := ?_)⟩)
  refine SW.condF rfl (SW.skip ?_)
  refine (?_ : Sl.SW _ _ _ _ _ _)
  have hT1 := (hT0.hasA has).mono (k' := 24) (by omega)
  have hI1 : (A.hasV has).1.Is has (fun _ _ => False) := by
    have := newT_is n 0 1
    rw [hA] at this
    exact this.hasV hT0.a.n8 hT0.a.own hv0
  refine SW.weak id (st1 := ⟨[(0, i64 n), (1, .d (.sl l.length (l.flatMap Ac.ds))), (5, .ptr 0 0), (7, .ptr (A.hasV has).1.bx 0), (9, .ptr B.bx 0)], (0, .box 25 has.cells) :: ((A.hasV has).1.hp ++ B.hp), 24⟩) (Weak.same (by simp) (by simp [EnvW, List.lookup, SV.ren, SV.ok, (A.hasV_bx has).1, bA, bB]) (hT1.ok fun _ => rfl) (fun x hx => by rw [← h3]; exact hT0.stepA (Tk.hasV_good hT0.a has).sep (fun m _ hm => Tk.has_lk hT0.a.sep has hm) x hx)) ?_
  clear h1 h2 h3 hc1 hc2 hcH sA0
  obtain ⟨A1, hA1⟩ : ∃ A1, (A.hasV has).1 = A1 := ⟨_, rfl⟩
  rw [hA1] at hT1 hI1
  rw [hA1]
  have wA1 : ∀ i, wlen (A1.wt i) ≤ 0 := fun i => by
    have := A.has_wl has i
    rw [hA1] at this
    have h0 : wlen (A.wt i) = 0 := by rw [← hA]; unfold newT; rfl
    omega
  have bA1 : A1.bx = 1 := by rw [← hA1, (A.hasV_bx has).1, bA]
  refine SW.seq ?_
  obtain ⟨m, hm⟩ : ∃ m : Nat, min l.length 30 = m := ⟨_, rfl⟩
  have hm1 : m ≤ l.length ∧ m ≤ 30 := by omega
  have em : (if (30 : Int) < (l.length : Int) then (30 : Int) else (l.length : Int)) = (m : Int) := by split <;> omega
  (refine SW.regL [0, 1, 2, 5, 6, 7, 8, 9, 11, 12, 13, 33, 38, 45, 53, 69, 77] mixed ?_; (repeat (first | refine RW.ro (em) (h := ?_) | refine RW.skip (h := ?_) | refine RW.op (em) (h := ?_) | refine RW.opN (em) (h := ?_) | refine RW.skip0 (h := ?_))); refine RW.nil ⟨conf_of (by kernel_rfl), Pruned.mk (h := ?_)⟩)
  refine SW.seq (SW.seq ?_)
  (refine SW.regL [0, 1, 2, 5, 6, 7, 8, 9, 11, 12, 13, 33, 38, 45, 53, 69, 77] mixed ?_; (repeat (first | refine RW.ro bq_tt (h := ?_) | refine RW.skip (h := ?_) | refine RW.op bq_tt (h := ?_) | refine RW.opN bq_tt (h := ?_) | refine RW.skip0 (h := ?_))); refine RW.nil ⟨conf_of (by kernel_rfl), Pruned.mk (h := ?_)⟩)
  refine SW.block ?_
  let G : Tk → Nat → Nat → Prop := fun A' k i => i ≤ m ∧ Duo A' B k n 0 ∧ A'.Is has (toldTo n 0 l (· < i)) ∧ ∀ r, wlen (A'.wt r) ≤ i
  refine SW.loop (α := {x : Nat × Tk × Nat // G x.2.1 x.2.2 x.1}) (fun x => ⟨[(12, i64 x.1.1), (11, i64 m), (0, i64 n), (1, .d (.sl l.length (l.flatMap Ac.ds))), (5, .ptr 0 0), (7, .ptr x.1.2.1.bx 0), (9, .ptr B.bx 0)], (0, .box 25 has.cells) :: (x.1.2.1.hp ++ B.hp), x.1.2.2⟩) (fun x => m - x.1.1)
    ⟨(0, A1, 24), by omega, hT1, hI1.congr fun r v => ⟨False.elim, fun ⟨j, _, h, _⟩ => absurd h (Nat.not_lt_zero _)⟩, wA1⟩ id ?_ ?_
  · exact Weak.same (by simp) (by simp [EnvW, List.lookup, SV.ren, SV.ok, bA1, bB]) (hT1.ok fun _ => rfl) hT1.lks
  rintro ⟨⟨i, A', k⟩, hi, hT, hI, hw⟩
  dsimp only at hi hT hI hw ⊢
  have hAb : A'.bx < k := hT.a.lt.bx
  have hBb : B.bx < k := hT.b.lt.bx
  have hk0 := hT.z
  by_cases h : i < m
  · have h1 : decide ((i : Int) < m) = true := by simp only [decide_eq_true_eq]; omega
    obtain ⟨x, hx⟩ := get_of_lt (show i < l.length by omega)
    have hxr := hl x (List.mem_of_getElem? hx)
    refine SW.seq (SW.seq ?_)
    (refine SW.regL [0, 1, 2, 5, 6, 7, 8, 9, 11, 12, 13, 33, 38, 45, 53, 69, 77] mixed ?_; (repeat (first | refine RW.ro (h1) (h := ?_) | refine RW.skip (h := ?_) | refine RW.op (h1) (h := ?_) | refine RW.opN (h1) (h := ?_) | refine RW.skip0 (h := ?_))); refine RW.nil ⟨conf_of (by kernel_rfl), Pruned.mk (h := ?_)⟩)
    refine SW.condT rfl (SW.skip ?_)
    refine (?_ : Sl.SW _ _ _ _ _ _)
    refine SW.seq (SW.block (SW.seq ?_))
    have e2 : IntKind.i64.wrap ((i : Int) + 1) = ((i + 1 : Nat) : Int) := wrap_i64 _ (by omega)
    by_cases h0 : x.r = 0
    · have hr : (((x.r : Nat) : Int) != 0) = false := by rw [h0]; rfl
      (refine SW.regL [0, 1, 2, 5, 6, 7, 8, 9, 11, 12, 13, 33, 38, 45, 53, 69, 77] mixed ?_; (repeat (first | refine RW.ro (And.intro (ac_r hx) (hr)) (h := ?_) | refine RW.skip (h := ?_) | refine RW.op (And.intro (ac_r hx) (hr)) (h := ?_) | refine RW.opN (And.intro (ac_r hx) (hr)) (h := ?_) | refine RW.skip0 (h := ?_))); refine RW.nil ⟨conf_of (by kernel_rfl), Pruned.mk (h := ?_)⟩)
      refine SW.condF rfl (SW.skip ?_)
      (refine SW.regL [0, 1, 2, 5, 6, 7, 8, 9, 11, 12, 13, 33, 38, 45, 53, 69, 77] mixed ?_; (repeat (first | refine RW.ro (e2) (h := ?_) | refine RW.skip (h := ?_) | refine RW.op (e2) (h := ?_) | refine RW.opN (e2) (h := ?_) | refine RW.skip0 (h := ?_))); refine RW.nil ⟨conf_of (by kernel_rfl), Pruned.mk (h := ?_)⟩)
      exact ⟨⟨(i + 1, A', k), by omega, hT, hI.congr fun r v => toldTo_skip hx h0 r v, fun r => by have := hw r; show wlen (A'.wt r) ≤ i + 1; omega⟩, id, by simp <;> omega, Weak.same (by simp) (by simp [EnvW, List.lookup, SV.ren, SV.ok]; omega) (hT.ok fun _ => rfl) hT.lks⟩
    · have hr : (((x.r : Nat) : Int) != 0) = true := by simpa using h0
      (refine SW.regL [0, 1, 2, 5, 6, 7, 8, 9, 11, 12, 13, 33, 38, 45, 53, 69, 77] mixed ?_; (repeat (first | refine RW.ro (And.intro (ac_r hx) (hr)) (h := ?_) | refine RW.skip (h := ?_) | refine RW.op (And.intro (ac_r hx) (hr)) (h := ?_) | refine RW.opN (And.intro (ac_r hx) (hr)) (h := ?_) | refine RW.skip0 (h := ?_))); refine RW.nil ⟨conf_of (by kernel_rfl), Pruned.mk (h := ?_)⟩)
      refine SW.condT rfl ?_
      have hc := hear_at (T := A') (k := k) hT.a.sep hT.a.lt hT.a.n0 hT.a.n8 hT.a.own8 hT.a.ww x.r hxr x.v
      have hs := hT.subA (o := .box 25 has.cells)
      obtain ⟨X, hX⟩ : ∃ X, hsets (hdels ((0, Ob.box 25 has.cells) :: (A'.hp ++ B.hp)) (A'.hearV x.r x.v (k + 2)).1.hp A'.hp) (A'.hearV x.r x.v (k + 2)).1.hp = X := ⟨_, rfl⟩
      have hT' := hT.hearA x.r x.v
      have eb : (A'.hearV x.r x.v (k + 2)).1.bx = A'.bx := (A'.hear_nm x.r (k + 2) x.v).1
      (refine SW.regL [0, 1, 2, 5, 6, 7, 8, 9, 11, 12, 13, 33, 38, 45, 53, 69, 77] mixed ?_; (repeat (first | refine RW.ro (And.intro (ac_r hx) (And.intro (ac_v hx) (And.intro (ac_room hx) (hX)))) (h := ?_) | refine RW.skip (h := ?_) | refine RW.op (And.intro (ac_r hx) (And.intro (ac_v hx) (And.intro (ac_room hx) (hX)))) (h := ?_) | refine RW.opN (And.intro (ac_r hx) (And.intro (ac_v hx) (And.intro (ac_room hx) (hX)))) (h := ?_) | refine RW.skip0 (h := ?_) | (refine RW.callC (h := ?_); (first | refine CallP.mk (And.intro (ac_r hx) (And.intro (ac_v hx) (And.intro (ac_room hx) (hX)))) (hs := hs) (hc := hc) (h := ?_))))); refine RW.nil ⟨conf_of (by kernel_rfl), Pruned.mk (h := ?_)⟩)
      refine SW.weak id (st1 := ⟨[(12, i64 i), (11, i64 m), (0, i64 n), (1, .d (.sl l.length (l.flatMap Ac.ds))), (5, .ptr 0 0), (7, .ptr (A'.hearV x.r x.v (k + 2)).1.bx 0), (9, .ptr B.bx 0)], (0, .box 25 has.cells) :: ((A'.hearV x.r x.v (k + 2)).1.hp ++ B.hp), k + 6⟩) (Weak.same (by simp) (by simp [EnvW, List.lookup, SV.ren, SV.ok, eb]; omega) (hT'.ok fun _ => rfl) (fun y hy => by rw [← hX]; exact hT.stepA hT'.a.sep (fun q hq hq2 => Tk.hear_lk hT.a.sep _ _ _ hq2 (by omega)) y hy)) ?_
      (refine SW.regL [0, 1, 2, 5, 6, 7, 8, 9, 11, 12, 13, 33, 38, 45, 53, 69, 77] mixed ?_; (repeat (first | refine RW.ro (e2) (h := ?_) | refine RW.skip (h := ?_) | refine RW.op (e2) (h := ?_) | refine RW.opN (e2) (h := ?_) | refine RW.skip0 (h := ?_))); refine RW.nil ⟨conf_of (by kernel_rfl), Pruned.mk (h := ?_)⟩)
      refine ⟨⟨(i + 1, (A'.hearV x.r x.v (k + 2)).1, k + 6), by omega, hT', (hI.hearV hT.a.n8 hT.a.own x.r x.v (k + 2)).congr fun r v => ?_, fun r => ?_⟩, id, by simp <;> omega, Weak.same (by simp) (by simp [EnvW, List.lookup, SV.ren, SV.ok]; omega) (hT'.ok fun _ => rfl) hT'.lks⟩
      · rw [Tk.takes_new hT.an hT.ao]
        exact toldTo_succ hx h0 r v
      · have := A'.hear_wl x.r (k + 2) x.v r
        have := hw r
        show wlen ((A'.hearV x.r x.v (k + 2)).1.wt r) ≤ i + 1
        omega
  · have h1 : decide ((i : Int) < m) = false := by simp only [decide_eq_false_iff_not]; omega
    have e : i = m := by omega
    subst e
    refine SW.seq (SW.seq ?_)
    (refine SW.regL [0, 1, 2, 5, 6, 7, 8, 9, 11, 12, 13, 33, 38, 45, 53, 69, 77] mixed ?_; (repeat (first | refine RW.ro (h1) (h := ?_) | refine RW.skip (h := ?_) | refine RW.op (h1) (h := ?_) | refine RW.opN (h1) (h := ?_) | refine RW.skip0 (h := ?_))); refine RW.nil ⟨conf_of (by kernel_rfl), Pruned.mk (h := ?_)⟩)
    refine SW.condF rfl (SW.exit ?_)
    refine (?_ : Sl.SW _ _ _ _ _ _)
    have em1 : IntKind.i64.wrap ((i : Int) - 1) = (i : Int) - 1 := wrap_i64 _ (by omega)
    refine SW.seq (SW.seq ?_)
    (refine SW.regL [0, 1, 2, 5, 6, 7, 8, 9, 11, 12, 13, 33, 38, 45, 53, 69, 77] mixed ?_; (repeat (first | refine RW.ro (em1) (h := ?_) | refine RW.skip (h := ?_) | refine RW.op (em1) (h := ?_) | refine RW.opN (em1) (h := ?_) | refine RW.skip0 (h := ?_))); refine RW.nil ⟨conf_of (by kernel_rfl), Pruned.mk (h := ?_)⟩)
    refine SW.block ?_
    let G2 : Tk → Nat → Int → Prop := fun B' k z => (-1 ≤ z ∧ z < i) ∧ Duo A' B' k n 0 ∧ B'.Is Vec.zero (toldTo n 0 l (fun j => z < (j : Int) ∧ j < i)) ∧ ∀ r, (wlen (B'.wt r) : Int) + 2 * (z + 1) ≤ 2 * i
    have hB0 : B.Is Vec.zero (toldTo n 0 l (fun j => (i : Int) - 1 < (j : Int) ∧ j < i)) := by
      have := newT_is n 0 10
      rw [hB] at this
      exact this.congr fun r v => ⟨False.elim, fun ⟨j, _, h, _⟩ => by omega⟩
    have wB0 : ∀ r, wlen (B.wt r) = 0 := fun r => by rw [← hB]; unfold newT; rfl
    refine SW.loop (α := {x : Int × Tk × Nat // G2 x.2.1 x.2.2 x.1}) (fun x => ⟨[(13, .d (.int .i64 x.1.1)), (0, i64 n), (1, .d (.sl l.length (l.flatMap Ac.ds))), (5, .ptr 0 0), (7, .ptr A'.bx 0), (9, .ptr x.1.2.1.bx 0)], (0, .box 25 has.cells) :: (A'.hp ++ x.1.2.1.hp), x.1.2.2⟩) (fun x => (x.1.1 + 1).toNat)
      ⟨((i : Int) - 1, B, k), by omega, hT, hB0, fun r => by dsimp only; rw [wB0 r]; omega⟩ id ?_ ?_
    · exact Weak.same (by simp) (by simp [EnvW, List.lookup, SV.ren, SV.ok]; omega) (hT.ok fun _ => rfl) hT.lks
    rintro ⟨⟨z, B', k'⟩, hz, hT2, hI2, hw2⟩
    dsimp only at hz hT2 hI2 hw2 ⊢
    have hAb2 : A'.bx < k' := hT2.a.lt.bx
    have hBb2 : B'.bx < k' := hT2.b.lt.bx
    have hk2 := hT2.z
    by_cases h : 0 ≤ z
    · have h1 : decide (z ≥ 0) = true := by simp only [decide_eq_true_eq]; omega
      obtain ⟨j, rfl⟩ := Int.eq_ofNat_of_zero_le h
      obtain ⟨x, hx⟩ := get_of_lt (show j < l.length by omega)
      have hxr := hl x (List.mem_of_getElem? hx)
      refine SW.seq (SW.seq ?_)
      (refine SW.regL [0, 1, 2, 5, 6, 7, 8, 9, 11, 12, 13, 33, 38, 45, 53, 69, 77] mixed ?_; (repeat (first | refine RW.ro (h1) (h := ?_) | refine RW.skip (h := ?_) | refine RW.op (h1) (h := ?_) | refine RW.opN (h1) (h := ?_) | refine RW.skip0 (h := ?_))); refine RW.nil ⟨conf_of (by kernel_rfl), Pruned.mk (h := ?_)⟩)
      refine SW.condT rfl (SW.skip ?_)
      refine (?_ : Sl.SW _ _ _ _ _ _)
      refine SW.seq (SW.block (SW.seq ?_))
      have e2 : IntKind.i64.wrap ((j : Int) - 1) = (j : Int) - 1 := wrap_i64 _ (by omega)
      by_cases h0 : x.r = 0
      · have hr : (((x.r : Nat) : Int) != 0) = false := by rw [h0]; rfl
        (refine SW.regL [0, 1, 2, 5, 6, 7, 8, 9, 11, 12, 13, 33, 38, 45, 53, 69, 77] mixed ?_; (repeat (first | refine RW.ro (And.intro (ac_r hx) (hr)) (h := ?_) | refine RW.skip (h := ?_) | refine RW.op (And.intro (ac_r hx) (hr)) (h := ?_) | refine RW.opN (And.intro (ac_r hx) (hr)) (h := ?_) | refine RW.skip0 (h := ?_))); refine RW.nil ⟨conf_of (by kernel_rfl), Pruned.mk (h := ?_)⟩)
        refine SW.condF rfl (SW.skip ?_)
        (refine SW.regL [0, 1, 2, 5, 6, 7, 8, 9, 11, 12, 13, 33, 38, 45, 53, 69, 77] mixed ?_; (repeat (first | refine RW.ro (e2) (h := ?_) | refine RW.skip (h := ?_) | refine RW.op (e2) (h := ?_) | refine RW.opN (e2) (h := ?_) | refine RW.skip0 (h := ?_))); refine RW.nil ⟨conf_of (by kernel_rfl), Pruned.mk (h := ?_)⟩)
        exact ⟨⟨((j : Int) - 1, B', k'), by dsimp only; omega, hT2, hI2.congr fun r v => toldDn_skip hx h0 r v, fun r => by have := hw2 r; dsimp only; omega⟩, id, by simp <;> omega, Weak.same (by simp) (by simp [EnvW, List.lookup, SV.ren, SV.ok]; omega) (hT2.ok fun _ => rfl) hT2.lks⟩
      · have hr : (((x.r : Nat) : Int) != 0) = true := by simpa using h0
        (refine SW.regL [0, 1, 2, 5, 6, 7, 8, 9, 11, 12, 13, 33, 38, 45, 53, 69, 77] mixed ?_; (repeat (first | refine RW.ro (And.intro (ac_r hx) (hr)) (h := ?_) | refine RW.skip (h := ?_) | refine RW.op (And.intro (ac_r hx) (hr)) (h := ?_) | refine RW.opN (And.intro (ac_r hx) (hr)) (h := ?_) | refine RW.skip0 (h := ?_))); refine RW.nil ⟨conf_of (by kernel_rfl), Pruned.mk (h := ?_)⟩)
        refine SW.condT rfl (SW.seq ?_)
        have hc := hear_at (T := B') (k := k') hT2.b.sep hT2.b.lt hT2.b.n0 hT2.b.n8 hT2.b.own8 hT2.b.ww x.r hxr x.v
        have hs := hT2.subB (o := .box 25 has.cells)
        obtain ⟨X, hX⟩ : ∃ X, hsets (hdels ((0, Ob.box 25 has.cells) :: (A'.hp ++ B'.hp)) (B'.hearV x.r x.v (k' + 2)).1.hp B'.hp) (B'.hearV x.r x.v (k' + 2)).1.hp = X := ⟨_, rfl⟩
        have hT3 := hT2.hearB x.r x.v
        have eb : (B'.hearV x.r x.v (k' + 2)).1.bx = B'.bx := (B'.hear_nm x.r (k' + 2) x.v).1
        (refine SW.regL [0, 1, 2, 5, 6, 7, 8, 9, 11, 12, 13, 33, 38, 45, 53, 69, 77] mixed ?_; (repeat (first | refine RW.ro (And.intro (ac_r hx) (And.intro (ac_v hx) (And.intro (ac_room hx) (hX)))) (h := ?_) | refine RW.skip (h := ?_) | refine RW.op (And.intro (ac_r hx) (And.intro (ac_v hx) (And.intro (ac_room hx) (hX)))) (h := ?_) | refine RW.opN (And.intro (ac_r hx) (And.intro (ac_v hx) (And.intro (ac_room hx) (hX)))) (h := ?_) | refine RW.skip0 (h := ?_) | (refine RW.callC (h := ?_); (first | refine CallP.mk (And.intro (ac_r hx) (And.intro (ac_v hx) (And.intro (ac_room hx) (hX)))) (hs := hs) (hc := hc) (h := ?_))))); refine RW.nil ⟨conf_of (by kernel_rfl), Pruned.mk (h := ?_)⟩)
        have hst := hT2.stepB (B' := (B'.hearV x.r x.v (k' + 2)).1) (o := .box 25 has.cells) hT3.b.sep (fun q hq hq2 => Tk.hear_lk hT2.b.sep _ _ _ hq2 (by omega))
        rw [hX] at hst
        have hI3 := hI2.hearV hT2.b.n8 hT2.b.own x.r x.v (k' + 2)
        have hw3 := fun r => B'.hear_wl x.r (k' + 2) x.v r
        obtain ⟨B3, hB3⟩ : ∃ B3, (B'.hearV x.r x.v (k' + 2)).1 = B3 := ⟨_, rfl⟩
        rw [hB3] at hT3 hst hI3 hw3 eb
        refine SW.weak id (st1 := ⟨[(13, i64 j), (0, i64 n), (1, .d (.sl l.length (l.flatMap Ac.ds))), (5, .ptr 0 0), (7, .ptr A'.bx 0), (9, .ptr B3.bx 0)], (0, .box 25 has.cells) :: (A'.hp ++ B3.hp), k' + 6⟩) (Weak.same (by simp) (by simp [EnvW, List.lookup, SV.ren, SV.ok, eb]; omega) (hT3.ok fun _ => rfl) hst) ?_
        clear hc hs hX
        have hc := hear_at (T := B3) (k := k' + 6) hT3.b.sep hT3.b.lt hT3.b.n0 hT3.b.n8 hT3.b.own8 hT3.b.ww x.r hxr x.v
        have hs := hT3.subB (o := .box 25 has.cells)
        obtain ⟨X4, hX⟩ : ∃ X, hsets (hdels ((0, Ob.box 25 has.cells) :: (A'.hp ++ B3.hp)) (B3.hearV x.r x.v (k' + 6 + 2)).1.hp B3.hp) (B3.hearV x.r x.v (k' + 6 + 2)).1.hp = X := ⟨_, rfl⟩
        have hT4 := hT3.hearB x.r x.v
        have eb4 : (B3.hearV x.r x.v (k' + 6 + 2)).1.bx = B3.bx := (B3.hear_nm x.r (k' + 6 + 2) x.v).1
        (refine SW.regL [0, 1, 2, 5, 6, 7, 8, 9, 11, 12, 13, 33, 38, 45, 53, 69, 77] mixed ?_; (repeat (first | refine RW.ro (And.intro (ac_r hx) (And.intro (ac_v hx) (And.intro (ac_room hx) (hX)))) (h := ?_) | refine RW.skip (h := ?_) | refine RW.op (And.intro (ac_r hx) (And.intro (ac_v hx) (And.intro (ac_room hx) (hX)))) (h := ?_) | refine RW.opN (And.intro (ac_r hx) (And.intro (ac_v hx) (And.intro (ac_room hx) (hX)))) (h := ?_) | refine RW.skip0 (h := ?_) | (refine RW.callC (h := ?_); (first | refine CallP.mk (And.intro (ac_r hx) (And.intro (ac_v hx) (And.intro (ac_room hx) (hX)))) (hs := hs) (hc := hc) (h := ?_))))); refine RW.nil ⟨conf_of (by kernel_rfl), Pruned.mk (h := ?_)⟩)
        have hst4 := hT3.stepB (B' := (B3.hearV x.r x.v (k' + 6 + 2)).1) (o := .box 25 has.cells) hT4.b.sep (fun q hq hq2 => Tk.hear_lk hT3.b.sep _ _ _ hq2 (by omega))
        rw [hX] at hst4
        have hI4 := hI3.hearV hT3.b.n8 hT3.b.own x.r x.v (k' + 6 + 2)
        have hw4 := fun r => B3.hear_wl x.r (k' + 6 + 2) x.v r
        obtain ⟨B4, hB4⟩ : ∃ B4, (B3.hearV x.r x.v (k' + 6 + 2)).1 = B4 := ⟨_, rfl⟩
        rw [hB4] at hT4 hst4 hI4 hw4 eb4
        refine SW.weak id (st1 := ⟨[(13, i64 j), (0, i64 n), (1, .d (.sl l.length (l.flatMap Ac.ds))), (5, .ptr 0 0), (7, .ptr A'.bx 0), (9, .ptr B4.bx 0)], (0, .box 25 has.cells) :: (A'.hp ++ B4.hp), k' + 12⟩) (Weak.same (by simp) (by simp [EnvW, List.lookup, SV.ren, SV.ok, eb, eb4]; omega) (hT4.ok fun _ => rfl) hst4) ?_
        (refine SW.regL [0, 1, 2, 5, 6, 7, 8, 9, 11, 12, 13, 33, 38, 45, 53, 69, 77] mixed ?_; (repeat (first | refine RW.ro (e2) (h := ?_) | refine RW.skip (h := ?_) | refine RW.op (e2) (h := ?_) | refine RW.opN (e2) (h := ?_) | refine RW.skip0 (h := ?_))); refine RW.nil ⟨conf_of (by kernel_rfl), Pruned.mk (h := ?_)⟩)
        have hAb4 : A'.bx < k' + 12 := hT4.a.lt.bx
        have hBb4 : B4.bx < k' + 12 := hT4.b.lt.bx
        refine ⟨⟨((j : Int) - 1, B4, k' + 12), by dsimp only; omega, hT4, hI4.congr fun r v => ?_, fun r => ?_⟩, id, by simp <;> omega, Weak.same (by simp) (by simp [EnvW, List.lookup, SV.ren, SV.ok]; omega) (hT4.ok fun _ => rfl) hT4.lks⟩
        · rw [Tk.takes_new hT2.bn hT2.bo, Tk.takes_new hT3.bn hT3.bo, ← toldDn_succ (by omega : j < i) hx h0 r v, or_assoc, or_self]
        · have a1 := hw3 r
          have a2 := hw4 r
          have a3 := hw2 r
          dsimp only
          omega
    · have h1 : decide (z ≥ 0) = false := by simp only [decide_eq_false_iff_not]; omega
      have e : z = -1 := by omega
      subst e
      refine SW.seq (SW.seq ?_)
      (refine SW.regL [0, 1, 2, 5, 6, 7, 8, 9, 11, 12, 13, 33, 38, 45, 53, 69, 77] mixed ?_; (repeat (first | refine RW.ro (h1) (h := ?_) | refine RW.skip (h := ?_) | refine RW.op (h1) (h := ?_) | refine RW.opN (h1) (h := ?_) | refine RW.skip0 (h := ?_))); refine RW.nil ⟨conf_of (by kernel_rfl), Pruned.mk (h := ?_)⟩)
      refine SW.condF rfl (SW.exit ?_)
      refine (?_ : Sl.SW _ _ _ _ _ _)
      have hm' : (B'.hasV has).2 = 0 := by
        have a1 : A.may has = true := by
          unfold Tk.hasV at hv0
          by_cases q : A.may has = false
          · rw [if_pos q] at hv0; cases hv0
          · simpa using q
        have a2 : B'.may has = true := by rw [Tk.may_new (own := 0) hT2.bn, ← Tk.may_new hT0.an]; exact a1
        have a3 : has.above B'.has = true := by rw [hI2.has]; exact Vec.above_iff.2 fun r _ => by rw [Vec.zero_get]; exact Nat.zero_le _
        unfold Tk.hasV
        rw [if_neg (by rw [a2]; simp), if_neg (by rw [a3]; simp)]
      have hT3 := (hT2.hasB has).mono (k' := k' + 5) (by omega)
      have hT3' := hT2.hasB has
      have hI3 := hI2.hasV hT2.b.n8 hT2.b.own hm'
      have hS : ∀ r v, toldTo n 0 l (fun j => -1 < (j : Int) ∧ j < i) r v ↔ toldTo n 0 l (· < i) r v := fun r v => ⟨fun ⟨j, y, h1, h2⟩ => ⟨j, y, h1.2, h2⟩, fun ⟨j, y, h1, h2⟩ => ⟨j, y, ⟨by omega, h1⟩, h2⟩⟩
      have hI4 := hI3.congr hS
      have hc := has_at (T := B') (k := k') hT2.b.sep hT2.b.lt hT2.b.n0 hT2.b.n8 hT2.b.own8 hT2.b.ww has
      have hs := hT2.subB (o := .box 25 has.cells)
      obtain ⟨X, hX⟩ : ∃ X, hsets (hdels ((0, Ob.box 25 has.cells) :: (A'.hp ++ B'.hp)) (B'.hasV has).1.hp B'.hp) (B'.hasV has).1.hp = X := ⟨_, rfl⟩
      have hst := hT2.stepB (B' := (B'.hasV has).1) (o := .box 25 has.cells) hT3.b.sep (fun q hq hq2 => Tk.has_lk hT2.b.sep _ hq2)
      rw [hX] at hst
      have hw3 := fun r => B'.has_wl has r
      have eb := (B'.hasV_bx has).1
      rw [hm'] at hc
      have ed := hI.stab_eq hI4 (hT3.bn.trans hT.an.symm) (hT3.bo.trans hT.ao.symm)
      have ew := hI.wsum_eq hI4 (hT3.bn.trans hT.an.symm) (hT3.bo.trans hT.ao.symm) hT.a.ww hT3.b.ww (Nat.le_refl 8)
      obtain ⟨B3, hB3⟩ : ∃ B3, (B'.hasV has).1 = B3 := ⟨_, rfl⟩
      rw [hB3] at hT3 hst hI3 hw3 eb hX hc ed ew
      have hsA : HSub A'.hp X := fun q ob hq => by
        have := hst _ (List.mem_cons_of_mem _ (List.mem_append_left _ (lk_mem hq)))
        exact this
      have hsB : HSub B3.hp X := fun q ob hq => by
        have := hst _ (List.mem_cons_of_mem _ (List.mem_append_right _ (lk_mem hq)))
        exact this
      have wA : ∀ q, q ≤ 8 → A'.wsum q < 9223372036854775808 := fun q hq => by
        have := Tk.wsum_le hw q
        have : q * i ≤ 8 * 30 := Nat.mul_le_mul hq (by omega)
        omega
      have wB : ∀ q, q ≤ 8 → B3.wsum q < 9223372036854775808 := fun q hq => by
        have := Tk.wsum_le (T := B3) (b := 60) (fun r => by have a1 := hw3 r; have a2 := hw2 r; omega) q
        have : q * 60 ≤ 8 * 60 := Nat.mul_le_mul hq (by omega)
        omega
      have xA := Tk.selfX hT3.a.sep hsA
      have xB := Tk.selfX hT3.b.sep hsB
      have cA := stable_at (T := A') (k := k' + 5) hT3.a.sep hT3.a.lt hT3.a.n0 hT3.a.n8
      have cB := stable_at (T := B3) (k := k' + 5 + 1) hT3.b.sep (hT3.b.mono (by omega)).lt hT3.b.n0 hT3.b.n8
      have dA := waits_at (T := A') (k := k' + 5 + 1 + 1) hT3.a.sep (hT3.a.mono (by omega)).lt hT3.a.n0 wA
      have dB := waits_at (T := B3) (k := k' + 5 + 1 + 1) hT3.b.sep (hT3.b.mono (by omega)).lt hT3.b.n0 wB
      rw [← ew, eb] at dB
      rw [← ed, eb] at cB
      have z0 : (((0 : Nat) : Int) == 0) = true := rfl
      have eqT : csqS [true, true, true, true, true, true, true, true] A'.stab.cells A'.stab.cells = some true := by rw [Vec.eqb8]; simp
      have eqW : (((A'.wsum 8 : Nat) : Int) == ((A'.wsum 8 : Nat) : Int)) = true := by simp
      refine SW.seq ?_
      (refine SW.regL [0, 1, 2, 5, 6, 7, 8, 9, 11, 12, 13, 33, 38, 45, 53, 69, 77] mixed ?_; (repeat (first | refine RW.ro (And.intro (hX) (And.intro (xA) (And.intro (xB) (And.intro (eqT) (And.intro (eqW) (z0)))))) (h := ?_) | refine RW.skip (h := ?_) | refine RW.op (And.intro (hX) (And.intro (xA) (And.intro (xB) (And.intro (eqT) (And.intro (eqW) (z0)))))) (h := ?_) | refine RW.opN (And.intro (hX) (And.intro (xA) (And.intro (xB) (And.intro (eqT) (And.intro (eqW) (z0)))))) (h := ?_) | refine RW.skip0 (h := ?_) | (refine RW.callC (h := ?_); (first | refine CallP.mk (And.intro (hX) (And.intro (xA) (And.intro (xB) (And.intro (eqT) (And.intro (eqW) (z0)))))) (hs := hs) (hc := hc) (h := ?_) | refine CallP.mk (And.intro (hX) (And.intro (xA) (And.intro (xB) (And.intro (eqT) (And.intro (eqW) (z0)))))) (hs := hsA) (hc := cA) (h := ?_) | refine CallP.mk (And.intro (hX) (And.intro (xA) (And.intro (xB) (And.intro (eqT) (And.intro (eqW) (z0)))))) (hs := hsB) (hc := cB) (h := ?_) | refine CallP.mk (And.intro (hX) (And.intro (xA) (And.intro (xB) (And.intro (eqT) (And.intro (eqW) (z0)))))) (hs := hsA) (hc := dA) (h := ?_) | refine CallP.mk (And.intro (hX) (And.intro (xA) (And.intro (xB) (And.intro (eqT) (And.intro (eqW) (z0)))))) (hs := hsB) (hc := dB) (h := ?_) | refine CallP.mk (And.intro (hX) (And.intro (xA) (And.intro (xB) (And.intro (eqT) (And.intro (eqW) (z0)))))) (hc := head12_at _) (h := ?_))))); refine RW.nil ⟨conf_of (by kernel_rfl), Pruned.mk (h := ?_)⟩)
      refine SW.ret ?_
      exact End.mk [] (h4 := ⟨rfl, rfl⟩)
set_option maxHeartbeats 2000000 in
theorem turned_none (n : Int) (hr : -9223372036854775808 ≤ n ∧ n < 9223372036854775808) (hn : ¬ (1 ≤ n ∧ n ≤ 8)) (l : List Ac) (has : Vec) : Go.Sl.Pure Try.prog law12_StableTurned.f [.d (.int .i64 n), .d (.sl l.length (l.flatMap Ac.ds)), .agg has.cells] (bl true) := by
  refine law12_StableTurned.enter (by first | rfl | simp [SV.ok, SV.oks]) (by first | rfl | simp [Hp.ok, Ob.ok, SV.ok, SV.oks, Vec.cells_ok]) (by simp) ?_
  unfold law12_StableTurned.s
  have hc1 := new0_at n 0 hr (by omega) (fun h => hn ⟨h.1, h.2.1⟩) 1 (.d (.int .u8 0)) rfl
  refine SW.seq ?_
  (refine SW.regL [0, 1, 2, 5, 6, 7, 8, 9, 11, 12, 13, 33, 38, 45, 53, 69, 77] mixed ?_; (repeat (first | refine RW.ro bq_tt (h := ?_) | refine RW.skip (h := ?_) | refine RW.op bq_tt (h := ?_) | refine RW.opN bq_tt (h := ?_) | refine RW.skip0 (h := ?_))); refine RW.nil ⟨conf_of (by kernel_rfl), Pruned.mk (h := ?_)⟩)
  refine SW.seq ?_
  (refine SW.regL [0, 1, 2, 5, 6, 7, 8, 9, 11, 12, 13, 33, 38, 45, 53, 69, 77] mixed ?_; (repeat (first | refine RW.ro bq_tt (h := ?_) | refine RW.skip (h := ?_) | refine RW.op bq_tt (h := ?_) | refine RW.opN bq_tt (h := ?_) | refine RW.skip0 (h := ?_) | (refine RW.callC (h := ?_); (first | refine CallP.mk bq_tt (hc := hc1) (h := ?_))))); refine RW.nil ⟨conf_of (by kernel_rfl), Pruned.mk (h := ?_)⟩)
  refine SW.seq ?_
  (refine SW.regL [0, 1, 2, 5, 6, 7, 8, 9, 11, 12, 13, 33, 38, 45, 53, 69, 77] mixed ?_; (repeat (first | refine RW.ro bq_tt (h := ?_) | refine RW.skip (h := ?_) | refine RW.op bq_tt (h := ?_) | refine RW.opN bq_tt (h := ?_) | refine RW.skip0 (h := ?_) | (refine RW.callC (h := ?_); (first | refine CallP.mk bq_tt (hc := hc1) (h := ?_))))); refine RW.nil ⟨conf_of (by kernel_rfl), Pruned.mk (h := ?_)⟩)
  refine SW.seq (SW.seq ?_)
  (refine SW.regL [0, 1, 2, 5, 6, 7, 8, 9, 11, 12, 13, 33, 38, 45, 53, 69, 77] mixed ?_; (repeat (first | refine RW.ro bq_tt (h := ?_) | refine RW.skip (h := ?_) | refine RW.op bq_tt (h := ?_) | refine RW.opN bq_tt (h := ?_) | refine RW.skip0 (h := ?_))); refine RW.nil ⟨conf_of (by kernel_rfl), Pruned.mk (h := ?_)⟩)
  refine SW.condT rfl (SW.seq ?_)
  refine SW.weak id (st1 := ⟨[], [], 1⟩) (Weak.same (by simp) (by simp [EnvW]) rfl (fun x hx => by cases hx)) ?_
  (refine SW.regL [0, 1, 2, 5, 6, 7, 8, 9, 11, 12, 13, 33, 38, 45, 53, 69, 77] mixed ?_; (repeat (first | refine RW.ro bq_tt (h := ?_) | refine RW.skip (h := ?_) | refine RW.op bq_tt (h := ?_) | refine RW.opN bq_tt (h := ?_) | refine RW.skip0 (h := ?_) | (refine RW.callC (h := ?_); (first | refine CallP.mk bq_tt (hc := head12_at _) (h := ?_))))); refine RW.nil ⟨conf_of (by kernel_rfl), Pruned.mk (h := ?_)⟩)
  refine SW.ret ?_
  exact End.mk [] (h4 := ⟨rfl, rfl⟩)
theorem law_turned (n : Int) (hr : -9223372036854775808 ≤ n ∧ n < 9223372036854775808) (l : List Ac) (hl : ∀ x, x ∈ l → x.r < 256) (hlen : l.length ≤ 9223372036854775807) (has : Vec) :
    Go.Sl.Pure Try.prog law12_StableTurned.f [.d (.int .i64 n), .d (.sl l.length (l.flatMap Ac.ds)), .agg has.cells] (bl true) := by
  by_cases hn : 1 ≤ n ∧ n ≤ 8
  · obtain ⟨m, rfl⟩ := Int.eq_ofNat_of_zero_le (show 0 ≤ n by omega)
    exact turned_body m (by omega) l hl hlen has
  · exact turned_none n hr hn l has
end
end Go.Proofs.Ytdnjkeeiopcipaa
