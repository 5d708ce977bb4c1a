/-
  Trackers: one pass over a replica's acks.
-/
import Derived.Test.YtdnjkeeiopcipaaW12b
set_option linter.unusedSectionVars false
set_option linter.unusedVariables false
set_option linter.unusedSimpArgs false
namespace Go.Proofs.Ytdnjkeeiopcipaa
open Go.Sl Go.Proofs
attribute [local irreducible] SW RW SCd SC CallP Pruned Tk.cells Tk.hp Tk.up

/-- How far a pass is. -/
structure SInv (h : Vec) (r : Nat) (v : Vec) (L : VMap) (cl : Nat) (v' : Vec) (L' : VMap) (seen : List Nat) (ch : Bool) : Prop where
  wf : MM.wf L' cl
  c : settC h r v' L' = settC h r v L
  w : settW h r v' L' = settW h r v L
  len : ch = true → L'.length < L.length
  le : L'.length ≤ L.length
  no : ch = false → v' = v ∧ L' = L ∧ ∀ x, x ∈ L → x.1 ∈ seen → due h r x.2.1 = false ∧ v.above x.2.1 = false

section
variable {T : Tk} (hs : T.sep) {r : Nat} (hr : r < 8) {v : Vec} {L : VMap} {cl : Nat} {t1 k : Nat}
/-- What one pass leaves. -/
def PassQ (T : Tk) (r : Nat) (v : Vec) (L : VMap) (cl t1 : Nat) : SV → Hp → Prop := fun x F => ∃ (v' : Vec) (L' : VMap) (ch : Bool), x = bl ch ∧ F = (t1, .box 26 [.ptr T.bx 0]) :: (T.up r v' L' cl).hp ∧ MM.wf L' cl ∧ settC T.has r v' L' = settC T.has r v L ∧ settW T.has r v' L' = settW T.has r v L ∧
  (ch = true → L'.length < L.length) ∧ (ch = false → settC T.has r v L = v' ∧ settW T.has r v L = L')

include hs hr in
set_option maxHeartbeats 4000000 in
theorem pass_sb (hwf : MM.wf L cl) (hlt : T.lt k) (ht1 : t1 < k) (htb : t1 ≠ T.bx) (htm : ∀ r, r < 8 → t1 ≠ T.nm r) :
    SB Try.prog stable_Tracker_settle_1.f [i64 r, .ptr t1 0] ((t1, .box 26 [.ptr T.bx 0]) :: (T.up r v L cl).hp) k 2 (PassQ T r v L cl t1) := by
  have hbx := hlt.bx
  have hnm := hlt.nm r hr
  have hok : ∀ v L kx, k ≤ kx → (T.up r v L cl).hp.ok (fun n => decide (n < kx)) = true := fun v L kx h => Hp.ok_less h (Tk.okk (Tk.u_lt hlt))
  have hok1 : ∀ v L kx, k ≤ kx → Hp.ok (fun n => decide (n < kx)) ((t1, .box 26 [.ptr T.bx 0]) :: (T.up r v L cl).hp) = true := fun v L kx h => by
    have := hok v L kx h
    simp only [Hp.ok, List.all_cons, Ob.ok, SV.oks, SV.ok, Bool.and_true, Bool.and_eq_true, decide_eq_true_eq] at this ⊢
    exact ⟨⟨by omega, by omega⟩, this⟩
  have hok2 : ∀ v L se kx, k + 1 ≤ kx → Hp.ok (fun n => decide (n < kx)) ((k, .iter (some (T.nm r)) cl se cl) :: (t1, .box 26 [.ptr T.bx 0]) :: (T.up r v L cl).hp) = true := fun v L se kx h => by
    have := hok1 v L kx (by omega)
    simp only [Hp.ok, List.all_cons, Ob.ok, Bool.and_eq_true, decide_eq_true_eq] at this ⊢
    exact ⟨⟨by omega, by omega⟩, this⟩
  have hn1 : ∀ v L, (((t1, .box 26 [.ptr T.bx 0]) :: (T.up r v L cl).hp : Hp).map (·.1)).Nodup := fun v L => by
    rw [List.map_cons, List.nodup_cons]
    refine ⟨fun hm => ?_, Tk.nodup (Tk.sepU hs)⟩
    rcases Tk.names hm with e | ⟨r', hr', e⟩
    · exact htb (e.trans Tk.u_bx)
    · exact htm r' hr' (by rw [Tk.u_nm] at e; exact e)
  have hn2 : ∀ v L se, (((k, .iter (some (T.nm r)) cl se cl) :: (t1, .box 26 [.ptr T.bx 0]) :: (T.up r v L cl).hp : Hp).map (·.1)).Nodup := fun v L se => by
    rw [List.map_cons, List.nodup_cons]
    refine ⟨fun hm => ?_, hn1 v L⟩
    rcases List.mem_cons.1 hm with e | hm
    · dsimp only at e; omega
    · exact Tk.out (Tk.u_lt hlt) (Nat.le_refl _) hm
  have hn3 : ∀ v L se o, (((k + 1, o) :: (k, .iter (some (T.nm r)) cl se cl) :: (t1, .box 26 [.ptr T.bx 0]) :: (T.up r v L cl).hp : Hp).map (·.1)).Nodup := fun v L se o => by
    rw [List.map_cons, List.nodup_cons]
    refine ⟨fun hm => ?_, hn2 v L se⟩
    rcases List.mem_cons.1 hm with e | hm
    · dsimp only at e; omega
    · rcases List.mem_cons.1 hm with e | hm
      · dsimp only at e; omega
      · exact Tk.out (Tk.u_lt hlt) (Nat.le_succ _) hm
  refine stable_Tracker_settle_1.enter (by simp [SV.ok, SV.oks]; omega) (hok1 v L k (Nat.le_refl _)) (by simp) ?_
  unfold stable_Tracker_settle_1.s
  have uB : ∀ v L, List.lookup T.bx (T.up r v L cl).hp = some (.box 93 (T.up r v L cl).cells) := fun _ _ => Tk.u_b
  have uM : ∀ v L, List.lookup (T.nm r) (T.up r v L cl).hp = some (.map (mapE Vec.cells iv L) cl) := fun _ _ => Tk.u_m hs hr
  have uW : ∀ v L, (T.up r v L cl).cells[74 + r]? = some (.mp (T.nm r)) := fun _ _ => Tk.u_w hr
  have uH : ∀ v L, (T.up r v L cl).cells[2 + r]? = some (.d (.int .u32 (T.has.get r))) := fun _ _ => Tk.u_h hr
  have uC : ∀ v L, ((T.up r v L cl).cells.drop (10 + r * 8)).take 8 = v.cells := fun _ _ => Tk.u_c hr
  have uS : ∀ (v L) (v' : Vec), spl (T.up r v L cl).cells (10 + r * 8) v'.cells = (T.up r v' L cl).cells := fun _ _ _ => Tk.u_sc hr
  have uRb : ∀ v L v', hrep (T.up r v L cl).hp T.bx (.box 93 (T.up r v' L cl).cells) = (T.up r v' L cl).hp := fun _ _ _ => Tk.u_rb
  have uRm : ∀ v L L', hrep (T.up r v L cl).hp (T.nm r) (.map (mapE Vec.cells iv L') cl) = (T.up r v L' cl).hp := fun _ _ _ => Tk.u_rm hs hr
  have uK : ∀ v L, List.lookup k (T.up r v L cl).hp = none := fun _ _ => Tk.lkk (Tk.u_lt hlt) (Nat.le_refl _)
  have uK1 : ∀ v L, List.lookup (k + 1) (T.up r v L cl).hp = none := fun _ _ => Tk.lkk (Tk.u_lt hlt) (Nat.le_succ _)
  have uO : ∀ v L, (10 + r * 8 + 8 ≤ (T.up r v L cl).cells.length) = True := fun _ _ => eq_true (by rw [Tk.u_len]; omega)
  have f1 := ne4 (Ne.symm htb)
  have f2 := ne4 (Ne.symm (htm r hr))
  have f3 := ne4 (show k ≠ t1 by omega)
  have f4 := ne4 (show k ≠ T.bx by omega)
  have f5 := ne4 (show k ≠ T.nm r by omega)
  have f6 := ne4 (hs.bx r hr)
  have g1 := ne4 (show k + 1 ≠ t1 by omega)
  have g2 := ne4 (show k + 1 ≠ T.bx by omega)
  have g3 := ne4 (show k + 1 ≠ T.nm r by omega)
  have g4 := ne4 (show k + 1 ≠ k by omega)
  refine SW.seq ?_
  (refine SW.regL [0, 1, 3, 4, 5, 12, 14, 17, 42] mixed ?_; (repeat (first | refine RW.ro bq_tt (h := ?_) | refine RW.skip (h := ?_) | refine RW.op bq_tt (h := ?_) | refine RW.opN bq_tt (h := ?_) | refine RW.skip0 (h := ?_) | (refine RW.callC (h := ?_); (first | refine CallP.mk bq_tt (hc := merge2_at _ _ _) (h := ?_) | refine CallP.mk bq_tt (hc := above_at _ _ _) (h := ?_))))); refine RW.nil ⟨conf_of (by kernel_rfl), Pruned.mk (h := ?_)⟩)
  refine SW.seq ?_
  (refine SW.regL [0, 1, 3, 4, 5, 12, 14, 17, 42] mixed ?_; (repeat (first | refine RW.ro bq_tt (h := ?_) | refine RW.skip (h := ?_) | refine RW.op bq_tt (h := ?_) | refine RW.opN bq_tt (h := ?_) | refine RW.skip0 (h := ?_) | (refine RW.callC (h := ?_); (first | refine CallP.mk bq_tt (hc := merge2_at _ _ _) (h := ?_) | refine CallP.mk bq_tt (hc := above_at _ _ _) (h := ?_))))); refine RW.nil ⟨conf_of (by kernel_rfl), Pruned.mk (h := ?_)⟩)
  refine SW.seq (SW.seq ?_)
  (refine SW.regL [0, 1, 3, 4, 5, 12, 14, 17, 42] mixed ?_; (repeat (first | refine RW.ro (And.intro (uB) (And.intro (uM) (And.intro (uW) (And.intro (uK) (And.intro (uRm) (And.intro (f1) (And.intro (f2) (And.intro (f3) (And.intro (f4) (And.intro (f5) (f6))))))))))) (h := ?_) | refine RW.skip (h := ?_) | refine RW.op (And.intro (uB) (And.intro (uM) (And.intro (uW) (And.intro (uK) (And.intro (uRm) (And.intro (f1) (And.intro (f2) (And.intro (f3) (And.intro (f4) (And.intro (f5) (f6))))))))))) (h := ?_) | refine RW.opN (And.intro (uB) (And.intro (uM) (And.intro (uW) (And.intro (uK) (And.intro (uRm) (And.intro (f1) (And.intro (f2) (And.intro (f3) (And.intro (f4) (And.intro (f5) (f6))))))))))) (h := ?_) | refine RW.skip0 (h := ?_) | (refine RW.callC (h := ?_); (first | refine CallP.mk (And.intro (uB) (And.intro (uM) (And.intro (uW) (And.intro (uK) (And.intro (uRm) (And.intro (f1) (And.intro (f2) (And.intro (f3) (And.intro (f4) (And.intro (f5) (f6))))))))))) (hc := merge2_at _ _ _) (h := ?_) | refine CallP.mk (And.intro (uB) (And.intro (uM) (And.intro (uW) (And.intro (uK) (And.intro (uRm) (And.intro (f1) (And.intro (f2) (And.intro (f3) (And.intro (f4) (And.intro (f5) (f6))))))))))) (hc := above_at _ _ _) (h := ?_))))); refine RW.nil ⟨conf_of (by kernel_rfl), Pruned.mk (h := ?_)⟩)
  refine SW.block (SW.mapLoop (es := fun i => mapE Vec.cells iv i.1.2.1) (c := fun _ => cl) (nit := fun _ => k) (nm := fun _ => T.nm r) (since := fun _ => cl) (sst := fun _ => cl) (seen := fun i => i.1.2.2.1)
    (α := {i : Vec × VMap × List Nat × Bool // SInv T.has r v L cl i.1 i.2.1 i.2.2.1 i.2.2.2})
    (fun i => ⟨[(4, bl i.1.2.2.2), (12, .it k), (0, i64 r), (1, .ptr t1 0)], (k, .iter (some (T.nm r)) cl i.1.2.2.1 cl) :: (t1, .box 26 [.ptr T.bx 0]) :: (T.up r i.1.1 i.1.2.1 cl).hp, k + 1⟩)
    (fun i => unseen (mapE Vec.cells iv i.1.2.1) i.1.2.2.1) ⟨(v, L, [], false), hwf, rfl, rfl, by simp, Nat.le_refl _, by simp⟩ id ?_ (fun i => by simp [List.lookup]) (fun i => by simp [lk_cons]) (fun i => by simp only [lk, List.lookup, f2, f5]; exact uM _ _) (fun i => by simp [f5]) (fun i e he => ?_) (fun i => Nat.le_refl _) (fun i hall => ?_) (fun i e he hs => ?_))
  · exact Weak.same (by simp) (by simp [EnvW, List.lookup, SV.ren, SV.rens, SV.ok, SV.oks]; omega) (hok2 v L [] _ (Nat.le_refl _)) (lk_of_nodup (hn2 v L []))
  · obtain ⟨x, hx, rfl⟩ := mapE_mem he
    exact i.2.wf.old x hx
  · obtain ⟨⟨v', L', seen, ch⟩, hi⟩ := i
    have hi : SInv T.has r v L cl v' L' seen ch := hi
    dsimp only at hall ⊢
    refine ⟨⟨[(4, bl ch)], (t1, .box 26 [.ptr T.bx 0]) :: (T.up r v' L' cl).hp, k + 2⟩, id, Weak.same (by simp) (by simp [EnvW, List.lookup, SV.ren, SV.ok]) (hok1 v' L' _ (by simp)) (fun x hx => lk_of_nodup (hn2 v' L' seen) x (List.mem_cons_of_mem _ hx)), ?_⟩
    rw [if_pos rfl]
    refine SW.seq ?_
    (refine SW.regL [0, 1, 3, 4, 5, 12, 14, 17, 42] mixed ?_; (repeat (first | refine RW.ro bq_tt (h := ?_) | refine RW.skip (h := ?_) | refine RW.op bq_tt (h := ?_) | refine RW.opN bq_tt (h := ?_) | refine RW.skip0 (h := ?_) | (refine RW.callC (h := ?_); (first | refine CallP.mk bq_tt (hc := merge2_at _ _ _) (h := ?_) | refine CallP.mk bq_tt (hc := above_at _ _ _) (h := ?_))))); refine RW.nil ⟨conf_of (by kernel_rfl), Pruned.mk (h := ?_)⟩)
    refine SW.ret ?_
    refine End.mk _ (h3 := fun _ _ h => h) (h4 := ⟨v', L', ch, rfl, rfl, hi.wf, hi.c, hi.w, hi.len, fun hc => ?_⟩) (h6 := hok1 v' L' _ (by omega))
    obtain ⟨rfl, rfl, hno⟩ := hi.no hc
    refine sett_end fun u hu => ?_
    obtain ⟨x, hx, rfl⟩ := List.mem_map.1 hu
    refine hno x hx ?_
    have := hall _ (List.mem_map.2 ⟨x, hx, rfl⟩)
    simpa only [List.contains_iff_mem] using this
  · obtain ⟨⟨v', L', seen, ch⟩, hi⟩ := i
    have hi : SInv T.has r v L cl v' L' seen ch := hi
    dsimp only at he hs ⊢
    obtain ⟨x, hx, rfl⟩ := mapE_mem he
    have g5 : (seen ++ [x.1]).getLast? = some x.1 := by simp
    have g6 := mapE_find (kc := Vec.cells) (vs := iv) hi.wf.times hx
    have g7 : ∀ n : Int, iv n = .d (.int .i64 n) := fun _ => rfl
    have hm := unseen_lt he hs
    have hu : ∀ u, unseen (mapE Vec.cells iv (MM.del L' u)) (seen ++ [x.1]) < unseen (mapE Vec.cells iv L') seen := fun u => by
      refine Nat.lt_of_le_of_lt (unseen_sub ?_ _) hm
      rw [MM.del_filter hi.wf.keys]
      exact List.filter_sublist.map _
    rw [hset_head]
    dsimp only
    refine SW.block (SW.seq ?_)
    (refine SW.regL [0, 1, 3, 4, 5, 12, 14, 17, 42] mixed ?_; (repeat (first | refine RW.ro (And.intro (uB) (And.intro (uM) (And.intro (uW) (And.intro (uK1) (And.intro (f1) (And.intro (f2) (And.intro (f3) (And.intro (f4) (And.intro (f5) (And.intro (f6) (And.intro (g1) (And.intro (g2) (And.intro (g3) (And.intro (g4) (And.intro (g5) (g6)))))))))))))))) (h := ?_) | refine RW.skip (h := ?_) | refine RW.op (And.intro (uB) (And.intro (uM) (And.intro (uW) (And.intro (uK1) (And.intro (f1) (And.intro (f2) (And.intro (f3) (And.intro (f4) (And.intro (f5) (And.intro (f6) (And.intro (g1) (And.intro (g2) (And.intro (g3) (And.intro (g4) (And.intro (g5) (g6)))))))))))))))) (h := ?_) | refine RW.opN (And.intro (uB) (And.intro (uM) (And.intro (uW) (And.intro (uK1) (And.intro (f1) (And.intro (f2) (And.intro (f3) (And.intro (f4) (And.intro (f5) (And.intro (f6) (And.intro (g1) (And.intro (g2) (And.intro (g3) (And.intro (g4) (And.intro (g5) (g6)))))))))))))))) (h := ?_) | refine RW.skip0 (h := ?_) | (refine RW.callC (h := ?_); (first | refine CallP.mk (And.intro (uB) (And.intro (uM) (And.intro (uW) (And.intro (uK1) (And.intro (f1) (And.intro (f2) (And.intro (f3) (And.intro (f4) (And.intro (f5) (And.intro (f6) (And.intro (g1) (And.intro (g2) (And.intro (g3) (And.intro (g4) (And.intro (g5) (g6)))))))))))))))) (hc := merge2_at _ _ _) (h := ?_) | refine CallP.mk (And.intro (uB) (And.intro (uM) (And.intro (uW) (And.intro (uK1) (And.intro (f1) (And.intro (f2) (And.intro (f3) (And.intro (f4) (And.intro (f5) (And.intro (f6) (And.intro (g1) (And.intro (g2) (And.intro (g3) (And.intro (g4) (And.intro (g5) (g6)))))))))))))))) (hc := above_at _ _ _) (h := ?_))))); refine RW.nil ⟨conf_of (by kernel_rfl), Pruned.mk (h := ?_)⟩)
    refine SW.seq (SW.block (SW.seq ?_))
    have g8 := Vec.cells_get x.2.1 hr
    rcases hd : decide ((x.2.1.get r : Int) ≤ T.has.get r) with _ | _
    · (refine SW.regL [0, 1, 3, 4, 5, 12, 14, 17, 42] mixed ?_; (repeat (first | refine RW.ro (And.intro (uB) (And.intro (uM) (And.intro (uW) (And.intro (uK1) (And.intro (uH) (And.intro (hd) (And.intro (f1) (And.intro (f2) (And.intro (f3) (And.intro (f4) (And.intro (f5) (And.intro (f6) (And.intro (g1) (And.intro (g2) (And.intro (g3) (And.intro (g4) (g8))))))))))))))))) (h := ?_) | refine RW.skip (h := ?_) | refine RW.op (And.intro (uB) (And.intro (uM) (And.intro (uW) (And.intro (uK1) (And.intro (uH) (And.intro (hd) (And.intro (f1) (And.intro (f2) (And.intro (f3) (And.intro (f4) (And.intro (f5) (And.intro (f6) (And.intro (g1) (And.intro (g2) (And.intro (g3) (And.intro (g4) (g8))))))))))))))))) (h := ?_) | refine RW.opN (And.intro (uB) (And.intro (uM) (And.intro (uW) (And.intro (uK1) (And.intro (uH) (And.intro (hd) (And.intro (f1) (And.intro (f2) (And.intro (f3) (And.intro (f4) (And.intro (f5) (And.intro (f6) (And.intro (g1) (And.intro (g2) (And.intro (g3) (And.intro (g4) (g8))))))))))))))))) (h := ?_) | refine RW.skip0 (h := ?_) | (refine RW.callC (h := ?_); (first | refine CallP.mk (And.intro (uB) (And.intro (uM) (And.intro (uW) (And.intro (uK1) (And.intro (uH) (And.intro (hd) (And.intro (f1) (And.intro (f2) (And.intro (f3) (And.intro (f4) (And.intro (f5) (And.intro (f6) (And.intro (g1) (And.intro (g2) (And.intro (g3) (And.intro (g4) (g8))))))))))))))))) (hc := merge2_at _ _ _) (h := ?_) | refine CallP.mk (And.intro (uB) (And.intro (uM) (And.intro (uW) (And.intro (uK1) (And.intro (uH) (And.intro (hd) (And.intro (f1) (And.intro (f2) (And.intro (f3) (And.intro (f4) (And.intro (f5) (And.intro (f6) (And.intro (g1) (And.intro (g2) (And.intro (g3) (And.intro (g4) (g8))))))))))))))))) (hc := above_at _ _ _) (h := ?_))))); refine RW.nil ⟨conf_of (by kernel_rfl), Pruned.mk (h := ?_)⟩)
      refine SW.condF rfl (SW.seq ?_)
      rcases ha : v'.above x.2.1 with _ | _
      · (refine SW.regL [0, 1, 3, 4, 5, 12, 14, 17, 42] mixed ?_; (repeat (first | refine RW.ro (And.intro (uB) (And.intro (uM) (And.intro (uW) (And.intro (uK1) (And.intro (uH) (And.intro (uC) (And.intro (uO) (And.intro (uS) (And.intro (uRb) (And.intro (uRm) (And.intro (hd) (And.intro (ha) (And.intro (f1) (And.intro (f2) (And.intro (f3) (And.intro (f4) (And.intro (f5) (And.intro (f6) (And.intro (g1) (And.intro (g2) (And.intro (g3) (And.intro (g4) (g8))))))))))))))))))))))) (h := ?_) | refine RW.skip (h := ?_) | refine RW.op (And.intro (uB) (And.intro (uM) (And.intro (uW) (And.intro (uK1) (And.intro (uH) (And.intro (uC) (And.intro (uO) (And.intro (uS) (And.intro (uRb) (And.intro (uRm) (And.intro (hd) (And.intro (ha) (And.intro (f1) (And.intro (f2) (And.intro (f3) (And.intro (f4) (And.intro (f5) (And.intro (f6) (And.intro (g1) (And.intro (g2) (And.intro (g3) (And.intro (g4) (g8))))))))))))))))))))))) (h := ?_) | refine RW.opN (And.intro (uB) (And.intro (uM) (And.intro (uW) (And.intro (uK1) (And.intro (uH) (And.intro (uC) (And.intro (uO) (And.intro (uS) (And.intro (uRb) (And.intro (uRm) (And.intro (hd) (And.intro (ha) (And.intro (f1) (And.intro (f2) (And.intro (f3) (And.intro (f4) (And.intro (f5) (And.intro (f6) (And.intro (g1) (And.intro (g2) (And.intro (g3) (And.intro (g4) (g8))))))))))))))))))))))) (h := ?_) | refine RW.skip0 (h := ?_) | (refine RW.callC (h := ?_); (first | refine CallP.mk (And.intro (uB) (And.intro (uM) (And.intro (uW) (And.intro (uK1) (And.intro (uH) (And.intro (uC) (And.intro (uO) (And.intro (uS) (And.intro (uRb) (And.intro (uRm) (And.intro (hd) (And.intro (ha) (And.intro (f1) (And.intro (f2) (And.intro (f3) (And.intro (f4) (And.intro (f5) (And.intro (f6) (And.intro (g1) (And.intro (g2) (And.intro (g3) (And.intro (g4) (g8))))))))))))))))))))))) (hc := merge2_at _ _ _) (h := ?_) | refine CallP.mk (And.intro (uB) (And.intro (uM) (And.intro (uW) (And.intro (uK1) (And.intro (uH) (And.intro (uC) (And.intro (uO) (And.intro (uS) (And.intro (uRb) (And.intro (uRm) (And.intro (hd) (And.intro (ha) (And.intro (f1) (And.intro (f2) (And.intro (f3) (And.intro (f4) (And.intro (f5) (And.intro (f6) (And.intro (g1) (And.intro (g2) (And.intro (g3) (And.intro (g4) (g8))))))))))))))))))))))) (hc := above_at _ _ _) (h := ?_))))); refine RW.nil ⟨conf_of (by kernel_rfl), Pruned.mk (h := ?_)⟩)
        refine SW.condT rfl (SW.exit ?_)
        have hd' : due T.has r x.2.1 = false := by unfold due; simpa using hd
        refine (?_ : ∃ j ρ, (_ : Nat) < _ ∧ Weak k _ _ ρ)
        refine ⟨⟨(v', L', seen ++ [x.1], ch), hi.wf, hi.c, hi.w, hi.len, hi.le, fun hc => ?_⟩, id, hm, Weak.same (by simp) (by simp [EnvW, List.lookup, SV.ren, SV.rens, SV.ok, SV.oks]; omega) (hok2 v' L' _ _ (Nat.le_refl _)) (fun y hy => lk_of_nodup (hn3 v' L' _ _) y (List.mem_cons_of_mem _ hy))⟩
        obtain ⟨rfl, rfl, hno⟩ := hi.no hc
        refine ⟨rfl, rfl, fun y hy hys => ?_⟩
        rcases List.mem_append.1 hys with hys | hys
        · exact hno y hy hys
        · have : y = x := MM.time_inj hi.wf.times hy hx (by simpa using hys)
          rw [this]; exact ⟨hd', ha⟩
      · (refine SW.regL [0, 1, 3, 4, 5, 12, 14, 17, 42] mixed ?_; (repeat (first | refine RW.ro (And.intro (uB) (And.intro (uM) (And.intro (uW) (And.intro (uK1) (And.intro (uH) (And.intro (uC) (And.intro (uO) (And.intro (uS) (And.intro (uRb) (And.intro (uRm) (And.intro (hd) (And.intro (ha) (And.intro (f1) (And.intro (f2) (And.intro (f3) (And.intro (f4) (And.intro (f5) (And.intro (f6) (And.intro (g1) (And.intro (g2) (And.intro (g3) (And.intro (g4) (g8))))))))))))))))))))))) (h := ?_) | refine RW.skip (h := ?_) | refine RW.op (And.intro (uB) (And.intro (uM) (And.intro (uW) (And.intro (uK1) (And.intro (uH) (And.intro (uC) (And.intro (uO) (And.intro (uS) (And.intro (uRb) (And.intro (uRm) (And.intro (hd) (And.intro (ha) (And.intro (f1) (And.intro (f2) (And.intro (f3) (And.intro (f4) (And.intro (f5) (And.intro (f6) (And.intro (g1) (And.intro (g2) (And.intro (g3) (And.intro (g4) (g8))))))))))))))))))))))) (h := ?_) | refine RW.opN (And.intro (uB) (And.intro (uM) (And.intro (uW) (And.intro (uK1) (And.intro (uH) (And.intro (uC) (And.intro (uO) (And.intro (uS) (And.intro (uRb) (And.intro (uRm) (And.intro (hd) (And.intro (ha) (And.intro (f1) (And.intro (f2) (And.intro (f3) (And.intro (f4) (And.intro (f5) (And.intro (f6) (And.intro (g1) (And.intro (g2) (And.intro (g3) (And.intro (g4) (g8))))))))))))))))))))))) (h := ?_) | refine RW.skip0 (h := ?_) | (refine RW.callC (h := ?_); (first | refine CallP.mk (And.intro (uB) (And.intro (uM) (And.intro (uW) (And.intro (uK1) (And.intro (uH) (And.intro (uC) (And.intro (uO) (And.intro (uS) (And.intro (uRb) (And.intro (uRm) (And.intro (hd) (And.intro (ha) (And.intro (f1) (And.intro (f2) (And.intro (f3) (And.intro (f4) (And.intro (f5) (And.intro (f6) (And.intro (g1) (And.intro (g2) (And.intro (g3) (And.intro (g4) (g8))))))))))))))))))))))) (hc := merge2_at _ _ _) (h := ?_) | refine CallP.mk (And.intro (uB) (And.intro (uM) (And.intro (uW) (And.intro (uK1) (And.intro (uH) (And.intro (uC) (And.intro (uO) (And.intro (uS) (And.intro (uRb) (And.intro (uRm) (And.intro (hd) (And.intro (ha) (And.intro (f1) (And.intro (f2) (And.intro (f3) (And.intro (f4) (And.intro (f5) (And.intro (f6) (And.intro (g1) (And.intro (g2) (And.intro (g3) (And.intro (g4) (g8))))))))))))))))))))))) (hc := above_at _ _ _) (h := ?_))))); refine RW.nil ⟨conf_of (by kernel_rfl), Pruned.mk (h := ?_)⟩)
        refine SW.condF rfl (SW.skip (SW.seq ?_))
        (refine SW.regL [0, 1, 3, 4, 5, 12, 14, 17, 42] mixed ?_; (repeat (first | refine RW.ro (And.intro (uB) (And.intro (uM) (And.intro (uW) (And.intro (uK1) (And.intro (uH) (And.intro (uC) (And.intro (uO) (And.intro (uS) (And.intro (uRb) (And.intro (uRm) (And.intro (hd) (And.intro (ha) (And.intro (f1) (And.intro (f2) (And.intro (f3) (And.intro (f4) (And.intro (f5) (And.intro (f6) (And.intro (g1) (And.intro (g2) (And.intro (g3) (And.intro (g4) (g8))))))))))))))))))))))) (h := ?_) | refine RW.skip (h := ?_) | refine RW.op (And.intro (uB) (And.intro (uM) (And.intro (uW) (And.intro (uK1) (And.intro (uH) (And.intro (uC) (And.intro (uO) (And.intro (uS) (And.intro (uRb) (And.intro (uRm) (And.intro (hd) (And.intro (ha) (And.intro (f1) (And.intro (f2) (And.intro (f3) (And.intro (f4) (And.intro (f5) (And.intro (f6) (And.intro (g1) (And.intro (g2) (And.intro (g3) (And.intro (g4) (g8))))))))))))))))))))))) (h := ?_) | refine RW.opN (And.intro (uB) (And.intro (uM) (And.intro (uW) (And.intro (uK1) (And.intro (uH) (And.intro (uC) (And.intro (uO) (And.intro (uS) (And.intro (uRb) (And.intro (uRm) (And.intro (hd) (And.intro (ha) (And.intro (f1) (And.intro (f2) (And.intro (f3) (And.intro (f4) (And.intro (f5) (And.intro (f6) (And.intro (g1) (And.intro (g2) (And.intro (g3) (And.intro (g4) (g8))))))))))))))))))))))) (h := ?_) | refine RW.skip0 (h := ?_) | (refine RW.callC (h := ?_); (first | refine CallP.mk (And.intro (uB) (And.intro (uM) (And.intro (uW) (And.intro (uK1) (And.intro (uH) (And.intro (uC) (And.intro (uO) (And.intro (uS) (And.intro (uRb) (And.intro (uRm) (And.intro (hd) (And.intro (ha) (And.intro (f1) (And.intro (f2) (And.intro (f3) (And.intro (f4) (And.intro (f5) (And.intro (f6) (And.intro (g1) (And.intro (g2) (And.intro (g3) (And.intro (g4) (g8))))))))))))))))))))))) (hc := merge2_at _ _ _) (h := ?_) | refine CallP.mk (And.intro (uB) (And.intro (uM) (And.intro (uW) (And.intro (uK1) (And.intro (uH) (And.intro (uC) (And.intro (uO) (And.intro (uS) (And.intro (uRb) (And.intro (uRm) (And.intro (hd) (And.intro (ha) (And.intro (f1) (And.intro (f2) (And.intro (f3) (And.intro (f4) (And.intro (f5) (And.intro (f6) (And.intro (g1) (And.intro (g2) (And.intro (g3) (And.intro (g4) (g8))))))))))))))))))))))) (hc := above_at _ _ _) (h := ?_))))); refine RW.nil ⟨conf_of (by kernel_rfl), Pruned.mk (h := ?_)⟩)
        (refine SW.regL [0, 1, 3, 4, 5, 12, 14, 17, 42] mixed ?_; (repeat (first | refine RW.ro bq_tt (h := ?_) | refine RW.skip (h := ?_) | refine RW.op bq_tt (h := ?_) | refine RW.opN bq_tt (h := ?_) | refine RW.skip0 (h := ?_) | (refine RW.callC (h := ?_); (first | refine CallP.mk bq_tt (hc := merge2_at _ _ _) (h := ?_) | refine CallP.mk bq_tt (hc := above_at _ _ _) (h := ?_))))); refine RW.nil ⟨conf_of (by kernel_rfl), Pruned.mk (h := ?_)⟩)
        have hd' : due T.has r x.2.1 = false := by unfold due; simpa using hd
        have hk : x.2.1 ∈ MM.keys L' := List.mem_map.2 ⟨x, hx, rfl⟩
        have e1 := settC_nd (c := v') hi.wf.keys hd'
        have e2 := settW_del hi.wf.keys e1 (.inr (Vec.above_trans (settC_above _ _ _ _) ha))
        have hl := del_len hi.wf.keys hk
        have hl2 := hi.le
        refine (?_ : ∃ j ρ, (_ : Nat) < _ ∧ Weak k _ _ ρ)
        refine ⟨⟨(v', MM.del L' x.2.1, seen ++ [x.1], true), del_wf hi.wf _, e1.trans hi.c, e2.trans hi.w, fun _ => Nat.lt_of_lt_of_le hl hl2, Nat.le_trans (Nat.le_of_lt hl) hl2, fun h => by cases h⟩, id, hu x.2.1, Weak.same (by simp) (by simp [EnvW, List.lookup, SV.ren, SV.rens, SV.ok, SV.oks]; omega) (hok2 v' _ _ _ (Nat.le_refl _)) (fun y hy => lk_of_nodup (hn3 v' _ _ _) y (List.mem_cons_of_mem _ hy))⟩
    · (refine SW.regL [0, 1, 3, 4, 5, 12, 14, 17, 42] mixed ?_; (repeat (first | refine RW.ro (And.intro (uB) (And.intro (uM) (And.intro (uW) (And.intro (uK1) (And.intro (uH) (And.intro (hd) (And.intro (f1) (And.intro (f2) (And.intro (f3) (And.intro (f4) (And.intro (f5) (And.intro (f6) (And.intro (g1) (And.intro (g2) (And.intro (g3) (And.intro (g4) (g8))))))))))))))))) (h := ?_) | refine RW.skip (h := ?_) | refine RW.op (And.intro (uB) (And.intro (uM) (And.intro (uW) (And.intro (uK1) (And.intro (uH) (And.intro (hd) (And.intro (f1) (And.intro (f2) (And.intro (f3) (And.intro (f4) (And.intro (f5) (And.intro (f6) (And.intro (g1) (And.intro (g2) (And.intro (g3) (And.intro (g4) (g8))))))))))))))))) (h := ?_) | refine RW.opN (And.intro (uB) (And.intro (uM) (And.intro (uW) (And.intro (uK1) (And.intro (uH) (And.intro (hd) (And.intro (f1) (And.intro (f2) (And.intro (f3) (And.intro (f4) (And.intro (f5) (And.intro (f6) (And.intro (g1) (And.intro (g2) (And.intro (g3) (And.intro (g4) (g8))))))))))))))))) (h := ?_) | refine RW.skip0 (h := ?_) | (refine RW.callC (h := ?_); (first | refine CallP.mk (And.intro (uB) (And.intro (uM) (And.intro (uW) (And.intro (uK1) (And.intro (uH) (And.intro (hd) (And.intro (f1) (And.intro (f2) (And.intro (f3) (And.intro (f4) (And.intro (f5) (And.intro (f6) (And.intro (g1) (And.intro (g2) (And.intro (g3) (And.intro (g4) (g8))))))))))))))))) (hc := merge2_at _ _ _) (h := ?_) | refine CallP.mk (And.intro (uB) (And.intro (uM) (And.intro (uW) (And.intro (uK1) (And.intro (uH) (And.intro (hd) (And.intro (f1) (And.intro (f2) (And.intro (f3) (And.intro (f4) (And.intro (f5) (And.intro (f6) (And.intro (g1) (And.intro (g2) (And.intro (g3) (And.intro (g4) (g8))))))))))))))))) (hc := above_at _ _ _) (h := ?_))))); refine RW.nil ⟨conf_of (by kernel_rfl), Pruned.mk (h := ?_)⟩)
      refine SW.condT rfl ?_
      (refine SW.regL [0, 1, 3, 4, 5, 12, 14, 17, 42] mixed ?_; (repeat (first | refine RW.ro (And.intro (uB) (And.intro (uM) (And.intro (uW) (And.intro (uK1) (And.intro (uH) (And.intro (uC) (And.intro (uO) (And.intro (uS) (And.intro (uRb) (And.intro (uRm) (And.intro (hd) (And.intro (f1) (And.intro (f2) (And.intro (f3) (And.intro (f4) (And.intro (f5) (And.intro (f6) (And.intro (g1) (And.intro (g2) (And.intro (g3) (And.intro (g4) (g8)))))))))))))))))))))) (h := ?_) | refine RW.skip (h := ?_) | refine RW.op (And.intro (uB) (And.intro (uM) (And.intro (uW) (And.intro (uK1) (And.intro (uH) (And.intro (uC) (And.intro (uO) (And.intro (uS) (And.intro (uRb) (And.intro (uRm) (And.intro (hd) (And.intro (f1) (And.intro (f2) (And.intro (f3) (And.intro (f4) (And.intro (f5) (And.intro (f6) (And.intro (g1) (And.intro (g2) (And.intro (g3) (And.intro (g4) (g8)))))))))))))))))))))) (h := ?_) | refine RW.opN (And.intro (uB) (And.intro (uM) (And.intro (uW) (And.intro (uK1) (And.intro (uH) (And.intro (uC) (And.intro (uO) (And.intro (uS) (And.intro (uRb) (And.intro (uRm) (And.intro (hd) (And.intro (f1) (And.intro (f2) (And.intro (f3) (And.intro (f4) (And.intro (f5) (And.intro (f6) (And.intro (g1) (And.intro (g2) (And.intro (g3) (And.intro (g4) (g8)))))))))))))))))))))) (h := ?_) | refine RW.skip0 (h := ?_) | (refine RW.callC (h := ?_); (first | refine CallP.mk (And.intro (uB) (And.intro (uM) (And.intro (uW) (And.intro (uK1) (And.intro (uH) (And.intro (uC) (And.intro (uO) (And.intro (uS) (And.intro (uRb) (And.intro (uRm) (And.intro (hd) (And.intro (f1) (And.intro (f2) (And.intro (f3) (And.intro (f4) (And.intro (f5) (And.intro (f6) (And.intro (g1) (And.intro (g2) (And.intro (g3) (And.intro (g4) (g8)))))))))))))))))))))) (hc := merge2_at _ _ _) (h := ?_) | refine CallP.mk (And.intro (uB) (And.intro (uM) (And.intro (uW) (And.intro (uK1) (And.intro (uH) (And.intro (uC) (And.intro (uO) (And.intro (uS) (And.intro (uRb) (And.intro (uRm) (And.intro (hd) (And.intro (f1) (And.intro (f2) (And.intro (f3) (And.intro (f4) (And.intro (f5) (And.intro (f6) (And.intro (g1) (And.intro (g2) (And.intro (g3) (And.intro (g4) (g8)))))))))))))))))))))) (hc := above_at _ _ _) (h := ?_))))); refine RW.nil ⟨conf_of (by kernel_rfl), Pruned.mk (h := ?_)⟩)
      refine SW.seq ?_
      (refine SW.regL [0, 1, 3, 4, 5, 12, 14, 17, 42] mixed ?_; (repeat (first | refine RW.ro (And.intro (uB) (And.intro (uM) (And.intro (uW) (And.intro (uK1) (And.intro (uH) (And.intro (uC) (And.intro (uO) (And.intro (uS) (And.intro (uRb) (And.intro (uRm) (And.intro (hd) (And.intro (f1) (And.intro (f2) (And.intro (f3) (And.intro (f4) (And.intro (f5) (And.intro (f6) (And.intro (g1) (And.intro (g2) (And.intro (g3) (And.intro (g4) (g8)))))))))))))))))))))) (h := ?_) | refine RW.skip (h := ?_) | refine RW.op (And.intro (uB) (And.intro (uM) (And.intro (uW) (And.intro (uK1) (And.intro (uH) (And.intro (uC) (And.intro (uO) (And.intro (uS) (And.intro (uRb) (And.intro (uRm) (And.intro (hd) (And.intro (f1) (And.intro (f2) (And.intro (f3) (And.intro (f4) (And.intro (f5) (And.intro (f6) (And.intro (g1) (And.intro (g2) (And.intro (g3) (And.intro (g4) (g8)))))))))))))))))))))) (h := ?_) | refine RW.opN (And.intro (uB) (And.intro (uM) (And.intro (uW) (And.intro (uK1) (And.intro (uH) (And.intro (uC) (And.intro (uO) (And.intro (uS) (And.intro (uRb) (And.intro (uRm) (And.intro (hd) (And.intro (f1) (And.intro (f2) (And.intro (f3) (And.intro (f4) (And.intro (f5) (And.intro (f6) (And.intro (g1) (And.intro (g2) (And.intro (g3) (And.intro (g4) (g8)))))))))))))))))))))) (h := ?_) | refine RW.skip0 (h := ?_) | (refine RW.callC (h := ?_); (first | refine CallP.mk (And.intro (uB) (And.intro (uM) (And.intro (uW) (And.intro (uK1) (And.intro (uH) (And.intro (uC) (And.intro (uO) (And.intro (uS) (And.intro (uRb) (And.intro (uRm) (And.intro (hd) (And.intro (f1) (And.intro (f2) (And.intro (f3) (And.intro (f4) (And.intro (f5) (And.intro (f6) (And.intro (g1) (And.intro (g2) (And.intro (g3) (And.intro (g4) (g8)))))))))))))))))))))) (hc := merge2_at _ _ _) (h := ?_) | refine CallP.mk (And.intro (uB) (And.intro (uM) (And.intro (uW) (And.intro (uK1) (And.intro (uH) (And.intro (uC) (And.intro (uO) (And.intro (uS) (And.intro (uRb) (And.intro (uRm) (And.intro (hd) (And.intro (f1) (And.intro (f2) (And.intro (f3) (And.intro (f4) (And.intro (f5) (And.intro (f6) (And.intro (g1) (And.intro (g2) (And.intro (g3) (And.intro (g4) (g8)))))))))))))))))))))) (hc := above_at _ _ _) (h := ?_))))); refine RW.nil ⟨conf_of (by kernel_rfl), Pruned.mk (h := ?_)⟩)
      (refine SW.regL [0, 1, 3, 4, 5, 12, 14, 17, 42] mixed ?_; (repeat (first | refine RW.ro bq_tt (h := ?_) | refine RW.skip (h := ?_) | refine RW.op bq_tt (h := ?_) | refine RW.opN bq_tt (h := ?_) | refine RW.skip0 (h := ?_) | (refine RW.callC (h := ?_); (first | refine CallP.mk bq_tt (hc := merge2_at _ _ _) (h := ?_) | refine CallP.mk bq_tt (hc := above_at _ _ _) (h := ?_))))); refine RW.nil ⟨conf_of (by kernel_rfl), Pruned.mk (h := ?_)⟩)
      have hd' : due T.has r x.2.1 = true := by unfold due; simpa using hd
      have hk : x.2.1 ∈ MM.keys L' := List.mem_map.2 ⟨x, hx, rfl⟩
      have e1 := settC_due (c := v') hi.wf.keys hk hd'
      have e2 := settW_del hi.wf.keys e1 (.inl hd')
      have hl := del_len hi.wf.keys hk
      have hl2 := hi.le
      refine (?_ : ∃ j ρ, (_ : Nat) < _ ∧ Weak k _ _ ρ)
      refine ⟨⟨(Vec.zip max v' x.2.1, MM.del L' x.2.1, seen ++ [x.1], true), del_wf hi.wf _, e1.trans hi.c, e2.trans hi.w, fun _ => Nat.lt_of_lt_of_le hl hl2, Nat.le_trans (Nat.le_of_lt hl) hl2, fun h => by cases h⟩, id, hu x.2.1, Weak.same (by simp) (by simp [EnvW, List.lookup, SV.ren, SV.rens, SV.ok, SV.oks]; omega) (hok2 _ _ _ _ (Nat.le_refl _)) (fun y hy => lk_of_nodup (hn3 _ _ _ _) y (List.mem_cons_of_mem _ hy))⟩
end
end Go.Proofs.Ytdnjkeeiopcipaa
