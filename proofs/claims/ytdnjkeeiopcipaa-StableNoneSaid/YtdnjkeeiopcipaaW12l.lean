/-
  Trackers: New.
-/
import Derived.Test.YtdnjkeeiopcipaaW12k
set_option linter.unusedSectionVars false
set_option linter.unusedVariables false
set_option linter.unusedSimpArgs false
namespace Go.Proofs.Ytdnjkeeiopcipaa
open Go.Sl Go.Proofs

def newT (n own k : Nat) : Tk := ⟨k, fun r => k + 1 + r, n, own, Vec.zero, fun _ => Vec.zero, fun _ => none⟩
theorem newT_sep (n own k : Nat) : (newT n own k).sep := ⟨fun r _ => by show k + 1 + r ≠ k; omega, fun r s _ _ h => by have h : k + 1 + r = k + 1 + s := h; omega⟩
theorem newT_lt (n own k : Nat) : (newT n own k).lt (k + 9) := ⟨by show k < k + 9; omega, fun r hr => by show k + 1 + r < k + 9; omega⟩
theorem newT_ww (n own k : Nat) : (newT n own k).ww := fun r hr L cl h => by cases h
def mm (k : Nat) : Nat → Hp
  | 0 => []
  | j + 1 => (k + 1 + j, .nomap) :: mm k j
def newC (n own k j : Nat) : List SV :=
  i64 n :: u8 own :: (Vec.zero.cells ++ (Vec.zero.cells ++ (Vec.zero.cells ++ (Vec.zero.cells ++ (Vec.zero.cells ++ (Vec.zero.cells ++ (Vec.zero.cells ++ (Vec.zero.cells ++ (Vec.zero.cells ++
    ((List.range j).map (fun i => SV.mp (k + 1 + i)) ++ List.replicate (8 - j) (.d .nilm)))))))))))
theorem newC_get (n own k : Nat) : ∀ {j : Nat}, j < 8 → (newC n own k j)[74 + j]? = some (.d .nilm)
  | 0, _ | 1, _ | 2, _ | 3, _ | 4, _ | 5, _ | 6, _ | 7, _ => rfl
  | j + 8, h => by omega
theorem newC_set (n own k : Nat) : ∀ {j : Nat}, j < 8 → (newC n own k j).set (74 + j) (.mp (k + 1 + j)) = newC n own k (j + 1)
  | 0, _ | 1, _ | 2, _ | 3, _ | 4, _ | 5, _ | 6, _ | 7, _ => rfl
  | j + 8, h => by omega
theorem mm_lk (k : Nat) (o : Ob) : ∀ j, lk (mm k j ++ [(k, o)]) k = some o
  | 0 => by simp [mm, lk_cons]
  | j + 1 => by
    simp only [mm, List.cons_append]
    rw [lk_cons, if_neg (by omega)]
    exact mm_lk k o j
theorem mm_hrep (k : Nat) (o o' : Ob) : ∀ j, hrep (mm k j ++ [(k, o)]) k o' = mm k j ++ [(k, o')]
  | 0 => by simp [mm, hrep]
  | j + 1 => by
    simp only [mm, List.cons_append, hrep]
    rw [if_neg (by omega), mm_hrep k o o' j]
theorem SW.nilmaps {P : Program} {N k0 : Nat} {s : SCo} {Q : Exit → St → Prop} {env : List (Nat × SV)} (n own k : Nat) : ∀ (j : Nat), j ≤ 8 →
    Sl.SW P N k0 s ⟨env, mm k j ++ [(k, .box 93 (newC n own k j))], k + 1 + j⟩ Q → Sl.SW P N k0 s ⟨env, mm k 0 ++ [(k, .box 93 (newC n own k 0))], k + 1⟩ Q
  | 0, _, h => h
  | j + 1, hj, h => by
    refine SW.nilmaps n own k j (by omega) (SW.nilmap (st := ⟨env, mm k j ++ [(k, .box 93 (newC n own k j))], k + 1 + j⟩) k (74 + j) (mm_lk k _ j) (newC_get n own k (by omega)) ?_)
    have e : hset (mm k j ++ [(k, .box 93 (newC n own k j))]) k (.box 93 ((newC n own k j).set (74 + j) (.mp (k + 1 + j)))) = mm k j ++ [(k, .box 93 (newC n own k (j + 1)))] := by
      unfold hset
      rw [mm_lk]
      dsimp only
      rw [mm_hrep, newC_set n own k (by omega)]
    show Sl.SW P N k0 s ⟨env, (k + 1 + j, .nomap) :: hset (mm k j ++ [(k, .box 93 (newC n own k j))]) k (.box 93 ((newC n own k j).set (74 + j) (.mp (k + 1 + j)))), k + 1 + j + 1⟩ Q
    rw [e]
    exact h
theorem newC_all (n own k : Nat) : newC n own k 8 = (newT n own k).cells := rfl
theorem new_sub (n own k : Nat) : HSub (newT n own k).hp (mm k 8 ++ [(k, .box 93 (newC n own k 8))]) := fun m ob h => by
  have hm : (m, ob) ∈ (newT n own k).hp := by
    have : ∀ {h : Hp}, lk h m = some ob → (m, ob) ∈ h := by
      intro h
      induction h with
      | nil => intro h; simp [lk_nil] at h
      | cons y h ih =>
        intro hl
        rw [lk_cons] at hl
        split at hl
        · rename_i e; subst e; injection hl with hl; subst hl; simp
        · exact List.mem_cons_of_mem _ (ih hl)
    exact this h
  rcases Tk.mem_hp hm with e | ⟨r, hr, e⟩
  · injection e with e1 e2
    rw [e1, e2]
    exact mm_lk k _ 8
  · injection e with e1 e2
    rw [e1, e2]
    show lk _ (k + 1 + r) = some .nomap
    match r, hr with
    | 0, _ | 1, _ | 2, _ | 3, _ | 4, _ | 5, _ | 6, _ | 7, _ => simp [mm, lk_cons]

section
attribute [local irreducible] SW RW SCd SC CallP Pruned
set_option maxHeartbeats 1000000 in
theorem new_sb (n own : Nat) (hn : 1 ≤ n ∧ n ≤ 8) (ho : own < n) (k : Nat) : SB Try.prog stable_New.f [i64 n, u8 own] [] k 9 fun x F => x = .tup [.ptr k 0, i64 0] ∧ F = (newT n own k).hp := by
  refine stable_New.enter (by simp [SV.ok, SV.oks]) rfl (by simp) ?_
  unfold stable_New.s
  have h1 : decide ((n : Int) < 1) = false := by simp only [decide_eq_false_iff_not]; omega
  have h2 : decide ((n : Int) > 8) = false := by simp only [decide_eq_false_iff_not]; omega
  have h3 : decide ((own : Int) ≥ n) = false := by simp only [decide_eq_false_iff_not]; omega
  refine SW.seq ?_
  (refine SW.regL [0, 1, 4, 5, 17] mixed ?_; (repeat (first | refine RW.ro bq_tt (h := ?_) | refine RW.skip (h := ?_) | refine RW.op bq_tt (h := ?_) | refine RW.opN bq_tt (h := ?_) | refine RW.skip0 (h := ?_))); refine RW.nil ⟨conf_of (by kernel_rfl), Pruned.mk (h := ?_)⟩)
  refine SW.seq (SW.seq ?_)
  (refine SW.regL [0, 1, 4, 5, 17] mixed ?_; (repeat (first | refine RW.ro (And.intro (h1) (And.intro (h2) (h3))) (h := ?_) | refine RW.skip (h := ?_) | refine RW.op (And.intro (h1) (And.intro (h2) (h3))) (h := ?_) | refine RW.opN (And.intro (h1) (And.intro (h2) (h3))) (h := ?_) | refine RW.skip0 (h := ?_))); refine RW.nil ⟨conf_of (by kernel_rfl), Pruned.mk (h := ?_)⟩)
  refine SW.condF rfl (SW.skip ?_)
  refine SW.seq ?_
  have s1 : ∀ (cs : List SV) (o : Nat) (c : SV), spl cs o [c] = cs.set o c := fun _ _ _ => rfl
  have s2 : ∀ (x y : SV) (l : List SV), (x :: l).set 0 y = y :: l := fun _ _ _ => rfl
  have s3 : ∀ (x z y : SV) (l : List SV), (x :: z :: l).set 1 y = x :: y :: l := fun _ _ _ _ => rfl
  dsimp only
  (refine SW.regL [0, 1, 4, 5, 17] mixed ?_; (repeat (first | refine RW.ro (And.intro (s1) (And.intro (s2) (s3))) (h := ?_) | refine RW.skip (h := ?_) | refine RW.op (And.intro (s1) (And.intro (s2) (s3))) (h := ?_) | refine RW.opN (And.intro (s1) (And.intro (s2) (s3))) (h := ?_) | refine RW.skip0 (h := ?_))); refine RW.nil ⟨conf_of (by kernel_rfl), Pruned.mk (h := ?_)⟩)
  refine SW.nilmaps n own k 8 (by omega) (SW.ret ?_)
  refine End.mk (newT n own k).hp (h3 := new_sub n own k) (h4 := ⟨rfl, rfl⟩) (h5 := by simp [retV, SV.ok, SV.oks]) (h6 := Tk.okk (newT_lt n own k))
theorem new_at (n own : Nat) (hn : 1 ≤ n ∧ n ≤ 8) (ho : own < n) (k : Nat) : SCd Try.prog stable_New.f [i64 n, u8 own] [] k 9 (.tup [.ptr k 0, i64 0]) (newT n own k).hp := by
  unfold SCd
  refine (new_sb n own hn ho k).here (fun _ => false) (fun n h => by cases h) rfl rfl ?_
  rintro x F ⟨rfl, rfl⟩ _ _
  refine ⟨by simp [SV.ok, SV.oks], Tk.ok ?_ fun r hr => ?_⟩
  · show (false || (decide (k ≤ k) && decide (k < k + 9))) = true
    simp
  · show (false || (decide (k ≤ k + 1 + r) && decide (k + 1 + r < k + 9))) = true
    simp; omega
set_option maxHeartbeats 1000000 in
theorem new0_sb (n : Int) (own : Nat) (hn : -9223372036854775808 ≤ n ∧ n < 9223372036854775808) (ho : own < 256) (hbad : ¬ (1 ≤ n ∧ n ≤ 8 ∧ (own : Int) < n)) : Go.Sl.Pure Try.prog stable_New.f [i64 n, u8 own] (.tup [.d .nilp, i64 2]) := by
  refine stable_New.enter (by first | rfl | simp [SV.ok, SV.oks]) (by first | rfl | simp [Hp.ok, Ob.ok, SV.ok, SV.oks, Vec.cells_ok]) (by simp) ?_
  unfold stable_New.s
  refine SW.seq ?_
  (refine SW.regL [0, 1, 4, 5, 17] mixed ?_; (repeat (first | refine RW.ro bq_tt (h := ?_) | refine RW.skip (h := ?_) | refine RW.op bq_tt (h := ?_) | refine RW.opN bq_tt (h := ?_) | refine RW.skip0 (h := ?_))); refine RW.nil ⟨conf_of (by kernel_rfl), Pruned.mk (h := ?_)⟩)
  refine SW.seq (SW.seq ?_)
  rcases h1 : decide (n < 1) with _ | _
  · rcases h2 : decide (n > 8) with _ | _
    · have h3 : decide ((own : Int) ≥ n) = true := by
        simp only [decide_eq_false_iff_not, decide_eq_true_eq] at *; omega
      (refine SW.regL [0, 1, 4, 5, 17] mixed ?_; (repeat (first | refine RW.ro (And.intro (h1) (And.intro (h2) (h3))) (h := ?_) | refine RW.skip (h := ?_) | refine RW.op (And.intro (h1) (And.intro (h2) (h3))) (h := ?_) | refine RW.opN (And.intro (h1) (And.intro (h2) (h3))) (h := ?_) | refine RW.skip0 (h := ?_))); refine RW.nil ⟨conf_of (by kernel_rfl), Pruned.mk (h := ?_)⟩)
      refine SW.condT rfl (SW.seq ?_)
      (refine SW.regL [0, 1, 4, 5, 17] mixed ?_; (repeat (first | refine RW.ro bq_tt (h := ?_) | refine RW.skip (h := ?_) | refine RW.op bq_tt (h := ?_) | refine RW.opN bq_tt (h := ?_) | refine RW.skip0 (h := ?_))); refine RW.nil ⟨conf_of (by kernel_rfl), Pruned.mk (h := ?_)⟩)
      refine SW.ret ?_
      exact End.mk [] (h4 := ⟨rfl, rfl⟩)
    · (refine SW.regL [0, 1, 4, 5, 17] mixed ?_; (repeat (first | refine RW.ro (And.intro (h1) (h2)) (h := ?_) | refine RW.skip (h := ?_) | refine RW.op (And.intro (h1) (h2)) (h := ?_) | refine RW.opN (And.intro (h1) (h2)) (h := ?_) | refine RW.skip0 (h := ?_))); refine RW.nil ⟨conf_of (by kernel_rfl), Pruned.mk (h := ?_)⟩)
      refine SW.condT rfl (SW.seq ?_)
      (refine SW.regL [0, 1, 4, 5, 17] mixed ?_; (repeat (first | refine RW.ro bq_tt (h := ?_) | refine RW.skip (h := ?_) | refine RW.op bq_tt (h := ?_) | refine RW.opN bq_tt (h := ?_) | refine RW.skip0 (h := ?_))); refine RW.nil ⟨conf_of (by kernel_rfl), Pruned.mk (h := ?_)⟩)
      refine SW.ret ?_
      exact End.mk [] (h4 := ⟨rfl, rfl⟩)
  · (refine SW.regL [0, 1, 4, 5, 17] mixed ?_; (repeat (first | refine RW.ro (h1) (h := ?_) | refine RW.skip (h := ?_) | refine RW.op (h1) (h := ?_) | refine RW.opN (h1) (h := ?_) | refine RW.skip0 (h := ?_))); refine RW.nil ⟨conf_of (by kernel_rfl), Pruned.mk (h := ?_)⟩)
    refine SW.condT rfl (SW.seq ?_)
    (refine SW.regL [0, 1, 4, 5, 17] mixed ?_; (repeat (first | refine RW.ro bq_tt (h := ?_) | refine RW.skip (h := ?_) | refine RW.op bq_tt (h := ?_) | refine RW.opN bq_tt (h := ?_) | refine RW.skip0 (h := ?_))); refine RW.nil ⟨conf_of (by kernel_rfl), Pruned.mk (h := ?_)⟩)
    refine SW.ret ?_
    exact End.mk [] (h4 := ⟨rfl, rfl⟩)
end
end Go.Proofs.Ytdnjkeeiopcipaa
