/-
  Trackers: what stays so, whatever is told.
-/
import Derived.Test.YtdnjkeeiopcipaaW12l
set_option linter.unusedSectionVars false
set_option linter.unusedVariables false
set_option linter.unusedSimpArgs false
namespace Go.Proofs.Ytdnjkeeiopcipaa
open Go.Sl Go.Proofs

structure Tk.good (T : Tk) (k : Nat) : Prop where
  sep : T.sep
  lt : T.lt k
  ww : T.ww
  n0 : T.n ≠ 0
  n8 : T.n ≤ 8
  own : T.own < T.n
theorem Tk.good.own8 {T : Tk} {k : Nat} (h : T.good k) : T.own < 8 := Nat.lt_of_lt_of_le h.own h.n8
theorem Tk.good.mono {T : Tk} {k k' : Nat} (h : T.good k) (hk : k ≤ k') : T.good k' :=
  ⟨h.sep, ⟨Nat.lt_of_lt_of_le h.lt.bx hk, fun r hr => Nat.lt_of_lt_of_le (h.lt.nm r hr) hk⟩, h.ww, h.n0, h.n8, h.own⟩
theorem newT_good {n own : Nat} (hn : 1 ≤ n ∧ n ≤ 8) (ho : own < n) (k : Nat) : (newT n own k).good (k + 9) :=
  ⟨newT_sep n own k, newT_lt n own k, newT_ww n own k, by show n ≠ 0; omega, hn.2, ho⟩
theorem Tk.settle_ww {T : Tk} (h : T.ww) : T.settle.ww := Tk.settTo_ww h T.n
theorem Tk.settle_good {T : Tk} {k : Nat} (h : T.good k) : T.settle.good k := by
  obtain ⟨b1, b2, b3, b4, b5⟩ := T.settTo_bx T.n
  have e3 : T.settle.n = T.n := b3
  have e4 : T.settle.own = T.own := b4
  exact ⟨Tk.sep_of h.sep b1 b2, Tk.lt_of h.lt b1 b2, Tk.settle_ww h.ww, by rw [e3]; exact h.n0, by rw [e3]; exact h.n8, by rw [e3, e4]; exact h.own⟩
theorem Tk.hasV_good {T : Tk} {k : Nat} (h : T.good k) (v : Vec) : (T.hasV v).1.good k := by
  unfold Tk.hasV
  split
  · exact h
  split
  · exact h
  · exact Tk.settle_good (T := T.setH v) ⟨⟨h.sep.bx, h.sep.inj⟩, ⟨h.lt.bx, h.lt.nm⟩, h.ww, h.n0, h.n8, h.own⟩
theorem Tk.hearV_good {T : Tk} {k : Nat} (h : T.good k) (r : Nat) (v : Vec) : (T.hearV r v k).1.good (k + 1) := by
  unfold Tk.hearV
  split
  · exact h.mono (Nat.le_succ _)
  rename_i hr
  split
  · exact h.mono (Nat.le_succ _)
  split
  · split <;> exact h.mono (Nat.le_succ _)
  · refine Tk.settle_good ?_
    obtain ⟨b1, b2, b3, b4⟩ := (T.opn r k).addw_bx r v
    obtain ⟨o1, o2, o3, _⟩ := T.opn_bx r k
    have := h.n8
    exact ⟨Tk.sep_of (Tk.opn_sep h.sep h.lt) b1 b2, Tk.lt_of (Tk.opn_lt h.lt) b1 b2, Tk.addw_ww (Tk.opn_ww h.ww r k) (by omega) v, by rw [b3, o2]; exact h.n0, by rw [b3, o2]; exact h.n8, by rw [b3, b4, o2, o3]; exact h.own⟩

/-- What a tracker holds, without its names. -/
structure Td where
  n : Nat
  own : Nat
  has : Vec
  cnt : Nat → Vec
  wt : Nat → List Vec
def Tk.td (T : Tk) : Td := ⟨T.n, T.own, T.has, T.cnt, fun r => match T.wt r with | none => [] | some (L, _) => MM.keys L⟩
end Go.Proofs.Ytdnjkeeiopcipaa

/-
  Trackers: the known answers (head), as data.
-/
set_option linter.unusedSectionVars false
set_option linter.unusedVariables false
set_option linter.unusedSimpArgs false
namespace Go.Proofs.Ytdnjkeeiopcipaa
open Go.Sl Go.Proofs

abbrev v2 (a b : Nat) : Vec := ⟨a, b, 0, 0, 0, 0, 0, 0⟩
def hd0 : Tk := newT 2 0 0
def hd1 : Tk := (hd0.hasV (v2 2 0)).1
def hd2 : Tk := (hd1.hearV 1 (v2 1 0) 16).1
def hd3 : Tk := (hd2.hearV 1 (v2 2 1) 24).1
def hd4 : Tk := (hd3.hasV (v2 2 1)).1
def hd5 : Tk := (hd4.hasV (v2 1 1)).1
def hd6 : Tk := (hd5.hearV 2 (v2 0 0) 44).1
theorem hd_codes : (hd0.hasV (v2 2 0)).2 = 0 ∧ (hd1.hearV 1 (v2 1 0) 16).2 = 0 ∧ (hd2.hearV 1 (v2 2 1) 24).2 = 0 ∧ (hd3.hasV (v2 2 1)).2 = 0 ∧ (hd4.hasV (v2 1 1)).2 = 9 ∧ (hd5.hearV 2 (v2 0 0) 44).2 = 2 ∧ (hd6.hearV 0 (v2 9 0) 50).2 = 9 := by
  refine ⟨?_, ?_, ?_, ?_, ?_, ?_, ?_⟩ <;> decide +kernel
theorem hd_stab : hd2.stab = v2 1 0 ∧ hd3.stab = v2 1 0 ∧ hd4.stab = v2 2 1 := by
  refine ⟨?_, ?_, ?_⟩ <;> decide +kernel
theorem hd_wait : hd3.wsum 8 = 1 ∧ hd4.wsum 8 = 0 := by
  refine ⟨?_, ?_⟩ <;> decide +kernel

section
attribute [local irreducible] SW RW SCd SC CallP Pruned
theorem v_ok (a b : Nat) : Go.Sl.Pure Try.prog law12_v.f [u32 a, u32 b] (.agg (v2 a b).cells) := by
  refine law12_v.enter (by first | rfl | simp [SV.ok, SV.oks]) (by first | rfl | simp [Hp.ok, Ob.ok, SV.ok, SV.oks, Vec.cells_ok]) (by simp) ?_
  unfold law12_v.s
  have s1 : ∀ (cs : List SV) (o : Nat) (c : SV), spl cs o [c] = cs.set o c := fun _ _ _ => rfl
  have s2 : ∀ (c : SV), Vec.zero.cells.set 0 c = [c, u32 0, u32 0, u32 0, u32 0, u32 0, u32 0, u32 0] := fun _ => rfl
  have s3 : ∀ (x z y : SV) (l : List SV), (x :: z :: l).set 1 y = x :: y :: l := fun _ _ _ _ => rfl
  have s4 : spl Vec.zero.cells 0 [u32 a, u32 b, u32 0, u32 0, u32 0, u32 0, u32 0, u32 0] = (v2 a b).cells := rfl
  (repeat (first | refine SW.seq ?_ | refine SW.block ?_ | (refine SW.regL [0, 1, 4] mixed ?_; (repeat (first | refine RW.ro (And.intro (s1) (And.intro (s2) (And.intro (s3) (s4)))) (h := ?_) | refine RW.skip (h := ?_) | refine RW.op (And.intro (s1) (And.intro (s2) (And.intro (s3) (s4)))) (h := ?_) | refine RW.opN (And.intro (s1) (And.intro (s2) (And.intro (s3) (s4)))) (h := ?_) | refine RW.skip0 (h := ?_))); refine RW.nil ⟨by kernel_rfl, Pruned.mk (h := ?_)⟩) | refine SW.skip ?_ | refine SW.exit ?_ | refine SW.ret ?_ | refine SW.condT rfl ?_ | refine SW.condF rfl ?_))
  exact End.mk [] (h4 := ⟨rfl, rfl⟩)
theorem v_at (a b k : Nat) : SCd Try.prog law12_v.f [.d (.int .u32 (a : Int)), .d (.int .u32 (b : Int))] [] k 0 (.agg (v2 a b).cells) [] := (v_ok a b).sc rfl k
end
end Go.Proofs.Ytdnjkeeiopcipaa

/-
  Trackers: head.
-/
set_option linter.unusedSectionVars false
set_option linter.unusedVariables false
set_option linter.unusedSimpArgs false
namespace Go.Proofs.Ytdnjkeeiopcipaa
open Go.Sl Go.Proofs

theorem hmrg_self {h : Hp} : ∀ {F : Hp}, (∀ x, x ∈ F → lk h x.1 = some x.2) → hsets h F = h
  | [], _ => rfl
  | (n, o) :: F, hx => by
    simp only [hsets]
    rw [hmrg_self fun x h => hx x (List.mem_cons_of_mem _ h)]
    exact hset_same (hx (n, o) (by simp))
theorem Tk.selfX {T : Tk} (hs : T.sep) {X : Hp} (h : HSub T.hp X) : hsets (hdels X T.hp T.hp) T.hp = X := by
  rw [hdels_same fun n hn => by obtain ⟨o, ho⟩ := lk_of_mem hn; rw [ho]; rfl]
  exact hmrg_self fun x hx => h _ _ (lk_of_nodup (Tk.nodup hs) x hx)
theorem lkX {H F F' : Hp} (hs : HSub F H) : lk (hsets (hdels H F' F) F') = mrg (lk H) (lk F) (lk F') := by
  have := lk_hmrg (ro := false) hs (F' := F') (fun h => by cases h)
  exact this
theorem subX {H F F' : Hp} (hs : HSub F H) : HSub F' (hsets (hdels H F' F) F') := fun n ob h => by
  rw [lkX hs, mrg_in (.inr (by rw [h]; simp)), h]
theorem outX {H F F' : Hp} (hs : HSub F H) {n : Nat} (h1 : lk F n = none) (h2 : lk F' n = none) : lk (hsets (hdels H F' F) F') n = lk H n := by
  rw [lkX hs, mrg_out h1 h2]

theorem g0 : hd0.good 9 := newT_good (by omega) (by omega) 0
theorem g1 : hd1.good 9 := Tk.hasV_good g0 _
theorem g2 : hd2.good 17 := Tk.hearV_good (k := 16) (g1.mono (by omega)) 1 _
theorem g3 : hd3.good 25 := Tk.hearV_good (k := 24) (g2.mono (by omega)) 1 _
theorem g4 : hd4.good 25 := Tk.hasV_good g3 _
theorem g5 : hd5.good 25 := Tk.hasV_good g4 _
theorem g6 : hd6.good 45 := Tk.hearV_good (k := 44) (g5.mono (by omega)) 2 _
theorem b0 : hd0.bx = 0 := rfl
theorem b1 : hd1.bx = 0 := (hd0.hasV_bx _).1.trans b0
theorem b2 : hd2.bx = 0 := (hd1.hear_nm _ _ _).1.trans b1
theorem b3 : hd3.bx = 0 := (hd2.hear_nm _ _ _).1.trans b2
theorem b4 : hd4.bx = 0 := (hd3.hasV_bx _).1.trans b3
theorem b5 : hd5.bx = 0 := (hd4.hasV_bx _).1.trans b4
theorem b6 : hd6.bx = 0 := (hd5.hear_nm _ _ _).1.trans b5

section
attribute [local irreducible] SW RW SCd SC CallP Pruned
theorem c1 : SCd Try.prog stable_Tracker_Has.f [.ptr 0 0, .agg (v2 2 0).cells] hd0.hp 9 5 (.d (.int .i64 0)) hd1.hp := by
  have h := has_at g0.sep g0.lt g0.n0 g0.n8 g0.own8 g0.ww (v2 2 0)
  rw [hd_codes.1, b0] at h; exact h
theorem c2 : SCd Try.prog stable_Tracker_Hear.f [.ptr 0 0, .d (.int .u8 1), .agg (v2 1 0).cells] hd1.hp 14 6 (.d (.int .i64 0)) hd2.hp := by
  have g := g1.mono (k' := 14) (by omega)
  have h := hear_at g.sep g.lt g.n0 g.n8 g.own8 g.ww 1 (by omega) (v2 1 0)
  rw [show (14 + 2 : Nat) = 16 from rfl, hd_codes.2.1, b1] at h; exact h
theorem c3 : SCd Try.prog stable_Tracker_Stable.f [.ptr 0 0] hd2.hp 20 1 (.agg (v2 1 0).cells) hd2.hp := by
  have g := g2.mono (k' := 20) (by omega)
  have h := stable_at g.sep g.lt g.n0 g.n8
  rw [hd_stab.1, b2] at h; exact h
theorem c4 : SCd Try.prog stable_Tracker_Hear.f [.ptr 0 0, .d (.int .u8 1), .agg (v2 2 1).cells] hd2.hp 22 6 (.d (.int .i64 0)) hd3.hp := by
  have g := g2.mono (k' := 22) (by omega)
  have h := hear_at g.sep g.lt g.n0 g.n8 g.own8 g.ww 1 (by omega) (v2 2 1)
  rw [show (22 + 2 : Nat) = 24 from rfl, hd_codes.2.2.1, b2] at h; exact h
theorem c5 : SCd Try.prog stable_Tracker_Stable.f [.ptr 0 0] hd3.hp 28 1 (.agg (v2 1 0).cells) hd3.hp := by
  have g := g3.mono (k' := 28) (by omega)
  have h := stable_at g.sep g.lt g.n0 g.n8
  rw [hd_stab.2.1, b3] at h; exact h
theorem wle {T : Tk} {i : Nat} (h : ∀ i, i < 9 → T.wsum i < 100) : ∀ i, i ≤ 8 → T.wsum i < 9223372036854775808 := fun i hi => by have := h i (by omega); omega
theorem w3 : ∀ i, i < 9 → hd3.wsum i < 100 := by decide +kernel
theorem w4 : ∀ i, i < 9 → hd4.wsum i < 100 := by decide +kernel
theorem c6 : SCd Try.prog stable_Tracker_Waits.f [.ptr 0 0] hd3.hp 29 0 (.d (.int .i64 1)) hd3.hp := by
  have g := g3.mono (k' := 29) (by omega)
  have h := waits_at g.sep g.lt g.n0 (wle (i := 0) w3)
  rw [hd_wait.1, b3] at h; exact h
theorem c7 : SCd Try.prog stable_Tracker_Has.f [.ptr 0 0, .agg (v2 2 1).cells] hd3.hp 30 5 (.d (.int .i64 0)) hd4.hp := by
  have g := g3.mono (k' := 30) (by omega)
  have h := has_at g.sep g.lt g.n0 g.n8 g.own8 g.ww (v2 2 1)
  rw [hd_codes.2.2.2.1, b3] at h; exact h
theorem c8 : SCd Try.prog stable_Tracker_Stable.f [.ptr 0 0] hd4.hp 35 1 (.agg (v2 2 1).cells) hd4.hp := by
  have g := g4.mono (k' := 35) (by omega)
  have h := stable_at g.sep g.lt g.n0 g.n8
  rw [hd_stab.2.2, b4] at h; exact h
theorem c9 : SCd Try.prog stable_Tracker_Waits.f [.ptr 0 0] hd4.hp 36 0 (.d (.int .i64 0)) hd4.hp := by
  have g := g4.mono (k' := 36) (by omega)
  have h := waits_at g.sep g.lt g.n0 (wle (i := 0) w4)
  rw [hd_wait.2, b4] at h; exact h
theorem c10 : SCd Try.prog stable_Tracker_Has.f [.ptr 0 0, .agg (v2 1 1).cells] hd4.hp 37 5 (.d (.int .i64 9)) hd5.hp := by
  have g := g4.mono (k' := 37) (by omega)
  have h := has_at g.sep g.lt g.n0 g.n8 g.own8 g.ww (v2 1 1)
  rw [hd_codes.2.2.2.2.1, b4] at h; exact h
theorem c11 : SCd Try.prog stable_Tracker_Hear.f [.ptr 0 0, .d (.int .u8 2), .agg (v2 0 0).cells] hd5.hp 42 6 (.d (.int .i64 2)) hd6.hp := by
  have g := g5.mono (k' := 42) (by omega)
  have h := hear_at g.sep g.lt g.n0 g.n8 g.own8 g.ww 2 (by omega) (v2 0 0)
  rw [show (42 + 2 : Nat) = 44 from rfl, hd_codes.2.2.2.2.2.1, b5] at h; exact h
theorem c12 : SCd Try.prog stable_Tracker_Hear.f [.ptr 0 0, .d (.int .u8 0), .agg (v2 9 0).cells] hd6.hp 48 6 (.d (.int .i64 9)) (hd6.hearV 0 (v2 9 0) 50).1.hp := by
  have g := g6.mono (k' := 48) (by omega)
  have h := hear_at g.sep g.lt g.n0 g.n8 g.own8 g.ww 0 (by omega) (v2 9 0)
  rw [show (48 + 2 : Nat) = 50 from rfl, hd_codes.2.2.2.2.2.2, b6] at h; exact h
end
end Go.Proofs.Ytdnjkeeiopcipaa
