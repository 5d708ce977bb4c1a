/-
  Trackers: a pass, whatever waits; at the names that stand.
-/
import Derived.Test.YtdnjkeeiopcipaaW12c
set_option linter.unusedSectionVars false
set_option linter.unusedVariables false
set_option linter.unusedSimpArgs false
namespace Go.Proofs.Ytdnjkeeiopcipaa
open Go.Sl Go.Proofs

/-- One replica's acks settled. -/
def Tk.sett (T : Tk) (r : Nat) : Tk := match T.wt r with
  | none => T
  | some (L, cl) => T.up r (settC T.has r (T.cnt r) L) (settW T.has r (T.cnt r) L) cl
/-- What waits is laid well. -/
def Tk.ww (T : Tk) : Prop := ∀ r, r < 8 → ∀ L cl, T.wt r = some (L, cl) → MM.wf L cl
theorem Tk.up_up {T : Tk} {r : Nat} {v v' : Vec} {L L' : VMap} {cl cl' : Nat} : (T.up r v L cl).up r v' L' cl' = T.up r v' L' cl' := by
  simp only [Tk.up, Tk.mk.injEq, true_and]
  exact ⟨funext fun i => by split <;> rfl, funext fun i => by split <;> rfl⟩
theorem Tk.sett_up {T : Tk} {r : Nat} {v : Vec} {L : VMap} {cl : Nat} : (T.up r v L cl).sett r = T.up r (settC T.has r v L) (settW T.has r v L) cl := by
  have h1 : (T.up r v L cl).wt r = some (L, cl) := by simp [Tk.up]
  have h2 : (T.up r v L cl).cnt r = v := by simp [Tk.up]
  unfold Tk.sett
  rw [h1]
  dsimp only
  rw [h2, Tk.up_up]
  rfl
theorem Tk.sett_bx (T : Tk) (r : Nat) : (T.sett r).bx = T.bx ∧ (T.sett r).nm = T.nm ∧ (T.sett r).n = T.n ∧ (T.sett r).own = T.own ∧ (T.sett r).has = T.has := by
  unfold Tk.sett; split <;> exact ⟨rfl, rfl, rfl, rfl, rfl⟩
/-- What a pass leaves. -/
structure PassR (T T' : Tk) (r : Nat) (ch : Bool) : Prop where
  ww : T'.ww
  s : T'.sett r = T.sett r
  bx : T'.bx = T.bx
  nm : T'.nm = T.nm
  yes : ch = true → wlen (T'.wt r) < wlen (T.wt r)
  no : ch = false → T' = T.sett r
theorem Tk.sep_of {T T' : Tk} (hs : T.sep) (h1 : T'.bx = T.bx) (h2 : T'.nm = T.nm) : T'.sep := ⟨by rw [h1, h2]; exact hs.bx, by rw [h2]; exact hs.inj⟩
theorem Tk.lt_of {T T' : Tk} {k : Nat} (hs : T.lt k) (h1 : T'.bx = T.bx) (h2 : T'.nm = T.nm) : T'.lt k := ⟨by rw [h1]; exact hs.bx, by rw [h2]; exact hs.nm⟩

section
attribute [local irreducible] SW RW SCd SC CallP Pruned Tk.cells Tk.hp Tk.up
variable {T : Tk} (hs : T.sep) {r : Nat} (hr : r < 8) {t1 k : Nat}
def PassA (T : Tk) (r t1 : Nat) : SV → Hp → Prop := fun x F => ∃ (T' : Tk) (ch : Bool), x = bl ch ∧ F = (t1, .box 26 [.ptr T'.bx 0]) :: T'.hp ∧ PassR T T' r ch

include hs hr in
set_option maxHeartbeats 1000000 in
theorem pass0_sb (hw : T.wt r = none) (hww : T.ww) (hlt : T.lt k) (ht1 : t1 < k) (htb : t1 ≠ T.bx) (htm : ∀ r, r < 8 → t1 ≠ T.nm r) :
    SB Try.prog stable_Tracker_settle_1.f [i64 r, .ptr t1 0] ((t1, .box 26 [.ptr T.bx 0]) :: T.hp) k 2 (PassA T r t1) := by
  have hbx := hlt.bx
  have hnm := hlt.nm r hr
  have hok1 : ∀ kx, k ≤ kx → Hp.ok (fun n => decide (n < kx)) ((t1, .box 26 [.ptr T.bx 0]) :: T.hp) = true := fun kx h => by
    have := Hp.ok_less h (Tk.okk hlt)
    simp only [Hp.ok, List.all_cons, Ob.ok, SV.oks, SV.ok, Bool.and_true, Bool.and_eq_true, decide_eq_true_eq] at this ⊢
    exact ⟨⟨by omega, by omega⟩, this⟩
  refine stable_Tracker_settle_1.enter (by simp [SV.ok, SV.oks]; omega) (hok1 k (Nat.le_refl _)) (by simp) ?_
  unfold stable_Tracker_settle_1.s
  have uB : List.lookup T.bx T.hp = some (.box 93 T.cells) := Tk.lkb
  have uM : List.lookup (T.nm r) T.hp = some .nomap := by rw [Tk.lkm hs hr, hw]; rfl
  have uW : T.cells[74 + r]? = some (.mp (T.nm r)) := Tk.ldw T hr
  have uK : List.lookup k T.hp = none := Tk.lkk hlt (Nat.le_refl _)
  have uRm : hrep T.hp (T.nm r) .nomap = T.hp := hrep_same uM
  have f1 := ne4 (Ne.symm htb)
  have f2 := ne4 (Ne.symm (htm r hr))
  have f3 := ne4 (show k ≠ t1 by omega)
  have f4 := ne4 (show k ≠ T.bx by omega)
  have f5 := ne4 (show k ≠ T.nm r by omega)
  have f6 := ne4 (hs.bx r hr)
  have hn1 : (((t1, .box 26 [.ptr T.bx 0]) :: T.hp : Hp).map (·.1)).Nodup := by
    rw [List.map_cons, List.nodup_cons]
    refine ⟨fun hm => ?_, Tk.nodup hs⟩
    rcases Tk.names hm with e | ⟨r', hr', e⟩
    · exact htb e
    · exact htm r' hr' e
  have hn2 : ∀ o, (((k, o) :: (t1, .box 26 [.ptr T.bx 0]) :: T.hp : Hp).map (·.1)).Nodup := fun o => by
    rw [List.map_cons, List.nodup_cons]
    refine ⟨fun hm => ?_, hn1⟩
    rcases List.mem_cons.1 hm with e | hm
    · dsimp only at e; omega
    · exact Tk.out hlt (Nat.le_refl _) hm
  have hok2 : Hp.ok (fun n => decide (n < k + 1)) ((k, .iter none 0 [] 0) :: (t1, .box 26 [.ptr T.bx 0]) :: T.hp) = true := by
    have := hok1 (k + 1) (by omega)
    simp only [Hp.ok, List.all_cons, Ob.ok, Bool.and_eq_true, decide_eq_true_eq] at this ⊢
    exact ⟨⟨by omega, by first | rfl | trivial⟩, this⟩
  refine SW.seq ?_
  (refine SW.regL [0, 1, 3, 4, 5, 12, 14, 17, 42] mixed ?_; (repeat (first | refine RW.ro bq_tt (h := ?_) | refine RW.skip (h := ?_) | refine RW.op bq_tt (h := ?_) | refine RW.opN bq_tt (h := ?_) | refine RW.skip0 (h := ?_))); refine RW.nil ⟨conf_of (by kernel_rfl), Pruned.mk (h := ?_)⟩)
  refine SW.seq ?_
  (refine SW.regL [0, 1, 3, 4, 5, 12, 14, 17, 42] mixed ?_; (repeat (first | refine RW.ro bq_tt (h := ?_) | refine RW.skip (h := ?_) | refine RW.op bq_tt (h := ?_) | refine RW.opN bq_tt (h := ?_) | refine RW.skip0 (h := ?_))); refine RW.nil ⟨conf_of (by kernel_rfl), Pruned.mk (h := ?_)⟩)
  refine SW.seq (SW.seq ?_)
  (refine SW.regL [0, 1, 3, 4, 5, 12, 14, 17, 42] mixed ?_; (repeat (first | refine RW.ro (And.intro (uB) (And.intro (uM) (And.intro (uW) (And.intro (uK) (And.intro (uRm) (And.intro (f1) (And.intro (f2) (And.intro (f3) (And.intro (f4) (And.intro (f5) (f6))))))))))) (h := ?_) | refine RW.skip (h := ?_) | refine RW.op (And.intro (uB) (And.intro (uM) (And.intro (uW) (And.intro (uK) (And.intro (uRm) (And.intro (f1) (And.intro (f2) (And.intro (f3) (And.intro (f4) (And.intro (f5) (f6))))))))))) (h := ?_) | refine RW.opN (And.intro (uB) (And.intro (uM) (And.intro (uW) (And.intro (uK) (And.intro (uRm) (And.intro (f1) (And.intro (f2) (And.intro (f3) (And.intro (f4) (And.intro (f5) (f6))))))))))) (h := ?_) | refine RW.skip0 (h := ?_))); refine RW.nil ⟨conf_of (by kernel_rfl), Pruned.mk (h := ?_)⟩)
  refine SW.block (SW.mapLoop0 (n := k) (since := 0) (seen := []) (s := 0) id ⟨[(4, bl false), (12, .it k)], (k, .iter none 0 [] 0) :: (t1, .box 26 [.ptr T.bx 0]) :: T.hp, k + 1⟩ ?_ (by simp [List.lookup]) (by simp [lk_cons]) ?_)
  · exact Weak.same (by simp) (by simp [EnvW, List.lookup, SV.ren, SV.rens, SV.ok, SV.oks]) hok2 (lk_of_nodup (hn2 _))
  · refine ⟨⟨[(4, bl false)], (t1, .box 26 [.ptr T.bx 0]) :: T.hp, k + 2⟩, id, Weak.same (by simp) (by simp [EnvW, List.lookup, SV.ren, SV.ok]) (hok1 _ (by simp)) (fun x hx => lk_of_nodup (hn2 _) x (List.mem_cons_of_mem _ hx)), ?_⟩
    refine (?_ : Sl.SW _ _ _ _ _ _)
    refine SW.seq ?_
    (refine SW.regL [0, 1, 3, 4, 5, 12, 14, 17, 42] mixed ?_; (repeat (first | refine RW.ro bq_tt (h := ?_) | refine RW.skip (h := ?_) | refine RW.op bq_tt (h := ?_) | refine RW.opN bq_tt (h := ?_) | refine RW.skip0 (h := ?_))); refine RW.nil ⟨conf_of (by kernel_rfl), Pruned.mk (h := ?_)⟩)
    refine SW.ret ?_
    refine End.mk _ (h3 := fun _ _ h => h) (h4 := ⟨T, false, rfl, rfl, hww, rfl, rfl, rfl, (fun h => by cases h), fun _ => ?_⟩) (h6 := hok1 _ (by omega))
    unfold Tk.sett
    rw [hw]

include hs hr in
theorem pass_any (hww : T.ww) (hlt : T.lt k) (ht1 : t1 < k) (htb : t1 ≠ T.bx) (htm : ∀ r, r < 8 → t1 ≠ T.nm r) :
    SB Try.prog stable_Tracker_settle_1.f [i64 r, .ptr t1 0] ((t1, .box 26 [.ptr T.bx 0]) :: T.hp) k 2 (PassA T r t1) := by
  cases hw : T.wt r with
  | none => exact pass0_sb hs hr hw hww hlt ht1 htb htm
  | some y =>
    obtain ⟨L, cl⟩ := y
    have h := pass_sb hs hr (v := T.cnt r) (hww r hr L cl hw) hlt ht1 htb htm
    rw [Tk.up_same hw] at h
    refine h.mono ?_
    rintro x F ⟨v', L', ch, rfl, rfl, h1, h2, h3, h4, h5⟩
    refine ⟨T.up r v' L' cl, ch, rfl, by rw [Tk.u_bx], ?_, ?_, Tk.u_bx, Tk.u_nm, fun hc => ?_, fun hc => ?_⟩
    · intro i hi L2 cl2 hw2
      unfold Tk.up at hw2
      dsimp only at hw2
      split at hw2
      · injection hw2 with e; injection e with e1 e2; rw [← e1, ← e2]; exact h1
      · exact hww i hi L2 cl2 hw2
    · rw [Tk.sett_up, h2, h3]
      unfold Tk.sett
      rw [hw]
    · have := h4 hc
      rw [hw]
      unfold Tk.up
      simpa [wlen] using this
    · obtain ⟨e1, e2⟩ := h5 hc
      unfold Tk.sett
      rw [hw]
      dsimp only
      rw [e1, e2]
include hs hr in
theorem pass_at (hww : T.ww) (hlt : T.lt k) (ht1 : t1 < k) (htb : t1 ≠ T.bx) (htm : ∀ r, r < 8 → t1 ≠ T.nm r) :
    SC Try.prog stable_Tracker_settle_1.f [i64 r, .ptr t1 0] ((t1, .box 26 [.ptr T.bx 0]) :: T.hp) k 2 (PassA T r t1) := by
  have q0 : ∀ (T' : Tk) (q : Nat → Bool), T'.bx = T.bx → T'.nm = T.nm → q t1 = true → q T.bx = true → (∀ r, r < 8 → q (T.nm r) = true) → Hp.ok q ((t1, .box 26 [.ptr T'.bx 0]) :: T'.hp) = true := fun T' q e1 e2 q1 q2 q3 => by
    have := Tk.ok (T := T') (q := q) (by rw [e1]; exact q2) (by rw [e2]; exact q3)
    simp only [Hp.ok, List.all_cons, Ob.ok, SV.oks, SV.ok, Bool.and_true, Bool.and_eq_true] at this ⊢
    exact ⟨⟨q1, by rw [e1]; exact q2⟩, this⟩
  have a1 : (lk ((t1, .box 26 [.ptr T.bx 0]) :: T.hp) t1).isSome = true := by simp [lk_cons]
  have a2 : (lk ((t1, .box 26 [.ptr T.bx 0]) :: T.hp) T.bx).isSome = true := by rw [lk_cons]; split; rfl; rw [show lk T.hp T.bx = _ from Tk.lkb]; rfl
  have a3 : ∀ r, r < 8 → (lk ((t1, .box 26 [.ptr T.bx 0]) :: T.hp) (T.nm r)).isSome = true := fun r hr => by rw [lk_cons]; split; rfl; rw [show lk T.hp (T.nm r) = _ from Tk.lkm hs hr]; rfl
  refine (pass_any hs hr hww hlt ht1 htb htm).here (fun n => (lk ((t1, .box 26 [.ptr T.bx 0]) :: T.hp) n).isSome) (fun n h e => by rw [e] at h; cases h) (by simp only [SV.oks, SV.ok, a1, Bool.and_true]) (q0 T _ rfl rfl a1 a2 a3) ?_
  rintro x F ⟨T', ch, rfl, rfl, hp⟩ _ _
  refine ⟨rfl, q0 T' _ hp.bx hp.nm (by simp only [a1, Bool.true_or]) (by simp only [a2, Bool.true_or]) fun r hr => by simp only [a3 r hr, Bool.true_or]⟩
end
end Go.Proofs.Ytdnjkeeiopcipaa
