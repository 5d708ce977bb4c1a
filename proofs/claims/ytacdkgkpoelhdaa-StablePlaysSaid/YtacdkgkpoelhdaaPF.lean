/-
  Trackers: settled.
-/
import Derived.Test.YtacdkgkpoelhdaaPE
import Derived.Test.YtacdkgkpoelhdaaP6
set_option linter.unusedSectionVars false
set_option linter.unusedVariables false
set_option linter.unusedSimpArgs false
namespace Go.Proofs.Ytacdkgkpoelhdaa
open Go.Sl Go.Proofs
def Tk.settTo (T : Tk) : Nat → Tk
  | 0 => T
  | r + 1 => (T.settTo r).sett r
def Tk.settle (T : Tk) : Tk := (T.settTo T.n).setC T.own T.has
theorem Tk.settTo_bx (T : Tk) : ∀ r, (T.settTo r).bx = T.bx ∧ (T.settTo r).nm = T.nm ∧ (T.settTo r).n = T.n ∧ (T.settTo r).own = T.own ∧ (T.settTo r).has = T.has
  | 0 => ⟨rfl, rfl, rfl, rfl, rfl⟩
  | r + 1 => by
    obtain ⟨h1, h2, h3, h4, h5⟩ := Tk.settTo_bx T r
    obtain ⟨g1, g2, g3, g4, g5⟩ := Tk.sett_bx (T.settTo r) r
    exact ⟨g1.trans h1, g2.trans h2, g3.trans h3, g4.trans h4, g5.trans h5⟩
theorem Tk.sett_ww {T : Tk} (h : T.ww) (r : Nat) : (T.sett r).ww := by
  unfold Tk.sett
  split
  · exact h
  · rename_i L cl hw
    intro i hi L2 cl2 hw2
    simp only [Tk.up] at hw2
    split at hw2
    · rename_i e
      injection hw2 with e1; injection e1 with e1 e2
      rw [← e1, ← e2]
      exact MM.wf_filter (h r (e ▸ hi) L cl hw) _
    · exact h i hi L2 cl2 hw2
theorem Tk.settTo_ww {T : Tk} (h : T.ww) : ∀ r, (T.settTo r).ww
  | 0 => h
  | r + 1 => Tk.sett_ww (Tk.settTo_ww h r) r
section
attribute [local irreducible] SW RW SCd SC CallP Pruned Tk.cells Tk.hp Tk.up
variable {T : Tk} (hs : T.sep) {k : Nat}
include hs in
set_option maxHeartbeats 1000000 in
theorem settle_sb (hn : T.n ≤ 8) (ho : T.own < 8) (hww : T.ww) (hlt : T.lt k) :
    SB Try.prog stable_Tracker_settle.f [.ptr T.bx 0] T.hp k 3 (fun x F => x = .tup [] ∧ F = T.settle.hp) := by
  have hbx := hlt.bx
  have hok0 : ∀ (T' : Tk) kx, T'.bx = T.bx → T'.nm = T.nm → k ≤ kx → Hp.ok (fun n => decide (n < kx)) T'.hp = true := fun T' kx e1 e2 h => Hp.ok_less h (Tk.okk (Tk.lt_of hlt e1 e2))
  have hok1 : ∀ (T' : Tk) kx, T'.bx = T.bx → T'.nm = T.nm → k + 1 ≤ kx → Hp.ok (fun n => decide (n < kx)) ((k, .box 27 [.ptr T.bx 0]) :: T'.hp) = true := fun T' kx e1 e2 h => by
    have := hok0 T' kx e1 e2 (by omega)
    simp only [Hp.ok, List.all_cons, Ob.ok, SV.oks, SV.ok, Bool.and_true, Bool.and_eq_true, decide_eq_true_eq] at this ⊢
    exact ⟨⟨by omega, by omega⟩, this⟩
  have hn1 : ∀ (T' : Tk) o, T'.bx = T.bx → T'.nm = T.nm → (((k, o) :: T'.hp : Hp).map (·.1)).Nodup := fun T' o e1 e2 => by
    rw [List.map_cons, List.nodup_cons]
    exact ⟨fun hm => Tk.out (Tk.lt_of hlt e1 e2) (Nat.le_refl _) hm, Tk.nodup (Tk.sep_of hs e1 e2)⟩
  refine stable_Tracker_settle.enter (by simp [SV.ok, SV.oks]; omega) (Tk.okk hlt) (by simp) ?_
  unfold stable_Tracker_settle.s
  have f1 := ne4 (show k ≠ T.bx by omega)
  have uK : List.lookup k T.hp = none := Tk.lkk hlt (Nat.le_refl _)
  have uB : List.lookup T.bx T.hp = some (.box 86 T.cells) := Tk.lkb
  have uN : T.cells[0]? = some (.d (.int .i64 T.n)) := Tk.ldn T
  refine SW.seq ?_
  (refine SW.regL [0, 1, 2, 3, 8, 9, 10, 14] mixed ?_; (repeat (first | refine RW.ro (And.intro (uK) (f1)) (h := ?_) | refine RW.skip (h := ?_) | refine RW.op (And.intro (uK) (f1)) (h := ?_) | refine RW.opN (And.intro (uK) (f1)) (h := ?_) | refine RW.skip0 (h := ?_))); refine RW.nil ⟨conf_of (by kernel_rfl), Pruned.mk (h := ?_)⟩)
  refine SW.seq ?_
  (refine SW.regL [0, 1, 2, 3, 8, 9, 10, 14] mixed ?_; (repeat (first | refine RW.ro (And.intro (uK) (f1)) (h := ?_) | refine RW.skip (h := ?_) | refine RW.op (And.intro (uK) (f1)) (h := ?_) | refine RW.opN (And.intro (uK) (f1)) (h := ?_) | refine RW.skip0 (h := ?_))); refine RW.nil ⟨conf_of (by kernel_rfl), Pruned.mk (h := ?_)⟩)
  refine SW.seq (SW.seq ?_)
  (have fx := (And.intro (uB) (And.intro (uN) (f1))); refine SW.regL [0, 1, 2, 3, 8, 9, 10, 14] mixed ?_; (repeat (first | refine RW.ro fx (h := ?_) | refine RW.skip (h := ?_) | refine RW.op fx (h := ?_) | refine RW.opN fx (h := ?_) | refine RW.skip0 (h := ?_))); refine RW.nil ⟨conf_of (by kernel_rfl), Pruned.mk (h := ?_)⟩)
  refine SW.block (SW.loop (α := {i : Nat // i ≤ T.n}) (fun i => ⟨[(9, i64 i.1), (8, i64 T.n), (1, .ptr k 0), (2, .fn (.func 88) [] [.ptr k 0])], (k, .box 27 [.ptr T.bx 0]) :: (T.settTo i.1).hp, k + 1⟩) (fun i => T.n - i.1) ⟨0, by omega⟩ id ?_ ?_)
  · exact Weak.same (by simp) (by simp [EnvW, List.lookup, SV.ren, SV.rens, SV.ok, SV.oks]) (hok1 T _ rfl rfl (Nat.le_refl _)) (lk_of_nodup (hn1 T _ rfl rfl))
  rintro ⟨i, hi⟩
  dsimp only
  obtain ⟨b1, b2, b3, b4, b5⟩ := T.settTo_bx i
  by_cases h : i < T.n
  · have h1 : decide ((i : Int) < T.n) = true := by simp only [decide_eq_true_eq]; omega
    refine SW.seq ?_
    (refine SW.regL [0, 1, 2, 3, 8, 9, 10, 14] mixed ?_; (repeat (first | refine RW.ro (h1) (h := ?_) | refine RW.skip (h := ?_) | refine RW.op (h1) (h := ?_) | refine RW.opN (h1) (h := ?_) | refine RW.skip0 (h := ?_))); refine RW.nil ⟨conf_of (by kernel_rfl), Pruned.mk (h := ?_)⟩)
    refine SW.seq (SW.condT rfl (SW.skip ?_))
    refine SW.seq (SW.block (SW.seq ?_))
    (refine SW.regL [0, 1, 2, 3, 8, 9, 10, 14] mixed ?_; (repeat (first | refine RW.ro bq_tt (h := ?_) | refine RW.skip (h := ?_) | refine RW.op bq_tt (h := ?_) | refine RW.opN bq_tt (h := ?_) | refine RW.skip0 (h := ?_))); refine RW.nil ⟨conf_of (by kernel_rfl), Pruned.mk (h := ?_)⟩)
    refine SW.block (SW.loop (α := {T' : Tk // T'.ww ∧ T'.sett i = (T.settTo i).sett i ∧ T'.bx = T.bx ∧ T'.nm = T.nm}) (fun j => ⟨[(3, i64 i), (9, i64 i), (8, i64 T.n), (1, .ptr k 0), (2, .fn (.func 88) [] [.ptr k 0])], (k, .box 27 [.ptr T.bx 0]) :: j.1.hp, k + 1⟩) (fun j => wlen (j.1.wt i)) ⟨T.settTo i, Tk.settTo_ww hww i, rfl, b1, b2⟩ id ?_ ?_)
    · exact Weak.same (by simp) (by simp [EnvW, List.lookup, SV.ren, SV.rens, SV.ok, SV.oks]) (hok1 _ _ b1 b2 (Nat.le_refl _)) (lk_of_nodup (hn1 _ _ b1 b2))
    rintro ⟨T', j1, j2, j3, j4⟩
    dsimp only
    have hs' := Tk.sep_of hs j3 j4
    have hlt' := Tk.lt_of hlt j3 j4
    refine SW.seq (SW.seq (SW.ofN ?_))
    (repeat (first | refine SWn.op bq_tt (h := ?_) | refine SWn.opN bq_tt (h := ?_) | refine SWn.skip (h := ?_)))
    have hc := pass_at hs' (r := i) (by omega) j1 (k := k + 1) (t1 := k) ⟨by rw [j3]; omega, fun r hr => by have := hlt'.nm r hr; omega⟩ (by omega) (by rw [j3]; omega) (fun r hr => by have := hlt'.nm r hr; omega)
    rw [j3] at hc
    refine SWn.callC hc (fun _ _ h => h) (h := ?_)
    rintro v F' ⟨T2, ch, rfl, rfl, hp⟩
    have c34 := hp.bx.trans j3
    have c4 := hp.nm.trans j4
    rw [c34]
    (repeat (first | refine SWn.op bq_tt (h := ?_) | refine SWn.opN bq_tt (h := ?_) | refine SWn.skip (h := ?_)))
    refine SWn.nil ?_
    have hlk := lk_hmrg (ro := false) (h := (k, Ob.box 27 [.ptr T.bx 0]) :: T'.hp) (F := (k, Ob.box 27 [.ptr T.bx 0]) :: T'.hp) (F' := (k, Ob.box 27 [.ptr T.bx 0]) :: T2.hp) (fun _ _ h => h) (fun h => by cases h)
    have hx : ∀ x, x ∈ ((k, Ob.box 27 [.ptr T.bx 0]) :: T2.hp : Hp) → lk (hmrg false ((k, Ob.box 27 [.ptr T.bx 0]) :: T'.hp) ((k, Ob.box 27 [.ptr T.bx 0]) :: T'.hp) ((k, Ob.box 27 [.ptr T.bx 0]) :: T2.hp)) x.1 = some x.2 := fun x hx => by
      have := lk_of_nodup (hn1 T2 _ c34 c4) x hx
      rw [hlk, mrg_in (.inr (by rw [this]; simp)), this]
    refine SW.weak id (st1 := ⟨[(14, bl ch), (3, i64 i), (9, i64 i), (8, i64 T.n), (1, .ptr k 0), (2, .fn (.func 88) [] [.ptr k 0])], (k, Ob.box 27 [.ptr T.bx 0]) :: T2.hp, k + 3⟩) (Weak.same (by simp) (by simp [EnvW, List.lookup, SV.ren, SV.rens, SV.ok, SV.oks]; try omega) (hok1 _ _ c34 c4 (by simp)) hx) ?_
    cases ch with
    | true =>
      refine SW.condT rfl (SW.skip (SW.block (SW.skip ?_)))
      exact ⟨⟨T2, hp.ww, hp.s.trans j2, c34, c4⟩, id, hp.yes rfl, Weak.same (by simp) (by simp [EnvW, List.lookup, SV.ren, SV.rens, SV.ok, SV.oks]; try omega) (hok1 _ _ c34 c4 (by simp)) (lk_of_nodup (hn1 T2 _ c34 c4))⟩
    | false =>
      refine SW.condF rfl (SW.exit ?_)
      have e2 : T2 = T.settTo (i + 1) := (hp.no rfl).trans j2
      refine (?_ : Sl.SW _ _ _ _ _ _)
      (refine SW.regL [0, 1, 2, 3, 8, 9, 10, 14] mixed ?_; (repeat (first | refine RW.ro bq_tt (h := ?_) | refine RW.skip (h := ?_) | refine RW.op bq_tt (h := ?_) | refine RW.opN bq_tt (h := ?_) | refine RW.skip0 (h := ?_))); refine RW.nil ⟨conf_of (by kernel_rfl), Pruned.mk (h := ?_)⟩)
      refine ⟨⟨i + 1, by omega⟩, id, by simp; omega, ?_⟩
      rw [e2] at c34 c4 ⊢
      exact Weak.same (by simp) (by simp [EnvW, List.lookup, SV.ren, SV.rens, SV.ok, SV.oks]; try omega) (hok1 _ _ c34 c4 (by simp)) (lk_of_nodup (hn1 _ _ c34 c4))
  · have h1 : decide ((i : Int) < T.n) = false := by simp only [decide_eq_false_iff_not]; omega
    have e : i = T.n := by omega
    subst e
    refine SW.seq ?_
    (refine SW.regL [0, 1, 2, 3, 8, 9, 10, 14] mixed ?_; (repeat (first | refine RW.ro (h1) (h := ?_) | refine RW.skip (h := ?_) | refine RW.op (h1) (h := ?_) | refine RW.opN (h1) (h := ?_) | refine RW.skip0 (h := ?_))); refine RW.nil ⟨conf_of (by kernel_rfl), Pruned.mk (h := ?_)⟩)
    refine SW.seq (SW.condF rfl (SW.exit ?_))
    refine (?_ : Sl.SW _ _ _ _ _ _)
    have hs1 := Tk.sep_of hs b1 b2
    have hT : T.settle = (T.settTo T.n).setC T.own T.has := rfl
    rw [hT]
    generalize T.settTo T.n = T1 at *
    have uB1 : List.lookup T.bx T1.hp = some (.box 86 T1.cells) := by rw [← b1]; exact Tk.lkb
    have uO : T1.cells[1]? = some (.d (.int .u8 T.own)) := by rw [← b4]; exact Tk.ldown T1
    have uH : (T1.cells.drop 2).take 8 = T.has.cells := by rw [← b5]; exact Tk.ldhas T1
    have uS : spl T1.cells (10 + T.own * 8) T.has.cells = (T1.setC T.own T.has).cells := Tk.splcnt T1 ho T.has
    have uR : hrep T1.hp T.bx (.box 86 (T1.setC T.own T.has).cells) = (T1.setC T.own T.has).hp := by rw [← b1]; exact Tk.hrepc
    have uL1 : (2 + 8 ≤ T1.cells.length) = True := eq_true (by rw [Tk.cells_len]; omega)
    have uL2 : (10 + T.own * 8 + 8 ≤ T1.cells.length) = True := eq_true (by rw [Tk.cells_len]; omega)
    refine SW.weak id (st1 := ⟨[(1, .ptr k 0)], (k, Ob.box 27 [.ptr T.bx 0]) :: T1.hp, k + 3⟩) (Weak.same (by simp) (by simp [EnvW, List.lookup, SV.ren, SV.rens, SV.ok, SV.oks]) (hok1 _ _ b1 b2 (by simp)) (lk_of_nodup (hn1 _ _ b1 b2))) ?_
    (have fx := (And.intro (uB1) (And.intro (uO) (And.intro (uH) (And.intro (uS) (And.intro (uR) (And.intro (uL1) (And.intro (uL2) (f1)))))))); refine SW.regL [0, 1, 2, 3, 8, 9, 10, 14] mixed ?_; (repeat (first | refine RW.ro fx (h := ?_) | refine RW.skip (h := ?_) | refine RW.op fx (h := ?_) | refine RW.opN fx (h := ?_) | refine RW.skip0 (h := ?_))); refine RW.nil ⟨conf_of (by kernel_rfl), Pruned.mk (h := ?_)⟩)
    refine End.mk ((T1.setC T.own T.has).hp) (h3 := fun n ob hh => ?_) (h4 := ⟨rfl, rfl⟩) (h6 := hok0 (T1.setC T.own T.has) _ b1 b2 (by omega))
    rw [lk_cons, if_neg fun e => ?_]
    · exact hh
    · rw [e] at hh
      rw [show lk (T1.setC T.own T.has).hp k = none from Tk.lkk (T := T1.setC T.own T.has) (Tk.lt_of hlt b1 b2) (Nat.le_refl _)] at hh
      cases hh
include hs in
theorem settle_at (hn : T.n ≤ 8) (ho : T.own < 8) (hww : T.ww) (hlt : T.lt k) : SCd Try.prog stable_Tracker_settle.f [.ptr T.bx 0] T.hp k 3 (.tup []) T.settle.hp := by
  unfold SCd
  obtain ⟨b1, b2, _⟩ := T.settTo_bx T.n
  have e1 : T.settle.bx = T.bx := b1
  have e2 : T.settle.nm = T.nm := b2
  have a2 : (lk T.hp T.bx).isSome = true := by rw [show lk T.hp T.bx = _ from Tk.lkb]; rfl
  have a3 : ∀ r, r < 8 → (lk T.hp (T.nm r)).isSome = true := fun r hr => by rw [show lk T.hp (T.nm r) = _ from Tk.lkm hs hr]; rfl
  refine (settle_sb hs hn ho hww hlt).here (fun n => (lk T.hp n).isSome) (fun n h e => by rw [e] at h; cases h) (by simp only [SV.oks, SV.ok, a2, Bool.and_true]) (Tk.ok a2 a3) ?_
  rintro x F ⟨rfl, rfl⟩ _ _
  refine ⟨rfl, Tk.ok (by rw [e1]; simp only [a2, Bool.true_or]) fun r hr => by rw [e2]; simp only [a3 r hr, Bool.true_or]⟩
end
end Go.Proofs.Ytacdkgkpoelhdaa
namespace Go.Proofs.Ytacdkgkpoelhdaa
open Go.Sl Go.Proofs
def repl (F : Hp) (x : Nat × Ob) : Nat × Ob := match lk F x.1 with
  | some o => (x.1, o)
  | none => x
theorem hrep_map : ∀ {h : Hp} {n : Nat} {o : Ob}, (h.map (·.1)).Nodup → n ∈ h.map (·.1) → hrep h n o = h.map fun x => if x.1 = n then (n, o) else x
  | [], n, o, _, hm => by cases hm
  | (m, o') :: h, n, o, hn, hm => by
    rw [List.map_cons, List.nodup_cons] at hn
    simp only [hrep, List.map_cons]
    by_cases e : m = n
    · subst e
      simp only [if_true]
      congr 1
      symm
      conv => rhs; rw [← List.map_id h]
      refine List.map_congr_left fun x hx => ?_
      rw [if_neg fun e => hn.1 (by rw [← e]; exact List.mem_map.2 ⟨x, hx, rfl⟩)]
      rfl
    · rw [if_neg e, if_neg e, hrep_map hn.2 ((List.mem_cons.1 hm).resolve_left fun h => e h.symm)]
theorem lk_of_mem {h : Hp} {n : Nat} (hm : n ∈ h.map (·.1)) : ∃ o, lk h n = some o := by
  induction h with
  | nil => cases hm
  | cons y h ih =>
    obtain ⟨m, o⟩ := y
    rw [lk_cons]
    by_cases e : n = m
    · exact ⟨o, by rw [if_pos e]⟩
    · rw [if_neg e]
      exact ih ((List.mem_cons.1 hm).resolve_left e)
theorem repl_names (F : Hp) (x : Nat × Ob) : (repl F x).1 = x.1 := by unfold repl; split <;> rfl
theorem hsets_map {h : Hp} (hn : (h.map (·.1)).Nodup) : ∀ {F : Hp}, (F.map (·.1)).Nodup → (∀ n, n ∈ F.map (·.1) → n ∈ h.map (·.1)) → hsets h F = h.map (repl F)
  | [], _, _ => by
    simp only [hsets]
    conv => lhs; rw [← List.map_id h]
    rfl
  | (n, o) :: F, hF, hsub => by
    rw [List.map_cons, List.nodup_cons] at hF
    have ih := hsets_map hn hF.2 fun m hm => hsub m (List.mem_cons_of_mem _ hm)
    have hnames : (h.map (repl F)).map (·.1) = h.map (·.1) := by rw [List.map_map]; exact List.map_congr_left fun x _ => repl_names F x
    have hmem : n ∈ (h.map (repl F)).map (·.1) := by rw [hnames]; exact hsub n (by simp)
    simp only [hsets]
    rw [ih]
    unfold hset
    obtain ⟨o1, ho1⟩ := lk_of_mem hmem
    rw [ho1]
    dsimp only
    rw [hrep_map (by rw [hnames]; exact hn) hmem, List.map_map]
    refine List.map_congr_left fun x _ => ?_
    show (if (repl F x).1 = n then (n, o) else repl F x) = repl ((n, o) :: F) x
    rw [repl_names]
    unfold repl
    rw [lk_cons]
    by_cases e : x.1 = n
    · simp [e]
    · simp [e]
theorem map_repl {F : Hp} : ∀ {A B : Hp}, A.map (·.1) = B.map (·.1) → (∀ x, x ∈ B → lk F x.1 = some x.2) → A.map (repl F) = B
  | [], [], _, _ => rfl
  | [], _ :: _, h, _ => by simp at h
  | _ :: _, [], h, _ => by simp at h
  | a :: A, b :: B, h, hl => by
    simp only [List.map_cons, List.cons.injEq] at h ⊢
    refine ⟨?_, map_repl h.2 fun x hx => hl x (List.mem_cons_of_mem _ hx)⟩
    have := hl b (by simp)
    unfold repl
    rw [h.1, this]
theorem hdels_same {h F' : Hp} : ∀ {F : Hp}, (∀ n, n ∈ F.map (·.1) → (lk F' n).isSome = true) → hdels h F' F = h
  | [], _ => rfl
  | (n, o) :: F, hs => by
    simp only [hdels]
    rw [if_pos (hs n (by simp)), hdels_same fun m hm => hs m (List.mem_cons_of_mem _ hm)]
theorem mrg_tail {pre F F' : Hp} (he : F.map (·.1) = F'.map (·.1)) (hn : ((pre ++ F).map (·.1)).Nodup) : hsets (hdels (pre ++ F) F' F) F' = pre ++ F' := by
  have hn2 : (F'.map (·.1)).Nodup := by rw [← he]; rw [List.map_append, List.nodup_append] at hn; exact hn.2.1
  rw [hdels_same fun n h => by rw [he] at h; obtain ⟨o, ho⟩ := lk_of_mem h; rw [ho]; rfl]
  rw [hsets_map hn hn2 fun n h => by rw [List.map_append, List.mem_append, he]; exact .inr h, List.map_append, map_repl he (lk_of_nodup hn2)]
  congr 1
  conv => rhs; rw [← List.map_id pre]
  refine List.map_congr_left fun x hx => ?_
  have : lk F' x.1 = none := by
    cases hh : lk F' x.1 with
    | none => rfl
    | some o =>
      rw [List.map_append, List.nodup_append] at hn
      have h1 : x.1 ∈ F'.map (·.1) := by
        have : ∀ {h : Hp} {n : Nat} {o : Ob}, lk h n = some o → n ∈ h.map (·.1) := by
          intro h
          induction h with
          | nil => intro n o h; simp [lk_nil] at h
          | cons y h ih =>
            intro n o hl
            rw [lk_cons] at hl
            split at hl
            · rename_i e; subst e; simp
            · exact List.mem_cons_of_mem _ (ih hl)
        exact this hh
      exact absurd rfl (hn.2.2 x.1 (List.mem_map.2 ⟨x, hx, rfl⟩) x.1 (by rw [he]; exact h1))
  unfold repl
  rw [this]; rfl
theorem Tk.hp_names (T : Tk) : T.hp.map (·.1) = T.bx :: (List.range 8).map T.nm := by simp [Tk.hp, Tk.maps, Function.comp_def]
theorem Tk.hp_same {T T' : Tk} (h1 : T'.bx = T.bx) (h2 : T'.nm = T.nm) : T.hp.map (·.1) = T'.hp.map (·.1) := by rw [Tk.hp_names, Tk.hp_names, h1, h2]
theorem Tk.mrg0 {T T' : Tk} (hs : T.sep) (h1 : T'.bx = T.bx) (h2 : T'.nm = T.nm) : hsets (hdels T.hp T'.hp T.hp) T'.hp = T'.hp := mrg_tail (pre := []) (Tk.hp_same h1 h2) (Tk.nodup hs)
theorem Tk.mrg1 {T T' : Tk} {k : Nat} {o : Ob} (hs : T.sep) (hlt : T.lt k) (h1 : T'.bx = T.bx) (h2 : T'.nm = T.nm) : hsets (hdels ((k, o) :: T.hp) T'.hp T.hp) T'.hp = (k, o) :: T'.hp :=
  mrg_tail (pre := [(k, o)]) (Tk.hp_same h1 h2) (by rw [List.cons_append, List.nil_append, List.map_cons, List.nodup_cons]; exact ⟨Tk.out hlt (Nat.le_refl _), Tk.nodup hs⟩)
theorem Tk.hsub1 {T : Tk} {k : Nat} {o : Ob} (hlt : T.lt k) : HSub T.hp ((k, o) :: T.hp) := fun n ob h => by
  rw [lk_cons, if_neg fun e => ?_]
  · exact h
  · rw [e, show lk T.hp k = none from Tk.lkk hlt (Nat.le_refl _)] at h; cases h
end Go.Proofs.Ytacdkgkpoelhdaa
namespace Go.Proofs.Ytacdkgkpoelhdaa
open Go.Sl Go.Proofs
theorem Tk.here {P : Program} {f : FuncId} {args : List SV} {T T' : Tk} {k nk : Nat} {v : SV} (hs : T.sep) (h1 : T'.bx = T.bx) (h2 : T'.nm = T.nm) (hv : ∀ q, v.ok q = true) (ha : ∀ q, q T.bx = true → SV.oks q args = true)
    (h : SB P f args T.hp k nk fun x F => x = v ∧ F = T'.hp) : SCd P f args T.hp k nk v T'.hp := by
  have a2 : (lk T.hp T.bx).isSome = true := by rw [show lk T.hp T.bx = _ from Tk.lkb]; rfl
  have a3 : ∀ r, r < 8 → (lk T.hp (T.nm r)).isSome = true := fun r hr => by rw [show lk T.hp (T.nm r) = _ from Tk.lkm hs hr]; rfl
  refine h.here (fun n => (lk T.hp n).isSome) (fun n h e => by rw [e] at h; cases h) (ha _ a2) (Tk.ok a2 a3) ?_
  rintro x F ⟨rfl, rfl⟩ _ _
  exact ⟨hv _, Tk.ok (by rw [h1]; simp only [a2, Bool.true_or]) fun r hr => by rw [h2]; simp only [a3 r hr, Bool.true_or]⟩
def Tk.may (T : Tk) (v : Vec) : Bool := (List.range 8).all fun r => decide (r < T.n) || decide (v.get r = 0)
section
attribute [local irreducible] SW RW SCd SC CallP Pruned Tk.cells Tk.hp Tk.up Tk.setC Tk.setH
variable {T : Tk} (hs : T.sep) {k : Nat}
include hs in
theorem none_at4 (hlt : T.lt k) (hn : T.n ≠ 0) : SCd Try.prog stable_Tracker_none.f [.ptr T.bx 0] T.hp k 0 (bl false) T.hp := by
  refine Tk.here hs rfl rfl (fun _ => rfl) (fun q h => by simp [SV.oks, SV.ok, h]) ?_
  have hbx := hlt.bx
  refine stable_Tracker_none.enter (by simp [SV.ok, SV.oks]; omega) (Tk.okk hlt) (by simp) ?_
  unfold stable_Tracker_none.s
  have uB : List.lookup T.bx T.hp = some (.box 86 T.cells) := Tk.lkb
  have uN : T.cells[0]? = some (.d (.int .i64 T.n)) := Tk.ldn T
  have h1 : ((T.n : Int) == 0) = false := by simpa using hn
  refine SW.seq ?_
  (refine SW.regL [0, 2] mixed ?_; (repeat (first | refine RW.ro bq_tt (h := ?_) | refine RW.skip (h := ?_) | refine RW.op bq_tt (h := ?_) | refine RW.opN bq_tt (h := ?_) | refine RW.skip0 (h := ?_))); refine RW.nil ⟨conf_of (by kernel_rfl), Pruned.mk (h := ?_)⟩)
  refine SW.seq ?_
  (have fx := (And.intro (uB) (And.intro (uN) (h1))); refine SW.regL [0, 2] mixed ?_; (repeat (first | refine RW.ro fx (h := ?_) | refine RW.skip (h := ?_) | refine RW.op fx (h := ?_) | refine RW.opN fx (h := ?_) | refine RW.skip0 (h := ?_))); refine RW.nil ⟨conf_of (by kernel_rfl), Pruned.mk (h := ?_)⟩)
  refine SW.ret ?_
  exact End.mk T.hp (h3 := fun _ _ h => h) (h4 := ⟨rfl, rfl⟩) (h6 := Tk.okk hlt)
include hs in
set_option maxHeartbeats 1000000 in
theorem tmay_at (hlt : T.lt k) (v : Vec) : SCd Try.prog stable_Tracker_may.f [.ptr T.bx 0, .agg v.cells] T.hp k 1 (bl (T.may v)) T.hp := by
  refine Tk.here hs rfl rfl (fun _ => rfl) (fun q h => by simp [SV.oks, SV.ok, h]) ?_
  have hbx := hlt.bx
  have hok1 : ∀ kx, k + 1 ≤ kx → Hp.ok (fun n => decide (n < kx)) ((k, .box 25 v.cells) :: T.hp) = true := fun kx h => by
    have := Hp.ok_less (show k ≤ kx by omega) (Tk.okk hlt)
    simp only [Hp.ok, List.all_cons, Ob.ok, Vec.cells_ok, Bool.and_true, Bool.and_eq_true, decide_eq_true_eq] at this ⊢
    exact ⟨by omega, this⟩
  have hn1 : (((k, .box 25 v.cells) :: T.hp : Hp).map (·.1)).Nodup := by
    rw [List.map_cons, List.nodup_cons]
    exact ⟨Tk.out hlt (Nat.le_refl _), Tk.nodup hs⟩
  refine stable_Tracker_may.enter (by simp [SV.ok, SV.oks]; omega) (Tk.okk hlt) (by simp) ?_
  unfold stable_Tracker_may.s
  have uB : List.lookup T.bx T.hp = some (.box 86 T.cells) := Tk.lkb
  have uN : T.cells[0]? = some (.d (.int .i64 T.n)) := Tk.ldn T
  have uK : List.lookup k T.hp = none := Tk.lkk hlt (Nat.le_refl _)
  have f1 := ne4 (show k ≠ T.bx by omega)
  refine SW.seq ?_
  (refine SW.regL [0, 1, 3, 4, 5, 6, 7, 8, 9, 21] mixed ?_; (repeat (first | refine RW.ro (uK) (h := ?_) | refine RW.skip (h := ?_) | refine RW.op (uK) (h := ?_) | refine RW.opN (uK) (h := ?_) | refine RW.skip0 (h := ?_))); refine RW.nil ⟨conf_of (by kernel_rfl), Pruned.mk (h := ?_)⟩)
  refine SW.seq (SW.seq ?_)
  (refine SW.regL [0, 1, 3, 4, 5, 6, 7, 8, 9, 21] mixed ?_; (repeat (first | refine RW.ro (uK) (h := ?_) | refine RW.skip (h := ?_) | refine RW.op (uK) (h := ?_) | refine RW.opN (uK) (h := ?_) | refine RW.skip0 (h := ?_))); refine RW.nil ⟨conf_of (by kernel_rfl), Pruned.mk (h := ?_)⟩)
  refine SW.block (SW.loop (α := {i : Nat // i ≤ 8 ∧ ∀ r, r < i → r < T.n ∨ v.get r = 0}) (fun i => ⟨[(8, i64 i.1), (0, .ptr T.bx 0), (7, .agg v.cells)], (k, .box 25 v.cells) :: T.hp, k + 1⟩) (fun i => 8 - i.1) ⟨0, by omega, by omega⟩ id ?_ ?_)
  · exact Weak.same (by simp) (by simp [EnvW, List.lookup, SV.ren, SV.rens, SV.ok, SV.oks, Vec.cells_ren, Vec.cells_ok]; try omega) (hok1 _ (Nat.le_refl _)) (lk_of_nodup hn1)
  rintro ⟨i, hi, hall⟩
  dsimp only
  by_cases h : i < 8
  · have h1 : decide ((i : Int) < 8) = true := by simp only [decide_eq_true_eq]; omega
    have g8 := Vec.cells_get v h
    refine SW.seq ?_
    (refine SW.regL [0, 1, 3, 4, 5, 6, 7, 8, 9, 21] mixed ?_; (repeat (first | refine RW.ro (h1) (h := ?_) | refine RW.skip (h := ?_) | refine RW.op (h1) (h := ?_) | refine RW.opN (h1) (h := ?_) | refine RW.skip0 (h := ?_))); refine RW.nil ⟨conf_of (by kernel_rfl), Pruned.mk (h := ?_)⟩)
    refine SW.seq (SW.condT rfl (SW.skip ?_))
    refine SW.seq (SW.block (SW.seq ?_))
    (refine SW.regL [0, 1, 3, 4, 5, 6, 7, 8, 9, 21] mixed ?_; (repeat (first | refine RW.ro (g8) (h := ?_) | refine RW.skip (h := ?_) | refine RW.op (g8) (h := ?_) | refine RW.opN (g8) (h := ?_) | refine RW.skip0 (h := ?_))); refine RW.nil ⟨conf_of (by kernel_rfl), Pruned.mk (h := ?_)⟩)
    by_cases h2 : T.n ≤ i ∧ v.get i ≠ 0
    · have h3 : decide ((i : Int) ≥ T.n) = true := by simp only [decide_eq_true_eq]; omega
      have h4 : decide ((v.get i : Int) > 0) = true := by simp only [decide_eq_true_eq]; omega
      refine SW.seq ?_
      (have fx := (And.intro (uB) (And.intro (uN) (And.intro (f1) (And.intro (h3) (h4))))); refine SW.regL [0, 1, 3, 4, 5, 6, 7, 8, 9, 21] mixed ?_; (repeat (first | refine RW.ro fx (h := ?_) | refine RW.skip (h := ?_) | refine RW.op fx (h := ?_) | refine RW.opN fx (h := ?_) | refine RW.skip0 (h := ?_))); refine RW.nil ⟨conf_of (by kernel_rfl), Pruned.mk (h := ?_)⟩)
      refine SW.condT rfl (SW.seq ?_)
      (refine SW.regL [0, 1, 3, 4, 5, 6, 7, 8, 9, 21] mixed ?_; (repeat (first | refine RW.ro bq_tt (h := ?_) | refine RW.skip (h := ?_) | refine RW.op bq_tt (h := ?_) | refine RW.opN bq_tt (h := ?_) | refine RW.skip0 (h := ?_))); refine RW.nil ⟨conf_of (by kernel_rfl), Pruned.mk (h := ?_)⟩)
      refine SW.ret ?_
      have e : T.may v = false := by
        unfold Tk.may
        rw [List.all_eq_false]
        exact ⟨i, by simpa using h, by simp; omega⟩
      rw [e]
      exact End.mk T.hp (h3 := Tk.hsub1 hlt) (h4 := ⟨rfl, rfl⟩) (h6 := Hp.ok_less (by omega) (Tk.okk hlt))
    · have hb : (if decide ((i : Int) ≥ T.n) = true then decide ((v.get i : Int) > 0) else false) = false := by
        split
        · rename_i h3
          simp only [decide_eq_true_eq] at h3
          simp only [decide_eq_false_iff_not]; omega
        · rfl
      refine SW.seq ?_
      rcases h3 : decide ((i : Int) ≥ T.n) with _ | _
      · (have fx := (And.intro (uB) (And.intro (uN) (And.intro (f1) (h3)))); refine SW.regL [0, 1, 3, 4, 5, 6, 7, 8, 9, 21] mixed ?_; (repeat (first | refine RW.ro fx (h := ?_) | refine RW.skip (h := ?_) | refine RW.op fx (h := ?_) | refine RW.opN fx (h := ?_) | refine RW.skip0 (h := ?_))); refine RW.nil ⟨conf_of (by kernel_rfl), Pruned.mk (h := ?_)⟩)
        refine SW.condF rfl (SW.skip ?_)
        (refine SW.regL [0, 1, 3, 4, 5, 6, 7, 8, 9, 21] mixed ?_; (repeat (first | refine RW.ro bq_tt (h := ?_) | refine RW.skip (h := ?_) | refine RW.op bq_tt (h := ?_) | refine RW.opN bq_tt (h := ?_) | refine RW.skip0 (h := ?_))); refine RW.nil ⟨conf_of (by kernel_rfl), Pruned.mk (h := ?_)⟩)
        exact ⟨⟨i + 1, by omega, fun r hr => by rcases Nat.lt_succ_iff_lt_or_eq.1 hr with hr | rfl; exact hall r hr; omega⟩, id, by simp; omega, Weak.same (by simp) (by simp [EnvW, List.lookup, SV.ren, SV.rens, SV.ok, SV.oks, Vec.cells_ren, Vec.cells_ok]; try omega) (hok1 _ (Nat.le_refl _)) (lk_of_nodup hn1)⟩
      · have h4 : decide ((v.get i : Int) > 0) = false := by rw [h3] at hb; simpa using hb
        (have fx := (And.intro (uB) (And.intro (uN) (And.intro (f1) (And.intro (h3) (h4))))); refine SW.regL [0, 1, 3, 4, 5, 6, 7, 8, 9, 21] mixed ?_; (repeat (first | refine RW.ro fx (h := ?_) | refine RW.skip (h := ?_) | refine RW.op fx (h := ?_) | refine RW.opN fx (h := ?_) | refine RW.skip0 (h := ?_))); refine RW.nil ⟨conf_of (by kernel_rfl), Pruned.mk (h := ?_)⟩)
        refine SW.condF rfl (SW.skip ?_)
        (refine SW.regL [0, 1, 3, 4, 5, 6, 7, 8, 9, 21] mixed ?_; (repeat (first | refine RW.ro bq_tt (h := ?_) | refine RW.skip (h := ?_) | refine RW.op bq_tt (h := ?_) | refine RW.opN bq_tt (h := ?_) | refine RW.skip0 (h := ?_))); refine RW.nil ⟨conf_of (by kernel_rfl), Pruned.mk (h := ?_)⟩)
        exact ⟨⟨i + 1, by omega, fun r hr => by rcases Nat.lt_succ_iff_lt_or_eq.1 hr with hr | rfl; exact hall r hr; omega⟩, id, by simp; omega, Weak.same (by simp) (by simp [EnvW, List.lookup, SV.ren, SV.rens, SV.ok, SV.oks, Vec.cells_ren, Vec.cells_ok]; try omega) (hok1 _ (Nat.le_refl _)) (lk_of_nodup hn1)⟩
  · have h1 : decide ((i : Int) < 8) = false := by simp only [decide_eq_false_iff_not]; omega
    refine SW.seq ?_
    (refine SW.regL [0, 1, 3, 4, 5, 6, 7, 8, 9, 21] mixed ?_; (repeat (first | refine RW.ro (h1) (h := ?_) | refine RW.skip (h := ?_) | refine RW.op (h1) (h := ?_) | refine RW.opN (h1) (h := ?_) | refine RW.skip0 (h := ?_))); refine RW.nil ⟨conf_of (by kernel_rfl), Pruned.mk (h := ?_)⟩)
    refine SW.seq (SW.condF rfl (SW.exit ?_))
    refine (?_ : Sl.SW _ _ _ _ _ _)
    refine SW.seq ?_
    (refine SW.regL [0, 1, 3, 4, 5, 6, 7, 8, 9, 21] mixed ?_; (repeat (first | refine RW.ro bq_tt (h := ?_) | refine RW.skip (h := ?_) | refine RW.op bq_tt (h := ?_) | refine RW.opN bq_tt (h := ?_) | refine RW.skip0 (h := ?_))); refine RW.nil ⟨conf_of (by kernel_rfl), Pruned.mk (h := ?_)⟩)
    refine SW.ret ?_
    have e : T.may v = true := by
      unfold Tk.may
      rw [List.all_eq_true]
      intro r hr
      have := hall r (by have : r < 8 := by simpa using hr
                         omega)
      simp; omega
    rw [e]
    exact End.mk T.hp (h3 := Tk.hsub1 hlt) (h4 := ⟨rfl, rfl⟩) (h6 := Hp.ok_less (by omega) (Tk.okk hlt))
end
end Go.Proofs.Ytacdkgkpoelhdaa
namespace Go.Proofs.Ytacdkgkpoelhdaa
open Go.Sl Go.Proofs
def Tk.hasV (T : Tk) (v : Vec) : Tk × Nat := if T.may v = false then (T, 2) else if v.above T.has = false then (T, 9) else ((T.setH v).settle, 0)
theorem Tk.settle_bx (T : Tk) : T.settle.bx = T.bx ∧ T.settle.nm = T.nm := ⟨(T.settTo_bx T.n).1, (T.settTo_bx T.n).2.1⟩
theorem Tk.hasV_bx (T : Tk) (v : Vec) : (T.hasV v).1.bx = T.bx ∧ (T.hasV v).1.nm = T.nm := by
  unfold Tk.hasV
  split
  · exact ⟨rfl, rfl⟩
  split
  · exact ⟨rfl, rfl⟩
  · exact Tk.settle_bx (T.setH v)
theorem Tk.drop1 {T : Tk} (hs : T.sep) {k k' kx : Nat} (hlt : T.lt k) {env : List (Nat × SV)} {o : Ob} (h : k ≤ kx) : Weak k ⟨env, (k, o) :: T.hp, k'⟩ ⟨[], T.hp, kx⟩ id :=
  Weak.same h trivial (Hp.ok_less h (Tk.okk hlt)) fun x hx => lk_of_nodup (h := (k, o) :: T.hp) (by rw [List.map_cons, List.nodup_cons]; exact ⟨Tk.out hlt (Nat.le_refl _), Tk.nodup hs⟩) x (List.mem_cons_of_mem _ hx)
section
attribute [local irreducible] SW RW SCd SC CallP Pruned Tk.cells Tk.hp Tk.up Tk.setC Tk.setH Tk.settle
variable {T : Tk} (hs : T.sep) {k : Nat}
include hs in
set_option maxHeartbeats 1000000 in
theorem has_at (hlt : T.lt k) (hn0 : T.n ≠ 0) (hn : T.n ≤ 8) (ho : T.own < 8) (hww : T.ww) (v : Vec) : SCd Try.prog stable_Tracker_Has.f [.ptr T.bx 0, .agg v.cells] T.hp k 5 (i64 (T.hasV v).2) (T.hasV v).1.hp := by
  refine Tk.here hs (T.hasV_bx v).1 (T.hasV_bx v).2 (fun _ => rfl) (fun q h => by simp [SV.oks, SV.ok, h]) ?_
  have hbx := hlt.bx
  have hok0 : ∀ (T' : Tk) kx, T'.bx = T.bx → T'.nm = T.nm → k ≤ kx → Hp.ok (fun n => decide (n < kx)) T'.hp = true := fun T' kx e1 e2 h => Hp.ok_less h (Tk.okk (Tk.lt_of hlt e1 e2))
  refine stable_Tracker_Has.enter (by simp [SV.ok, SV.oks]; omega) (Tk.okk hlt) (by simp) ?_
  unfold stable_Tracker_Has.s
  have uB : List.lookup T.bx T.hp = some (.box 86 T.cells) := Tk.lkb
  have uK : List.lookup k T.hp = none := Tk.lkk hlt (Nat.le_refl _)
  have uH : (T.cells.drop 2).take 8 = T.has.cells := Tk.ldhas T
  have uL : (2 + 8 ≤ T.cells.length) = True := eq_true (by rw [Tk.cells_len]; omega)
  have uS : spl T.cells 2 v.cells = (T.setH v).cells := Tk.splhas T v
  have uR : hrep T.hp T.bx (.box 86 (T.setH v).cells) = (T.setH v).hp := Tk.hreph
  have hlt1 : T.lt (k + 1) := ⟨Nat.lt_succ_of_lt hlt.bx, fun r hr => Nat.lt_succ_of_lt (hlt.nm r hr)⟩
  have hlt2 : (T.setH v).lt (k + 2) := Tk.lt_of (T := T) ⟨by omega, fun r hr => by have := hlt.nm r hr; omega⟩ (by unfold Tk.setH; rfl) (by unfold Tk.setH; rfl)
  have f1 := ne4 (show k ≠ T.bx by omega)
  have m1 : hsets (hdels ((k, .box 25 v.cells) :: T.hp) T.hp T.hp) T.hp = (k, .box 25 v.cells) :: T.hp := Tk.mrg1 hs hlt rfl rfl
  have hS : (T.setH v).bx = T.bx ∧ (T.setH v).nm = T.nm ∧ (T.setH v).n = T.n ∧ (T.setH v).own = T.own ∧ (T.setH v).wt = T.wt := by unfold Tk.setH; exact ⟨rfl, rfl, rfl, rfl, rfl⟩
  have hsS : (T.setH v).sep := Tk.sep_of hs hS.1 hS.2.1
  have m2 : hsets (hdels ((k, .box 25 v.cells) :: (T.setH v).hp) (T.setH v).settle.hp (T.setH v).hp) (T.setH v).settle.hp = (k, .box 25 v.cells) :: (T.setH v).settle.hp :=
    Tk.mrg1 hsS (Tk.lt_of hlt hS.1 hS.2.1) (Tk.settle_bx _).1 (Tk.settle_bx _).2
  have hse := settle_at hsS (k := k + 2) (by rw [hS.2.2.1]; exact hn) (by rw [hS.2.2.2.1]; exact ho) (by unfold Tk.ww; rw [hS.2.2.2.2]; exact hww) hlt2
  rw [hS.1] at hse
  refine SW.seq ?_
  (refine SW.regL [0, 1, 3, 4, 5, 8, 13] mixed ?_; (repeat (first | refine RW.ro (uK) (h := ?_) | refine RW.skip (h := ?_) | refine RW.op (uK) (h := ?_) | refine RW.opN (uK) (h := ?_) | refine RW.skip0 (h := ?_) | (refine RW.callC (h := ?_); (first | refine CallP.mk (uK) (hs := Tk.hsub1 hlt) (hc := none_at4 hs hlt1 hn0) (h := ?_) | refine CallP.mk (uK) (hs := Tk.hsub1 hlt) (hc := tmay_at hs hlt1 v) (h := ?_) | refine CallP.mk (uK) (hc := above_at4 _ _ _) (h := ?_) | refine CallP.mk (uK) (hs := Tk.hsub1 (Tk.lt_of hlt hS.1 hS.2.1)) (hc := hse) (h := ?_))))); refine RW.nil ⟨conf_of (by kernel_rfl), Pruned.mk (h := ?_)⟩)
  refine SW.seq (SW.block (SW.seq ?_))
  (refine SW.regL [0, 1, 3, 4, 5, 8, 13] mixed ?_; (repeat (first | refine RW.ro (m1) (h := ?_) | refine RW.skip (h := ?_) | refine RW.op (m1) (h := ?_) | refine RW.opN (m1) (h := ?_) | refine RW.skip0 (h := ?_) | (refine RW.callC (h := ?_); (first | refine CallP.mk (m1) (hs := Tk.hsub1 hlt) (hc := none_at4 hs hlt1 hn0) (h := ?_) | refine CallP.mk (m1) (hs := Tk.hsub1 hlt) (hc := tmay_at hs hlt1 v) (h := ?_) | refine CallP.mk (m1) (hc := above_at4 _ _ _) (h := ?_) | refine CallP.mk (m1) (hs := Tk.hsub1 (Tk.lt_of hlt hS.1 hS.2.1)) (hc := hse) (h := ?_))))); refine RW.nil ⟨conf_of (by kernel_rfl), Pruned.mk (h := ?_)⟩)
  refine SW.condF rfl (SW.seq ?_)
  rcases hm : T.may v with _ | _
  · (have fx := (And.intro (m1) (And.intro (hm) (f1))); refine SW.regL [0, 1, 3, 4, 5, 8, 13] mixed ?_; (repeat (first | refine RW.ro fx (h := ?_) | refine RW.skip (h := ?_) | refine RW.op fx (h := ?_) | refine RW.opN fx (h := ?_) | refine RW.skip0 (h := ?_) | (refine RW.callC (h := ?_); (first | refine CallP.mk fx (hs := Tk.hsub1 hlt) (hc := none_at4 hs hlt1 hn0) (h := ?_) | refine CallP.mk fx (hs := Tk.hsub1 hlt) (hc := tmay_at hs hlt1 v) (h := ?_) | refine CallP.mk fx (hc := above_at4 _ _ _) (h := ?_) | refine CallP.mk fx (hs := Tk.hsub1 (Tk.lt_of hlt hS.1 hS.2.1)) (hc := hse) (h := ?_))))); refine RW.nil ⟨conf_of (by kernel_rfl), Pruned.mk (h := ?_)⟩)
    refine SW.condT rfl (SW.seq ?_)
    refine SW.weak id (st1 := ⟨[], T.hp, k + 5⟩) ?_ ?_
    · exact Tk.drop1 hs hlt (by omega)
    (refine SW.regL [0, 1, 3, 4, 5, 8, 13] mixed ?_; (repeat (first | refine RW.ro bq_tt (h := ?_) | refine RW.skip (h := ?_) | refine RW.op bq_tt (h := ?_) | refine RW.opN bq_tt (h := ?_) | refine RW.skip0 (h := ?_) | (refine RW.callC (h := ?_); (first | refine CallP.mk bq_tt (hs := Tk.hsub1 hlt) (hc := none_at4 hs hlt1 hn0) (h := ?_) | refine CallP.mk bq_tt (hs := Tk.hsub1 hlt) (hc := tmay_at hs hlt1 v) (h := ?_) | refine CallP.mk bq_tt (hc := above_at4 _ _ _) (h := ?_) | refine CallP.mk bq_tt (hs := Tk.hsub1 (Tk.lt_of hlt hS.1 hS.2.1)) (hc := hse) (h := ?_))))); refine RW.nil ⟨conf_of (by kernel_rfl), Pruned.mk (h := ?_)⟩)
    refine SW.ret ?_
    have e : T.hasV v = (T, 2) := by unfold Tk.hasV; rw [if_pos hm]
    rw [e]
    exact End.mk T.hp (h3 := fun _ _ h => h) (h4 := ⟨rfl, rfl⟩) (h6 := hok0 _ _ rfl rfl (by omega))
  (have fx := (And.intro (m1) (And.intro (hm) (f1))); refine SW.regL [0, 1, 3, 4, 5, 8, 13] mixed ?_; (repeat (first | refine RW.ro fx (h := ?_) | refine RW.skip (h := ?_) | refine RW.op fx (h := ?_) | refine RW.opN fx (h := ?_) | refine RW.skip0 (h := ?_) | (refine RW.callC (h := ?_); (first | refine CallP.mk fx (hs := Tk.hsub1 hlt) (hc := none_at4 hs hlt1 hn0) (h := ?_) | refine CallP.mk fx (hs := Tk.hsub1 hlt) (hc := tmay_at hs hlt1 v) (h := ?_) | refine CallP.mk fx (hc := above_at4 _ _ _) (h := ?_) | refine CallP.mk fx (hs := Tk.hsub1 (Tk.lt_of hlt hS.1 hS.2.1)) (hc := hse) (h := ?_))))); refine RW.nil ⟨conf_of (by kernel_rfl), Pruned.mk (h := ?_)⟩)
  refine SW.condF rfl (SW.seq ?_)
  rcases ha : v.above T.has with _ | _
  · (have fx := (And.intro (uB) (And.intro (uH) (And.intro (uL) (And.intro (ha) (f1))))); refine SW.regL [0, 1, 3, 4, 5, 8, 13] mixed ?_; (repeat (first | refine RW.ro fx (h := ?_) | refine RW.skip (h := ?_) | refine RW.op fx (h := ?_) | refine RW.opN fx (h := ?_) | refine RW.skip0 (h := ?_) | (refine RW.callC (h := ?_); (first | refine CallP.mk fx (hs := Tk.hsub1 hlt) (hc := none_at4 hs hlt1 hn0) (h := ?_) | refine CallP.mk fx (hs := Tk.hsub1 hlt) (hc := tmay_at hs hlt1 v) (h := ?_) | refine CallP.mk fx (hc := above_at4 _ _ _) (h := ?_) | refine CallP.mk fx (hs := Tk.hsub1 (Tk.lt_of hlt hS.1 hS.2.1)) (hc := hse) (h := ?_))))); refine RW.nil ⟨conf_of (by kernel_rfl), Pruned.mk (h := ?_)⟩)
    refine SW.condT rfl (SW.seq ?_)
    refine SW.weak id (st1 := ⟨[], T.hp, k + 5⟩) ?_ ?_
    · exact Tk.drop1 hs hlt (by omega)
    (refine SW.regL [0, 1, 3, 4, 5, 8, 13] mixed ?_; (repeat (first | refine RW.ro bq_tt (h := ?_) | refine RW.skip (h := ?_) | refine RW.op bq_tt (h := ?_) | refine RW.opN bq_tt (h := ?_) | refine RW.skip0 (h := ?_) | (refine RW.callC (h := ?_); (first | refine CallP.mk bq_tt (hs := Tk.hsub1 hlt) (hc := none_at4 hs hlt1 hn0) (h := ?_) | refine CallP.mk bq_tt (hs := Tk.hsub1 hlt) (hc := tmay_at hs hlt1 v) (h := ?_) | refine CallP.mk bq_tt (hc := above_at4 _ _ _) (h := ?_) | refine CallP.mk bq_tt (hs := Tk.hsub1 (Tk.lt_of hlt hS.1 hS.2.1)) (hc := hse) (h := ?_))))); refine RW.nil ⟨conf_of (by kernel_rfl), Pruned.mk (h := ?_)⟩)
    refine SW.ret ?_
    have e : T.hasV v = (T, 9) := by unfold Tk.hasV; rw [if_neg (by rw [hm]; simp), if_pos ha]
    rw [e]
    exact End.mk T.hp (h3 := fun _ _ h => h) (h4 := ⟨rfl, rfl⟩) (h6 := hok0 _ _ rfl rfl (by omega))
  (have fx := (And.intro (uB) (And.intro (uH) (And.intro (uL) (And.intro (ha) (f1))))); refine SW.regL [0, 1, 3, 4, 5, 8, 13] mixed ?_; (repeat (first | refine RW.ro fx (h := ?_) | refine RW.skip (h := ?_) | refine RW.op fx (h := ?_) | refine RW.opN fx (h := ?_) | refine RW.skip0 (h := ?_) | (refine RW.callC (h := ?_); (first | refine CallP.mk fx (hs := Tk.hsub1 hlt) (hc := none_at4 hs hlt1 hn0) (h := ?_) | refine CallP.mk fx (hs := Tk.hsub1 hlt) (hc := tmay_at hs hlt1 v) (h := ?_) | refine CallP.mk fx (hc := above_at4 _ _ _) (h := ?_) | refine CallP.mk fx (hs := Tk.hsub1 (Tk.lt_of hlt hS.1 hS.2.1)) (hc := hse) (h := ?_))))); refine RW.nil ⟨conf_of (by kernel_rfl), Pruned.mk (h := ?_)⟩)
  refine SW.condF rfl (SW.skip ?_)
  refine (?_ : Sl.SW _ _ _ _ _ _)
  refine SW.seq ?_
  (have fx := (And.intro (uB) (And.intro (uS) (And.intro (uR) (And.intro (uL) (f1))))); refine SW.regL [0, 1, 3, 4, 5, 8, 13] mixed ?_; (repeat (first | refine RW.ro fx (h := ?_) | refine RW.skip (h := ?_) | refine RW.op fx (h := ?_) | refine RW.opN fx (h := ?_) | refine RW.skip0 (h := ?_) | (refine RW.callC (h := ?_); (first | refine CallP.mk fx (hs := Tk.hsub1 hlt) (hc := none_at4 hs hlt1 hn0) (h := ?_) | refine CallP.mk fx (hs := Tk.hsub1 hlt) (hc := tmay_at hs hlt1 v) (h := ?_) | refine CallP.mk fx (hc := above_at4 _ _ _) (h := ?_) | refine CallP.mk fx (hs := Tk.hsub1 (Tk.lt_of hlt hS.1 hS.2.1)) (hc := hse) (h := ?_))))); refine RW.nil ⟨conf_of (by kernel_rfl), Pruned.mk (h := ?_)⟩)
  refine SW.seq ?_
  (refine SW.regL [0, 1, 3, 4, 5, 8, 13] mixed ?_; (repeat (first | refine RW.ro (m2) (h := ?_) | refine RW.skip (h := ?_) | refine RW.op (m2) (h := ?_) | refine RW.opN (m2) (h := ?_) | refine RW.skip0 (h := ?_) | (refine RW.callC (h := ?_); (first | refine CallP.mk (m2) (hs := Tk.hsub1 hlt) (hc := none_at4 hs hlt1 hn0) (h := ?_) | refine CallP.mk (m2) (hs := Tk.hsub1 hlt) (hc := tmay_at hs hlt1 v) (h := ?_) | refine CallP.mk (m2) (hc := above_at4 _ _ _) (h := ?_) | refine CallP.mk (m2) (hs := Tk.hsub1 (Tk.lt_of hlt hS.1 hS.2.1)) (hc := hse) (h := ?_))))); refine RW.nil ⟨conf_of (by kernel_rfl), Pruned.mk (h := ?_)⟩)
  refine SW.seq ?_
  (refine SW.regL [0, 1, 3, 4, 5, 8, 13] mixed ?_; (repeat (first | refine RW.ro bq_tt (h := ?_) | refine RW.skip (h := ?_) | refine RW.op bq_tt (h := ?_) | refine RW.opN bq_tt (h := ?_) | refine RW.skip0 (h := ?_) | (refine RW.callC (h := ?_); (first | refine CallP.mk bq_tt (hs := Tk.hsub1 hlt) (hc := none_at4 hs hlt1 hn0) (h := ?_) | refine CallP.mk bq_tt (hs := Tk.hsub1 hlt) (hc := tmay_at hs hlt1 v) (h := ?_) | refine CallP.mk bq_tt (hc := above_at4 _ _ _) (h := ?_) | refine CallP.mk bq_tt (hs := Tk.hsub1 (Tk.lt_of hlt hS.1 hS.2.1)) (hc := hse) (h := ?_))))); refine RW.nil ⟨conf_of (by kernel_rfl), Pruned.mk (h := ?_)⟩)
  refine SW.ret ?_
  have e : T.hasV v = ((T.setH v).settle, 0) := by unfold Tk.hasV; rw [if_neg (by rw [hm]; simp), if_neg (by rw [ha]; simp)]
  rw [e]
  exact End.mk (T.setH v).settle.hp (h3 := Tk.hsub1 (Tk.lt_of hlt ((Tk.settle_bx _).1.trans hS.1) ((Tk.settle_bx _).2.trans hS.2.1))) (h4 := ⟨rfl, rfl⟩) (h6 := hok0 _ _ ((Tk.settle_bx _).1.trans hS.1) ((Tk.settle_bx _).2.trans hS.2.1) (by omega))
end
end Go.Proofs.Ytacdkgkpoelhdaa
namespace Go.Proofs.Ytacdkgkpoelhdaa
open Go.Sl Go.Proofs
def Tk.opn (T : Tk) (r k : Nat) : Tk := match T.wt r with
  | none => { T with nm := fun i => if i = r then k else T.nm i, wt := fun i => if i = r then some ([], 0) else T.wt i }
  | some _ => T
def Tk.addw (T : Tk) (r : Nat) (v : Vec) : Tk := match T.wt r with
  | none => T
  | some (L, c) => T.setW r (some (MM.put L c v 1, MM.clk L c v))
def Tk.hearV (T : Tk) (r : Nat) (v : Vec) (k : Nat) : Tk × Nat :=
  if T.n ≤ r then (T, 2) else if T.may v = false then (T, 2) else if r = T.own then (if T.has.above v = false then (T, 9) else (T, 0)) else (((T.opn r k).addw r v).settle, 0)
theorem Tk.addw_bx (T : Tk) (r : Nat) (v : Vec) : (T.addw r v).bx = T.bx ∧ (T.addw r v).nm = T.nm ∧ (T.addw r v).n = T.n ∧ (T.addw r v).own = T.own := by unfold Tk.addw; split <;> exact ⟨rfl, rfl, rfl, rfl⟩
theorem Tk.opn_bx (T : Tk) (r k : Nat) : (T.opn r k).bx = T.bx ∧ (T.opn r k).n = T.n ∧ (T.opn r k).own = T.own ∧ (T.opn r k).has = T.has ∧ (T.opn r k).cnt = T.cnt := by unfold Tk.opn; split <;> exact ⟨rfl, rfl, rfl, rfl, rfl⟩
theorem Tk.opn_nm (T : Tk) (r k i : Nat) : (T.opn r k).nm i = T.nm i ∨ (i = r ∧ (T.opn r k).nm i = k) := by
  unfold Tk.opn
  split
  · by_cases e : i = r
    · exact .inr ⟨e, by simp [e]⟩
    · exact .inl (by simp [e])
  · exact .inl rfl
theorem Tk.opn_sep {T : Tk} (hs : T.sep) {r k : Nat} (hlt : T.lt k) : (T.opn r k).sep := by
  have hb := (T.opn_bx r k).1
  refine ⟨fun i hi => ?_, fun i j hi hj e => ?_⟩
  · rw [hb]
    rcases T.opn_nm r k i with h | ⟨_, h⟩
    · rw [h]; exact hs.bx i hi
    · rw [h]; have := hlt.bx; omega
  · rcases T.opn_nm r k i with h | ⟨h', h⟩ <;> rcases T.opn_nm r k j with g | ⟨g', g⟩ <;> rw [h, g] at e
    · exact hs.inj i j hi hj e
    · have := hlt.nm i hi; omega
    · have := hlt.nm j hj; omega
    · rw [h', g']
theorem Tk.opn_lt {T : Tk} {r k : Nat} (hlt : T.lt k) : (T.opn r k).lt (k + 1) := by
  refine ⟨by rw [(T.opn_bx r k).1]; have := hlt.bx; omega, fun i hi => ?_⟩
  rcases T.opn_nm r k i with h | ⟨_, h⟩
  · rw [h]; have := hlt.nm i hi; omega
  · rw [h]; omega
theorem Tk.opn_ww {T : Tk} (hw : T.ww) (r k : Nat) : (T.opn r k).ww := by
  unfold Tk.opn
  split
  · intro i hi L cl h
    dsimp only at h
    split at h
    · injection h with h; injection h with h1 h2; rw [← h1, ← h2]; exact MM.wf_nil
    · exact hw i hi L cl h
  · exact hw
theorem Tk.opn_some (T : Tk) (r k : Nat) : ∃ L c, (T.opn r k).wt r = some (L, c) := by
  unfold Tk.opn
  split
  · exact ⟨[], 0, by simp⟩
  · rename_i x h
    exact ⟨x.1, x.2, h⟩
theorem Tk.addw_ww {T : Tk} (hw : T.ww) {r : Nat} (hr : r < 8) (v : Vec) : (T.addw r v).ww := by
  unfold Tk.addw
  split
  · exact hw
  · rename_i L c h
    intro i hi L2 c24 h2
    simp only [Tk.setW] at h2
    split at h2
    · injection h2 with h2; injection h2 with h3 h4; rw [← h3, ← h4]; exact MM.wf_put (hw r hr L c h) v 1
    · exact hw i hi L2 c24 h2
theorem Tk.mem_hp {T : Tk} {x : Nat × Ob} (h : x ∈ T.hp) : x = (T.bx, .box 86 T.cells) ∨ ∃ r, r < 8 ∧ x = (T.nm r, wob (T.wt r)) := by
  simp only [Tk.hp, Tk.maps, List.mem_cons, List.mem_map, List.mem_range] at h
  rcases h with h | ⟨r, hr, h⟩
  · exact .inl h
  · exact .inr ⟨r, hr, h.symm⟩
theorem Tk.cons_nodup {T : Tk} (hs : T.sep) {k : Nat} {o : Ob} (h1 : T.bx ≠ k) (h2 : ∀ i, i < 8 → T.nm i ≠ k) : (((k, o) :: T.hp : Hp).map (·.1)).Nodup := by
  rw [List.map_cons, List.nodup_cons]
  refine ⟨fun hm => ?_, Tk.nodup hs⟩
  rcases Tk.names hm with e | ⟨r, hr, e⟩
  · exact h1 e.symm
  · exact h2 r hr e.symm
theorem Tk.cons_sub {T : Tk} {k : Nat} {o : Ob} (h1 : T.bx ≠ k) (h2 : ∀ i, i < 8 → T.nm i ≠ k) : HSub T.hp ((k, o) :: T.hp) := fun n ob h => by
  rw [lk_cons, if_neg fun e => ?_]
  · exact h
  · rw [e, show lk T.hp k = none from Tk.lko (Ne.symm h1) h2] at h; cases h
theorem Tk.spl_opn {T : Tk} {r k : Nat} (hw : T.wt r = none) (h : r < 8) : spl T.cells (74 + r) [.mp k] = (T.opn r k).cells := by
  rw [Tk.splw T h]
  unfold Tk.opn
  rw [hw]
  rfl
theorem Tk.lkmaps {T : Tk} (hs : T.sep) {r : Nat} (h : r < 8) : lk T.maps (T.nm r) = some (wob (T.wt r)) :=
  lookup_fam (f := fun r => wob (T.wt r)) (fun s h1 h2 => hs.inj s r (by simpa using h1) h h2) (by simpa using h)
theorem Tk.opn_lk {T : Tk} (hs : T.sep) {r k : Nat} {o : Ob} (hw : T.wt r = none) (hlt : T.lt k) : ∀ x, x ∈ ((k, o) :: (T.opn r (k + 2)).hp : Hp) → lk ((k + 2, .map [] 0) :: (k, o) :: (T.bx, .box 86 (T.opn r (k + 2)).cells) :: T.maps) x.1 = some x.2 := by
  intro x hx
  rcases List.mem_cons.1 hx with rfl | hx
  · simp [lk_cons]
  rcases Tk.mem_hp hx with rfl | ⟨i, hi, rfl⟩
  · dsimp only
    rw [(T.opn_bx r (k + 2)).1]
    have := hlt.bx
    rw [lk_cons, if_neg (by omega), lk_cons, if_neg (by omega), lk_cons, if_pos rfl]
  · dsimp only
    have e1 : (T.opn r (k + 2)).nm i = if i = r then k + 2 else T.nm i := by unfold Tk.opn; rw [hw]
    have e2 : (T.opn r (k + 2)).wt i = if i = r then some ([], 0) else T.wt i := by unfold Tk.opn; rw [hw]
    rw [e1, e2]
    by_cases e : i = r
    · rw [if_pos e, if_pos e, lk_cons, if_pos rfl]; rfl
    · rw [if_neg e, if_neg e]
      have := hlt.nm i hi
      rw [lk_cons, if_neg (by omega), lk_cons, if_neg (by omega), lk_cons, if_neg (hs.bx i hi), Tk.lkmaps hs hi]
section
attribute [local irreducible] SW RW SCd SC CallP Pruned Tk.cells Tk.hp Tk.up Tk.setC Tk.setH Tk.settle Tk.maps
variable {T : Tk} (hs : T.sep) {k : Nat}
include hs in
set_option maxHeartbeats 2000000 in
theorem hear_sb (hlt : T.lt k) (hn0 : T.n ≠ 0) (hn : T.n ≤ 8) (ho : T.own < 8) (hww : T.ww) (r : Nat) (hr : r < 256) (v : Vec) :
    SB Try.prog stable_Tracker_Hear.f [.ptr T.bx 0, u8 r, .agg v.cells] T.hp k 6 (fun x F => x = i64 (T.hearV r v (k + 2)).2 ∧ F = (T.hearV r v (k + 2)).1.hp) := by
  have hbx := hlt.bx
  have hok0 : ∀ (T' : Tk) kx, T'.bx = T.bx → T'.nm = T.nm → k ≤ kx → Hp.ok (fun n => decide (n < kx)) T'.hp = true := fun T' kx e1 e2 h => Hp.ok_less h (Tk.okk (Tk.lt_of hlt e1 e2))
  refine stable_Tracker_Hear.enter (by simp [SV.ok, SV.oks]; omega) (Tk.okk hlt) (by simp) ?_
  unfold stable_Tracker_Hear.s
  have uB : List.lookup T.bx T.hp = some (.box 86 T.cells) := Tk.lkb
  have uN : T.cells[0]? = some (.d (.int .i64 T.n)) := Tk.ldn T
  have uO : T.cells[1]? = some (.d (.int .u8 T.own)) := Tk.ldown T
  have uK : List.lookup k T.hp = none := Tk.lkk hlt (Nat.le_refl _)
  have uH : (T.cells.drop 2).take 8 = T.has.cells := Tk.ldhas T
  have uL : (2 + 8 ≤ T.cells.length) = True := eq_true (by rw [Tk.cells_len]; omega)
  have hlt1 : T.lt (k + 1) := ⟨Nat.lt_succ_of_lt hlt.bx, fun r hr => Nat.lt_succ_of_lt (hlt.nm r hr)⟩
  have hlt2 : T.lt (k + 2) := ⟨Nat.lt_succ_of_lt hlt1.bx, fun r hr => Nat.lt_succ_of_lt (hlt1.nm r hr)⟩
  have f1 := ne4 (show k ≠ T.bx by omega)
  have m1 : hsets (hdels ((k, .box 25 v.cells) :: T.hp) T.hp T.hp) T.hp = (k, .box 25 v.cells) :: T.hp := Tk.mrg1 hs hlt rfl rfl
  refine SW.seq ?_
  (refine SW.regL [0, 1, 2, 5, 6, 7, 10, 24, 40, 53] mixed ?_; (repeat (first | refine RW.ro (uK) (h := ?_) | refine RW.skip (h := ?_) | refine RW.op (uK) (h := ?_) | refine RW.opN (uK) (h := ?_) | refine RW.skip0 (h := ?_) | (refine RW.callC (h := ?_); (first | refine CallP.mk (uK) (hs := Tk.hsub1 hlt) (hc := none_at4 hs hlt1 hn0) (h := ?_) | refine CallP.mk (uK) (hs := Tk.hsub1 hlt) (hc := tmay_at hs hlt1 v) (h := ?_) | refine CallP.mk (uK) (hc := above_at4 _ _ _) (h := ?_))))); refine RW.nil ⟨conf_of (by kernel_rfl), Pruned.mk (h := ?_)⟩)
  refine SW.seq (SW.block (SW.seq ?_))
  (refine SW.regL [0, 1, 2, 5, 6, 7, 10, 24, 40, 53] mixed ?_; (repeat (first | refine RW.ro (m1) (h := ?_) | refine RW.skip (h := ?_) | refine RW.op (m1) (h := ?_) | refine RW.opN (m1) (h := ?_) | refine RW.skip0 (h := ?_) | (refine RW.callC (h := ?_); (first | refine CallP.mk (m1) (hs := Tk.hsub1 hlt) (hc := none_at4 hs hlt1 hn0) (h := ?_) | refine CallP.mk (m1) (hs := Tk.hsub1 hlt) (hc := tmay_at hs hlt1 v) (h := ?_) | refine CallP.mk (m1) (hc := above_at4 _ _ _) (h := ?_))))); refine RW.nil ⟨conf_of (by kernel_rfl), Pruned.mk (h := ?_)⟩)
  refine SW.condF rfl (SW.seq ?_)
  rcases h1 : decide ((r : Int) ≥ T.n) with _ | _
  rotate_left
  · (have fx := (And.intro (uB) (And.intro (uN) (And.intro (h1) (f1)))); refine SW.regL [0, 1, 2, 5, 6, 7, 10, 24, 40, 53] mixed ?_; (repeat (first | refine RW.ro fx (h := ?_) | refine RW.skip (h := ?_) | refine RW.op fx (h := ?_) | refine RW.opN fx (h := ?_) | refine RW.skip0 (h := ?_) | (refine RW.callC (h := ?_); (first | refine CallP.mk fx (hs := Tk.hsub1 hlt) (hc := none_at4 hs hlt1 hn0) (h := ?_) | refine CallP.mk fx (hs := Tk.hsub1 hlt) (hc := tmay_at hs hlt1 v) (h := ?_) | refine CallP.mk fx (hc := above_at4 _ _ _) (h := ?_))))); refine RW.nil ⟨conf_of (by kernel_rfl), Pruned.mk (h := ?_)⟩)
    refine SW.condT rfl (SW.seq ?_)
    refine SW.weak id (st1 := ⟨[], T.hp, k + 6⟩) (Tk.drop1 hs hlt (by omega)) ?_
    (refine SW.regL [0, 1, 2, 5, 6, 7, 10, 24, 40, 53] mixed ?_; (repeat (first | refine RW.ro bq_tt (h := ?_) | refine RW.skip (h := ?_) | refine RW.op bq_tt (h := ?_) | refine RW.opN bq_tt (h := ?_) | refine RW.skip0 (h := ?_) | (refine RW.callC (h := ?_); (first | refine CallP.mk bq_tt (hs := Tk.hsub1 hlt) (hc := none_at4 hs hlt1 hn0) (h := ?_) | refine CallP.mk bq_tt (hs := Tk.hsub1 hlt) (hc := tmay_at hs hlt1 v) (h := ?_) | refine CallP.mk bq_tt (hc := above_at4 _ _ _) (h := ?_))))); refine RW.nil ⟨conf_of (by kernel_rfl), Pruned.mk (h := ?_)⟩)
    refine SW.ret ?_
    have e : T.hearV r v (k + 2) = (T, 2) := by unfold Tk.hearV; rw [if_pos (by simp only [decide_eq_true_eq] at h1; omega)]
    rw [e]
    exact End.mk T.hp (h3 := fun _ _ h => h) (h4 := ⟨rfl, rfl⟩) (h6 := hok0 _ _ rfl rfl (by omega))
  have hrn : r < T.n := by simp only [decide_eq_false_iff_not] at h1; omega
  rcases hm : T.may v with _ | _
  · (have fx := (And.intro (uB) (And.intro (uN) (And.intro (h1) (And.intro (m1) (And.intro (hm) (f1)))))); refine SW.regL [0, 1, 2, 5, 6, 7, 10, 24, 40, 53] mixed ?_; (repeat (first | refine RW.ro fx (h := ?_) | refine RW.skip (h := ?_) | refine RW.op fx (h := ?_) | refine RW.opN fx (h := ?_) | refine RW.skip0 (h := ?_) | (refine RW.callC (h := ?_); (first | refine CallP.mk fx (hs := Tk.hsub1 hlt) (hc := none_at4 hs hlt1 hn0) (h := ?_) | refine CallP.mk fx (hs := Tk.hsub1 hlt) (hc := tmay_at hs hlt1 v) (h := ?_) | refine CallP.mk fx (hc := above_at4 _ _ _) (h := ?_))))); refine RW.nil ⟨conf_of (by kernel_rfl), Pruned.mk (h := ?_)⟩)
    refine SW.condT rfl (SW.seq ?_)
    refine SW.weak id (st1 := ⟨[], T.hp, k + 6⟩) (Tk.drop1 hs hlt (by omega)) ?_
    (refine SW.regL [0, 1, 2, 5, 6, 7, 10, 24, 40, 53] mixed ?_; (repeat (first | refine RW.ro bq_tt (h := ?_) | refine RW.skip (h := ?_) | refine RW.op bq_tt (h := ?_) | refine RW.opN bq_tt (h := ?_) | refine RW.skip0 (h := ?_) | (refine RW.callC (h := ?_); (first | refine CallP.mk bq_tt (hs := Tk.hsub1 hlt) (hc := none_at4 hs hlt1 hn0) (h := ?_) | refine CallP.mk bq_tt (hs := Tk.hsub1 hlt) (hc := tmay_at hs hlt1 v) (h := ?_) | refine CallP.mk bq_tt (hc := above_at4 _ _ _) (h := ?_))))); refine RW.nil ⟨conf_of (by kernel_rfl), Pruned.mk (h := ?_)⟩)
    refine SW.ret ?_
    have e : T.hearV r v (k + 2) = (T, 2) := by unfold Tk.hearV; rw [if_neg (by omega), if_pos hm]
    rw [e]
    exact End.mk T.hp (h3 := fun _ _ h => h) (h4 := ⟨rfl, rfl⟩) (h6 := hok0 _ _ rfl rfl (by omega))
  (have fx := (And.intro (uB) (And.intro (uN) (And.intro (h1) (And.intro (m1) (And.intro (hm) (f1)))))); refine SW.regL [0, 1, 2, 5, 6, 7, 10, 24, 40, 53] mixed ?_; (repeat (first | refine RW.ro fx (h := ?_) | refine RW.skip (h := ?_) | refine RW.op fx (h := ?_) | refine RW.opN fx (h := ?_) | refine RW.skip0 (h := ?_) | (refine RW.callC (h := ?_); (first | refine CallP.mk fx (hs := Tk.hsub1 hlt) (hc := none_at4 hs hlt1 hn0) (h := ?_) | refine CallP.mk fx (hs := Tk.hsub1 hlt) (hc := tmay_at hs hlt1 v) (h := ?_) | refine CallP.mk fx (hc := above_at4 _ _ _) (h := ?_))))); refine RW.nil ⟨conf_of (by kernel_rfl), Pruned.mk (h := ?_)⟩)
  refine SW.condF rfl (SW.seq ?_)
  rcases h2 : ((r : Int) == T.own) with _ | _
  rotate_left
  · have hro : r = T.own := by simp at h2; omega
    rcases ha : T.has.above v with _ | _
    · (have fx := (And.intro (uB) (And.intro (uO) (And.intro (uH) (And.intro (uL) (And.intro (h2) (And.intro (ha) (f1))))))); refine SW.regL [0, 1, 2, 5, 6, 7, 10, 24, 40, 53] mixed ?_; (repeat (first | refine RW.ro fx (h := ?_) | refine RW.skip (h := ?_) | refine RW.op fx (h := ?_) | refine RW.opN fx (h := ?_) | refine RW.skip0 (h := ?_) | (refine RW.callC (h := ?_); (first | refine CallP.mk fx (hs := Tk.hsub1 hlt) (hc := none_at4 hs hlt1 hn0) (h := ?_) | refine CallP.mk fx (hs := Tk.hsub1 hlt) (hc := tmay_at hs hlt1 v) (h := ?_) | refine CallP.mk fx (hc := above_at4 _ _ _) (h := ?_))))); refine RW.nil ⟨conf_of (by kernel_rfl), Pruned.mk (h := ?_)⟩)
      refine SW.condT rfl (SW.seq ?_)
      refine SW.weak id (st1 := ⟨[], T.hp, k + 6⟩) (Tk.drop1 hs hlt (by omega)) ?_
      (refine SW.regL [0, 1, 2, 5, 6, 7, 10, 24, 40, 53] mixed ?_; (repeat (first | refine RW.ro bq_tt (h := ?_) | refine RW.skip (h := ?_) | refine RW.op bq_tt (h := ?_) | refine RW.opN bq_tt (h := ?_) | refine RW.skip0 (h := ?_) | (refine RW.callC (h := ?_); (first | refine CallP.mk bq_tt (hs := Tk.hsub1 hlt) (hc := none_at4 hs hlt1 hn0) (h := ?_) | refine CallP.mk bq_tt (hs := Tk.hsub1 hlt) (hc := tmay_at hs hlt1 v) (h := ?_) | refine CallP.mk bq_tt (hc := above_at4 _ _ _) (h := ?_))))); refine RW.nil ⟨conf_of (by kernel_rfl), Pruned.mk (h := ?_)⟩)
      refine SW.ret ?_
      have e : T.hearV r v (k + 2) = (T, 9) := by unfold Tk.hearV; rw [if_neg (by omega), if_neg (by rw [hm]; simp), if_pos hro, if_pos ha]
      rw [e]
      exact End.mk T.hp (h3 := fun _ _ h => h) (h4 := ⟨rfl, rfl⟩) (h6 := hok0 _ _ rfl rfl (by omega))
    · (have fx := (And.intro (uB) (And.intro (uO) (And.intro (uH) (And.intro (uL) (And.intro (h2) (And.intro (ha) (f1))))))); refine SW.regL [0, 1, 2, 5, 6, 7, 10, 24, 40, 53] mixed ?_; (repeat (first | refine RW.ro fx (h := ?_) | refine RW.skip (h := ?_) | refine RW.op fx (h := ?_) | refine RW.opN fx (h := ?_) | refine RW.skip0 (h := ?_) | (refine RW.callC (h := ?_); (first | refine CallP.mk fx (hs := Tk.hsub1 hlt) (hc := none_at4 hs hlt1 hn0) (h := ?_) | refine CallP.mk fx (hs := Tk.hsub1 hlt) (hc := tmay_at hs hlt1 v) (h := ?_) | refine CallP.mk fx (hc := above_at4 _ _ _) (h := ?_))))); refine RW.nil ⟨conf_of (by kernel_rfl), Pruned.mk (h := ?_)⟩)
      refine SW.condF rfl (SW.seq ?_)
      (have fx := (And.intro (uB) (And.intro (uO) (And.intro (h2) (f1)))); refine SW.regL [0, 1, 2, 5, 6, 7, 10, 24, 40, 53] mixed ?_; (repeat (first | refine RW.ro fx (h := ?_) | refine RW.skip (h := ?_) | refine RW.op fx (h := ?_) | refine RW.opN fx (h := ?_) | refine RW.skip0 (h := ?_) | (refine RW.callC (h := ?_); (first | refine CallP.mk fx (hs := Tk.hsub1 hlt) (hc := none_at4 hs hlt1 hn0) (h := ?_) | refine CallP.mk fx (hs := Tk.hsub1 hlt) (hc := tmay_at hs hlt1 v) (h := ?_) | refine CallP.mk fx (hc := above_at4 _ _ _) (h := ?_))))); refine RW.nil ⟨conf_of (by kernel_rfl), Pruned.mk (h := ?_)⟩)
      refine SW.condT rfl (SW.seq ?_)
      refine SW.weak id (st1 := ⟨[], T.hp, k + 6⟩) (Tk.drop1 hs hlt (by omega)) ?_
      (refine SW.regL [0, 1, 2, 5, 6, 7, 10, 24, 40, 53] mixed ?_; (repeat (first | refine RW.ro bq_tt (h := ?_) | refine RW.skip (h := ?_) | refine RW.op bq_tt (h := ?_) | refine RW.opN bq_tt (h := ?_) | refine RW.skip0 (h := ?_) | (refine RW.callC (h := ?_); (first | refine CallP.mk bq_tt (hs := Tk.hsub1 hlt) (hc := none_at4 hs hlt1 hn0) (h := ?_) | refine CallP.mk bq_tt (hs := Tk.hsub1 hlt) (hc := tmay_at hs hlt1 v) (h := ?_) | refine CallP.mk bq_tt (hc := above_at4 _ _ _) (h := ?_))))); refine RW.nil ⟨conf_of (by kernel_rfl), Pruned.mk (h := ?_)⟩)
      refine SW.ret ?_
      have e : T.hearV r v (k + 2) = (T, 0) := by unfold Tk.hearV; rw [if_neg (by omega), if_neg (by rw [hm]; simp), if_pos hro, if_neg (by rw [ha]; simp)]
      rw [e]
      exact End.mk T.hp (h3 := fun _ _ h => h) (h4 := ⟨rfl, rfl⟩) (h6 := hok0 _ _ rfl rfl (by omega))
  (have fx := (And.intro (uB) (And.intro (uO) (And.intro (uH) (And.intro (uL) (And.intro (h2) (f1)))))); refine SW.regL [0, 1, 2, 5, 6, 7, 10, 24, 40, 53] mixed ?_; (repeat (first | refine RW.ro fx (h := ?_) | refine RW.skip (h := ?_) | refine RW.op fx (h := ?_) | refine RW.opN fx (h := ?_) | refine RW.skip0 (h := ?_) | (refine RW.callC (h := ?_); (first | refine CallP.mk fx (hs := Tk.hsub1 hlt) (hc := none_at4 hs hlt1 hn0) (h := ?_) | refine CallP.mk fx (hs := Tk.hsub1 hlt) (hc := tmay_at hs hlt1 v) (h := ?_) | refine CallP.mk fx (hc := above_at4 _ _ _) (h := ?_))))); refine RW.nil ⟨conf_of (by kernel_rfl), Pruned.mk (h := ?_)⟩)
  refine SW.condF rfl (SW.seq ?_)
  (have fx := (And.intro (uB) (And.intro (uO) (And.intro (h2) (f1)))); refine SW.regL [0, 1, 2, 5, 6, 7, 10, 24, 40, 53] mixed ?_; (repeat (first | refine RW.ro fx (h := ?_) | refine RW.skip (h := ?_) | refine RW.op fx (h := ?_) | refine RW.opN fx (h := ?_) | refine RW.skip0 (h := ?_) | (refine RW.callC (h := ?_); (first | refine CallP.mk fx (hs := Tk.hsub1 hlt) (hc := none_at4 hs hlt1 hn0) (h := ?_) | refine CallP.mk fx (hs := Tk.hsub1 hlt) (hc := tmay_at hs hlt1 v) (h := ?_) | refine CallP.mk fx (hc := above_at4 _ _ _) (h := ?_))))); refine RW.nil ⟨conf_of (by kernel_rfl), Pruned.mk (h := ?_)⟩)
  refine SW.condF rfl (SW.skip ?_)
  refine (?_ : Sl.SW _ _ _ _ _ _)
  have h8 : r < 8 := by omega
  have hro : ¬ r = T.own := by simp at h2; omega
  have e : T.hearV r v (k + 2) = (((T.opn r (k + 2)).addw r v).settle, 0) := by unfold Tk.hearV; rw [if_neg (by omega), if_neg (by rw [hm]; simp), if_neg hro]
  rw [e]
  have uM : List.lookup (T.nm r) T.hp = some (wob (T.wt r)) := Tk.lkm hs h8
  have uW : T.cells[74 + r]? = some (.mp (T.nm r)) := Tk.ldw T h8
  have hnm := hlt.nm r h8
  have f2 := ne4 (show k ≠ T.nm r by omega)
  have f3 := ne4 (hs.bx r h8)
  have hnk : ∀ (T' : Tk) o, T'.bx = T.bx → T'.nm = T.nm → (((k, o) :: T'.hp : Hp).map (·.1)).Nodup := fun T' o e1 e2 => by
    rw [List.map_cons, List.nodup_cons]
    exact ⟨Tk.out (Tk.lt_of hlt e1 e2) (Nat.le_refl _), Tk.nodup (Tk.sep_of hs e1 e2)⟩
  have hokk : ∀ (T' : Tk) kx, T'.lt kx → k < kx → Hp.ok (fun n => decide (n < kx)) ((k, .box 25 v.cells) :: T'.hp) = true := fun T' kx h1 h2 => by
    have := Tk.okk h1
    simp only [Hp.ok, List.all_cons, Ob.ok, Vec.cells_ok, Bool.and_true, Bool.and_eq_true, decide_eq_true_eq] at this ⊢
    exact ⟨h2, this⟩
  refine SW.weak id (st1 := ⟨[(0, .ptr T.bx 0), (1, u8 r), (5, .ptr k 0)], (k, .box 25 v.cells) :: T.hp, k + 2⟩) (Weak.same (by simp) (by simp [EnvW, List.lookup, SV.ren, SV.rens, SV.ok, SV.oks]; try omega) (hokk T _ hlt2 (by simp)) (lk_of_nodup (hnk T _ rfl rfl))) ?_
  refine SW.seq (SW.seq ?_)
  obtain ⟨o1, o2, o3, o4, o5⟩ := T.opn_bx r (k + 2)
  have os := Tk.opn_sep hs (r := r) hlt2
  have ol := Tk.opn_lt (r := r) hlt2
  have ow := Tk.opn_ww hww r (k + 2)
  rcases hw : T.wt r with _ | ⟨L0, c0⟩
  · rw [hw] at uM
    have uM : List.lookup (T.nm r) T.hp = some .nomap := uM
    have uRm : hrep T.hp (T.nm r) .nomap = T.hp := hrep_same uM
    (have fx := (And.intro (uB) (And.intro (uW) (And.intro (uM) (And.intro (uRm) (And.intro (f1) (And.intro (f2) (f3))))))); refine SW.regL [0, 1, 2, 5, 6, 7, 10, 24, 40, 53] mixed ?_; (repeat (first | refine RW.ro fx (h := ?_) | refine RW.skip (h := ?_) | refine RW.op fx (h := ?_) | refine RW.opN fx (h := ?_) | refine RW.skip0 (h := ?_) | (refine RW.callC (h := ?_); (first | refine CallP.mk fx (hs := Tk.hsub1 hlt) (hc := none_at4 hs hlt1 hn0) (h := ?_) | refine CallP.mk fx (hs := Tk.hsub1 hlt) (hc := tmay_at hs hlt1 v) (h := ?_) | refine CallP.mk fx (hc := above_at4 _ _ _) (h := ?_))))); refine RW.nil ⟨conf_of (by kernel_rfl), Pruned.mk (h := ?_)⟩)
    have uS := Tk.spl_opn hw h8 (k := k + 2)
    have uR : ∀ c, hrep T.hp T.bx (.box 86 c) = (T.bx, .box 86 c) :: T.maps := fun _ => Tk.hrepb
    have uK2 : List.lookup (k + 2) T.hp = none := Tk.lkk hlt2 (Nat.le_refl _)
    have g1 := ne4 (show k + 2 ≠ k by omega)
    have g2 := ne4 (show k + 2 ≠ T.bx by omega)
    have uL2 : (74 + r + 1 ≤ T.cells.length) = True := eq_true (by rw [Tk.cells_len]; omega)
    refine SW.condT rfl ?_
    (have fx := (And.intro (uB) (And.intro (uS) (And.intro (uR) (And.intro (uK2) (And.intro (uL2) (And.intro (f1) (And.intro (g1) (g2)))))))); refine SW.regL [0, 1, 2, 5, 6, 7, 10, 24, 40, 53] mixed ?_; (repeat (first | refine RW.ro fx (h := ?_) | refine RW.skip (h := ?_) | refine RW.op fx (h := ?_) | refine RW.opN fx (h := ?_) | refine RW.skip0 (h := ?_) | (refine RW.callC (h := ?_); (first | refine CallP.mk fx (hs := Tk.hsub1 hlt) (hc := none_at4 hs hlt1 hn0) (h := ?_) | refine CallP.mk fx (hs := Tk.hsub1 hlt) (hc := tmay_at hs hlt1 v) (h := ?_) | refine CallP.mk fx (hc := above_at4 _ _ _) (h := ?_))))); refine RW.nil ⟨conf_of (by kernel_rfl), Pruned.mk (h := ?_)⟩)
    refine SW.weak id (st1 := ⟨[(0, .ptr T.bx 0), (1, u8 r), (5, .ptr k 0)], (k, .box 25 v.cells) :: (T.opn r (k + 2)).hp, k + 3⟩) (Weak.same (by simp) (by simp [EnvW, List.lookup, SV.ren, SV.rens, SV.ok, SV.oks]; try omega) (hokk _ _ ol (by simp)) (Tk.opn_lk hs hw hlt)) ?_
    obtain ⟨L, c, hL⟩ := T.opn_some r (k + 2)
    have hne : ∀ i, i < 8 → (T.opn r (k + 2)).nm i ≠ k := fun i hi => by
      have := hlt.nm i hi
      rcases T.opn_nm r (k + 2) i with h | ⟨_, h⟩ <;> rw [h] <;> omega
    generalize T.opn r (k + 2) = T2 at *
    have dB : List.lookup T.bx T2.hp = some (.box 86 T2.cells) := by rw [← o1]; exact Tk.lkb
    have dW : T2.cells[74 + r]? = some (.mp (T2.nm r)) := Tk.ldw T2 h8
    have dM : List.lookup (T2.nm r) T2.hp = some (.map (mapE Vec.cells iv L) c) := by rw [Tk.lkm os h8, hL]; rfl
    have dR : hrep T2.hp (T2.nm r) (.map (mapE Vec.cells iv (MM.put L c v 1)) (MM.clk L c v)) = (T2.addw r v).hp := by
      have a3 : T2.addw r v = T2.setW r (some (MM.put L c v 1, MM.clk L c v)) := by unfold Tk.addw; rw [hL]
      rw [a3]; exact Tk.hrepm os h8 (some (MM.put L c v 1, MM.clk L c v))
    obtain ⟨b1, b2, b3, b4⟩ := T2.addw_bx r v
    have wa := Tk.addw_ww ow h8 v
    generalize T2.addw r v = T3 at *
    have hs3 : T3.sep := Tk.sep_of os b1 b2
    have hl3 : T3.lt (k + 3) := Tk.lt_of ol b1 b2
    have hse := settle_at hs3 (k := k + 3) (by rw [b3, o2]; exact hn) (by rw [b4, o3]; exact ho) wa hl3
    rw [b1, o1] at hse
    obtain ⟨z1, z2⟩ := T3.settle_bx
    have y1 : T3.bx ≠ k := by rw [b1, o1]; omega
    have y2 : ∀ i, i < 8 → T3.nm i ≠ k := by rw [b2]; exact hne
    have m2 : hsets (hdels ((k, .box 25 v.cells) :: T3.hp) T3.settle.hp T3.hp) T3.settle.hp = (k, .box 25 v.cells) :: T3.settle.hp :=
      mrg_tail (pre := [(k, .box 25 v.cells)]) (Tk.hp_same z1 z2) (Tk.cons_nodup hs3 y1 y2)
    have f7 := ne4 (hne r h8)
    have g5 := ne4 (os.bx r h8)
    rw [o1] at g5
    refine SW.seq ?_
    (have fx := (And.intro (dB) (And.intro (dW) (And.intro (dM) (And.intro (dR) (And.intro (f1) (And.intro (f7) (g5))))))); refine SW.regL [0, 1, 2, 5, 6, 7, 10, 24, 40, 53] mixed ?_; (repeat (first | refine RW.ro fx (h := ?_) | refine RW.skip (h := ?_) | refine RW.op fx (h := ?_) | refine RW.opN fx (h := ?_) | refine RW.skip0 (h := ?_) | (refine RW.callC (h := ?_); (first | refine CallP.mk fx (hs := Tk.cons_sub y1 y2) (hc := hse) (h := ?_))))); refine RW.nil ⟨conf_of (by kernel_rfl), Pruned.mk (h := ?_)⟩)
    refine SW.seq ?_
    (refine SW.regL [0, 1, 2, 5, 6, 7, 10, 24, 40, 53] mixed ?_; (repeat (first | refine RW.ro (m2) (h := ?_) | refine RW.skip (h := ?_) | refine RW.op (m2) (h := ?_) | refine RW.opN (m2) (h := ?_) | refine RW.skip0 (h := ?_) | (refine RW.callC (h := ?_); (first | refine CallP.mk (m2) (hs := Tk.cons_sub y1 y2) (hc := hse) (h := ?_))))); refine RW.nil ⟨conf_of (by kernel_rfl), Pruned.mk (h := ?_)⟩)
    refine SW.seq ?_
    (refine SW.regL [0, 1, 2, 5, 6, 7, 10, 24, 40, 53] mixed ?_; (repeat (first | refine RW.ro bq_tt (h := ?_) | refine RW.skip (h := ?_) | refine RW.op bq_tt (h := ?_) | refine RW.opN bq_tt (h := ?_) | refine RW.skip0 (h := ?_) | (refine RW.callC (h := ?_); (first | refine CallP.mk bq_tt (hs := Tk.cons_sub y1 y2) (hc := hse) (h := ?_))))); refine RW.nil ⟨conf_of (by kernel_rfl), Pruned.mk (h := ?_)⟩)
    refine SW.ret ?_
    exact End.mk T3.settle.hp (h3 := Tk.cons_sub (by rw [z1]; exact y1) (by rw [z2]; exact y2)) (h4 := ⟨rfl, rfl⟩) (h6 := Hp.ok_less (by omega) (Tk.okk (Tk.lt_of hl3 z1 z2)))
  · rw [hw] at uM
    have uM : List.lookup (T.nm r) T.hp = some (.map (mapE Vec.cells iv L0) c0) := uM
    have uRm : hrep T.hp (T.nm r) (.map (mapE Vec.cells iv L0) c0) = T.hp := hrep_same uM
    (have fx := (And.intro (uB) (And.intro (uW) (And.intro (uM) (And.intro (uRm) (And.intro (f1) (And.intro (f2) (f3))))))); refine SW.regL [0, 1, 2, 5, 6, 7, 10, 24, 40, 53] mixed ?_; (repeat (first | refine RW.ro fx (h := ?_) | refine RW.skip (h := ?_) | refine RW.op fx (h := ?_) | refine RW.opN fx (h := ?_) | refine RW.skip0 (h := ?_) | (refine RW.callC (h := ?_); (first | refine CallP.mk fx (hs := Tk.cons_sub y1 y2) (hc := hse) (h := ?_))))); refine RW.nil ⟨conf_of (by kernel_rfl), Pruned.mk (h := ?_)⟩)
    refine SW.condF rfl (SW.skip ?_)
    have e2 : T.opn r (k + 2) = T := by unfold Tk.opn; rw [hw]
    refine SW.weak id (st1 := ⟨[(0, .ptr T.bx 0), (1, u8 r), (5, .ptr k 0)], (k, .box 25 v.cells) :: (T.opn r (k + 2)).hp, k + 3⟩) (Weak.same (by simp) (by simp [EnvW, List.lookup, SV.ren, SV.rens, SV.ok, SV.oks]; try omega) (hokk _ _ ol (by simp)) (by rw [e2]; exact lk_of_nodup (hnk T _ rfl rfl))) ?_
    obtain ⟨L, c, hL⟩ := T.opn_some r (k + 2)
    have hne : ∀ i, i < 8 → (T.opn r (k + 2)).nm i ≠ k := fun i hi => by
      have := hlt.nm i hi
      rcases T.opn_nm r (k + 2) i with h | ⟨_, h⟩ <;> rw [h] <;> omega
    generalize T.opn r (k + 2) = T2 at *
    have dB : List.lookup T.bx T2.hp = some (.box 86 T2.cells) := by rw [← o1]; exact Tk.lkb
    have dW : T2.cells[74 + r]? = some (.mp (T2.nm r)) := Tk.ldw T2 h8
    have dM : List.lookup (T2.nm r) T2.hp = some (.map (mapE Vec.cells iv L) c) := by rw [Tk.lkm os h8, hL]; rfl
    have dR : hrep T2.hp (T2.nm r) (.map (mapE Vec.cells iv (MM.put L c v 1)) (MM.clk L c v)) = (T2.addw r v).hp := by
      have a3 : T2.addw r v = T2.setW r (some (MM.put L c v 1, MM.clk L c v)) := by unfold Tk.addw; rw [hL]
      rw [a3]; exact Tk.hrepm os h8 (some (MM.put L c v 1, MM.clk L c v))
    obtain ⟨b1, b2, b3, b4⟩ := T2.addw_bx r v
    have wa := Tk.addw_ww ow h8 v
    generalize T2.addw r v = T3 at *
    have hs3 : T3.sep := Tk.sep_of os b1 b2
    have hl3 : T3.lt (k + 3) := Tk.lt_of ol b1 b2
    have hse := settle_at hs3 (k := k + 3) (by rw [b3, o2]; exact hn) (by rw [b4, o3]; exact ho) wa hl3
    rw [b1, o1] at hse
    obtain ⟨z1, z2⟩ := T3.settle_bx
    have y1 : T3.bx ≠ k := by rw [b1, o1]; omega
    have y2 : ∀ i, i < 8 → T3.nm i ≠ k := by rw [b2]; exact hne
    have m2 : hsets (hdels ((k, .box 25 v.cells) :: T3.hp) T3.settle.hp T3.hp) T3.settle.hp = (k, .box 25 v.cells) :: T3.settle.hp :=
      mrg_tail (pre := [(k, .box 25 v.cells)]) (Tk.hp_same z1 z2) (Tk.cons_nodup hs3 y1 y2)
    have f7 := ne4 (hne r h8)
    have g5 := ne4 (os.bx r h8)
    rw [o1] at g5
    refine SW.seq ?_
    (have fx := (And.intro (dB) (And.intro (dW) (And.intro (dM) (And.intro (dR) (And.intro (f1) (And.intro (f7) (g5))))))); refine SW.regL [0, 1, 2, 5, 6, 7, 10, 24, 40, 53] mixed ?_; (repeat (first | refine RW.ro fx (h := ?_) | refine RW.skip (h := ?_) | refine RW.op fx (h := ?_) | refine RW.opN fx (h := ?_) | refine RW.skip0 (h := ?_) | (refine RW.callC (h := ?_); (first | refine CallP.mk fx (hs := Tk.cons_sub y1 y2) (hc := hse) (h := ?_))))); refine RW.nil ⟨conf_of (by kernel_rfl), Pruned.mk (h := ?_)⟩)
    refine SW.seq ?_
    (refine SW.regL [0, 1, 2, 5, 6, 7, 10, 24, 40, 53] mixed ?_; (repeat (first | refine RW.ro (m2) (h := ?_) | refine RW.skip (h := ?_) | refine RW.op (m2) (h := ?_) | refine RW.opN (m2) (h := ?_) | refine RW.skip0 (h := ?_) | (refine RW.callC (h := ?_); (first | refine CallP.mk (m2) (hs := Tk.cons_sub y1 y2) (hc := hse) (h := ?_))))); refine RW.nil ⟨conf_of (by kernel_rfl), Pruned.mk (h := ?_)⟩)
    refine SW.seq ?_
    (refine SW.regL [0, 1, 2, 5, 6, 7, 10, 24, 40, 53] mixed ?_; (repeat (first | refine RW.ro bq_tt (h := ?_) | refine RW.skip (h := ?_) | refine RW.op bq_tt (h := ?_) | refine RW.opN bq_tt (h := ?_) | refine RW.skip0 (h := ?_) | (refine RW.callC (h := ?_); (first | refine CallP.mk bq_tt (hs := Tk.cons_sub y1 y2) (hc := hse) (h := ?_))))); refine RW.nil ⟨conf_of (by kernel_rfl), Pruned.mk (h := ?_)⟩)
    refine SW.ret ?_
    exact End.mk T3.settle.hp (h3 := Tk.cons_sub (by rw [z1]; exact y1) (by rw [z2]; exact y2)) (h4 := ⟨rfl, rfl⟩) (h6 := Hp.ok_less (by omega) (Tk.okk (Tk.lt_of hl3 z1 z2)))
end
end Go.Proofs.Ytacdkgkpoelhdaa
namespace Go.Proofs.Ytacdkgkpoelhdaa
open Go.Sl Go.Proofs
theorem vbox_ok (x : Vec) (q : Nat → Bool) : (Ob.box 25 x.cells).ok q = true := rfl
theorem rvV_vec {st : St} {t k ty : Nat} {x : Vec} {r : List RV} {ss : List SV} {ob : Prop} (h1 : st.env.lookup t = some (.ptr k 0)) (h2 : lk st.hp k = some (.box ty x.cells)) (h3 : rvV st r = some (ss, ob)) :
    rvV st (.cell t (some 8) :: r) = some (.agg x.cells :: ss, ldo x.cells 0 (some 8) ∧ ob) := by
  simp only [rvV, h1, h3, cellsAt, h2, ldv, List.drop_zero, Vec.take_all]
def Tk.stab (T : Tk) : Vec := Vec.all min ((List.range T.n).map T.cnt)
theorem Tk.row (T : Tk) : ∀ {n : Nat}, n ≤ 8 → (((List.range n).map T.cnt).flatMap Vec.ds).map SV.d = (T.cells.drop 10).take (n * 8)
  | 0, _ | 1, _ | 2, _ | 3, _ | 4, _ | 5, _ | 6, _ | 7, _ | 8, _ => rfl
  | n + 9, h => by omega
theorem Tk.rowi (T : Tk) {n : Nat} (hn : n ≤ 8) (i : Nat) (x : DV) (h : (((List.range n).map T.cnt).flatMap Vec.ds)[i]? = some x) : T.cells[10 + i]? = some (.d x) := by
  have h1 : ((((List.range n).map T.cnt).flatMap Vec.ds).map SV.d)[i]? = some (.d x) := by rw [List.getElem?_map, h]; rfl
  rw [Tk.row T hn, List.getElem?_take] at h1
  split at h1
  · rw [List.getElem?_drop] at h1; exact h1
  · cases h1
section
attribute [local irreducible] SW RW SCd SC CallP Pruned Tk.cells Tk.hp Tk.up Tk.setC Tk.setH Tk.settle Tk.maps
variable {T : Tk} (hs : T.sep) {k : Nat}
include hs in
theorem meetT_at (hn0 : T.n ≠ 0) (hn : T.n ≤ 8) (k : Nat) : SCd Try.prog vector_Meet.f [.bs T.bx 10 T.n] [(T.bx, .box 86 T.cells)] k 0 (.agg T.stab.cells) [(T.bx, .box 86 T.cells)] := by
  have h := (meet_ok ((List.range T.n).map T.cnt) (by simp; omega)).sc (by rfl) k
  simp only [vecs, List.length_map, List.length_range] at h
  exact SC.borrow h (Vec.plain _) hn0 (Tk.rowi T hn)
include hs in
theorem own_at (hlt : T.lt k) (hn0 : T.n ≠ 0) : SCd Try.prog stable_Tracker_Own.f [.ptr T.bx 0] T.hp k 1 (.agg T.has.cells) T.hp := by
  refine Tk.here hs rfl rfl (fun _ => rfl) (fun q h => by simp [SV.oks, SV.ok, h]) ?_
  have hbx := hlt.bx
  refine stable_Tracker_Own.enter (by simp [SV.ok, SV.oks]; omega) (Tk.okk hlt) (by simp) ?_
  unfold stable_Tracker_Own.s
  have uB : List.lookup T.bx T.hp = some (.box 86 T.cells) := Tk.lkb
  have uK : List.lookup k T.hp = none := Tk.lkk hlt (Nat.le_refl _)
  have uH : (T.cells.drop 2).take 8 = T.has.cells := Tk.ldhas T
  have uL : (2 + 8 ≤ T.cells.length) = True := eq_true (by rw [Tk.cells_len]; omega)
  have hlt1 : T.lt (k + 1) := ⟨Nat.lt_succ_of_lt hlt.bx, fun r hr => Nat.lt_succ_of_lt (hlt.nm r hr)⟩
  have f1 := ne4 (show k ≠ T.bx by omega)
  have m1 : hsets (hdels ((k, .box 25 Vec.zero.cells) :: T.hp) T.hp T.hp) T.hp = (k, .box 25 Vec.zero.cells) :: T.hp := Tk.mrg1 hs hlt rfl rfl
  refine SW.seq ?_
  (refine SW.regL [0, 2, 4] mixed ?_; (repeat (first | refine RW.ro (uK) (h := ?_) | refine RW.skip (h := ?_) | refine RW.op (uK) (h := ?_) | refine RW.opN (uK) (h := ?_) | refine RW.skip0 (h := ?_) | (refine RW.callC (h := ?_); (first | refine CallP.mk (uK) (hs := Tk.hsub1 hlt) (hc := none_at4 hs hlt1 hn0) (h := ?_))))); refine RW.nil ⟨conf_of (by kernel_rfl), Pruned.mk (h := ?_)⟩)
  refine SW.seq (SW.seq ?_)
  (refine SW.regL [0, 2, 4] mixed ?_; (repeat (first | refine RW.ro (m1) (h := ?_) | refine RW.skip (h := ?_) | refine RW.op (m1) (h := ?_) | refine RW.opN (m1) (h := ?_) | refine RW.skip0 (h := ?_) | (refine RW.callC (h := ?_); (first | refine CallP.mk (m1) (hs := Tk.hsub1 hlt) (hc := none_at4 hs hlt1 hn0) (h := ?_))))); refine RW.nil ⟨conf_of (by kernel_rfl), Pruned.mk (h := ?_)⟩)
  refine SW.condF rfl (SW.skip ?_)
  refine SW.seq ?_
  (have fx := (And.intro (uB) (And.intro (uH) (And.intro (uL) (f1)))); refine SW.regL [0, 2, 4] mixed ?_; (repeat (first | refine RW.ro fx (h := ?_) | refine RW.skip (h := ?_) | refine RW.op fx (h := ?_) | refine RW.opN fx (h := ?_) | refine RW.skip0 (h := ?_) | (refine RW.callC (h := ?_); (first | refine CallP.mk fx (hs := Tk.hsub1 hlt) (hc := none_at4 hs hlt1 hn0) (h := ?_))))); refine RW.nil ⟨conf_of (by kernel_rfl), Pruned.mk (h := ?_)⟩)
  refine SW.ret ?_
  exact End.mk T.hp (h1 := rvV_vec (k := k) (by simp [List.lookup]) lk_cons_same rfl) (h2 := by simp [ldo]) (h3 := Tk.hsub1 hlt) (h4 := ⟨rfl, rfl⟩) (h6 := Tk.okk hlt1)
include hs in
theorem stable_at (hlt : T.lt k) (hn0 : T.n ≠ 0) (hn : T.n ≤ 8) : SCd Try.prog stable_Tracker_Stable.f [.ptr T.bx 0] T.hp k 1 (.agg T.stab.cells) T.hp := by
  refine Tk.here hs rfl rfl (fun _ => rfl) (fun q h => by simp [SV.oks, SV.ok, h]) ?_
  have hbx := hlt.bx
  refine stable_Tracker_Stable.enter (by simp [SV.ok, SV.oks]; omega) (Tk.okk hlt) (by simp) ?_
  unfold stable_Tracker_Stable.s
  have uB : List.lookup T.bx T.hp = some (.box 86 T.cells) := Tk.lkb
  have uK : List.lookup k T.hp = none := Tk.lkk hlt (Nat.le_refl _)
  have uN : T.cells[0]? = some (.d (.int .i64 T.n)) := Tk.ldn T
  have hlt1 : T.lt (k + 1) := ⟨Nat.lt_succ_of_lt hlt.bx, fun r hr => Nat.lt_succ_of_lt (hlt.nm r hr)⟩
  have f1 := ne4 (show k ≠ T.bx by omega)
  have m1 : hsets (hdels ((k, .box 25 Vec.zero.cells) :: T.hp) T.hp T.hp) T.hp = (k, .box 25 Vec.zero.cells) :: T.hp := Tk.mrg1 hs hlt rfl rfl
  have uRb : hrep T.hp T.bx (.box 86 T.cells) = T.hp := hrep_same uB
  have e0 : ∀ n : Nat, n - 0 = n := fun _ => rfl
  have hsubb : HSub [(T.bx, Ob.box 86 T.cells)] ((k, .box 25 Vec.zero.cells) :: T.hp) := HSub.cons (by rw [lk_cons, if_neg (by omega)]; exact uB) (HSub.nil _)
  have hn2 : ((T.n : Int) ≤ 8) = True := eq_true (by omega)
  refine SW.seq ?_
  (refine SW.regL [0, 2, 4] mixed ?_; (repeat (first | refine RW.ro (uK) (h := ?_) | refine RW.skip (h := ?_) | refine RW.op (uK) (h := ?_) | refine RW.opN (uK) (h := ?_) | refine RW.skip0 (h := ?_) | (refine RW.callC (h := ?_); (first | refine CallP.mk (uK) (hs := Tk.hsub1 hlt) (hc := none_at4 hs hlt1 hn0) (h := ?_) | refine CallP.mk (uK) (hs := hsubb) (hc := meetT_at hs hn0 hn _) (h := ?_))))); refine RW.nil ⟨conf_of (by kernel_rfl), Pruned.mk (h := ?_)⟩)
  refine SW.seq (SW.seq ?_)
  (refine SW.regL [0, 2, 4] mixed ?_; (repeat (first | refine RW.ro (m1) (h := ?_) | refine RW.skip (h := ?_) | refine RW.op (m1) (h := ?_) | refine RW.opN (m1) (h := ?_) | refine RW.skip0 (h := ?_) | (refine RW.callC (h := ?_); (first | refine CallP.mk (m1) (hs := Tk.hsub1 hlt) (hc := none_at4 hs hlt1 hn0) (h := ?_) | refine CallP.mk (m1) (hs := hsubb) (hc := meetT_at hs hn0 hn _) (h := ?_))))); refine RW.nil ⟨conf_of (by kernel_rfl), Pruned.mk (h := ?_)⟩)
  refine SW.condF rfl (SW.skip ?_)
  refine SW.seq ?_
  (have fx := (And.intro (uB) (And.intro (uN) (And.intro (uRb) (And.intro (e0) (And.intro (hn2) (f1)))))); refine SW.regL [0, 2, 4] mixed ?_; (repeat (first | refine RW.ro fx (h := ?_) | refine RW.skip (h := ?_) | refine RW.op fx (h := ?_) | refine RW.opN fx (h := ?_) | refine RW.skip0 (h := ?_) | (refine RW.callC (h := ?_); (first | refine CallP.mk fx (hs := Tk.hsub1 hlt) (hc := none_at4 hs hlt1 hn0) (h := ?_) | refine CallP.mk fx (hs := hsubb) (hc := meetT_at hs hn0 hn _) (h := ?_))))); refine RW.nil ⟨conf_of (by kernel_rfl), Pruned.mk (h := ?_)⟩)
  refine SW.ret ?_
  exact End.mk T.hp (h1 := rvV_vec (k := k) (by simp [List.lookup]) lk_cons_same rfl) (h2 := by simp [ldo]) (h3 := Tk.hsub1 hlt) (h4 := ⟨rfl, rfl⟩) (h6 := Tk.okk hlt1)
def Tk.cntV (T : Tk) (r : Nat) : Vec × Nat := if T.n ≤ r then (Vec.zero, 2) else (T.cnt r, 0)
include hs in
theorem counts_at (hlt : T.lt k) (hn0 : T.n ≠ 0) (hn : T.n ≤ 8) (r : Nat) (hr : r < 256) : SCd Try.prog stable_Tracker_Counts.f [.ptr T.bx 0, u8 r] T.hp k 1 (.tup [.agg (T.cntV r).1.cells, i64 (T.cntV r).2]) T.hp := by
  refine Tk.here hs rfl rfl (fun _ => rfl) (fun q h => by simp [SV.oks, SV.ok, h]) ?_
  have hbx := hlt.bx
  refine stable_Tracker_Counts.enter (by simp [SV.ok, SV.oks]; omega) (Tk.okk hlt) (by simp) ?_
  unfold stable_Tracker_Counts.s
  have uB : List.lookup T.bx T.hp = some (.box 86 T.cells) := Tk.lkb
  have uK : List.lookup k T.hp = none := Tk.lkk hlt (Nat.le_refl _)
  have uN : T.cells[0]? = some (.d (.int .i64 T.n)) := Tk.ldn T
  have hlt1 : T.lt (k + 1) := ⟨Nat.lt_succ_of_lt hlt.bx, fun r hr => Nat.lt_succ_of_lt (hlt.nm r hr)⟩
  have f1 := ne4 (show k ≠ T.bx by omega)
  have m1 : hsets (hdels ((k, .box 25 Vec.zero.cells) :: T.hp) T.hp T.hp) T.hp = (k, .box 25 Vec.zero.cells) :: T.hp := Tk.mrg1 hs hlt rfl rfl
  refine SW.seq ?_
  (refine SW.regL [0, 1, 4, 5, 6, 10] mixed ?_; (repeat (first | refine RW.ro (uK) (h := ?_) | refine RW.skip (h := ?_) | refine RW.op (uK) (h := ?_) | refine RW.opN (uK) (h := ?_) | refine RW.skip0 (h := ?_) | (refine RW.callC (h := ?_); (first | refine CallP.mk (uK) (hs := Tk.hsub1 hlt) (hc := none_at4 hs hlt1 hn0) (h := ?_))))); refine RW.nil ⟨conf_of (by kernel_rfl), Pruned.mk (h := ?_)⟩)
  refine SW.seq (SW.block (SW.seq ?_))
  (refine SW.regL [0, 1, 4, 5, 6, 10] mixed ?_; (repeat (first | refine RW.ro (m1) (h := ?_) | refine RW.skip (h := ?_) | refine RW.op (m1) (h := ?_) | refine RW.opN (m1) (h := ?_) | refine RW.skip0 (h := ?_) | (refine RW.callC (h := ?_); (first | refine CallP.mk (m1) (hs := Tk.hsub1 hlt) (hc := none_at4 hs hlt1 hn0) (h := ?_))))); refine RW.nil ⟨conf_of (by kernel_rfl), Pruned.mk (h := ?_)⟩)
  refine SW.condF rfl (SW.seq ?_)
  by_cases h : T.n ≤ r
  · have h1 : decide ((r : Int) ≥ T.n) = true := by simp only [decide_eq_true_eq]; omega
    (have fx := (And.intro (uB) (And.intro (uN) (And.intro (h1) (f1)))); refine SW.regL [0, 1, 4, 5, 6, 10] mixed ?_; (repeat (first | refine RW.ro fx (h := ?_) | refine RW.skip (h := ?_) | refine RW.op fx (h := ?_) | refine RW.opN fx (h := ?_) | refine RW.skip0 (h := ?_) | (refine RW.callC (h := ?_); (first | refine CallP.mk fx (hs := Tk.hsub1 hlt) (hc := none_at4 hs hlt1 hn0) (h := ?_))))); refine RW.nil ⟨conf_of (by kernel_rfl), Pruned.mk (h := ?_)⟩)
    refine SW.condT rfl (SW.seq ?_)
    (refine SW.regL [0, 1, 4, 5, 6, 10] mixed ?_; (repeat (first | refine RW.ro bq_tt (h := ?_) | refine RW.skip (h := ?_) | refine RW.op bq_tt (h := ?_) | refine RW.opN bq_tt (h := ?_) | refine RW.skip0 (h := ?_) | (refine RW.callC (h := ?_); (first | refine CallP.mk bq_tt (hs := Tk.hsub1 hlt) (hc := none_at4 hs hlt1 hn0) (h := ?_))))); refine RW.nil ⟨conf_of (by kernel_rfl), Pruned.mk (h := ?_)⟩)
    refine SW.ret ?_
    have e : T.cntV r = (Vec.zero, 2) := by unfold Tk.cntV; rw [if_pos h]
    rw [e]
    exact End.mk T.hp (h1 := rvV_vec (k := k) (by simp [List.lookup]) lk_cons_same rfl) (h2 := by simp [ldo]) (h3 := Tk.hsub1 hlt) (h4 := ⟨rfl, rfl⟩) (h6 := Tk.okk hlt1)
  · have h1 : decide ((r : Int) ≥ T.n) = false := by simp only [decide_eq_false_iff_not]; omega
    have h8 : r < 8 := by omega
    have uC : (T.cells.drop (10 + r * 8)).take 8 = (T.cnt r).cells := Tk.ldcnt T h8
    have uL2 : (10 + r * 8 + 8 ≤ T.cells.length) = True := eq_true (by rw [Tk.cells_len]; omega)
    (have fx := (And.intro (uB) (And.intro (uN) (And.intro (h1) (f1)))); refine SW.regL [0, 1, 4, 5, 6, 10] mixed ?_; (repeat (first | refine RW.ro fx (h := ?_) | refine RW.skip (h := ?_) | refine RW.op fx (h := ?_) | refine RW.opN fx (h := ?_) | refine RW.skip0 (h := ?_) | (refine RW.callC (h := ?_); (first | refine CallP.mk fx (hs := Tk.hsub1 hlt) (hc := none_at4 hs hlt1 hn0) (h := ?_))))); refine RW.nil ⟨conf_of (by kernel_rfl), Pruned.mk (h := ?_)⟩)
    refine SW.condF rfl (SW.skip ?_)
    refine (?_ : Sl.SW _ _ _ _ _ _)
    refine SW.seq ?_
    (have fx := (And.intro (uB) (And.intro (uC) (And.intro (uL2) (f1)))); refine SW.regL [0, 1, 4, 5, 6, 10] mixed ?_; (repeat (first | refine RW.ro fx (h := ?_) | refine RW.skip (h := ?_) | refine RW.op fx (h := ?_) | refine RW.opN fx (h := ?_) | refine RW.skip0 (h := ?_) | (refine RW.callC (h := ?_); (first | refine CallP.mk fx (hs := Tk.hsub1 hlt) (hc := none_at4 hs hlt1 hn0) (h := ?_))))); refine RW.nil ⟨conf_of (by kernel_rfl), Pruned.mk (h := ?_)⟩)
    refine SW.ret ?_
    have e : T.cntV r = (T.cnt r, 0) := by unfold Tk.cntV; rw [if_neg h]
    rw [e]
    exact End.mk T.hp (h1 := rvV_vec (k := k) (by simp [List.lookup]) lk_cons_same rfl) (h2 := by simp [ldo]) (h3 := Tk.hsub1 hlt) (h4 := ⟨rfl, rfl⟩) (h6 := Tk.okk hlt1)
end
end Go.Proofs.Ytacdkgkpoelhdaa
