/-
  Trees of credentials: why a grant makes no credential; Get.
-/
import Derived.Test.YtlgfknfdfnaedaaGreatU6
import Derived.Test.YtlgfknfdfnaedaaGreatUA
set_option linter.unusedSectionVars false
set_option linter.unusedVariables false
set_option linter.unusedSimpArgs false
namespace Go.Proofs.YtlgfknfdfnaedaaGreat
open Go.Sl Go.Proofs
def Tr.wh (T : Tr) (there : Bool) (c : Cr) (o : OpD) (b6 b5 b3 b2 : Nat) : Hp := (b6, .box 4 [bl there]) :: (b5, .box 83 c.cells) :: (b3, .box 31 o.cells) :: (b2, .box 75 [.ptr T.bx 0]) :: T.hp
def Tr.by (T : Tr) (o : OpD) : Cr := (MM.get T.at_ o.cred).getD Cr.zero
def Tr.is (T : Tr) (o : OpD) : Bool := MM.has T.at_ o.cred
def Tr.maker (T : Tr) (o : OpD) : OpD := (MM.get T.made o.cred).getD OpD.zero
def Tr.noCred (T : Tr) (o : OpD) : Bool := (!T.is o || !decide ((T.by o).cart = o.cart)) || !(T.maker o).before o
def Tr.why (T : Tr) (o : OpD) : Nat :=
  if o.kind ≠ 1 then 2 else if T.noCred o then 272 else if (T.by o).hold ≠ o.who then 273 else if bits .and .u8 ((T.by o).roles : Int) 1 == 0 then 274 else if narrowV o (T.by o) then 275 else 0
section
attribute [local irreducible] SW RW SCd SC CallP Pruned Tr.hp
variable {T : Tr} (hs : T.sep)
include hs in
theorem why2_at (o : OpD) {k n : Nat} (hlt : T.lt k) (hn : k + 4 ≤ n) : SCd Tryz.prog tree_Tree_Why_2.f [.ptr (k + 3) 0, .ptr (k + 2) 0, .ptr (k + 1) 0, .ptr k 0] (T.wh (T.is o) (T.by o) o (k + 3) (k + 2) (k + 1) k) n 0 (bl (T.noCred o)) (T.wh (T.is o) (T.by o) o (k + 3) (k + 2) (k + 1) k) := by
  have hb := hlt.b
  have ha := hlt.a
  have hmm := hlt.m
  have hok : ∀ q : Nat → Bool, q (k + 3) = true → q (k + 2) = true → q (k + 1) = true → q k = true → q T.bx = true → q T.ma = true → q T.mm = true → Hp.ok q (T.wh (T.is o) (T.by o) o (k + 3) (k + 2) (k + 1) k) = true := fun q h1 h2 h3 h4 h5 h6 h7 =>
    ok_cons h1 rfl (ok_cons h2 (by simp [Ob.ok]) (ok_cons h3 (by simp [Ob.ok]) (ok_cons h4 (by simp [Ob.ok, SV.oks, SV.ok, h5]) (Tr.okq h5 h6 h7))))
  have hl : ∀ m, m = k + 3 ∨ m = k + 2 ∨ m = k + 1 ∨ m = k ∨ m = T.bx ∨ m = T.ma ∨ m = T.mm → (lk (T.wh (T.is o) (T.by o) o (k + 3) (k + 2) (k + 1) k) m).isSome = true := fun m hm => by
    unfold Tr.wh
    repeat (rw [lk_cons]; split; · rfl)
    rcases hm with h | h | h | h | h | h | h
    · omega
    · omega
    · omega
    · omega
    · rw [h, T.lkb]; rfl
    · rw [h, Tr.lka hs]; rfl
    · rw [h, Tr.lkm hs]; rfl
  refine SB.same ?_ (hok _ (hl _ (by simp)) (hl _ (by simp)) (hl _ (by simp)) (hl _ (by simp)) (hl _ (by simp)) (hl _ (by simp)) (hl _ (by simp))) (by simp only [SV.oks, SV.ok, hl _ (.inl rfl), hl _ (.inr (.inl rfl)), hl _ (.inr (.inr (.inl rfl))), hl _ (.inr (.inr (.inr (.inl rfl))))]; rfl) (fun _ => rfl)
  have hokk : Hp.ok (fun m => decide (m < n)) (T.wh (T.is o) (T.by o) o (k + 3) (k + 2) (k + 1) k) = true := hok _ (by simp; omega) (by simp; omega) (by simp; omega) (by simp; omega) (by simp; omega) (by simp; omega) (by simp; omega)
  refine tree_Tree_Why_2.enter (by simp [SV.oks, SV.ok]; omega) hokk (by simp) ?_
  dsimp only [tree_Tree_Why_2.s, Co.M, Co.G, Co.J, Co.H, Co.N, Co.F, Co.C, Co.Z, Co.B, Co.b8, Co.b32, Co.b64, Co.i6, Co.z8, Co.z29]
  have u1 : List.lookup T.bx T.hp = some (.box 120 [.mp T.ma, .mp T.mm]) := T.lkb
  have u3 : List.lookup T.mm T.hp = some T.om := Tr.lkm hs
  have n1 := ne4 (show T.bx ≠ k + 3 by omega)
  have n2 := ne4 (show T.bx ≠ k + 2 by omega)
  have n3 := ne4 (show T.bx ≠ k + 1 by omega)
  have n4 := ne4 (show T.bx ≠ k by omega)
  have m1 := ne4 (show T.mm ≠ k + 3 by omega)
  have m2 := ne4 (show T.mm ≠ k + 2 by omega)
  have m3 := ne4 (show T.mm ≠ k + 1 by omega)
  have m4 := ne4 (show T.mm ≠ k by omega)
  have p1 := ne4 (show k + 3 ≠ k + 2 by omega)
  have p2 := ne4 (show k + 3 ≠ k + 1 by omega)
  have p3 := ne4 (show k + 3 ≠ k by omega)
  have p4 := ne4 (show k + 2 ≠ k + 1 by omega)
  have p5 := ne4 (show k + 2 ≠ k by omega)
  have p6 := ne4 (show k + 1 ≠ k by omega)
  unfold Tr.wh at hokk ⊢
  rcases h1 : T.is o with _ | _
  · rw [h1] at hokk
    (repeat (first | refine SW.seq ?_ | refine SW.block ?_ | (have fx := (And.intro (n1) (And.intro (n2) (And.intro (n3) (And.intro (n4) (And.intro (p1) (And.intro (p2) (And.intro (p3) (And.intro (p4) (And.intro (p5) (p6)))))))))); refine SW.regL [0, 1, 2, 3, 4] mixed ?_; (repeat (first | refine RW.ro fx (h := ?_) | refine RW.skip (h := ?_) | refine RW.op fx (h := ?_) | refine RW.opN fx (h := ?_) | refine RW.skip0 (h := ?_) | (refine RW.callC (h := ?_); (first | refine CallP.mk fx (hc := before_at _ _ _) (h := ?_))))); refine RW.nil ⟨by kernel_rfl, Pruned.mk (h := ?_)⟩) | refine SW.skip ?_ | refine SW.exit ?_ | refine SW.ret ?_ | refine SW.condT rfl ?_ | refine SW.condF rfl ?_))
    exact End.mk _ (h3 := fun _ _ h => h) (h4 := ⟨by simp only [Tr.noCred, h1]; rfl, rfl⟩) (h6 := hokk)
  · rw [h1] at hokk
    rcases h2 : decide ((T.by o).cart = o.cart) with _ | _
    · (repeat (first | refine SW.seq ?_ | refine SW.block ?_ | (have fx := (And.intro (n1) (And.intro (n2) (And.intro (n3) (And.intro (n4) (And.intro (p1) (And.intro (p2) (And.intro (p3) (And.intro (p4) (And.intro (p5) (And.intro (p6) (h2))))))))))); refine SW.regL [0, 1, 2, 3, 4] mixed ?_; (repeat (first | refine RW.ro fx (h := ?_) | refine RW.skip (h := ?_) | refine RW.op fx (h := ?_) | refine RW.opN fx (h := ?_) | refine RW.skip0 (h := ?_) | (refine RW.callC (h := ?_); (first | refine CallP.mk fx (hc := before_at _ _ _) (h := ?_))))); refine RW.nil ⟨by kernel_rfl, Pruned.mk (h := ?_)⟩) | refine SW.skip ?_ | refine SW.exit ?_ | refine SW.ret ?_ | refine SW.condT rfl ?_ | refine SW.condF rfl ?_))
      exact End.mk _ (h3 := fun _ _ h => h) (h4 := ⟨by simp only [Tr.noCred, h1, h2]; rfl, rfl⟩) (h6 := hokk)
    · have e1 : (MM.get T.made o.cred).getD OpD.zero = T.maker o := rfl
      have e2 : ((MM.get T.made o.cred).getD OpD.zero).cells = (T.maker o).cells := rfl
      (repeat (first | refine SW.seq ?_ | refine SW.block ?_ | (have fx := (And.intro (u1) (And.intro (u3) (And.intro (n1) (And.intro (n2) (And.intro (n3) (And.intro (n4) (And.intro (m1) (And.intro (m2) (And.intro (m3) (And.intro (m4) (And.intro (p1) (And.intro (p2) (And.intro (p3) (And.intro (p4) (And.intro (p5) (And.intro (p6) (And.intro (h2) (e2)))))))))))))))))); refine SW.regL [0, 1, 2, 3, 4] mixed ?_; (repeat (first | refine RW.ro fx (h := ?_) | refine RW.skip (h := ?_) | refine RW.op fx (h := ?_) | refine RW.opN fx (h := ?_) | refine RW.skip0 (h := ?_) | (refine RW.callC (h := ?_); (first | refine CallP.mk fx (hc := before_at _ _ _) (h := ?_))))); refine RW.nil ⟨by kernel_rfl, Pruned.mk (h := ?_)⟩) | refine SW.skip ?_ | refine SW.exit ?_ | refine SW.ret ?_ | refine SW.condT rfl ?_ | refine SW.condF rfl ?_))
      exact End.mk _ (h3 := fun _ _ h => h) (h4 := ⟨by simp only [Tr.noCred, h1, h2]; rfl, rfl⟩) (h6 := hokk)
end
abbrev tr0 (a : MM Dt Cr) (ca : Nat) (m : MM Dt OpD) (cm : Nat) : Tr := ⟨0, 1, 2, a, ca, m, cm⟩
abbrev hp0 (a : MM Dt Cr) (ca : Nat) (m : MM Dt OpD) (cm : Nat) : Hp := [(0, .box 120 [.mp 1, .mp 2]), (1, .map (mapE Dt.cells cv a) ca), (2, .map (mapE Dt.cells ov m) cm)]
theorem tr0_sep (a : MM Dt Cr) (ca : Nat) (m : MM Dt OpD) (cm : Nat) : (tr0 a ca m cm).sep := ⟨by show (1 : Nat) ≠ 0; decide, by show (2 : Nat) ≠ 0; decide, by show (1 : Nat) ≠ 2; decide⟩
theorem tr0_lt (a : MM Dt Cr) (ca : Nat) (m : MM Dt OpD) (cm : Nat) {k : Nat} (h : 3 ≤ k) : (tr0 a ca m cm).lt k := ⟨by show 0 < k; omega, by show 1 < k; omega, by show 2 < k; omega⟩
theorem hp0_ok (a : MM Dt Cr) (ca : Nat) (m : MM Dt OpD) (cm : Nat) {k : Nat} (h : 3 ≤ k) : (hp0 a ca m cm).ok (fun n => decide (n < k)) = true := Tr.okk (tr0_lt a ca m cm h)
theorem none0_at (a : MM Dt Cr) (ca : Nat) (m : MM Dt OpD) (cm : Nat) {k : Nat} (h : 3 ≤ k) : SCd Tryz.prog tree_Tree_none.f [.ptr 0 0] (hp0 a ca m cm) k 0 (.d (.bool false)) (hp0 a ca m cm) := none_at (tr0_sep a ca m cm) (tr0_lt a ca m cm h)
theorem why20_at (a : MM Dt Cr) (ca : Nat) (m : MM Dt OpD) (cm : Nat) (o : OpD) {n : Nat} (h : 7 ≤ n) :
    SCd Tryz.prog tree_Tree_Why_2.f [.ptr 6 0, .ptr 5 0, .ptr 4 0, .ptr 3 0] ((6, .box 4 [bl (MM.has a o.cred)]) :: (5, .box 83 ((MM.get a o.cred).getD Cr.zero).cells) :: (4, .box 31 o.cells) :: (3, .box 75 [.ptr 0 0]) :: hp0 a ca m cm) n 0 (bl ((tr0 a ca m cm).noCred o))
      ((6, .box 4 [bl (MM.has a o.cred)]) :: (5, .box 83 ((MM.get a o.cred).getD Cr.zero).cells) :: (4, .box 31 o.cells) :: (3, .box 75 [.ptr 0 0]) :: hp0 a ca m cm) := why2_at (T := tr0 a ca m cm) (tr0_sep a ca m cm) o (k := 3) (tr0_lt a ca m cm (Nat.le_refl 3)) (by omega)
section
attribute [local irreducible] SW RW SCd SC CallP Pruned Tr.noCred narrowV
def whyR : List SV := [.d (.int .i64 2), .fn (.func 93) [] [.ptr 4 0], .d (.int .i64 272), .fn (.func 94) [] [.ptr 6 0, .ptr 5 0, .ptr 4 0, .ptr 3 0], .d (.int .i64 273), .fn (.func 95) [] [.ptr 5 0, .ptr 4 0], .d (.int .i64 274), .fn (.func 96) [] [.ptr 5 0], .d (.int .i64 275), .fn (.func 97) [] [.ptr 4 0, .ptr 5 0]]
theorem whyR_0 : List.take 2 whyR = [.d (.int .i64 2), .fn (.func 93) [] [.ptr 4 0]] := rfl
theorem whyR_1 : List.take 2 (List.drop 2 whyR) = [.d (.int .i64 272), .fn (.func 94) [] [.ptr 6 0, .ptr 5 0, .ptr 4 0, .ptr 3 0]] := rfl
theorem whyR_2 : List.take 2 (List.drop 4 whyR) = [.d (.int .i64 273), .fn (.func 95) [] [.ptr 5 0, .ptr 4 0]] := rfl
theorem whyR_3 : List.take 2 (List.drop 6 whyR) = [.d (.int .i64 274), .fn (.func 96) [] [.ptr 5 0]] := rfl
theorem whyR_4 : List.take 2 (List.drop 8 whyR) = [.d (.int .i64 275), .fn (.func 97) [] [.ptr 4 0, .ptr 5 0]] := rfl
theorem spl22 : ∀ (x y a b : SV), spl [x, y] 0 [a, b] = [a, b] := fun _ _ _ _ => rfl
@[simp] theorem whyR_len : whyR.length = 10 := rfl
theorem spl10 : ∀ (x0 x1 x2 x3 x4 x5 x6 x7 x8 x9 a0 b0 a1 b1 a2 b2 a3 b3 a4 b4 : SV), spl (spl (spl (spl (spl ([x0, x1, x2, x3, x4, x5, x6, x7, x8, x9]) 0 [a0, b0]) 2 [a1, b1]) 4 [a2, b2]) 6 [a3, b3]) 8 [a4, b4] = [a0, b0, a1, b1, a2, b2, a3, b3, a4, b4] := fun _ _ _ _ _ _ _ _ _ _ _ _ _ _ _ _ _ _ _ _ => rfl
set_option maxHeartbeats 4000000 in
theorem why_sb (a : MM Dt Cr) (ca : Nat) (m : MM Dt OpD) (cm : Nat) (o : OpD) : SB Tryz.prog tree_Tree_Why.f [.ptr 0 0, .agg o.cells] (hp0 a ca m cm) 3 4 (fun r F' => r = i64 ((tr0 a ca m cm).why o) ∧ F' = hp0 a ca m cm) := by
  refine tree_Tree_Why.enter (by simp [SV.oks, SV.ok]) (hp0_ok a ca m cm (Nat.le_refl 3)) (by simp) ?_
  dsimp only [tree_Tree_Why.s, Co.M, Co.G, Co.J, Co.H, Co.N, Co.F, Co.C, Co.Z, Co.B, Co.b8, Co.b32, Co.b64, Co.i6, Co.z8, Co.z29]
  have hend : ∀ n, 7 ≤ n → Hp.ok (fun m => decide (m < 3 + 4)) (hp0 a ca m cm) = true := fun n _ => hp0_ok a ca m cm (by omega)
  refine SW.seq ?_
  (refine SW.regL [0, 1, 2, 3, 4, 5, 6, 8, 10, 31, 32, 33, 37] mixed ?_; (repeat (first | refine RW.ro bq_tt (h := ?_) | refine RW.skip (h := ?_) | refine RW.op bq_tt (h := ?_) | refine RW.opN bq_tt (h := ?_) | refine RW.skip0 (h := ?_) | (refine RW.callC (h := ?_); (first | refine CallP.mk bq_tt (hc := none0_at a ca m cm (by omega)) (h := ?_))))); refine RW.nil ⟨by kernel_rfl, Pruned.mk (h := ?_)⟩)
  refine SW.seq (SW.seq ?_)
  (refine SW.regL [0, 1, 2, 3, 4, 5, 6, 8, 10, 31, 32, 33, 37] mixed ?_; (repeat (first | refine RW.ro bq_tt (h := ?_) | refine RW.skip (h := ?_) | refine RW.op bq_tt (h := ?_) | refine RW.opN bq_tt (h := ?_) | refine RW.skip0 (h := ?_) | (refine RW.callC (h := ?_); (first | refine CallP.mk bq_tt (hc := none0_at a ca m cm (by omega)) (h := ?_))))); refine RW.nil ⟨by kernel_rfl, Pruned.mk (h := ?_)⟩)
  refine SW.condF rfl (SW.skip ?_)
  refine (?_ : Sl.SW _ _ _ _ _ _)
  obtain ⟨c, hc⟩ : ∃ c, (MM.get a o.cred).getD Cr.zero = c := ⟨_, rfl⟩
  have q2 := why20_at a ca m cm o (n := 8) (by omega)
  rw [hc] at q2
  refine SW.seq ?_
  refine SW.g0 [0, 1, 2, 3, 4, 5, 6, 8, 10, 31, 32, 33, 37] mixed (hc) ?_
  refine SW.seq (SW.seq ?_)
  have eR : [.d (.int .i64 2), .fn (.func 93) [] [.ptr 4 0], .d (.int .i64 272), .fn (.func 94) [] [.ptr 6 0, .ptr 5 0, .ptr 4 0, .ptr 3 0], .d (.int .i64 273), .fn (.func 95) [] [.ptr 5 0, .ptr 4 0], .d (.int .i64 274), .fn (.func 96) [] [.ptr 5 0], .d (.int .i64 275), .fn (.func 97) [] [.ptr 4 0, .ptr 5 0]] = whyR := rfl
  refine SW.g0 [0, 1, 2, 3, 4, 5, 6, 8, 10, 31, 32, 33, 37] mixed (And.intro (spl2) (And.intro (spl10) (eR))) ?_
  refine SW.block ?_
  let H7 : Hp := (6, .box 4 [bl (MM.has a o.cred)]) :: (5, .box 83 c.cells) :: (4, .box 31 o.cells) :: (3, .box 75 [.ptr 0 0]) :: hp0 a ca m cm
  have hH : ∀ n, 7 ≤ n → Hp.ok (fun m => decide (m < n)) H7 = true := fun n hn => ok_cons (by simp; omega) rfl (ok_cons (by simp; omega) (by simp [Ob.ok]) (ok_cons (by simp; omega) (by simp [Ob.ok]) (ok_cons (by simp; omega) (by simp [Ob.ok, SV.oks, SV.ok]; omega) (hp0_ok a ca m cm (by omega)))))
  have hR : SV.oks (fun n => decide (n < 7)) whyR = true := rfl
  let W : Bool → Bool → Bool → Bool → Bool → Nat → Prop := fun r1 r2 r3 r4 r5 i => (1 ≤ i → r1 = false) ∧ (2 ≤ i → r2 = false) ∧ (3 ≤ i → r3 = false) ∧ (4 ≤ i → r4 = false) ∧ (5 ≤ i → r5 = false)
  have hw : (tr0 a ca m cm).why o = if o.kind ≠ 1 then 2 else if (tr0 a ca m cm).noCred o then 272 else if c.hold ≠ o.who then 273 else if bits .and .u8 (c.roles : Int) 1 == 0 then 274 else if narrowV o c then 275 else 0 := by
    unfold Tr.why Tr.by
    rw [show (tr0 a ca m cm).at_ = a from rfl, hc]
  refine SW.loop (α := {i : Nat // i ≤ 5 ∧ W (decide (o.kind ≠ 1)) ((tr0 a ca m cm).noCred o) (decide (c.hold ≠ o.who)) (bits .and .u8 (c.roles : Int) 1 == 0) (narrowV o c) i}) (fun i => ⟨[(32, i64 i.1), (31, .agg whyR)], (6, .box 4 [bl (MM.has a o.cred)]) :: (5, .box 83 c.cells) :: (4, .box 31 o.cells) :: (3, .box 75 [.ptr 0 0]) :: [(0, .box 120 [.mp 1, .mp 2]), (1, .map (mapE Dt.cells cv a) ca), (2, .map (mapE Dt.cells ov m) cm)], 7⟩) (fun i => 5 - i.1) ⟨0, by omega, by simp [W]⟩ id ?_ ?_
  · exact Weak.same (by simp) (by simp [EnvW, List.lookup, SV.ren, SV.rens_id, SV.ok, hR]) (hH 7 (by omega)) (lk_of_nodup (by simp [H7]))
  rintro ⟨i, hi, w1, w2, w3, w4, w5⟩
  have hdrop : ∀ (x : Nat × Ob) (o2 : Ob), x ∈ H7 → lk ((7, o2) :: H7) x.1 = some x.2 := fun x o2 hx => by
    have hl := lk_of_nodup (h := H7) (by simp [H7]) x hx
    rw [lk_cons, if_neg ?_]
    · exact hl
    · intro e
      have := (Hp.ok_lk (hH 7 (by omega)) hl).1
      simp at this
      omega
  have hsub : ∀ o2 : Ob, HSub (hp0 a ca m cm) ((7, o2) :: H7) := fun o2 n ob hn => by
    have h3 : n < 3 := by
      have := (Hp.ok_lk (hp0_ok a ca m cm (Nat.le_refl 3)) hn).1
      simpa using this
    show lk ((7, o2) :: (6, _) :: (5, _) :: (4, _) :: (3, _) :: hp0 a ca m cm) n = some ob
    rw [lk_cons, if_neg (by omega), lk_cons, if_neg (by omega), lk_cons, if_neg (by omega), lk_cons, if_neg (by omega), lk_cons, if_neg (by omega)]
    exact hn
  have hsub7 : HSub (hp0 a ca m cm) H7 := fun n ob hn => by
    have h3 : n < 3 := by
      have := (Hp.ok_lk (hp0_ok a ca m cm (Nat.le_refl 3)) hn).1
      simpa using this
    show lk ((6, _) :: (5, _) :: (4, _) :: (3, _) :: hp0 a ca m cm) n = some ob
    rw [lk_cons, if_neg (by omega), lk_cons, if_neg (by omega), lk_cons, if_neg (by omega), lk_cons, if_neg (by omega)]
    exact hn
  match i, hi, w1, w2, w3, w4, w5 with
  | 0, _, _, _, _, _, _ =>
    rcases (Bool.eq_false_or_eq_true (decide (o.kind ≠ 1))).symm with h0 | h0
    · have con := why1_at o (b := 4) (k := 8) (by omega)
      rw [h0] at con
      (repeat (first | refine SW.seq ?_ | refine SW.block ?_ | refine SW.g1 [0, 1, 2, 3, 4, 5, 6, 8, 10, 31, 32, 33, 37] mixed (And.intro (whyR_0) (spl22)) con ?_ | refine SW.skip ?_ | refine SW.exit ?_ | refine SW.ret ?_ | refine SW.condT rfl ?_ | refine SW.condF rfl ?_))
      refine ⟨⟨1, by omega, fun _ => h0, fun h => absurd h (by omega), fun h => absurd h (by omega), fun h => absurd h (by omega), fun h => absurd h (by omega)⟩, id, by dsimp only; omega, ?_⟩
      exact Weak.same (by simp) (by simp [EnvW, List.lookup, SV.ren, SV.rens_id, SV.ok, hR]) (hH 7 (by omega)) (fun x hx => hdrop x _ hx)
    · have con := why1_at o (b := 4) (k := 8) (by omega)
      rw [h0] at con
      (repeat (first | refine SW.seq ?_ | refine SW.block ?_ | refine SW.g1 [0, 1, 2, 3, 4, 5, 6, 8, 10, 31, 32, 33, 37] mixed (And.intro (whyR_0) (spl22)) con ?_ | refine SW.skip ?_ | refine SW.exit ?_ | refine SW.ret ?_ | refine SW.condT rfl ?_ | refine SW.condF rfl ?_))
      exact End.mk (hp0 a ca m cm) (h3 := hsub _) (h4 := ⟨by rw [hw]; rw [if_pos (by simpa using h0)]; rfl, rfl⟩) (h6 := hp0_ok a ca m cm (by omega))
  | 1, _, w1, _, _, _, _ =>
    have z1 := w1 (by omega)
    rcases (Bool.eq_false_or_eq_true ((tr0 a ca m cm).noCred o)).symm with h0 | h0
    · have con := q2
      rw [h0] at con
      (repeat (first | refine SW.seq ?_ | refine SW.block ?_ | refine SW.g1 [0, 1, 2, 3, 4, 5, 6, 8, 10, 31, 32, 33, 37] mixed (And.intro (whyR_1) (spl22)) con ?_ | refine SW.skip ?_ | refine SW.exit ?_ | refine SW.ret ?_ | refine SW.condT rfl ?_ | refine SW.condF rfl ?_))
      refine ⟨⟨2, by omega, fun _ => z1, fun _ => h0, fun h => absurd h (by omega), fun h => absurd h (by omega), fun h => absurd h (by omega)⟩, id, by dsimp only; omega, ?_⟩
      exact Weak.same (by simp) (by simp [EnvW, List.lookup, SV.ren, SV.rens_id, SV.ok, hR]) (hH 7 (by omega)) (fun x hx => hdrop x _ hx)
    · have con := q2
      rw [h0] at con
      (repeat (first | refine SW.seq ?_ | refine SW.block ?_ | refine SW.g1 [0, 1, 2, 3, 4, 5, 6, 8, 10, 31, 32, 33, 37] mixed (And.intro (whyR_1) (spl22)) con ?_ | refine SW.skip ?_ | refine SW.exit ?_ | refine SW.ret ?_ | refine SW.condT rfl ?_ | refine SW.condF rfl ?_))
      exact End.mk (hp0 a ca m cm) (h3 := hsub _) (h4 := ⟨by rw [hw]; rw [if_neg (by simpa using z1)]; rw [if_pos (by simpa using h0)]; rfl, rfl⟩) (h6 := hp0_ok a ca m cm (by omega))
  | 2, _, w1, w2, _, _, _ =>
    have z1 := w1 (by omega)
    have z2 := w2 (by omega)
    rcases (Bool.eq_false_or_eq_true (decide (c.hold ≠ o.who))).symm with h0 | h0
    · have con := why3_at c o (b := 5) (b2 := 4) (k := 8) (by omega) (by omega) (by omega)
      rw [h0] at con
      (repeat (first | refine SW.seq ?_ | refine SW.block ?_ | refine SW.g1 [0, 1, 2, 3, 4, 5, 6, 8, 10, 31, 32, 33, 37] mixed (And.intro (whyR_2) (spl22)) con ?_ | refine SW.skip ?_ | refine SW.exit ?_ | refine SW.ret ?_ | refine SW.condT rfl ?_ | refine SW.condF rfl ?_))
      refine ⟨⟨3, by omega, fun _ => z1, fun _ => z2, fun _ => h0, fun h => absurd h (by omega), fun h => absurd h (by omega)⟩, id, by dsimp only; omega, ?_⟩
      exact Weak.same (by simp) (by simp [EnvW, List.lookup, SV.ren, SV.rens_id, SV.ok, hR]) (hH 7 (by omega)) (fun x hx => hdrop x _ hx)
    · have con := why3_at c o (b := 5) (b2 := 4) (k := 8) (by omega) (by omega) (by omega)
      rw [h0] at con
      (repeat (first | refine SW.seq ?_ | refine SW.block ?_ | refine SW.g1 [0, 1, 2, 3, 4, 5, 6, 8, 10, 31, 32, 33, 37] mixed (And.intro (whyR_2) (spl22)) con ?_ | refine SW.skip ?_ | refine SW.exit ?_ | refine SW.ret ?_ | refine SW.condT rfl ?_ | refine SW.condF rfl ?_))
      exact End.mk (hp0 a ca m cm) (h3 := hsub _) (h4 := ⟨by rw [hw]; rw [if_neg (by simpa using z1)]; rw [if_neg (by simpa using z2)]; rw [if_pos (by simpa using h0)]; rfl, rfl⟩) (h6 := hp0_ok a ca m cm (by omega))
  | 3, _, w1, w2, w3, _, _ =>
    have z1 := w1 (by omega)
    have z2 := w2 (by omega)
    have z3 := w3 (by omega)
    rcases (Bool.eq_false_or_eq_true ((bits .and .u8 (c.roles : Int) 1 == 0))).symm with h0 | h0
    · have con := why4_at c (b := 5) (k := 8) (by omega)
      rw [h0] at con
      (repeat (first | refine SW.seq ?_ | refine SW.block ?_ | refine SW.g1 [0, 1, 2, 3, 4, 5, 6, 8, 10, 31, 32, 33, 37] mixed (And.intro (whyR_3) (spl22)) con ?_ | refine SW.skip ?_ | refine SW.exit ?_ | refine SW.ret ?_ | refine SW.condT rfl ?_ | refine SW.condF rfl ?_))
      refine ⟨⟨4, by omega, fun _ => z1, fun _ => z2, fun _ => z3, fun _ => h0, fun h => absurd h (by omega)⟩, id, by dsimp only; omega, ?_⟩
      exact Weak.same (by simp) (by simp [EnvW, List.lookup, SV.ren, SV.rens_id, SV.ok, hR]) (hH 7 (by omega)) (fun x hx => hdrop x _ hx)
    · have con := why4_at c (b := 5) (k := 8) (by omega)
      rw [h0] at con
      (repeat (first | refine SW.seq ?_ | refine SW.block ?_ | refine SW.g1 [0, 1, 2, 3, 4, 5, 6, 8, 10, 31, 32, 33, 37] mixed (And.intro (whyR_3) (spl22)) con ?_ | refine SW.skip ?_ | refine SW.exit ?_ | refine SW.ret ?_ | refine SW.condT rfl ?_ | refine SW.condF rfl ?_))
      exact End.mk (hp0 a ca m cm) (h3 := hsub _) (h4 := ⟨by rw [hw]; rw [if_neg (by simpa using z1)]; rw [if_neg (by simpa using z2)]; rw [if_neg (by simpa using z3)]; rw [if_pos (by simpa using h0)]; rfl, rfl⟩) (h6 := hp0_ok a ca m cm (by omega))
  | 4, _, w1, w2, w3, w4, _ =>
    have z1 := w1 (by omega)
    have z2 := w2 (by omega)
    have z3 := w3 (by omega)
    have z4 := w4 (by omega)
    rcases (Bool.eq_false_or_eq_true (narrowV o c)).symm with h0 | h0
    · have con := why5_at c o (b := 5) (b2 := 4) (k := 8) (by omega) (by omega) (by omega)
      rw [h0] at con
      (repeat (first | refine SW.seq ?_ | refine SW.block ?_ | refine SW.g1 [0, 1, 2, 3, 4, 5, 6, 8, 10, 31, 32, 33, 37] mixed (And.intro (whyR_4) (spl22)) con ?_ | refine SW.skip ?_ | refine SW.exit ?_ | refine SW.ret ?_ | refine SW.condT rfl ?_ | refine SW.condF rfl ?_))
      refine ⟨⟨5, by omega, fun _ => z1, fun _ => z2, fun _ => z3, fun _ => z4, fun _ => h0⟩, id, by dsimp only; omega, ?_⟩
      exact Weak.same (by simp) (by simp [EnvW, List.lookup, SV.ren, SV.rens_id, SV.ok, hR]) (hH 7 (by omega)) (fun x hx => hdrop x _ hx)
    · have con := why5_at c o (b := 5) (b2 := 4) (k := 8) (by omega) (by omega) (by omega)
      rw [h0] at con
      (repeat (first | refine SW.seq ?_ | refine SW.block ?_ | refine SW.g1 [0, 1, 2, 3, 4, 5, 6, 8, 10, 31, 32, 33, 37] mixed (And.intro (whyR_4) (spl22)) con ?_ | refine SW.skip ?_ | refine SW.exit ?_ | refine SW.ret ?_ | refine SW.condT rfl ?_ | refine SW.condF rfl ?_))
      exact End.mk (hp0 a ca m cm) (h3 := hsub _) (h4 := ⟨by rw [hw]; rw [if_neg (by simpa using z1)]; rw [if_neg (by simpa using z2)]; rw [if_neg (by simpa using z3)]; rw [if_neg (by simpa using z4)]; rw [if_pos (by simpa using h0)]; rfl, rfl⟩) (h6 := hp0_ok a ca m cm (by omega))
  | 5, _, w1, w2, w3, w4, w5 =>
    have z1 := w1 (by omega)
    have z2 := w2 (by omega)
    have z3 := w3 (by omega)
    have z4 := w4 (by omega)
    have z5 := w5 (by omega)
    (repeat (first | refine SW.seq ?_ | refine SW.block ?_ | refine SW.g0 [0, 1, 2, 3, 4, 5, 6, 8, 10, 31, 32, 33, 37] mixed bq_tt ?_ | refine SW.skip ?_ | refine SW.exit ?_ | refine SW.ret ?_ | refine SW.condT rfl ?_ | refine SW.condF rfl ?_))
    exact End.mk (hp0 a ca m cm) (h3 := hsub7) (h4 := ⟨by rw [hw]; rw [if_neg (by simpa using z1)]; rw [if_neg (by rw [z2]; simp)]; rw [if_neg (by simpa using z3)]; rw [if_neg (by simpa using z4)]; rw [if_neg (by simpa using z5)]; rfl, rfl⟩) (h6 := hp0_ok a ca m cm (by omega))
end
end Go.Proofs.YtlgfknfdfnaedaaGreat
namespace Go.Proofs.YtlgfknfdfnaedaaGreat
open Go.Sl Go.Proofs
theorem hp0_ren (T : Tr) (k : Nat) : Hp.ren (atN [T.bx, T.ma, T.mm] k) (hp0 T.at_ T.ca T.made T.cm) = T.hp := by
  simp only [Hp.ren, hp0, List.map_cons, List.map_nil, Ob.ren, SV.rens, SV.ren, cmap_ren, omap_ren, Tr.hp]
  rfl
theorem Tr.nd3 {T : Tr} (h : T.sep) : ([T.bx, T.ma, T.mm] : List Nat).Nodup := Tr.nd h
theorem hp0_ne (a : MM Dt Cr) (ca : Nat) (m : MM Dt OpD) (cm : Nat) : ∀ i, i < 3 → lk (hp0 a ca m cm) i ≠ none := fun i hi => by
  rcases (show i = 0 ∨ i = 1 ∨ i = 2 by omega) with rfl | rfl | rfl <;> simp [lk_cons]
theorem why_at {T : Tr} (hs : T.sep) (o : OpD) (k : Nat) : SCd Tryz.prog tree_Tree_Why.f [.ptr T.bx 0, .agg o.cells] T.hp k 4 (i64 (T.why o)) T.hp := by
  have h := SB.atL [T.bx, T.ma, T.mm] (why_sb T.at_ T.ca T.made T.cm o) (Tr.nd3 hs) (hp0_ne _ _ _ _) k
  rw [hp0_ren] at h
  simp only [SV.rens, SV.ren, OpD.cells_ren] at h
  exact h
section
attribute [local irreducible] SW RW SCd SC CallP Pruned
theorem get_sb (a : MM Dt Cr) (ca : Nat) (m : MM Dt OpD) (cm : Nat) (d : Dt) : SB Tryz.prog tree_Tree_Get.f [.ptr 0 0, .agg d.cells] (hp0 a ca m cm) 3 3 (fun r F' => r = .tup [.agg ((MM.get a d).getD Cr.zero).cells, i64 (if MM.has a d then 0 else 7)] ∧ F' = hp0 a ca m cm) := by
  refine tree_Tree_Get.enter (by simp [SV.oks, SV.ok]) (hp0_ok a ca m cm (Nat.le_refl 3)) (by simp) ?_
  dsimp only [tree_Tree_Get.s, Co.M, Co.G, Co.J, Co.H, Co.N, Co.F, Co.C, Co.Z, Co.B, Co.b8, Co.b32, Co.b64, Co.i6, Co.z8, Co.z29]
  rcases hh : MM.has a d with _ | _
  · (repeat (first | refine SW.seq ?_ | refine SW.block ?_ | (refine SW.regL [0, 1, 3, 4, 5, 6, 7, 9, 21] mixed ?_; (repeat (first | refine RW.ro (hh) (h := ?_) | refine RW.skip (h := ?_) | refine RW.op (hh) (h := ?_) | refine RW.opN (hh) (h := ?_) | refine RW.skip0 (h := ?_) | (refine RW.callC (h := ?_); (first | refine CallP.mk (hh) (hc := none0_at a ca m cm (by omega)) (h := ?_))))); refine RW.nil ⟨by kernel_rfl, Pruned.mk (h := ?_)⟩) | refine SW.skip ?_ | refine SW.exit ?_ | refine SW.ret ?_ | refine SW.condT rfl ?_ | refine SW.condF rfl ?_))
    have e : MM.get a d = none := by simpa [MM.has] using hh
    rw [e]
    refine End.mk (hp0 a ca m cm) (h4 := ⟨rfl, rfl⟩) (h6 := hp0_ok a ca m cm (by omega))
  · (repeat (first | refine SW.seq ?_ | refine SW.block ?_ | (refine SW.regL [0, 1, 3, 4, 5, 6, 7, 9, 21] mixed ?_; (repeat (first | refine RW.ro (hh) (h := ?_) | refine RW.skip (h := ?_) | refine RW.op (hh) (h := ?_) | refine RW.opN (hh) (h := ?_) | refine RW.skip0 (h := ?_) | (refine RW.callC (h := ?_); (first | refine CallP.mk (hh) (hc := none0_at a ca m cm (by omega)) (h := ?_))))); refine RW.nil ⟨by kernel_rfl, Pruned.mk (h := ?_)⟩) | refine SW.skip ?_ | refine SW.exit ?_ | refine SW.ret ?_ | refine SW.condT rfl ?_ | refine SW.condF rfl ?_))
    refine End.mk (hp0 a ca m cm) (h4 := ⟨rfl, rfl⟩) (h6 := hp0_ok a ca m cm (by omega))
theorem get_at {T : Tr} (hs : T.sep) (d : Dt) (k : Nat) : SCd Tryz.prog tree_Tree_Get.f [.ptr T.bx 0, .agg d.cells] T.hp k 3 (.tup [.agg ((MM.get T.at_ d).getD Cr.zero).cells, i64 (if MM.has T.at_ d then 0 else 7)]) T.hp := by
  have h := SB.atL [T.bx, T.ma, T.mm] (get_sb T.at_ T.ca T.made T.cm d) (Tr.nd3 hs) (hp0_ne _ _ _ _) k
  rw [hp0_ren] at h
  simp only [SV.rens, SV.ren, Dt.cells_ren, Cr.cells_ren] at h
  exact h
end
@[simp] theorem splz_1 (d : Dt) : (spl Cr.zero.cells 0 d.cells).length = 11 := rfl
@[simp] theorem splz_2 (d e : Dt) : (spl (spl Cr.zero.cells 0 d.cells) 2 e.cells).length = 11 := rfl
@[simp] theorem splz_3 (d e f : Dt) : (spl (spl (spl Cr.zero.cells 0 d.cells) 2 e.cells) 4 f.cells).length = 11 := rfl
def rootC (o : OpD) : Cr := ⟨o.dot, o.dot, ⟨0, 0⟩, o.who, 7, 8, 1099511627776, 0⟩
def grantC (T : Tr) (o : OpD) : Cr := ⟨o.dot, o.cart, o.cred, o.to, o.roles, o.depth, o.cap, IntKind.i64.wrap ((T.by o).level + 1)⟩
def Tr.refuses (T : Tr) (o : OpD) : Bool := (decide (o.kind = 0) && !decide (o.cart = o.dot)) || (decide (o.kind = 1) && decide (T.why o ≠ 0))
def Tr.made1 (T : Tr) (o : OpD) : Cr := if o.kind = 1 then grantC T o else rootC o
def Tr.put (T : Tr) (o : OpD) : Tr × Bool := if T.refuses o then (T, false) else
  ({ T with at_ := MM.put T.at_ T.ca o.dot (T.made1 o), ca := MM.clk T.at_ T.ca o.dot, made := MM.put T.made T.cm o.dot o, cm := MM.clk T.made T.cm o.dot }, true)
theorem rootC_bld (d : Dt) (who : Nat) : spl (spl (spl (spl (spl (spl Cr.zero.cells 0 d.cells) 2 d.cells) 6 [.d (.int .u32 (who : Int))]) 7 [.d (.int .u8 7)]) 8 [.d (.int .u8 8)]) 9 [.d (.int .u64 1099511627776)] = (⟨d, d, ⟨0, 0⟩, who, 7, 8, 1099511627776, 0⟩ : Cr).cells := rfl
theorem grantC_bld (d e f : Dt) (a b c g : Nat) (l : Int) : spl (spl (spl (spl (spl (spl (spl (spl Cr.zero.cells 0 d.cells) 2 e.cells) 4 f.cells) 6 [.d (.int .u32 (a : Int))]) 7 [.d (.int .u8 (b : Int))]) 8 [.d (.int .u8 (c : Int))]) 9 [.d (.int .u64 (g : Int))]) 10 [.d (.int .i64 l)] = (⟨d, e, f, a, b, c, g, l⟩ : Cr).cells := rfl
section
attribute [local irreducible] SW RW SCd SC CallP Pruned Tr.why
set_option maxHeartbeats 4000000 in
theorem put_sb (a : MM Dt Cr) (ca : Nat) (m : MM Dt OpD) (cm : Nat) (hw1 : MM.wf a ca) (hw2 : MM.wf m cm) (o : OpD) :
    SB Tryz.prog tree_Tree_put.f [.ptr 0 0, .agg o.cells] (hp0 a ca m cm) 3 2 (fun r F' => r = bl ((tr0 a ca m cm).put o).2 ∧ F' = hp0 ((tr0 a ca m cm).put o).1.at_ ((tr0 a ca m cm).put o).1.ca ((tr0 a ca m cm).put o).1.made ((tr0 a ca m cm).put o).1.cm) := by
  refine tree_Tree_put.enter (by simp [SV.oks, SV.ok]) (hp0_ok a ca m cm (Nat.le_refl 3)) (by simp) ?_
  dsimp only [tree_Tree_put.s, Co.M, Co.G, Co.J, Co.H, Co.N, Co.F, Co.C, Co.Z, Co.B, Co.b8, Co.b32, Co.b64, Co.i6, Co.z8, Co.z29]
  obtain ⟨W, hW⟩ : ∃ W, (tr0 a ca m cm).why o = W := ⟨_, rfl⟩
  have cw : SCd Tryz.prog tree_Tree_Why.f [.ptr 0 0, .agg o.cells] (hp0 a ca m cm) 5 4 (i64 W) (hp0 a ca m cm) := by
    rw [← hW]; exact why_at (tr0_sep a ca m cm) o 5
  refine SW.seq ?_
  (refine SW.regL [0, 1, 3, 4, 5, 13, 35] mixed ?_; (repeat (first | refine RW.ro bq_tt (h := ?_) | refine RW.skip (h := ?_) | refine RW.op bq_tt (h := ?_) | refine RW.opN bq_tt (h := ?_) | refine RW.skip0 (h := ?_) | (refine RW.callC (h := ?_); (first | refine CallP.mk bq_tt (hc := none0_at a ca m cm (by omega)) (h := ?_))))); refine RW.nil ⟨by kernel_rfl, Pruned.mk (h := ?_)⟩)
  refine SW.seq ?_
  (refine SW.regL [0, 1, 3, 4, 5, 13, 35] mixed ?_; (repeat (first | refine RW.ro (rootC_bld) (h := ?_) | refine RW.skip (h := ?_) | refine RW.op (rootC_bld) (h := ?_) | refine RW.opN (rootC_bld) (h := ?_) | refine RW.skip0 (h := ?_) | (refine RW.callC (h := ?_); (first | refine CallP.mk (rootC_bld) (hc := none0_at a ca m cm (by omega)) (h := ?_))))); refine RW.nil ⟨by kernel_rfl, Pruned.mk (h := ?_)⟩)
  refine SW.seq ?_
  have ok9 : ∀ (a' : MM Dt Cr) ca' (m' : MM Dt OpD) cm', Hp.ok (fun x => decide (x < 3 + 2)) (hp0 a' ca' m' cm') = true := fun a' ca' m' cm' => hp0_ok a' ca' m' cm' (by omega)
  have hR : ∀ v, (tr0 a ca m cm).refuses o = v → ((decide (o.kind = 0) && !decide (o.cart = o.dot)) || (decide (o.kind = 1) && decide (W ≠ 0))) = v := fun v h => by rw [← h]; unfold Tr.refuses; rw [hW]
  have k0 : (((o.kind : Nat) : Int) == 0) = decide (o.kind = 0) := by rw [Bool.eq_iff_iff]; simp only [beq_iff_eq, decide_eq_true_eq]; omega
  have k1 : (((o.kind : Nat) : Int) == 1) = decide (o.kind = 1) := by rw [Bool.eq_iff_iff]; simp only [beq_iff_eq, decide_eq_true_eq]; omega
  have kW : (((W : Nat) : Int) != 0) = decide (W ≠ 0) := by rw [Bool.eq_iff_iff]; simp only [bne_iff_ne, decide_eq_true_eq]; omega
  have fe1 := mstor_E (vs := cv) (kc := Dt.cells) hw1 o.dot Cr.zero
  have fe2 := mstor_E (vs := ov) (kc := Dt.cells) hw2 o.dot OpD.zero
  have gb := fun l => grantC_bld o.dot o.cart o.cred o.to o.roles o.depth o.cap l
  have ee : (MM.get a o.cred).getD Cr.zero = (tr0 a ca m cm).by o := rfl
  -- it is refused
  have fin0 : ∀ env, (tr0 a ca m cm).refuses o = true → (env : List (Nat × SV)).lookup 4 = some (bl false) → ∀ X : Hp, HSub (hp0 a ca m cm) X → ∀ K, 5 ≤ K → Sl.Fin 3 2 tree_Tree_put.rv (fun r F' => r = bl ((tr0 a ca m cm).put o).2 ∧ F' = hp0 ((tr0 a ca m cm).put o).1.at_ ((tr0 a ca m cm).put o).1.ca ((tr0 a ca m cm).put o).1.made ((tr0 a ca m cm).put o).1.cm) ⟨env, X, K⟩ := fun env hr he X hX K hK => by
    have e : (tr0 a ca m cm).put o = (tr0 a ca m cm, false) := by unfold Tr.put; rw [if_pos hr]
    rw [e]
    exact End.mk (ss := [bl false]) (ob := True) (hp0 a ca m cm) (h1 := by simp [tree_Tree_put.rv, rvV, he]) (h2 := trivial) (h3 := hX) (h4 := ⟨rfl, rfl⟩) (h5 := rfl) (h6 := ok9 _ _ _ _) (h7 := by simpa using hK)
  rcases (Bool.eq_false_or_eq_true (decide (o.kind = 0))).symm with d0 | d0
  · rcases (Bool.eq_false_or_eq_true (decide (o.kind = 1))).symm with d1 | d1
    · skip
      have hr : (tr0 a ca m cm).refuses o = false := by unfold Tr.refuses; rw [hW, d0, d1]; rfl
      have e : (tr0 a ca m cm).put o = (({ tr0 a ca m cm with at_ := MM.put a ca o.dot (rootC o), ca := MM.clk a ca o.dot, made := MM.put m cm o.dot o, cm := MM.clk m cm o.dot } : Tr), true) := by
        unfold Tr.put Tr.made1; rw [if_neg (by rw [hr]; simp), if_neg (by simpa using d1)]
      rw [e]
      (repeat (first | refine SW.seq ?_ | refine SW.block ?_ | refine SW.g1 [0, 1, 3, 4, 5, 13, 35] mixed (And.intro (k0) (And.intro (k1) (And.intro (kW) (And.intro (d0) (And.intro (d1) (And.intro (fe1) (fe2))))))) cw ?_ | refine SW.skip ?_ | refine SW.exit ?_ | refine SW.ret ?_ | refine SW.condT rfl ?_ | refine SW.condF rfl ?_))
      exact End.mk (hp0 _ _ _ _) (h4 := ⟨rfl, rfl⟩) (h6 := ok9 _ _ _ _)
    · rcases (Bool.eq_false_or_eq_true (decide (W ≠ 0))).symm with dW | dW
      · skip
        have hr : (tr0 a ca m cm).refuses o = false := by unfold Tr.refuses; rw [hW, d0, d1, dW]; rfl
        have e : (tr0 a ca m cm).put o = (({ tr0 a ca m cm with at_ := MM.put a ca o.dot (grantC (tr0 a ca m cm) o), ca := MM.clk a ca o.dot, made := MM.put m cm o.dot o, cm := MM.clk m cm o.dot } : Tr), true) := by
          unfold Tr.put Tr.made1; rw [if_neg (by rw [hr]; simp), if_pos (by simpa using d1)]
        rw [e]
        (repeat (first | refine SW.seq ?_ | refine SW.block ?_ | refine SW.g1 [0, 1, 3, 4, 5, 13, 35] mixed (And.intro (k0) (And.intro (k1) (And.intro (kW) (And.intro (d0) (And.intro (d1) (And.intro (dW) (And.intro (gb) (And.intro (ee) (And.intro (fe1) (fe2)))))))))) cw ?_ | refine SW.skip ?_ | refine SW.exit ?_ | refine SW.ret ?_ | refine SW.condT rfl ?_ | refine SW.condF rfl ?_))
        exact End.mk (hp0 _ _ _ _) (h4 := ⟨rfl, rfl⟩) (h6 := ok9 _ _ _ _)
      · have hr : (tr0 a ca m cm).refuses o = true := by unfold Tr.refuses; rw [hW, d0, d1, dW]; rfl
        (repeat (first | refine SW.seq ?_ | refine SW.block ?_ | refine SW.g1 [0, 1, 3, 4, 5, 13, 35] mixed (And.intro (k0) (And.intro (k1) (And.intro (kW) (And.intro (d0) (And.intro (d1) (dW)))))) cw ?_ | refine SW.skip ?_ | refine SW.exit ?_ | refine SW.ret ?_ | refine SW.condT rfl ?_ | refine SW.condF rfl ?_))
        exact fin0 _ hr rfl _ (by repeat (first | exact HSub.nil _ | refine HSub.cons (by rfl) ?_)) _ (by simp)
  · rcases (Bool.eq_false_or_eq_true (decide (o.cart = o.dot))).symm with dc | dc
    · have hr : (tr0 a ca m cm).refuses o = true := by unfold Tr.refuses; rw [d0, dc]; rfl
      (repeat (first | refine SW.seq ?_ | refine SW.block ?_ | refine SW.g1 [0, 1, 3, 4, 5, 13, 35] mixed (And.intro (k0) (And.intro (k1) (And.intro (kW) (And.intro (d0) (dc))))) cw ?_ | refine SW.skip ?_ | refine SW.exit ?_ | refine SW.ret ?_ | refine SW.condT rfl ?_ | refine SW.condF rfl ?_))
      exact fin0 _ hr rfl _ (by repeat (first | exact HSub.nil _ | refine HSub.cons (by rfl) ?_)) _ (by simp)
    · have d1 : decide (o.kind = 1) = false := by simp at d0 ⊢; omega
      have hr : (tr0 a ca m cm).refuses o = false := by unfold Tr.refuses; rw [d0, d1, dc]; rfl
      have e : (tr0 a ca m cm).put o = (({ tr0 a ca m cm with at_ := MM.put a ca o.dot (rootC o), ca := MM.clk a ca o.dot, made := MM.put m cm o.dot o, cm := MM.clk m cm o.dot } : Tr), true) := by
        unfold Tr.put Tr.made1; rw [if_neg (by rw [hr]; simp), if_neg (by simpa using d1)]
      rw [e]
      (repeat (first | refine SW.seq ?_ | refine SW.block ?_ | refine SW.g1 [0, 1, 3, 4, 5, 13, 35] mixed (And.intro (k0) (And.intro (k1) (And.intro (kW) (And.intro (d0) (And.intro (d1) (And.intro (dc) (And.intro (fe1) (fe2)))))))) cw ?_ | refine SW.skip ?_ | refine SW.exit ?_ | refine SW.ret ?_ | refine SW.condT rfl ?_ | refine SW.condF rfl ?_))
      exact End.mk (hp0 _ _ _ _) (h4 := ⟨rfl, rfl⟩) (h6 := ok9 _ _ _ _)
end
end Go.Proofs.YtlgfknfdfnaedaaGreat
namespace Go.Proofs.YtlgfknfdfnaedaaGreat
open Go.Sl Go.Proofs
theorem Tr.put_eq (T : Tr) (o : OpD) : T.put o = ({ T with at_ := ((tr0 T.at_ T.ca T.made T.cm).put o).1.at_, ca := ((tr0 T.at_ T.ca T.made T.cm).put o).1.ca, made := ((tr0 T.at_ T.ca T.made T.cm).put o).1.made, cm := ((tr0 T.at_ T.ca T.made T.cm).put o).1.cm }, ((tr0 T.at_ T.ca T.made T.cm).put o).2) := by
  have e : T.refuses o = (tr0 T.at_ T.ca T.made T.cm).refuses o := rfl
  have e2 : T.made1 o = (tr0 T.at_ T.ca T.made T.cm).made1 o := rfl
  unfold Tr.put
  rw [e]
  by_cases h : (tr0 T.at_ T.ca T.made T.cm).refuses o = true
  · rw [if_pos h, if_pos h]
  · rw [if_neg h, if_neg h, e2]
theorem Tr.put_nm (T : Tr) (o : OpD) : (T.put o).1.bx = T.bx ∧ (T.put o).1.ma = T.ma ∧ (T.put o).1.mm = T.mm := by rw [Tr.put_eq]; exact ⟨rfl, rfl, rfl⟩
theorem put_at {T : Tr} (hs : T.sep) (hw1 : MM.wf T.at_ T.ca) (hw2 : MM.wf T.made T.cm) (o : OpD) (k : Nat) : SCd Tryz.prog tree_Tree_put.f [.ptr T.bx 0, .agg o.cells] T.hp k 2 (bl (T.put o).2) (T.put o).1.hp := by
  have h := SB.atL [T.bx, T.ma, T.mm] (put_sb T.at_ T.ca T.made T.cm hw1 hw2 o) (Tr.nd3 hs) (hp0_ne _ _ _ _) k
  rw [hp0_ren] at h
  have h2 := hp0_ren (T.put o).1 k
  obtain ⟨n1, n2, n3⟩ := T.put_nm o
  rw [n1, n2, n3] at h2
  have e := T.put_eq o
  simp only [SV.rens, SV.ren, OpD.cells_ren] at h
  rw [← h2]
  rw [e]
  exact h
theorem Tr.put_wf {T : Tr} (hw1 : MM.wf T.at_ T.ca) (hw2 : MM.wf T.made T.cm) (o : OpD) : MM.wf (T.put o).1.at_ (T.put o).1.ca ∧ MM.wf (T.put o).1.made (T.put o).1.cm := by
  unfold Tr.put
  split
  · exact ⟨hw1, hw2⟩
  · exact ⟨MM.wf_put hw1 _ _, MM.wf_put hw2 _ _⟩
structure TrS (b a m : Nat) where
  T : Tr
  e1 : T.bx = b
  e2 : T.ma = a
  e3 : T.mm = m
def TrS.step {b a m : Nat} (s : TrS b a m) (o : OpD) : TrS b a m × Bool := (⟨(s.T.put o).1, (s.T.put_nm o).1.trans s.e1, (s.T.put_nm o).2.1.trans s.e2, (s.T.put_nm o).2.2.trans s.e3⟩, (s.T.put o).2)
theorem put_del {b a m : Nat} (h1 : a ≠ b) (h2 : m ≠ b) (h3 : a ≠ m) (B : Nat) :
    DelOk Tryz.prog 88 [.ptr b 0] [] (fun s : TrS b a m => s.T.hp) TrS.step 2 (fun _ s => MM.wf s.T.at_ s.T.ca ∧ MM.wf s.T.made s.T.cm) (fun _ => True) B where
  nd s := Tr.nd ⟨by rw [s.e1, s.e2]; exact h1, by rw [s.e1, s.e3]; exact h2, by rw [s.e2, s.e3]; exact h3⟩
  nm s x := by
    obtain ⟨n1, n2, n3⟩ := s.T.put_nm x
    show ((s.T.put x).1.hp).map (·.1) = s.T.hp.map (·.1)
    rw [Tr.names, Tr.names, n1, n2, n3]
  nx i s x hI _ _ := Tr.put_wf hI.1 hI.2 x
  ok s x q h := by
    obtain ⟨n1, n2, n3⟩ := s.T.put_nm x
    simp only [Hp.ok, List.all_eq_true, Bool.and_eq_true] at h
    have hm : ∀ n, n ∈ s.T.hp.map (·.1) → q n = true := fun n hn => by
      obtain ⟨y, hy, rfl⟩ := List.mem_map.1 hn
      exact (h y hy).1
    rw [Tr.names] at hm
    exact Tr.okq (by rw [show (s.step x).1.T.bx = s.T.bx from n1]; exact hm _ (by simp)) (by rw [show (s.step x).1.T.ma = s.T.ma from n2]; exact hm _ (by simp)) (by rw [show (s.step x).1.T.mm = s.T.mm from n3]; exact hm _ (by simp))
  call i s x k hI _ _ _ := by
    have := put_at (T := s.T) ⟨by rw [s.e1, s.e2]; exact h1, by rw [s.e1, s.e3]; exact h2, by rw [s.e2, s.e3]; exact h3⟩ hI.1 hI.2 x k
    rw [s.e1] at this
    exact this
  a1 s q h := by
    simp only [Hp.ok, List.all_eq_true, Bool.and_eq_true] at h
    have := (h (s.T.bx, _) (lk_mem s.T.lkb)).1
    rw [s.e1] at this
    exact ⟨by simp only [SV.oks, SV.ok, Bool.and_true]; exact this, rfl⟩
structure On where
  L : MM Dt Int
  c : Nat
def On.hp (b m : Nat) (s : On) : Hp := [(b, .box 78 [.mp m]), (m, .map (mapE Dt.cells iv s.L) s.c)]
def On.cnt (s : On) (d : Dt) : Int := (MM.get s.L d).getD 0
def On.step (s : On) (o : OpD) : On × Bool := (⟨MM.put s.L s.c o.dot (s.cnt o.dot + 1), MM.clk s.L s.c o.dot⟩, decide (s.cnt o.dot + 1 > 1) || decide (o.kind > 1))
section
attribute [local irreducible] SW RW SCd SC CallP Pruned
set_option maxHeartbeats 1000000 in
theorem once_sb (s : On) (hw : MM.wf s.L s.c) (o : OpD) (hb : 0 ≤ s.cnt o.dot ∧ s.cnt o.dot < 1000000000) : SB Tryz.prog tree_New_1.f [.agg o.cells, .ptr 0 0] [(0, .box 78 [.mp 1]), (1, .map (mapE Dt.cells iv s.L) s.c)] 2 1
    (fun r F' => r = bl (s.step o).2 ∧ F' = [(0, .box 78 [.mp 1]), (1, .map (mapE Dt.cells iv (s.step o).1.L) (s.step o).1.c)]) := by
  refine tree_New_1.enter (by simp [SV.oks, SV.ok]) (by simp [Hp.ok, Ob.ok, SV.oks, SV.ok, dmap_ok]) (by simp) ?_
  dsimp only [tree_New_1.s, Co.M, Co.G, Co.J, Co.H, Co.N, Co.F, Co.C, Co.Z, Co.B, Co.b8, Co.b32, Co.b64, Co.i6, Co.z8, Co.z29]
  have fe := mstor_E (vs := iv) (kc := Dt.cells) hw o.dot 0
  have e0 : (MM.get s.L o.dot).getD 0 = s.cnt o.dot := rfl
  have e1 : IntKind.i64.wrap (s.cnt o.dot + 1) = s.cnt o.dot + 1 := wrap_i64 _ (by omega)
  have e2 : (MM.get (MM.put s.L s.c o.dot (s.cnt o.dot + 1)) o.dot).getD 0 = s.cnt o.dot + 1 := by rw [MM.get_put, if_pos rfl]; rfl
  have e3 : decide ((o.kind : Int) > 1) = decide (o.kind > 1) := by rw [Bool.eq_iff_iff]; simp only [decide_eq_true_eq]; omega
  refine SW.seq ?_
  refine SW.g0 [0, 1, 2, 3] mixed bq_tt ?_
  refine SW.cut (stM := ⟨[(2, .ptr 2 0), (1, .ptr 0 0)], [(2, .box 31 o.cells), (0, .box 78 [.mp 1]), (1, .map (mapE Dt.cells iv (s.step o).1.L) (s.step o).1.c)], 3⟩) id (SW.tree mixed ?_) ?_
  · have e3' : (MM.get (MM.ent s.L s.c o.dot 0) o.dot).getD 0 = s.cnt o.dot := by
      unfold MM.ent On.cnt
      cases hh : MM.idx s.L o.dot with
      | none =>
        have h1 := MM.idx_none.1 hh
        have h2 : s.L.find? (fun x => decide (o.dot = x.2.1)) = none := by
          unfold MM.get at h1
          simpa using h1
        rw [h1]
        simp [MM.get, List.find?_append, h2]
      | some i => rfl
    repeat' (first
      | refine SWt.s1 _ (h1 := ?_)
      | refine SWt.s2 _ _ (h1 := ?_) (h2 := ?_)
      | refine SWt.s3 _ _ _ (h1 := ?_) (h2 := ?_) (h3 := ?_)
      | refine Oa.mk (And.intro fe (And.intro e0 (And.intro e1 e3'))) (h := ?_))
    all_goals (refine SWt.done (by kernel_rfl) (Weak.same (by simp) (by simp [EnvW, List.lookup, SV.ren, SV.ok]) (by simp [Hp.ok, Ob.ok, SV.oks, SV.ok, dmap_ok]) (fun x hx => ?_)))
    all_goals (simp only [List.mem_cons, List.not_mem_nil, or_false] at hx; rcases hx with rfl | rfl | rfl <;> rfl)
  have hE : ∀ b, (s.step o).2 = b → ∀ env : List (Nat × SV), env.lookup 3 = some (bl b) → Sl.Fin 2 1 tree_New_1.rv (fun r F' => r = bl (s.step o).2 ∧ F' = [(0, .box 78 [.mp 1]), (1, .map (mapE Dt.cells iv (s.step o).1.L) (s.step o).1.c)]) ⟨env, [(2, .box 31 o.cells), (0, .box 78 [.mp 1]), (1, .map (mapE Dt.cells iv (s.step o).1.L) (s.step o).1.c)], 3⟩ := fun b hb env he =>
    End.mk (ss := [bl b]) (ob := True) [(0, .box 78 [.mp 1]), (1, .map (mapE Dt.cells iv (s.step o).1.L) (s.step o).1.c)] (h1 := by simp [tree_New_1.rv, rvV, he]) (h2 := trivial) (h3 := by repeat (first | exact HSub.nil _ | refine HSub.cons (by rfl) ?_)) (h4 := ⟨by rw [hb]; rfl, rfl⟩) (h5 := rfl) (h6 := by simp [Hp.ok, Ob.ok, SV.oks, SV.ok, dmap_ok])
  have e5 : (MM.get (s.step o).1.L o.dot).getD 0 = s.cnt o.dot + 1 := e2
  rcases (Bool.eq_false_or_eq_true (decide (s.cnt o.dot + 1 > 1))).symm with h1 | h1
  · have er : (s.step o).2 = decide (o.kind > 1) := by unfold On.step; rw [h1]; rfl
    (repeat (first | refine SW.seq ?_ | refine SW.block ?_ | refine SW.g0 [0, 1, 2, 3] mixed (And.intro (e5) (And.intro (e3) (h1))) ?_ | refine SW.skip ?_ | refine SW.exit ?_ | refine SW.ret ?_ | refine SW.condT rfl ?_ | refine SW.condF rfl ?_))
    exact hE _ er _ rfl
  · have er : (s.step o).2 = true := by unfold On.step; rw [h1]; rfl
    (repeat (first | refine SW.seq ?_ | refine SW.block ?_ | refine SW.g0 [0, 1, 2, 3] mixed (And.intro (e5) (And.intro (e3) (h1))) ?_ | refine SW.skip ?_ | refine SW.exit ?_ | refine SW.ret ?_ | refine SW.condT rfl ?_ | refine SW.condF rfl ?_))
    exact hE _ er _ rfl
end
theorem On.names (b m : Nat) (s : On) : (s.hp b m).map (·.1) = [b, m] := rfl
theorem once_at {b m : Nat} (h1 : m ≠ b) (s : On) (hw : MM.wf s.L s.c) (o : OpD) (hb : 0 ≤ s.cnt o.dot ∧ s.cnt o.dot < 1000000000) (k : Nat) : SCd Tryz.prog tree_New_1.f [.agg o.cells, .ptr b 0] (s.hp b m) k 1 (bl (s.step o).2) ((s.step o).1.hp b m) := by
  have h := SB.atL [b, m] (once_sb s hw o hb) (by simp; exact Ne.symm h1) (fun i hi => by
    rcases (show i = 0 ∨ i = 1 by simp at hi; omega) with rfl | rfl <;> simp [lk_cons]) k
  simp only [SV.rens, SV.ren, OpD.cells_ren, Hp.ren, List.map_cons, List.map_nil, Ob.ren, dmap_ren] at h
  exact h
theorem once_del {b m : Nat} (h1 : m ≠ b) :
    DelOk Tryz.prog 87 [] [.ptr b 0] (On.hp b m) On.step 1 (fun i s => MM.wf s.L s.c ∧ ∀ d, 0 ≤ s.cnt d ∧ s.cnt d ≤ (i : Int)) (fun _ => True) 1000000000 where
  nd s := by rw [On.names]; simp; exact Ne.symm h1
  nm s x := rfl
  nx i s x hI _ hi := by
    refine ⟨MM.wf_put hI.1 _ _, fun d => ?_⟩
    have hx := hI.2 x.dot
    show 0 ≤ (MM.get (MM.put s.L s.c x.dot (s.cnt x.dot + 1)) d).getD 0 ∧ (MM.get (MM.put s.L s.c x.dot (s.cnt x.dot + 1)) d).getD 0 ≤ ((i + 1 : Nat) : Int)
    rw [MM.get_put]
    split
    · simp only [Option.getD_some]; omega
    · have := hI.2 d
      unfold On.cnt at this
      omega
  ok s x q h := by
    simp only [Hp.ok, On.hp, List.all_cons, List.all_nil, Ob.ok, SV.oks, SV.ok, dmap_ok, Bool.and_true] at h ⊢
    exact h
  call i s x k hI _ hi _ := once_at h1 s hI.1 x (by have := hI.2 x.dot; omega) k
  a1 s q h := by
    simp only [Hp.ok, On.hp, List.all_cons, List.all_nil, Ob.ok, SV.oks, SV.ok, dmap_ok, Bool.and_true, Bool.and_eq_true] at h ⊢
    exact ⟨trivial, h.1.1⟩
end Go.Proofs.YtlgfknfdfnaedaaGreat
namespace Go.Proofs.YtlgfknfdfnaedaaGreat
open Go.Sl Go.Proofs
abbrev TS := TrS 2 0 1
def ts0 : TS := ⟨⟨2, 0, 1, [], 0, [], 0⟩, rfl, rfl, rfl⟩
def grow : Nat → TS → List OpD → TS
  | 0, s, W => s
  | f + 1, s, W => if (keepD TrS.step s W).1.length < W.length then grow f (keepD TrS.step s W).2 (keepD TrS.step s W).1 else (keepD TrS.step s W).2
theorem grow_fuel : ∀ (f g : Nat) (s : TS) (W : List OpD), W.length < f → W.length < g → grow f s W = grow g s W
  | 0, g, s, W, h, _ => by omega
  | f + 1, 0, s, W, _, h => by omega
  | f + 1, g + 1, s, W, h1, h2 => by
    simp only [grow]
    split
    · exact grow_fuel f g _ _ (by omega) (by omega)
    · rfl
theorem grow_more {s : TS} {W : List OpD} (h : (keepD TrS.step s W).1.length < W.length) : grow (W.length + 1) s W = grow ((keepD TrS.step s W).1.length + 1) (keepD TrS.step s W).2 (keepD TrS.step s W).1 := by
  rw [show grow (W.length + 1) s W = grow W.length (keepD TrS.step s W).2 (keepD TrS.step s W).1 by simp only [grow]; rw [if_pos h]]
  exact grow_fuel _ _ _ _ h (Nat.lt_succ_self _)
theorem grow_end {s : TS} {W : List OpD} (h : ¬ (keepD TrS.step s W).1.length < W.length) : grow (W.length + 1) s W = (keepD TrS.step s W).2 := by
  simp only [grow]; rw [if_neg h]
def firsts (l : List OpD) : List OpD := (keepD On.step ⟨[], 0⟩ l).1
def newTr (l : List OpD) : Tr := (grow ((firsts l).length + 1) ts0 (firsts l)).T
theorem TrS.sep (s : TrS 2 0 1) : s.T.sep := ⟨by rw [s.e1, s.e2]; decide, by rw [s.e1, s.e3]; decide, by rw [s.e2, s.e3]; decide⟩
theorem TrS.lt (s : TrS 2 0 1) {k : Nat} (h : 3 ≤ k) : s.T.lt k := ⟨by rw [s.e1]; omega, by rw [s.e2]; omega, by rw [s.e3]; omega⟩
def TrS.wf (s : TrS 2 0 1) : Prop := MM.wf s.T.at_ s.T.ca ∧ MM.wf s.T.made s.T.cm
theorem ts0_wf : ts0.wf := ⟨MM.wf_nil, MM.wf_nil⟩
theorem keep_wf : ∀ (W : List OpD) (s : TS), s.wf → (keepD TrS.step s W).2.wf
  | [], s, h => h
  | x :: W, s, h => keep_wf W _ (Tr.put_wf h.1 h.2 x)
theorem ts0_hp : ts0.T.hp = [(2, .box 120 [.mp 0, .mp 1]), (0, .map [] 0), (1, .map [] 0)] := rfl
section
attribute [local irreducible] SW RW SCd SC CallP Pruned Tr.hp
set_option maxHeartbeats 4000000 in
theorem new_sb (l : List OpD) (hl : l.length < 1000000000) : SB Tryz.prog tree_New.f [ops l] [] 0 7 (fun r F' => r = .ptr 2 0 ∧ F' = (newTr l).hp) := by
  refine tree_New.enter (by first | rfl | simp [SV.ok, SV.oks]) (by first | rfl | simp [Hp.ok, Ob.ok, SV.ok, SV.oks, Vec.cells_ok]) (by simp) ?_
  dsimp only [tree_New.s, Co.M, Co.G, Co.J, Co.H, Co.N, Co.F, Co.C, Co.Z, Co.B, Co.b8, Co.b32, Co.b64, Co.i6, Co.z8, Co.z29]
  have spl1 : ∀ (x y : SV), spl [x] 0 [y] = [y] := fun _ _ => rfl
  have splm : ∀ (x y a b : SV), spl (spl [x, y] 0 [a]) 1 [b] = [a, b] := fun _ _ _ _ => rfl
  refine SW.seq ?_
  refine SW.g0 [0, 2, 3, 4, 5, 6, 7, 17] mixed bq_tt ?_
  refine SW.seq ?_
  refine SW.g0 [0, 2, 3, 4, 5, 6, 7, 17] mixed (splm) ?_
  refine SW.seq ?_
  refine SW.g0 [0, 2, 3, 4, 5, 6, 7, 17] mixed (spl1) ?_
  have ho : (On.hp 4 3 ⟨[], 0⟩) = [(4, .box 78 [.mp 3]), (3, .map [] 0)] := rfl
  have h0 : Here (On.hp 4 3) 6 7 ⟨[], 0⟩ ⟨[], 0⟩ := ⟨rfl, by decide, by rw [ho]; rfl⟩
  have cD := deleteF_at (once_del (b := 4) (m := 3) (by omega)) l ⟨[], 0⟩ hl (Nat.le_of_lt hl) (fun _ _ => trivial) ⟨MM.wf_nil, fun d => by simp [On.cnt, MM.get]⟩ 6 7 (by omega) h0 (by decide)
  obtain ⟨s1, hs1⟩ : ∃ s1, (keepD On.step ⟨[], 0⟩ l).2 = s1 := ⟨_, rfl⟩
  have hf : (keepD On.step ⟨[], 0⟩ l).1 = firsts l := rfl
  rw [hs1, hf] at cD
  have cD : SCd Tryz.prog slices_DeleteFunc_Lapi_Op_api_Op.f [.gs 6 l.length, .fn (.func 87) [] [.ptr 4 0]] [(6, .arr 31 29 l.length (opc l)), (4, .box 78 [.mp 3]), (3, .map [] 0)] 7 (l.length * 1 + l.length * (1 + 1)) (.gs 6 (firsts l).length)
      [(6, .arr 31 29 (firsts l).length (opc (firsts l))), (4, .box 78 [.mp 3]), (3, .map (mapE Dt.cells iv s1.L) s1.c)] := cD
  refine SW.seq ?_
  refine SW.g2 [0, 2, 3, 4, 5, 6, 7, 17] mixed bq_tt (clone_at l hl 5) cD ?_
  obtain ⟨K, hK, hK7⟩ : ∃ K, 7 + (l.length * 1 + l.length * (1 + 1)) = K ∧ 7 ≤ K := ⟨_, rfl, by omega⟩
  rw [hK]
  have hlen : (firsts l).length ≤ l.length := keepD_len On.step l ⟨[], 0⟩
  refine SW.weak id (st1 := ⟨[(3, .ptr 2 0), (5, .gs 6 (firsts l).length)], (6, .arr 31 29 (firsts l).length (opc (firsts l))) :: ts0.T.hp, K⟩) (Weak.same (by simp) (by simp [EnvW, List.lookup, SV.ren, SV.ok]; omega) (ok_cons (by simp; omega) (SV.oks_d _) (Tr.okk (ts0.lt (by show 3 ≤ K; omega)))) (fun x hx => ?_)) ?_
  · rcases List.mem_cons.1 hx with rfl | hx
    · rfl
    · rw [ts0_hp] at hx
      simp only [List.mem_cons, List.not_mem_nil, or_false] at hx
      rcases hx with rfl | rfl | rfl <;> rfl
  refine SW.seq (SW.seq ?_)
  refine SW.g0 [0, 2, 3, 4, 5, 6, 7, 17] mixed bq_tt ?_
  refine SW.block ?_
  let Inv : Bool → List OpD → TS → Prop := fun b W s => W.length ≤ l.length ∧ s.wf ∧ (if b then grow (W.length + 1) s W else s).T = newTr l
  have hok : ∀ (W : List OpD) (s : TS) (k : Nat), 7 ≤ k → Hp.ok (fun n => decide (n < k)) ((6, .arr 31 29 W.length (opc W)) :: s.T.hp) = true := fun W s k hk => ok_cons (by simp; omega) (SV.oks_d _) (Tr.okk (s.lt (by omega)))
  have h6 : ∀ s : TS, lk s.T.hp 6 = none := fun s => Tr.lkk (s.lt (Nat.le_refl 3)) (by omega)
  have hnd : ∀ (W : List OpD) (s : TS), (((6, Ob.arr 31 29 W.length (opc W)) :: s.T.hp : Hp).map (·.1)).Nodup := fun W s => nd_cons (h6 s) (Tr.nd s.sep)
  refine SW.loop (α := {x : Bool × List OpD × TS × Nat // Inv x.1 x.2.1 x.2.2.1 ∧ 7 ≤ x.2.2.2}) (fun x => ⟨[(6, bl x.1.1), (3, .ptr 2 0), (5, .gs 6 x.1.2.1.length)], (6, .arr 31 29 x.1.2.1.length (opc x.1.2.1)) :: x.1.2.2.1.T.hp, x.1.2.2.2⟩) (fun x => 2 * x.1.2.1.length + (if x.1.1 then 1 else 0))
    ⟨(true, firsts l, ts0, K), ⟨hlen, ts0_wf, rfl⟩, hK7⟩ id ?_ ?_
  · exact Weak.same (by simp) (by simp [EnvW, List.lookup, SV.ren, SV.ok]; omega) (hok _ _ _ hK7) (lk_of_nodup (hnd _ _))
  rintro ⟨⟨b, W, s, k⟩, ⟨hW, hwf, hfin⟩, hk7⟩
  dsimp only at hW hwf hfin hk7 ⊢
  cases b with
  | false =>
    refine SW.seq (SW.seq ?_)
    refine SW.g0 [0, 2, 3, 4, 5, 6, 7, 17] mixed bq_tt ?_
    refine SW.condF rfl (SW.exit ?_)
    refine (?_ : Sl.SW _ _ _ _ _ _)
    refine SW.seq ?_
    refine SW.g0 [0, 2, 3, 4, 5, 6, 7, 17] mixed bq_tt ?_
    refine SW.ret ?_
    have hfin : s.T = newTr l := hfin
    rw [← hfin]
    exact End.mk s.T.hp (h3 := sub_cons (h6 s) fun _ _ h => h) (h4 := ⟨rfl, rfl⟩) (h6 := Tr.okk (s.lt (by omega))) (h7 := by simpa using hk7)
  | true =>
    have hfin : (grow (W.length + 1) s W).T = newTr l := hfin
    have hH : Here (fun s : TS => s.T.hp) 6 k s s := ⟨rfl, Tr.okk (s.lt (by omega)), h6 s⟩
    have cP := deleteF_at (put_del (b := 2) (a := 0) (m := 1) (by omega) (by omega) (by omega) 1000000000) W s (by omega) (by omega) (fun _ _ => trivial) hwf 6 k (by omega) hH (Tr.cl s.sep)
    have hwf' := keep_wf W s hwf
    have hkl := keepD_len TrS.step W s
    have hmore := grow_more (s := s) (W := W)
    have hend := grow_end (s := s) (W := W)
    obtain ⟨W', hW'⟩ : ∃ W', (keepD TrS.step s W).1 = W' := ⟨_, rfl⟩
    obtain ⟨s', hs'⟩ : ∃ s', (keepD TrS.step s W).2 = s' := ⟨_, rfl⟩
    rw [hW', hs'] at cP hmore hend
    rw [hW'] at hkl
    rw [hs'] at hwf'
    have hm : hsets (hdels ((6, Ob.arr 31 29 W.length (opc W)) :: s.T.hp) ((6, Ob.arr 31 29 W'.length (opc W')) :: s'.T.hp) s.T.hp) s'.T.hp = (6, Ob.arr 31 29 W.length (opc W)) :: s'.T.hp :=
      mrg_tail1 (by rw [Tr.names, Tr.names, s.e1, s.e2, s.e3, s'.e1, s'.e2, s'.e3]) (hnd W s)
    refine SW.seq (SW.seq ?_)
    refine SW.g0 [0, 2, 3, 4, 5, 6, 7, 17] mixed bq_tt ?_
    refine SW.condT rfl (SW.skip ?_)
    refine (?_ : Sl.SW _ _ _ _ _ _)
    refine SW.block (SW.seq ?_)
    refine SW.g0 [0, 2, 3, 4, 5, 6, 7, 17] mixed bq_tt ?_
    refine SW.seq ?_
    (refine SW.regL [0, 2, 3, 4, 5, 6, 7, 17] mixed ?_; (repeat (first | refine RW.ro (hm) (h := ?_) | refine RW.skip (h := ?_) | refine RW.op (hm) (h := ?_) | refine RW.opN (hm) (h := ?_) | refine RW.skip0 (h := ?_) | (refine RW.callC (h := ?_); (first | refine CallP.mk (hm) (hs := (fun _ _ h => h)) (hc := cP) (h := ?_))))); refine RW.nil ⟨by kernel_rfl, Pruned.mk (h := ?_)⟩)
    have e1 : decide ((W'.length : Int) < (W.length : Int)) = decide (W'.length < W.length) := by rw [Bool.eq_iff_iff]; simp only [decide_eq_true_eq]; omega
    refine SW.g0 [0, 2, 3, 4, 5, 6, 7, 17] mixed (e1) ?_
    refine ⟨⟨(decide (W'.length < W.length), W', s', k + (W.length * 2 + W.length * (2 + 1))), ⟨by show W'.length ≤ l.length; omega, hwf', ?_⟩, by show 7 ≤ k + _; omega⟩, id, ?_, Weak.same (by simp) (by simp [EnvW, List.lookup, SV.ren, SV.ok]; omega) (hok W' s' _ (by show 7 ≤ k + _; omega)) (lk_of_nodup (hnd W' s'))⟩
    · rw [← hfin]
      by_cases h : W'.length < W.length
      · rw [decide_eq_true h, hmore h]; rfl
      · rw [decide_eq_false h, hend h]; rfl
    · show 2 * W'.length + (if decide (W'.length < W.length) = true then 1 else 0) < 2 * W.length + (if true = true then 1 else 0)
      by_cases h : W'.length < W.length
      · simp [h] <;> omega
      · simp [h] <;> omega
end
def Tr.sh (T : Tr) (k : Nat) : Tr := { T with bx := k + T.bx, ma := k + T.ma, mm := k + T.mm }
theorem Tr.sh_hp (T : Tr) (k : Nat) : T.hp.ren (atN [] k) = (T.sh k).hp := by
  simp only [Tr.hp, Hp.ren, List.map_cons, List.map_nil, Ob.ren, SV.rens, SV.ren, cmap_ren, omap_ren, Tr.sh, atN, List.getElem?_nil, List.length_nil, Nat.sub_zero, Nat.add_comm]
def newTr' (l : List OpD) (k : Nat) : Tr := (newTr l).sh k
theorem new_at (l : List OpD) (hl : l.length < 1000000000) (k : Nat) : SCd Tryz.prog tree_New.f [ops l] [] k 7 (.ptr (newTr' l k).bx 0) (newTr' l k).hp := by
  have h := SB.new (new_sb l hl) k
  rw [Tr.sh_hp] at h
  have e : (newTr l).bx = 2 := (grow ((firsts l).length + 1) ts0 (firsts l)).e1
  have e2 : (newTr' l k).bx = k + 2 := by show k + (newTr l).bx = _; rw [e]
  rw [e2]
  simp only [SV.ren, atN, List.getElem?_nil, List.length_nil, Nat.sub_zero] at h
  rw [Nat.add_comm k 2]
  exact h
end Go.Proofs.YtlgfknfdfnaedaaGreat
namespace Go.Proofs.YtlgfknfdfnaedaaGreat
open Go.Sl Go.Proofs
def rnarrow (o : OpD) (c : Cr) : Bool := ((!withinV o.roles c.roles || ((o.to : Int) == 0)) || decide ((o.depth : Int) ≥ c.depth)) || decide ((o.cap : Int) > c.cap)
def rnoCred (l : List OpD) (g : Cr × Bool) (o : OpD) : Bool := (!g.2 || !decide (g.1.cart = o.cart)) || !((findO l o.cred).getD OpD.zero).before o
def whyOf (l : List OpD) (g : Cr × Bool) (o : OpD) : Cr × Nat :=
  if o.kind ≠ 1 then (Cr.zero, 2) else (g.1, if rnoCred l g o then 272 else if g.1.hold ≠ o.who then 273 else if hasB g.1.roles 1 = false then 274 else if rnarrow o g.1 then 275 else 0)
def getR (l : List OpD) : Nat → Dt → Cr × Bool
  | 0, _ => (Cr.zero, false)
  | m + 1, d => match findO l d with
    | none => (Cr.zero, false)
    | some o => if o.kind = 0 then (⟨d, d, ⟨0, 0⟩, o.who, 7, 8, 1099511627776, 0⟩, decide (o.cart = d)) else
      if (whyOf l (getR l m o.cred) o).2 ≠ 0 then (Cr.zero, false) else (⟨d, o.cart, o.cred, o.to, o.roles, o.depth, o.cap, IntKind.i64.wrap ((whyOf l (getR l m o.cred) o).1.level + 1)⟩, true)
section
attribute [local irreducible] SW RW SCd SC CallP Pruned getR
variable {l : List OpD} (hlen : l.length < 4611686018427387904) (hl : ∀ x, x ∈ l → x.roles < 256)
include hlen hl
end
end Go.Proofs.YtlgfknfdfnaedaaGreat
namespace Go.Proofs.YtlgfknfdfnaedaaGreat
open Go.Sl Go.Proofs
section
attribute [local irreducible] SW RW SCd SC CallP Pruned getR whyOf
variable {l : List OpD} (hlen : l.length < 4611686018427387904) (hl : ∀ x, x ∈ l → x.roles < 256)
include hlen hl
end
section
variable {l : List OpD} (hlen : l.length < 4611686018427387904) (hl : ∀ x, x ∈ l → x.roles < 256)
include hlen hl
end
end Go.Proofs.YtlgfknfdfnaedaaGreat
