/-
  Spends: charges in parts and turned about, plainly.
-/
import Derived.Test.YtmmonbnlleeloaaKG
set_option linter.unusedSectionVars false
set_option linter.unusedVariables false
set_option linter.unusedSimpArgs false
namespace Go.Proofs.Ytmmonbnlleeloaa
open Go.Sl Go.Proofs
theorem rV_le (f : Dt → Nat) {D : List Dt} {x : Dt} (hx : x ∈ D) : rV f D ≤ f x := by
  cases D with
  | nil => cases hx
  | cons d r => exact minAt_le f d r x hx
theorem rV_mem (f : Dt → Nat) {D : List Dt} (h : D ≠ []) : ∃ x, x ∈ D ∧ rV f D = f x := by
  cases D with
  | nil => exact absurd rfl h
  | cons d r => exact ⟨minAt f d r, minAt_mem f d r, rfl⟩
theorem rV_sub {f g : Dt → Nat} {D : List Dt} {n : Nat} (h : ∀ x, x ∈ D → g x = f x - n) : rV g D = rV f D - n := by
  by_cases hD : D = []
  · subst hD; show 0 = 0 - n; omega
  · obtain ⟨x, hx, ex⟩ := rV_mem f hD
    obtain ⟨y, hy, ey⟩ := rV_mem g hD
    have h1 := rV_le g hx
    have h2 := rV_le f hy
    rw [h x hx] at h1
    rw [h y hy] at ey
    omega
theorem cE_ok {f : Dt → Nat} {n : Nat} {D : List Dt} (hD : D ≠ []) (h : n ≤ rV f D) : cE f n D = 0 := by
  cases D with
  | nil => exact absurd rfl hD
  | cons d r => exact if_neg (by show ¬ rV f (d :: r) < n; omega)
theorem cE_over {f : Dt → Nat} {n : Nat} {D : List Dt} (hD : D ≠ []) (h : rV f D < n) : cE f n D = 279 := by
  cases D with
  | nil => exact absurd rfl hD
  | cons d r => exact if_pos h
def chg (n : Nat) (s : List Sp) (D : List Dt) : List Sp := plainR (moreR n s D)
theorem cS_done {f : Dt → Nat} {n : Nat} {s : List Sp} {D : List Dt} (hD : D ≠ []) (h : n ≤ rV f D) : cS f n s D = sps (chg n s D) := by
  cases D with
  | nil => exact absurd rfl hD
  | cons d r => exact if_neg (by show ¬ rV f (d :: r) < n; omega)
theorem cS_over {f : Dt → Nat} {n : Nat} {s : List Sp} {D : List Dt} (hD : D ≠ []) (h : rV f D < n) : cS f n s D = sps (plainR s) := by
  cases D with
  | nil => exact absurd rfl hD
  | cons d r => exact if_pos h
theorem chg_spent (n : Nat) (s : List Sp) {D : List Dt} (hD : D.Nodup) (x : Dt) : spentOf (chg n s D) x = spentOf s x + if x ∈ D then n else 0 := by
  unfold chg; rw [(plainR_row _).spent x, spent_moreR n s x D hD]
theorem chg_uniq {X Y : List Sp} (h : ∀ x, spentOf X x = spentOf Y x) : plainR X = plainR Y :=
  ((plainR_row X).congr h).uniq (plainR_row Y)
theorem chg_len (n : Nat) (s : List Sp) (D : List Dt) : (chg n s D).length ≤ s.length + D.length :=
  Nat.le_trans (plainR_len _) (moreR_len n s D)
theorem spentOf_lt {s : List Sp} (hs : ∀ y, y ∈ s → y.n < 18446744073709551616) (x : Dt) : spentOf s x < 18446744073709551616 := by
  unfold spentOf
  cases hx : spentO s x with
  | none => show (0 : Nat) < _; omega
  | some y => exact hs y (spentO_mem hx).1
theorem chg_lt {l : List OpD} {a : MM Dt Cr} {ca : Nat} {m : MM Dt OpD} {cm : Nat} (ht : TOk l (tr0 a ca m cm)) {n : Nat} {s : List Sp} (hs : ∀ y, y ∈ s → y.n < 18446744073709551616) {d : Dt} {L : List Cr} (hL : Ups a (MM.get a d) L)
    (hn : n ≤ rV (leftF a s) (L.map (·.dot))) : ∀ y, y ∈ chg n s (L.map (·.dot)) → y.n < 18446744073709551616 := fun y hy => by
  have hnd := ht.upsNd hL
  unfold chg at hy
  have h1 := (plainR_row (moreR n s (L.map (·.dot)))).val y hy
  rw [spent_moreR n s y.d _ hnd] at h1
  rw [h1.1]
  by_cases hm : y.d ∈ L.map (·.dot)
  · rw [if_pos hm]
    obtain ⟨z, hz, e⟩ := List.mem_map.1 hm
    have hg := ht.upsGet (d := d) hL z hz
    rw [e] at hg
    exact charge_bound ht s hs hg (Nat.le_trans hn (rV_le _ hm))
  · rw [if_neg hm]
    exact spentOf_lt hs _
theorem left_chg {a : MM Dt Cr} {n : Nat} {s : List Sp} {D : List Dt} (hD : D.Nodup) (x : Dt) : leftF a (chg n s D) x = leftF a s x - if x ∈ D then n else 0 := by
  unfold leftF
  cases MM.get a x with
  | none => show 0 = 0 - _; omega
  | some c =>
    show c.cap - spentOf (chg n s D) x = c.cap - spentOf s x - _
    rw [chg_spent n s hD]; omega
theorem parts_room {a : MM Dt Cr} {n : Nat} {s : List Sp} {D : List Dt} (hD : D.Nodup) : rV (leftF a (chg n s D)) D = rV (leftF a s) D - n :=
  rV_sub fun x hx => by rw [left_chg hD, if_pos hx]
theorem parts_row (n n' : Nat) (s : List Sp) {D : List Dt} (hD : D.Nodup) : chg n' (chg n s D) D = chg (n + n') s D :=
  chg_uniq fun x => by
    rw [spent_moreR _ _ _ _ hD, spent_moreR _ _ _ _ hD, chg_spent n s hD]
    by_cases h : x ∈ D
    · simp only [if_pos h]; omega
    · simp only [if_neg h]
theorem turned_row (n n' : Nat) (s : List Sp) {D D' : List Dt} (hD : D.Nodup) (hD' : D'.Nodup) : chg n' (chg n s D) D' = chg n (chg n' s D') D :=
  chg_uniq fun x => by
    rw [spent_moreR _ _ _ _ hD', spent_moreR _ _ _ _ hD, chg_spent n s hD, chg_spent n' s hD']
    omega
end Go.Proofs.Ytmmonbnlleeloaa
