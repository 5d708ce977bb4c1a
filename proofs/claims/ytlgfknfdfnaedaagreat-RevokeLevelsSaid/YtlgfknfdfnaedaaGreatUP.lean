/-
  Revoke: levels, revokes; the iterator over threats.
-/
import Derived.Test.YtlgfknfdfnaedaaGreatUO
import Derived.Test.YtlgfknfdfnaedaaGreatUE
import Derived.Test.YtlgfknfdfnaedaaGreatU6
set_option linter.unusedSectionVars false
set_option linter.unusedVariables false
set_option linter.unusedSimpArgs false
namespace Go.Proofs.YtlgfknfdfnaedaaGreat
open Go.Sl Go.Proofs
abbrev Ix.h0 (X : Ix) : Hp := [(0, .box 104 [.any, .mp 1, .mp 2, .mp 3]), (1, .map (mapE Dt.cells ov X.ops) X.co), (2, .map (mapE Dt.cells dn X.ch) X.cc), (3, .map (mapE Dt.cells dn X.of_) X.cf)]
abbrev Ix.h14 (X : Ix) : Hp := [(14, .box 104 [.any, .mp 11, .mp 12, .mp 13]), (11, .map (mapE Dt.cells ov X.ops) X.co), (12, .map (mapE Dt.cells dn X.ch) X.cc), (13, .map (mapE Dt.cells dn X.of_) X.cf)]
theorem Ix.ok0 (X : Ix) {k : Nat} (h : 4 ≤ k) : X.h0.ok (fun n => decide (n < k)) = true := by
  have a := omap_ok (fun n => decide (n < k)) X.ops
  have b := nmap_ok (fun n => decide (n < k)) X.ch
  have c := nmap_ok (fun n => decide (n < k)) X.of_
  simp only [Hp.ok, List.all_cons, List.all_nil, Ob.ok, SV.oks, SV.ok, a, b, c, Bool.and_true, Bool.true_and, Bool.and_eq_true, decide_eq_true_eq]
  omega
theorem Ix.ne0 (X : Ix) : ∀ i, i < [14, 11, 12, 13].length → lk X.h0 i ≠ none := fun i hi => by
  match i, hi with
  | 0, _ | 1, _ | 2, _ | 3, _ => simp [lk_cons]
theorem Ix.ren14 (X : Ix) (k : Nat) : X.h0.ren (atN [14, 11, 12, 13] k) = X.h14 := by
  simp [Hp.ren, Ob.ren, SV.rens, SV.ren, atN, omap_ren, nmap_ren]
theorem Ix.at14 {X : Ix} {f : FuncId} {args args' : List SV} {nk : Nat} {r r' : SV} (h : SB Tryz.prog f args X.h0 4 nk fun v F => v = r ∧ F = X.h0) (ha : ∀ k, SV.rens (atN [14, 11, 12, 13] k) args = args') (hr : ∀ k, r.ren (atN [14, 11, 12, 13] k) = r') (k : Nat) : SCd Tryz.prog f args' X.h14 k nk r' X.h14 := by
  have := SB.atL [14, 11, 12, 13] h (by decide) X.ne0 k
  rw [X.ren14, ha, hr] at this
  exact this
def Ix.op (X : Ix) (d : Dt) : OpD := (MM.get X.ops d).getD OpD.zero
def Ix.chn (X : Ix) (d : Dt) : List Dt := (MM.get X.ch d).getD []
def Ix.rvs (X : Ix) (c : Dt) : List Dt := (MM.get X.of_ c).getD []
structure Ix.small (X : Ix) : Prop where
  ch : ∀ d, (X.chn d).length ≤ 1000
  rv : ∀ d, (X.rvs d).length ≤ 1000
  op : X.ops.length ≤ 500
  wo : MM.wf X.ops X.co
def levelV (X : Ix) (d : Dt) : SV := if MM.has X.ops d then .tup [.d (.int .i64 (((X.chn d).length : Int) - 1)), i64 0] else .tup [i64 0, i64 7]
section
attribute [local irreducible] SW RW SCd SC CallP Pruned
theorem rnone_sb (X : Ix) : SB Tryz.prog revoke_Index_none.f [.ptr 0 0] X.h0 4 0 fun r F => r = bl false ∧ F = X.h0 := by
  refine revoke_Index_none.enter (by simp [SV.oks, SV.ok]) (X.ok0 (Nat.le_refl 4)) (by simp) ?_
  dsimp only [revoke_Index_none.s, Co.M, Co.G, Co.J, Co.H, Co.N, Co.F, Co.C, Co.Z, Co.B, Co.b8, Co.b32, Co.b64, Co.i6, Co.z8, Co.z29]
  (repeat (first | refine SW.seq ?_ | refine SW.block ?_ | (refine SW.regL [0, 2] mixed ?_; (repeat (first | refine RW.ro bq_tt (h := ?_) | refine RW.skip (h := ?_) | refine RW.op bq_tt (h := ?_) | refine RW.opN bq_tt (h := ?_) | refine RW.skip0 (h := ?_))); refine RW.nil ⟨conf_of (by kernel_rfl), Pruned.mk (h := ?_)⟩) | refine SW.skip ?_ | refine SW.exit ?_ | refine SW.ret ?_ | refine SW.condT rfl ?_ | refine SW.condF rfl ?_))
  exact End.mk X.h0 (h4 := ⟨rfl, rfl⟩) (h6 := X.ok0 (Nat.le_refl 4))
theorem rnone_0 (X : Ix) (k : Nat) : SCd Tryz.prog revoke_Index_none.f [.ptr 0 0] X.h0 k 0 (bl false) X.h0 := by
  have := SB.atL [0, 1, 2, 3] (rnone_sb X) (by decide) X.ne0 k
  rw [show X.h0.ren (atN [0, 1, 2, 3] k) = X.h0 by simp [Hp.ren, Ob.ren, SV.rens, SV.ren, atN, omap_ren, nmap_ren]] at this
  exact this
set_option maxHeartbeats 4000000 in
theorem rlevel_sb (X : Ix) (hX : X.small) (d : Dt) : SB Tryz.prog revoke_Index_Level.f [.ptr 0 0, .agg d.cells] X.h0 4 2 fun r F => r = levelV X d ∧ F = X.h0 := by
  refine revoke_Index_Level.enter (by simp [SV.oks, SV.ok]) (X.ok0 (Nat.le_refl 4)) (by simp) ?_
  dsimp only [revoke_Index_Level.s, Co.M, Co.G, Co.J, Co.H, Co.N, Co.F, Co.C, Co.Z, Co.B, Co.b8, Co.b32, Co.b64, Co.i6, Co.z8, Co.z29]
  have hn := rnone_0 X
  refine SW.seq ?_
  (refine SW.regL [0, 1, 3, 4, 5, 7, 9, 20] mixed ?_; (repeat (first | refine RW.ro bq_tt (h := ?_) | refine RW.skip (h := ?_) | refine RW.op bq_tt (h := ?_) | refine RW.opN bq_tt (h := ?_) | refine RW.skip0 (h := ?_))); refine RW.nil ⟨conf_of (by kernel_rfl), Pruned.mk (h := ?_)⟩)
  refine SW.seq (SW.seq ?_)
  (refine SW.regL [0, 1, 3, 4, 5, 7, 9, 20] mixed ?_; (repeat (first | refine RW.ro bq_tt (h := ?_) | refine RW.skip (h := ?_) | refine RW.op bq_tt (h := ?_) | refine RW.opN bq_tt (h := ?_) | refine RW.skip0 (h := ?_) | (refine RW.callC (h := ?_); (first | refine CallP.mk bq_tt (hc := hn _) (h := ?_))))); refine RW.nil ⟨conf_of (by kernel_rfl), Pruned.mk (h := ?_)⟩)
  refine SW.condF rfl (SW.skip ?_)
  refine SW.seq (SW.seq ?_)
  obtain ⟨o, ho⟩ : ∃ o, (MM.get X.ops d).getD OpD.zero = o := ⟨_, rfl⟩
  rcases hh : MM.has X.ops d with _ | _
  · (refine SW.regL [0, 1, 3, 4, 5, 7, 9, 20] mixed ?_; (repeat (first | refine RW.ro (And.intro (hh) (ho)) (h := ?_) | refine RW.skip (h := ?_) | refine RW.op (And.intro (hh) (ho)) (h := ?_) | refine RW.opN (And.intro (hh) (ho)) (h := ?_) | refine RW.skip0 (h := ?_))); refine RW.nil ⟨conf_of (by kernel_rfl), Pruned.mk (h := ?_)⟩)
    refine SW.seq ?_
    (refine SW.regL [0, 1, 3, 4, 5, 7, 9, 20] mixed ?_; (repeat (first | refine RW.ro bq_tt (h := ?_) | refine RW.skip (h := ?_) | refine RW.op bq_tt (h := ?_) | refine RW.opN bq_tt (h := ?_) | refine RW.skip0 (h := ?_))); refine RW.nil ⟨conf_of (by kernel_rfl), Pruned.mk (h := ?_)⟩)
    refine SW.condT rfl (SW.seq ?_)
    (refine SW.regL [0, 1, 3, 4, 5, 7, 9, 20] mixed ?_; (repeat (first | refine RW.ro bq_tt (h := ?_) | refine RW.skip (h := ?_) | refine RW.op bq_tt (h := ?_) | refine RW.opN bq_tt (h := ?_) | refine RW.skip0 (h := ?_))); refine RW.nil ⟨conf_of (by kernel_rfl), Pruned.mk (h := ?_)⟩)
    refine SW.ret ?_
    exact End.mk X.h0 (h4 := ⟨by simp [levelV, hh, retV], rfl⟩) (h6 := X.ok0 (by decide))
  · (refine SW.regL [0, 1, 3, 4, 5, 7, 9, 20] mixed ?_; (repeat (first | refine RW.ro (And.intro (hh) (ho)) (h := ?_) | refine RW.skip (h := ?_) | refine RW.op (And.intro (hh) (ho)) (h := ?_) | refine RW.opN (And.intro (hh) (ho)) (h := ?_) | refine RW.skip0 (h := ?_))); refine RW.nil ⟨conf_of (by kernel_rfl), Pruned.mk (h := ?_)⟩)
    refine SW.seq ?_
    (refine SW.regL [0, 1, 3, 4, 5, 7, 9, 20] mixed ?_; (repeat (first | refine RW.ro bq_tt (h := ?_) | refine RW.skip (h := ?_) | refine RW.op bq_tt (h := ?_) | refine RW.opN bq_tt (h := ?_) | refine RW.skip0 (h := ?_))); refine RW.nil ⟨conf_of (by kernel_rfl), Pruned.mk (h := ?_)⟩)
    refine SW.condF rfl (SW.skip ?_)
    have hl := hX.ch d
    have hlk := look_dn X.ch d
    have hlv : levelV X d = .tup [.d (.int .i64 (((X.chn d).length : Int) - 1)), i64 0] := by unfold levelV; rw [hh]; rfl
    change lookS _ _ _ = dn (X.chn d) at hlk
    rw [hlv]
    generalize X.chn d = L at hl hlk ⊢
    have hw : IntKind.i64.wrap ((L.length : Int) - 1) = (L.length : Int) - 1 := wrap_i64 _ (by omega)
    refine SW.seq ?_
    cases L with
    | nil =>
      change _ = SV.d .nils at hlk
      (refine SW.regL [0, 1, 3, 4, 5, 7, 9, 20] mixed ?_; (repeat (first | refine RW.ro (hlk) (h := ?_) | refine RW.skip (h := ?_) | refine RW.op (hlk) (h := ?_) | refine RW.opN (hlk) (h := ?_) | refine RW.skip0 (h := ?_))); refine RW.nil ⟨conf_of (by kernel_rfl), Pruned.mk (h := ?_)⟩)
      refine SW.ret ?_
      exact End.mk X.h0 (h4 := ⟨by simp [retV], rfl⟩) (h6 := X.ok0 (by decide))
    | cons c L =>
      change _ = dots (c :: L) at hlk
      (refine SW.regL [0, 1, 3, 4, 5, 7, 9, 20] mixed ?_; (repeat (first | refine RW.ro (And.intro (hlk) (hw)) (h := ?_) | refine RW.skip (h := ?_) | refine RW.op (And.intro (hlk) (hw)) (h := ?_) | refine RW.opN (And.intro (hlk) (hw)) (h := ?_) | refine RW.skip0 (h := ?_))); refine RW.nil ⟨conf_of (by kernel_rfl), Pruned.mk (h := ?_)⟩)
      refine SW.ret ?_
      exact End.mk X.h0 (h4 := ⟨by simp [retV], rfl⟩) (h6 := X.ok0 (by decide))
theorem rlevel_14 (X : Ix) (hX : X.small) (d : Dt) (k : Nat) : SCd Tryz.prog revoke_Index_Level.f [.ptr 14 0, .agg d.cells] X.h14 k 2 (levelV X d) X.h14 :=
  Ix.at14 (rlevel_sb X hX d) (fun k => by simp [SV.rens, SV.ren, atN, Dt.cells_ren]) (fun k => by unfold levelV; split <;> simp [SV.rens, SV.ren]) k
end
end Go.Proofs.YtlgfknfdfnaedaaGreat
namespace Go.Proofs.YtlgfknfdfnaedaaGreat
open Go.Sl Go.Proofs
structure Late (C : Prop) : Prop where
  c : C
theorem later {C G : Prop} (h : Late C → G) (c : C) : G := h ⟨c⟩
structure YieldD {α σ : Type} (P : Program) (y : Nat) (enc : α → SV) (nky : Nat) (Fh : σ → Hp) (nx : σ → α → Nat → σ) (inv : σ → Nat → Prop) : Prop where
  isin : ∀ s, lk (Fh s) y ≠ none
  nd : ∀ s j, inv s j → ∀ x, x ∈ Fh s → lk (Fh s) x.1 = some x.2
  cl : ∀ s j, inv s j → (Fh s).ok (fun n => (lk (Fh s) n).isSome) = true
  call : ∀ s x k j, inv s (j + 1) → (Fh s).ok (fun n => decide (n < k)) = true → SYd P y [enc x] (Fh s) k nky (bl true) (Fh (nx s x k)) ∧ inv (nx s x k) j ∧ (Fh (nx s x k)).ok (fun n => decide (n < k + nky)) = true ∧
    ∀ n, lk (Fh (nx s x k)) n ≠ none → lk (Fh s) n ≠ none ∨ (k ≤ n ∧ n < k + nky)
abbrev StpD {α σ : Type} (nx : σ → α → Nat → σ) (s : σ) (x : α) (s' : σ) : Prop := ∃ k, s' = nx s x k
theorem RW.yieldG {P : Program} {d y : Nat} {f : X} {args : List X} {g : Option (Nat × Bool)} {r : List SI} {K : St → List (Bool × List Nat) → Prop} {az : List SV} {env : List (Nat × SV)} {hp F F' : Hp} {k : Nat} {v : SV} {nk : Nat}
    (hf : ev (fun t => env.lookup t) f = some (.yl y)) (ha : evs (fun t => env.lookup t) args = some az) (hc : SYd P y az F k nk v F') (hl : lk F y ≠ none) (hs : HSub F hp)
    (hg : g = none ∨ ∃ t w, g = some (t, w) ∧ env.lookup t = some (.d (.bool w)))
    (h : ∀ H, (∀ n, lk H n = mrg (lk hp) (lk F) (lk F') n) → Go.Sl.RW P r ⟨(d, v) :: env, H, k + nk⟩ fun st' ts => K st' ((false, F.map (·.1) ++ F'.map (·.1)) :: ts)) : Go.Sl.RW P (⟨some d, .call f args, g⟩ :: r) ⟨env, hp, k⟩ K := by
  refine RW.cons (e := ⟨v, F, F', nk, SYd P y az F k nk v F' ∧ lk F y ≠ none ∧ HSub F hp⟩) (fun crs => ⟨.call F v F' nk :: crs, ?_⟩) ⟨hc, hl, hs⟩ ?_
  · rcases hg with rfl | ⟨t, w, rfl, hl⟩
    · simp only [runOp, goOp, hf, ha]
    · simp [runOp, hl, goOp, hf, ha]
  · rw [upd_eq]
    exact h _ fun n => congrFun (lk_hmrg (ro := false) hs (fun h => by cases h)) n
theorem own_mrg {σ : Type} {G : Hp} {Fh : σ → Hp} {s s' : σ} {kk k' : Nat} (hO : Own G Fh s kk) (hk : kk ≤ k') (hok : (Fh s').ok (fun n => decide (n < k')) = true) (hnm : ∀ n, lk (Fh s') n ≠ none → lk (Fh s) n ≠ none ∨ (kk ≤ n ∧ n < k')) : Own G Fh s' k' :=
  ⟨hO.nd, fun n hn => by have := hO.lt n hn; omega, fun n hn => Classical.byContradiction fun hno => (hnm n hno).elim (fun h => h (hO.no n hn)) (fun h => by have := hO.lt n hn; omega), Hp.ok_less hk hO.ok, hok⟩
theorem own_mrg_lk {σ : Type} {G : Hp} {Fh : σ → Hp} {s s' : σ} {kk k' : Nat} (hO : Own G Fh s kk) (hO' : Own G Fh s' k') {H : Hp} (hH : ∀ n, lk H n = Go.Sl.mrg (lk (G ++ Fh s)) (lk (Fh s)) (lk (Fh s')) n) : ∀ n ob, lk (G ++ Fh s') n = some ob → lk H n = some ob := fun n ob hn => by
  rw [hH]
  by_cases hm : n ∈ G.map (·.1)
  · rw [mrg_out (hO.no n hm) (hO'.no n hm)]
    rw [lk_app] at hn ⊢
    cases hg : lk G n with
    | some o => rw [hg] at hn; exact hn
    | none => rw [hg, Option.none_or, hO'.no n hm] at hn; cases hn
  · rw [lk_app, lk_of_not hm, Option.none_or] at hn
    rw [mrg_in (.inr (by rw [hn]; simp)), hn]
def Ix.thr (X : Ix) (o : OpD) : List Dt := (X.chn o.dot).flatMap fun c => (X.rvs c).filter fun t => !o.before (X.op t)
section
attribute [local irreducible] SW RW SCd SC CallP Pruned
theorem threats_sb (X : Ix) (o : OpD) : SB Tryz.prog revoke_Index_threats.f [.ptr 0 0, .agg o.cells] X.h0 4 2 fun r F => r = .fn (.func revoke_Index_threats_1.f) [] [.ptr 4 0, .ptr 5 0] ∧ F = (5, .box 31 o.cells) :: (4, .box 53 [.ptr 0 0]) :: X.h0 := by
  refine revoke_Index_threats.enter (by simp [SV.oks, SV.ok, OpD.cells_ok]) (X.ok0 (Nat.le_refl 4)) (by simp) ?_
  dsimp only [revoke_Index_threats.s, Co.M, Co.G, Co.J, Co.H, Co.N, Co.F, Co.C, Co.Z, Co.B, Co.b8, Co.b32, Co.b64, Co.i6, Co.z8, Co.z29]
  refine SW.seq ?_
  (refine SW.regL [0, 1, 2, 3, 4] mixed ?_; (repeat (first | refine RW.ro bq_tt (h := ?_) | refine RW.skip (h := ?_) | refine RW.op bq_tt (h := ?_) | refine RW.opN bq_tt (h := ?_) | refine RW.skip0 (h := ?_))); refine RW.nil ⟨conf_of (by kernel_rfl), Pruned.mk (h := ?_)⟩)
  refine SW.seq ?_
  (refine SW.regL [0, 1, 2, 3, 4] mixed ?_; (repeat (first | refine RW.ro bq_tt (h := ?_) | refine RW.skip (h := ?_) | refine RW.op bq_tt (h := ?_) | refine RW.opN bq_tt (h := ?_) | refine RW.skip0 (h := ?_))); refine RW.nil ⟨conf_of (by kernel_rfl), Pruned.mk (h := ?_)⟩)
  refine SW.ret ?_
  exact End.mk ((5, .box 31 o.cells) :: (4, .box 53 [.ptr 0 0]) :: X.h0) (h4 := ⟨rfl, rfl⟩) (h6 := ok_cons (by decide) (by simp [Ob.ok, OpD.cells_ok]) (ok_cons (by decide) (by simp [Ob.ok, SV.oks, SV.ok]) (X.ok0 (by decide))))
end
abbrev TG (X : Ix) (o : OpD) (bx bo : Nat) : Hp := (bx, .box 53 [.ptr 0 0]) :: (bo, .box 31 o.cells) :: X.h0
def Ix.restO (X : Ix) (o : OpD) (i : Nat) : List Dt := ((X.chn o.dot).drop i).flatMap fun c => (X.rvs c).filter fun t => !o.before (X.op t)
def Ix.restI (X : Ix) (o : OpD) (i : Nat) (R : List Dt) (j : Nat) : List Dt := (R.drop j).filter (fun t => !o.before (X.op t)) ++ X.restO o (i + 1)
theorem Ix.restO_end (X : Ix) (o : OpD) {i : Nat} (h : (X.chn o.dot).length ≤ i) : X.restO o i = [] := by unfold Ix.restO; rw [List.drop_eq_nil_of_le h]; rfl
theorem drop_get {α : Type} {l : List α} {i : Nat} {x : α} (h : l[i]? = some x) : l.drop i = x :: l.drop (i + 1) := by
  obtain ⟨h1, rfl⟩ := List.getElem?_eq_some_iff.1 h
  exact List.drop_eq_getElem_cons h1
theorem Ix.restO_in (X : Ix) (o : OpD) {i : Nat} {c : Dt} (h : (X.chn o.dot)[i]? = some c) : X.restO o i = X.restI o i (X.rvs c) 0 := by
  unfold Ix.restO Ix.restI
  rw [drop_get h]
  rfl
theorem Ix.restI_end (X : Ix) (o : OpD) (i : Nat) {R : List Dt} {j : Nat} (h : R.length ≤ j) : X.restI o i R j = X.restO o (i + 1) := by unfold Ix.restI; rw [List.drop_eq_nil_of_le h]; rfl
theorem Ix.restI_get (X : Ix) (o : OpD) (i : Nat) {R : List Dt} {j : Nat} {t : Dt} (h : R[j]? = some t) : X.restI o i R j = if o.before (X.op t) then X.restI o i R (j + 1) else t :: X.restI o i R (j + 1) := by
  unfold Ix.restI
  rw [drop_get h, List.filter_cons]
  cases o.before (X.op t) <;> rfl
structure TI {σ : Type} (X : Ix) (o : OpD) (Fh : σ → Hp) (nx : σ → Dt → Nat → σ) (inv : σ → Nat → Prop) (s0 : σ) (k0 bx bo b : Nat) (rest : List Dt) (s : σ) (kk : Nat) : Prop where
  h1 : ∃ xs, OnBy (StpD nx) s0 xs s ∧ X.thr o = xs ++ rest
  h2 : inv s rest.length
  own : Own (TG X o bx bo) Fh s kk
  h3 : kk ≤ b
  h4 : 4 ≤ kk
  nm : ∀ n, lk (Fh s) n ≠ none → lk (Fh s0) n ≠ none ∨ k0 ≤ n
def nkT (nky : Nat) : Nat := 1000000 * (1 + 1000000 * (1 + nky))
end Go.Proofs.YtlgfknfdfnaedaaGreat
namespace Go.Proofs.YtlgfknfdfnaedaaGreat
open Go.Sl Go.Proofs
attribute [local irreducible] SW RW SCd SC CallP Pruned
section
variable {σ : Type} {Fh : σ → Hp} {nx : σ → Dt → Nat → σ} {inv : σ → Nat → Prop} {nky y bx bo k : Nat}
theorem TI.nd {X : Ix} {o : OpD} {s0 s : σ} {b kk : Nat} {rest : List Dt} (h : TI X o Fh nx inv s0 k bx bo b rest s kk) : bx ≠ bo ∧ (bx ≠ 0 ∧ bx ≠ 1 ∧ bx ≠ 2 ∧ bx ≠ 3) ∧ (bo ≠ 0 ∧ bo ≠ 1 ∧ bo ≠ 2 ∧ bo ≠ 3) ∧ bx < kk ∧ bo < kk := by
  have h1 := h.own.nd
  simp only [TG, List.map_cons, List.map_nil, List.nodup_cons, List.mem_cons, List.not_mem_nil, or_false, not_or] at h1
  obtain ⟨⟨a1, a2, a3, a4, a5⟩, ⟨b2, b3, b4, b5⟩, _⟩ := h1
  exact ⟨a1, ⟨a2, a3, a4, a5⟩, ⟨b2, b3, b4, b5⟩, h.own.lt bx (by simp), h.own.lt bo (by simp)⟩
theorem ne03 {k : Nat} (h : k ≠ 0 ∧ k ≠ 1 ∧ k ≠ 2 ∧ k ≠ 3) : ((k == 0) = false ∧ (0 == k) = false ∧ (k = 0) = False ∧ (0 = k) = False) ∧ ((k == 1) = false ∧ (1 == k) = false ∧ (k = 1) = False ∧ (1 = k) = False) ∧ ((k == 2) = false ∧ (2 == k) = false ∧ (k = 2) = False ∧ (2 = k) = False) ∧ ((k == 3) = false ∧ (3 == k) = false ∧ (k = 3) = False ∧ (3 = k) = False) := ⟨ne4 h.1, ne4 h.2.1, ne4 h.2.2.1, ne4 h.2.2.2⟩
theorem TI.cut {X : Ix} {o : OpD} {s0 s : σ} {b kk k' : Nat} {rest : List Dt} (h : TI X o Fh nx inv s0 k bx bo b rest s kk) {b' : Nat} {r' : List Dt} (hr : r' = rest) (hk : kk ≤ k') (hb : k' ≤ b') : TI X o Fh nx inv s0 k bx bo b' r' s k' := by
  subst hr
  exact ⟨h.h1, h.h2, h.own.mono hk, hb, by have := h.h4; omega, h.nm⟩
set_option maxHeartbeats 16000000 in
theorem thr1_sb (X : Ix) (hX : X.small) (o : OpD) (s0 : σ) (hy : YieldD Tryz.prog y (fun d : Dt => .agg d.cells) nky Fh nx inv) (h0 : TI X o Fh nx inv s0 k bx bo k (X.thr o) s0 k) :
    SB Tryz.prog revoke_Index_threats_1.f [.yl y, .ptr bx 0, .ptr bo 0] (TG X o bx bo ++ Fh s0) k (nkT nky) fun r F => r = .tup [] ∧ ∃ s', TI X o Fh nx inv s0 k bx bo (k + nkT nky) [] s' (k + nkT nky) ∧ F = TG X o bx bo ++ Fh s' := by
  have hyk : y < k := by
    obtain ⟨ob, ho⟩ := Option.ne_none_iff_exists'.1 (hy.isin s0)
    simpa using (Hp.ok_lk h0.own.okF ho).1
  obtain ⟨n1, n2, n3, n4, n5⟩ := h0.nd
  refine revoke_Index_threats_1.enter (by simp [SV.ok, SV.oks]; omega) h0.own.okk (by simp) ?_
  dsimp only [revoke_Index_threats_1.s, Co.M, Co.G, Co.J, Co.H, Co.N, Co.F, Co.C, Co.Z, Co.B, Co.b8, Co.b32, Co.b64, Co.i6, Co.z8, Co.z29]
  have f1 := ne4 n1
  have f2 := ne03 n2
  have f3 := ne03 n3
  have hnk : nkT nky = 1000000 * (1 + 1000000 * (1 + nky)) := rfl
  obtain ⟨C, hC⟩ : ∃ C, 1 + 1000000 * (1 + nky) = C := ⟨_, rfl⟩
  rw [hC] at hnk
  have hkk : ∀ s kk (env : List (Nat × SV)) (hp : Hp) (kq : Nat), Own (TG X o bx bo) Fh s kk → (∃ j, inv s j) → k ≤ kk → (∀ n ob, lk (TG X o bx bo ++ Fh s) n = some ob → lk hp n = some ob) → ∀ {env1 : List (Nat × SV)}, EnvW id kk env env1 → Weak k ⟨env, hp, kq⟩ ⟨env1, TG X o bx bo ++ Fh s, kk⟩ id := fun s kk env hp kq hO ⟨j, hj⟩ hk hh env1 he => Weak.own hO (hy.nd s j hj) hk he hh
  have fin : ∀ (s' : σ), TI X o Fh nx inv s0 k bx bo (k + nkT nky) [] s' (k + nkT nky) → Go.Sl.Fin k (nkT nky) [] (fun r F => r = .tup [] ∧ ∃ s', TI X o Fh nx inv s0 k bx bo (k + nkT nky) [] s' (k + nkT nky) ∧ F = TG X o bx bo ++ Fh s') ⟨[], TG X o bx bo ++ Fh s', k + nkT nky⟩ := fun s' h => End.mk (TG X o bx bo ++ Fh s') (h3 := fun _ _ h => h) (h4 := ⟨rfl, s', h, rfl⟩) (h6 := h.own.okk) (h7 := Nat.le_refl _)
  obtain ⟨L, hL⟩ : ∃ L, X.chn o.dot = L := ⟨_, rfl⟩
  have hlk := look_dn X.ch o.dot
  change lookS _ _ _ = dn (X.chn o.dot) at hlk
  have hLl := hX.ch o.dot
  rw [hL] at hlk hLl
  have o2 : List.take 2 o.cells = o.dot.cells := rfl
  have hmul : ∀ i, i ≤ L.length → i * C ≤ nkT nky := fun i hi => by rw [hnk]; exact Nat.mul_le_mul_right C (by omega)
  simp only [TG, Ix.h0, List.cons_append, List.nil_append]
  refine SW.seq ?_
  apply later
  · intro late
    rcases hLc : L with _ | ⟨c, L'⟩
    · have hlk0 : lookS (mapE Dt.cells dn X.ch) (.d .nils) (MM.idx X.ch o.dot) = .d .nils := by rw [hlk, hLc]; rfl
      (have fx := (And.intro (hlk0) (And.intro (o2) (And.intro (f1) (And.intro (f2) (f3))))); refine SW.regL [0, 1, 2, 5, 7, 14, 15, 16, 17, 25, 26, 27, 28, 45] mixed ?_; (repeat (first | refine RW.ro fx (h := ?_) | refine RW.skip (h := ?_) | refine RW.op fx (h := ?_) | refine RW.opN fx (h := ?_) | refine RW.skip0 (h := ?_))); refine RW.nil ⟨by kernel_rfl, Pruned.mk (h := ?_)⟩)
      refine SW.nils 14 rfl ?_
      refine SW.weak id (st1 := ⟨[(16, i64 (0 : Nat)), (15, i64 L.length), (14, dots L), (0, .yl y), (1, .ptr bx 0), (2, .ptr bo 0)], TG X o bx bo ++ Fh s0, k⟩) (hkk s0 k _ _ _ h0.own ⟨_, h0.h2⟩ (Nat.le_refl _) (fun _ _ h => h) (by rw [hLc]; simp [EnvW, List.lookup, SV.ren, SV.ok, SV.oks]; omega)) late.c
    · have hlk0 : lookS (mapE Dt.cells dn X.ch) (.d .nils) (MM.idx X.ch o.dot) = dots (c :: L') := by rw [hlk, hLc]; rfl
      (have fx := (And.intro (hlk0) (And.intro (o2) (And.intro (f1) (And.intro (f2) (f3))))); refine SW.regL [0, 1, 2, 5, 7, 14, 15, 16, 17, 25, 26, 27, 28, 45] mixed ?_; (repeat (first | refine RW.ro fx (h := ?_) | refine RW.skip (h := ?_) | refine RW.op fx (h := ?_) | refine RW.opN fx (h := ?_) | refine RW.skip0 (h := ?_))); refine RW.nil ⟨by kernel_rfl, Pruned.mk (h := ?_)⟩)
      refine SW.weak id (st1 := ⟨[(16, i64 (0 : Nat)), (15, i64 L.length), (14, dots L), (0, .yl y), (1, .ptr bx 0), (2, .ptr bo 0)], TG X o bx bo ++ Fh s0, k⟩) (hkk s0 k _ _ _ h0.own ⟨_, h0.h2⟩ (Nat.le_refl _) (fun _ _ h => h) (by rw [hLc]; simp [EnvW, List.lookup, SV.ren, SV.ok, SV.oks]; omega)) late.c
  refine SW.block ?_
  refine SW.loop (α := {i : Nat × σ × Nat // (i.1 ≤ L.length ∧ k ≤ i.2.2) ∧ TI X o Fh nx inv s0 k bx bo (k + i.1 * C) (X.restO o i.1) i.2.1 i.2.2})
    (fun i => ⟨[(16, i64 i.1.1), (15, i64 L.length), (14, dots L), (0, .yl y), (1, .ptr bx 0), (2, .ptr bo 0)], TG X o bx bo ++ Fh i.1.2.1, i.1.2.2⟩)
    (fun i => L.length - i.1.1) ⟨(0, s0, k), ⟨Nat.zero_le _, Nat.le_refl _⟩, by show TI X o Fh nx inv s0 k bx bo (k + 0 * C) (X.restO o 0) s0 k; rw [Nat.zero_mul]; exact h0⟩ id ?_ ?_
  · exact hkk s0 k _ _ _ h0.own ⟨_, h0.h2⟩ (Nat.le_refl _) (fun _ _ h => h) (by simp [EnvW, List.lookup, SV.ren, SV.ok, SV.oks]; omega)
  rintro ⟨⟨i, s, kk⟩, hi⟩
  have hi : (i ≤ L.length ∧ k ≤ kk) ∧ TI X o Fh nx inv s0 k bx bo (k + i * C) (X.restO o i) s kk := hi
  obtain ⟨⟨p1, p2⟩, p3⟩ := hi
  dsimp only at *
  have hmi := hmul i p1
  by_cases h : i < L.length
  · have h1 : decide ((i : Int) < L.length) = true := by simp only [decide_eq_true_eq]; omega
    obtain ⟨c, hx⟩ := get_of_lt h
    have t2 : IntKind.i64.wrap ((i : Int) + 1) = ((i + 1 : Nat) : Int) := wrap_i64 _ (by omega)
    have h41 := p3.h4
    have z0 := ne4 (show kk ≠ bx by omega)
    have z1 := ne4 (show kk ≠ bo by omega)
    have z2 := ne03 (k := kk) ⟨by omega, by omega, by omega, by omega⟩
    have g2 : List.lookup kk (Fh s) = none := p3.own.out (Nat.le_refl _)
    simp only [TG, Ix.h0, List.cons_append, List.nil_append]
    refine SW.seq ?_
    (refine SW.regL [0, 1, 2, 5, 7, 14, 15, 16, 17, 25, 26, 27, 28, 45] mixed ?_; (repeat (first | refine RW.ro (h1) (h := ?_) | refine RW.skip (h := ?_) | refine RW.op (h1) (h := ?_) | refine RW.opN (h1) (h := ?_) | refine RW.skip0 (h := ?_))); refine RW.nil ⟨by kernel_rfl, Pruned.mk (h := ?_)⟩)
    refine SW.seq (SW.condT rfl (SW.skip ?_))
    refine SW.seq (SW.block (SW.seq ?_))
    (have fx := (And.intro (dot_at hx) (And.intro (f1) (And.intro (f2) (And.intro (f3) (And.intro (z0) (And.intro (z1) (And.intro (z2) (g2)))))))); refine SW.regL [0, 1, 2, 5, 7, 14, 15, 16, 17, 25, 26, 27, 28, 45] mixed ?_; (repeat (first | refine RW.ro fx (h := ?_) | refine RW.skip (h := ?_) | refine RW.op fx (h := ?_) | refine RW.opN fx (h := ?_) | refine RW.skip0 (h := ?_))); refine RW.nil ⟨by kernel_rfl, Pruned.mk (h := ?_)⟩)
    refine SW.seq ?_
    obtain ⟨R, hR⟩ : ∃ R, X.rvs c = R := ⟨_, rfl⟩
    have hlk2 := look_dn X.of_ c
    change lookS _ _ _ = dn (X.rvs c) at hlk2
    have hRl := hX.rv c
    rw [hR] at hlk2 hRl
    have hrI := X.restO_in o (by rw [hL]; exact hx)
    rw [hR] at hrI
    have hO1 : Own ((kk, .box 25 c.cells) :: TG X o bx bo) Fh s (kk + 1) := Own.new p3.own (Nat.le_refl _) (Nat.lt_succ_self _) (Dt.cells_ok _ _)
    have p4 : TI X o Fh nx inv s0 k bx bo (k + i * C + 1 + 0 * (1 + nky)) (X.restI o i R 0) s (kk + 1) := p3.cut hrI.symm (Nat.le_succ _) (by have := p3.h3; omega)
    have hw1 : ∀ (env env1 : List (Nat × SV)) (kq : Nat), EnvW id (kk + 1) env env1 → Weak k ⟨env, ((kk, .box 25 c.cells) :: TG X o bx bo) ++ Fh s, kq⟩ ⟨env1, TG X o bx bo ++ Fh s, kk + 1⟩ id := fun env env1 kq he => hkk s (kk + 1) _ _ _ p4.own ⟨_, p4.h2⟩ (by omega) (hO1.keep (fun z hz => List.mem_cons_of_mem _ hz)) he
    apply later
    · intro late
      rcases hRc : R with _ | ⟨t0, R'⟩
      · have hlk0 : lookS (mapE Dt.cells dn X.of_) (.d .nils) (MM.idx X.of_ c) = .d .nils := by rw [hlk2, hRc]; rfl
        (have fx := (And.intro (hlk0) (And.intro (f1) (And.intro (f2) (And.intro (f3) (And.intro (z0) (And.intro (z1) (And.intro (z2) (g2)))))))); refine SW.regL [0, 1, 2, 5, 7, 14, 15, 16, 17, 25, 26, 27, 28, 45] mixed ?_; (repeat (first | refine RW.ro fx (h := ?_) | refine RW.skip (h := ?_) | refine RW.op fx (h := ?_) | refine RW.opN fx (h := ?_) | refine RW.skip0 (h := ?_))); refine RW.nil ⟨by kernel_rfl, Pruned.mk (h := ?_)⟩)
        refine SW.nils 25 rfl ?_
        refine SW.weak id (st1 := ⟨[(27, i64 (0 : Nat)), (26, i64 R.length), (25, dots R), (16, i64 i), (15, i64 L.length), (14, dots L), (0, .yl y), (1, .ptr bx 0), (2, .ptr bo 0)], TG X o bx bo ++ Fh s, kk + 1⟩) (hw1 _ _ _ (by rw [hRc]; simp [EnvW, List.lookup, SV.ren, SV.ok, SV.oks]; omega)) late.c
      · have hlk0 : lookS (mapE Dt.cells dn X.of_) (.d .nils) (MM.idx X.of_ c) = dots (t0 :: R') := by rw [hlk2, hRc]; rfl
        (have fx := (And.intro (hlk0) (And.intro (f1) (And.intro (f2) (And.intro (f3) (And.intro (z0) (And.intro (z1) (And.intro (z2) (g2)))))))); refine SW.regL [0, 1, 2, 5, 7, 14, 15, 16, 17, 25, 26, 27, 28, 45] mixed ?_; (repeat (first | refine RW.ro fx (h := ?_) | refine RW.skip (h := ?_) | refine RW.op fx (h := ?_) | refine RW.opN fx (h := ?_) | refine RW.skip0 (h := ?_))); refine RW.nil ⟨by kernel_rfl, Pruned.mk (h := ?_)⟩)
        refine SW.weak id (st1 := ⟨[(27, i64 (0 : Nat)), (26, i64 R.length), (25, dots R), (16, i64 i), (15, i64 L.length), (14, dots L), (0, .yl y), (1, .ptr bx 0), (2, .ptr bo 0)], TG X o bx bo ++ Fh s, kk + 1⟩) (hw1 _ _ _ (by rw [hRc]; simp [EnvW, List.lookup, SV.ren, SV.ok, SV.oks]; omega)) late.c
    refine SW.block ?_
    refine SW.loop (α := {q : Nat × σ × Nat // (q.1 ≤ R.length ∧ k ≤ q.2.2) ∧ TI X o Fh nx inv s0 k bx bo (k + i * C + 1 + q.1 * (1 + nky)) (X.restI o i R q.1) q.2.1 q.2.2})
      (fun q => ⟨[(27, i64 q.1.1), (26, i64 R.length), (25, dots R), (16, i64 i), (15, i64 L.length), (14, dots L), (0, .yl y), (1, .ptr bx 0), (2, .ptr bo 0)], TG X o bx bo ++ Fh q.1.2.1, q.1.2.2⟩)
      (fun q => R.length - q.1.1) ⟨(0, s, kk + 1), ⟨Nat.zero_le _, by show k ≤ kk + 1; omega⟩, p4⟩ id ?_ ?_
    · exact hkk s (kk + 1) _ _ _ p4.own ⟨_, p4.h2⟩ (by omega) (fun _ _ h => h) (by simp [EnvW, List.lookup, SV.ren, SV.ok, SV.oks]; omega)
    rintro ⟨⟨j, s1, kj⟩, hj'⟩
    have hj' : (j ≤ R.length ∧ k ≤ kj) ∧ TI X o Fh nx inv s0 k bx bo (k + i * C + 1 + j * (1 + nky)) (X.restI o i R j) s1 kj := hj'
    obtain ⟨⟨q1, q2⟩, q3⟩ := hj'
    dsimp only at *
    clear p4 hw1 hO1 g2 z0 z1 z2 p3 h41
    have hmj : j * (1 + nky) ≤ 1000000 * (1 + nky) := Nat.mul_le_mul_right _ (by omega)
    by_cases hj : j < R.length
    · have k1 : decide ((j : Int) < R.length) = true := by simp only [decide_eq_true_eq]; omega
      obtain ⟨t, ht⟩ := get_of_lt hj
      have k2 : IntKind.i64.wrap ((j : Int) + 1) = ((j + 1 : Nat) : Int) := wrap_i64 _ (by omega)
      have hgt := X.restI_get o i ht
      have h41 := q3.h4
      have hmj1 : (j + 1) * (1 + nky) = j * (1 + nky) + (1 + nky) := by rw [Nat.add_mul, Nat.one_mul]
      have h3' := q3.h3
      have z0 := ne4 (show kj ≠ bx by omega)
      have z1 := ne4 (show kj ≠ bo by omega)
      have z2 := ne03 (k := kj) ⟨by omega, by omega, by omega, by omega⟩
      have g2 : List.lookup kj (Fh s1) = none := q3.own.out (Nat.le_refl _)
      have hO1 : Own ((kj, .box 25 t.cells) :: TG X o bx bo) Fh s1 (kj + 1) := Own.new q3.own (Nat.le_refl _) (Nat.lt_succ_self _) (Dt.cells_ok _ _)
      have hO0 : Own (TG X o bx bo) Fh s1 (kj + 1) := q3.own.mono (Nat.le_succ _)
      simp only [TG, Ix.h0, List.cons_append, List.nil_append]
      refine SW.seq ?_
      (refine SW.regL [0, 1, 2, 5, 7, 14, 15, 16, 17, 25, 26, 27, 28, 45] mixed ?_; (repeat (first | refine RW.ro (k1) (h := ?_) | refine RW.skip (h := ?_) | refine RW.op (k1) (h := ?_) | refine RW.opN (k1) (h := ?_) | refine RW.skip0 (h := ?_))); refine RW.nil ⟨by kernel_rfl, Pruned.mk (h := ?_)⟩)
      refine SW.seq (SW.condT rfl (SW.skip ?_))
      refine SW.seq (SW.block (SW.seq ?_))
      (have fx := (And.intro (dot_at ht) (And.intro (f1) (And.intro (f2) (And.intro (f3) (And.intro (z0) (And.intro (z1) (And.intro (z2) (g2)))))))); refine SW.regL [0, 1, 2, 5, 7, 14, 15, 16, 17, 25, 26, 27, 28, 45] mixed ?_; (repeat (first | refine RW.ro fx (h := ?_) | refine RW.skip (h := ?_) | refine RW.op fx (h := ?_) | refine RW.opN fx (h := ?_) | refine RW.skip0 (h := ?_))); refine RW.nil ⟨by kernel_rfl, Pruned.mk (h := ?_)⟩)
      refine SW.seq ?_
      obtain ⟨r, hr⟩ : ∃ r, (MM.get X.ops t).getD OpD.zero = r := ⟨_, rfl⟩
      have hrt : X.op t = r := hr
      rw [hrt] at hgt
      have hb := before_at o r
      rcases hbr : o.before r with _ | _
      · rw [hbr] at hb hgt
        simp only [Bool.false_eq_true, if_false] at hgt
        have hinv : inv s1 ((X.restI o i R (j + 1)).length + 1) := by
          have := q3.h2
          rw [hgt] at this
          exact this
        obtain ⟨c1, c2, c3, c4⟩ := hy.call s1 t (kj + 1) _ hinv (Hp.ok_less (Nat.le_succ _) q3.own.okF)
        have hsubF : HSub (Fh s1) ((kj, .box 25 t.cells) :: (bx, .box 53 [.ptr 0 0]) :: (bo, .box 31 o.cells) :: (0, .box 104 [.any, .mp 1, .mp 2, .mp 3]) :: (1, .map (mapE Dt.cells ov X.ops) X.co) :: (2, .map (mapE Dt.cells dn X.ch) X.cc) :: (3, .map (mapE Dt.cells dn X.of_) X.cf) :: Fh s1) := hO1.sub
        have hin := hy.isin s1
        generalize hs2 : nx s1 t (kj + 1) = s2 at c1 c2 c3 c4
        (have fx := (And.intro (hr) (And.intro (f1) (And.intro (f2) (And.intro (f3) (And.intro (z0) (And.intro (z1) (And.intro (z2) (g2)))))))); refine SW.regL [0, 1, 2, 5, 7, 14, 15, 16, 17, 25, 26, 27, 28, 45] mixed ?_; (repeat (first | refine RW.ro fx (h := ?_) | refine RW.skip (h := ?_) | refine RW.op fx (h := ?_) | refine RW.opN fx (h := ?_) | refine RW.skip0 (h := ?_) | (refine RW.yieldG rfl rfl c1 hin hsubF (.inr ⟨_, _, rfl, rfl⟩) (h := ?_); intro H hH) | (refine RW.callC (h := ?_); (first | refine CallP.mk fx (hc := hb _) (h := ?_))))); refine RW.nil ⟨conf_of (by simp [noConf2, all2, ordB, roOf, List.range, List.range.loop, f1, f2, f3, z0, z1, z2] <;> (first | decide | (repeat (first | assumption | refine ⟨?_, ?_⟩ | exact .inl (by decide) | exact .inl (.inr (by decide)) | exact .inl (.inl (by decide)) | refine .inr ?_)))), Pruned.mk (h := ?_)⟩)
        have hO2 : Own ((kj, .box 25 t.cells) :: TG X o bx bo) Fh s2 (kj + 1 + nky) := own_mrg hO1 (by omega) c3 c4
        have hO3 : Own (TG X o bx bo) Fh s2 (kj + 1 + nky) := hO2.less (List.sublist_cons_self _ _)
        have hlkH := own_mrg_lk hO1 hO2 hH
        refine SW.condF rfl (SW.skip ?_)
        (refine SW.regL [0, 1, 2, 5, 7, 14, 15, 16, 17, 25, 26, 27, 28, 45] mixed ?_; (repeat (first | refine RW.ro (k2) (h := ?_) | refine RW.skip (h := ?_) | refine RW.op (k2) (h := ?_) | refine RW.opN (k2) (h := ?_) | refine RW.skip0 (h := ?_))); refine RW.nil ⟨conf_of (by kernel_rfl), Pruned.mk (h := ?_)⟩)
        obtain ⟨xs, e1, e2⟩ := q3.h1
        refine ⟨⟨(j + 1, s2, kj + 1 + nky), ⟨by show j + 1 ≤ _; omega, by show k ≤ kj + 1 + nky; omega⟩, ⟨⟨xs ++ [t], .snoc e1 ⟨_, hs2.symm⟩, by rw [e2, hgt]; simp⟩, c2, hO3, by show kj + 1 + nky ≤ k + i * C + 1 + (j + 1) * (1 + nky); omega, by show 4 ≤ kj + 1 + nky; omega, fun n hn => (c4 n hn).elim (q3.nm n) fun h => .inr (by omega)⟩⟩, id, by show R.length - (j + 1) < R.length - j; omega, ?_⟩
        exact hkk s2 _ _ _ _ hO3 ⟨_, c2⟩ (by omega) (fun n ob hn => hlkH n ob (hO2.keep (fun z hz => List.mem_cons_of_mem _ hz) n ob hn)) (by simp [EnvW, List.lookup, SV.ren, SV.ok, SV.oks]; omega)
      · rw [hbr] at hb hgt
        simp only [if_true] at hgt
        (have fx := (And.intro (hr) (And.intro (f1) (And.intro (f2) (And.intro (f3) (And.intro (z0) (And.intro (z1) (And.intro (z2) (g2)))))))); refine SW.regL [0, 1, 2, 5, 7, 14, 15, 16, 17, 25, 26, 27, 28, 45] mixed ?_; (repeat (first | refine RW.ro fx (h := ?_) | refine RW.skip (h := ?_) | refine RW.op fx (h := ?_) | refine RW.opN fx (h := ?_) | refine RW.skip0 (h := ?_) | (refine RW.callC (h := ?_); (first | refine CallP.mk fx (hc := hb _) (h := ?_))))); refine RW.nil ⟨conf_of (by kernel_rfl), Pruned.mk (h := ?_)⟩)
        refine SW.condF rfl (SW.skip ?_)
        (refine SW.regL [0, 1, 2, 5, 7, 14, 15, 16, 17, 25, 26, 27, 28, 45] mixed ?_; (repeat (first | refine RW.ro (k2) (h := ?_) | refine RW.skip (h := ?_) | refine RW.op (k2) (h := ?_) | refine RW.opN (k2) (h := ?_) | refine RW.skip0 (h := ?_))); refine RW.nil ⟨conf_of (by kernel_rfl), Pruned.mk (h := ?_)⟩)
        refine ⟨⟨(j + 1, s1, kj + 1), ⟨by show j + 1 ≤ _; omega, by show k ≤ kj + 1; omega⟩, q3.cut hgt.symm (Nat.le_succ _) (by show kj + 1 ≤ k + i * C + 1 + (j + 1) * (1 + nky); omega)⟩, id, by show R.length - (j + 1) < R.length - j; omega, ?_⟩
        exact hkk s1 _ _ _ _ hO0 ⟨_, q3.h2⟩ (by omega) (hO1.keep (fun z hz => List.mem_cons_of_mem _ hz)) (by simp [EnvW, List.lookup, SV.ren, SV.ok, SV.oks]; omega)
    · have k1 : decide ((j : Int) < R.length) = false := by simp only [decide_eq_false_iff_not]; omega
      refine SW.seq ?_
      (refine SW.regL [0, 1, 2, 5, 7, 14, 15, 16, 17, 25, 26, 27, 28, 45] mixed ?_; (repeat (first | refine RW.ro (k1) (h := ?_) | refine RW.skip (h := ?_) | refine RW.op (k1) (h := ?_) | refine RW.opN (k1) (h := ?_) | refine RW.skip0 (h := ?_))); refine RW.nil ⟨conf_of (by kernel_rfl), Pruned.mk (h := ?_)⟩)
      have hjl : j = R.length := by omega
      rw [hjl] at q3
      refine SW.seq (SW.condF rfl (SW.exit ?_))
      refine (?_ : Sl.SW _ _ _ _ _ _)
      (refine SW.regL [0, 1, 2, 5, 7, 14, 15, 16, 17, 25, 26, 27, 28, 45] mixed ?_; (repeat (first | refine RW.ro (t2) (h := ?_) | refine RW.skip (h := ?_) | refine RW.op (t2) (h := ?_) | refine RW.opN (t2) (h := ?_) | refine RW.skip0 (h := ?_))); refine RW.nil ⟨conf_of (by kernel_rfl), Pruned.mk (h := ?_)⟩)
      have hb1 : (i + 1) * C = i * C + C := by rw [Nat.add_mul, Nat.one_mul]
      have h3' := q3.h3
      rw [← hjl] at h3'
      refine ⟨⟨(i + 1, s1, kj), ⟨by show i + 1 ≤ _; omega, q2⟩, q3.cut (X.restI_end o i (Nat.le_refl _)).symm (Nat.le_refl _) (by show kj ≤ k + (i + 1) * C; omega)⟩, id, by show L.length - (i + 1) < L.length - i; omega, ?_⟩
      exact hkk s1 kj _ _ _ q3.own ⟨_, q3.h2⟩ q2 (fun _ _ h => h) (by simp [EnvW, List.lookup, SV.ren, SV.ok, SV.oks]; omega)
  · have h1 : decide ((i : Int) < L.length) = false := by simp only [decide_eq_false_iff_not]; omega
    refine SW.seq ?_
    (refine SW.regL [0, 1, 2, 5, 7, 14, 15, 16, 17, 25, 26, 27, 28, 45] mixed ?_; (repeat (first | refine RW.ro (h1) (h := ?_) | refine RW.skip (h := ?_) | refine RW.op (h1) (h := ?_) | refine RW.opN (h1) (h := ?_) | refine RW.skip0 (h := ?_))); refine RW.nil ⟨conf_of (by kernel_rfl), Pruned.mk (h := ?_)⟩)
    have p5 := p3.cut (k' := k + nkT nky) (b' := k + nkT nky) (r' := []) (X.restO_end o (by rw [hL]; omega)).symm (by have := p3.h3; omega) (Nat.le_refl _)
    refine SW.seq (SW.condF rfl (SW.weak id (hkk s (k + nkT nky) _ _ _ p5.own ⟨_, p5.h2⟩ (Nat.le_add_right _ _) (fun _ _ h => h) (env1 := []) trivial) (SW.exit ?_)))
    exact fin s p5
end
end Go.Proofs.YtlgfknfdfnaedaaGreat
