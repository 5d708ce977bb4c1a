/-
  Shapes: what is well-formed names what it needs (plain).
-/
import Derived.Test.YtlgfknfdfnaedaaGreatUJ
import Derived.Test.YtlgfknfdfnaedaaGreatUE
import Derived.Test.YtlgfknfdfnaedaaGreatU6
import Derived.Test.YtlgfknfdfnaedaaGreatUK
import Derived.Test.YtlgfknfdfnaedaaGreatU5
import Derived.Test.YtlgfknfdfnaedaaGreatUB
import Derived.Test.YtlgfknfdfnaedaaGreatUG
set_option linter.unusedSectionVars false
set_option linter.unusedVariables false
set_option linter.unusedSimpArgs false
namespace Go.Proofs.YtlgfknfdfnaedaaGreat
open Go.Sl Go.Proofs
section
variable {l : List OpD} {o : OpD} (hw : whyL l o = 0)
include hw
end
end Go.Proofs.YtlgfknfdfnaedaaGreat
namespace Go.Proofs.YtlgfknfdfnaedaaGreat
open Go.Sl Go.Proofs
def versL (lns : MM Dt Dt) (d : Dt) : List Dt := d :: ((lns.filter fun x => decide (x.2.2 = d)).map (·.2.1))
theorem mem_versL {lns : MM Dt Dt} (hk : (MM.keys lns).Nodup) {d v : Dt} : v ∈ versL lns d ↔ v = d ∨ MM.get lns v = some d := by
  unfold versL
  rw [List.mem_cons, List.mem_map]
  constructor
  · rintro (h | ⟨x, hx, rfl⟩)
    · exact .inl h
    · obtain ⟨h1, h2⟩ := List.mem_filter.1 hx
      rw [mem_get hk h1]
      exact .inr (congrArg some (of_decide_eq_true h2))
  · rintro (h | h)
    · exact .inl h
    · obtain ⟨x, hx, e1, e2⟩ := get_mem h
      exact .inr ⟨x, List.mem_filter.2 ⟨hx, by simp [e2]⟩, e1⟩
end Go.Proofs.YtlgfknfdfnaedaaGreat
namespace Go.Proofs.YtlgfknfdfnaedaaGreat
open Go.Sl Go.Proofs
theorem shM (S : Sh) : ((∀ q : Nat → Bool, ((mapE Dt.cells ov S.ops).all fun e => e.2.1.ok q && e.2.2.ok q) = true) ∧ (∀ q : Nat → Bool, ((mapE Dt.cells iv S.adds).all fun e => e.2.1.ok q && e.2.2.ok q) = true) ∧ (∀ q : Nat → Bool, ((mapE Dt.cells dv S.lns).all fun e => e.2.1.ok q && e.2.2.ok q) = true) ∧ (∀ q : Nat → Bool, ((mapE Dt.cells cv S.tr).all fun e => e.2.1.ok q && e.2.2.ok q) = true) ∧ (∀ q : Nat → Bool, ((mapE Dt.cells ov S.md).all fun e => e.2.1.ok q && e.2.2.ok q) = true)) ∧
    (∀ r : Nat → Nat, (mapE Dt.cells ov S.ops).map (fun e => (e.1, e.2.1.ren r, e.2.2.ren r)) = mapE Dt.cells ov S.ops) ∧ (∀ r : Nat → Nat, (mapE Dt.cells iv S.adds).map (fun e => (e.1, e.2.1.ren r, e.2.2.ren r)) = mapE Dt.cells iv S.adds) ∧ (∀ r : Nat → Nat, (mapE Dt.cells dv S.lns).map (fun e => (e.1, e.2.1.ren r, e.2.2.ren r)) = mapE Dt.cells dv S.lns) ∧ (∀ r : Nat → Nat, (mapE Dt.cells cv S.tr).map (fun e => (e.1, e.2.1.ren r, e.2.2.ren r)) = mapE Dt.cells cv S.tr) ∧ (∀ r : Nat → Nat, (mapE Dt.cells ov S.md).map (fun e => (e.1, e.2.1.ren r, e.2.2.ren r)) = mapE Dt.cells ov S.md) :=
  ⟨shF S, fun r => omap_ren r S.ops, fun r => dmap_ren r S.adds, fun r => dvmap_ren r S.lns, fun r => cmap_ren r S.tr, fun r => omap_ren r S.md⟩
theorem versL_snoc (xs : MM Dt Dt) (x : Nat × Dt × Dt) (d : Dt) : versL (xs ++ [x]) d = if x.2.2 = d then versL xs d ++ [x.2.1] else versL xs d := by
  unfold versL
  rw [List.filter_append]
  by_cases h : x.2.2 = d <;> simp [h]
theorem versL_len (xs : MM Dt Dt) (d : Dt) : (versL xs d).length ≤ xs.length + 1 := by
  unfold versL
  rw [List.length_cons, List.length_map]
  have := List.length_filter_le (fun x : Nat × Dt × Dt => decide (x.2.2 = d)) xs
  omega
theorem versL_set {l xs : MM Dt Dt} (h : ∀ x, x ∈ xs ↔ x ∈ l) (d : Dt) : Dt.set (versL xs d) = Dt.set (versL l d) :=
  Dt.rises_unique (Dt.set_rises _) (Dt.set_rises _) fun v => by
    rw [Dt.mem_set, Dt.mem_set]
    unfold versL
    simp only [List.mem_cons, List.mem_map, List.mem_filter, h]
theorem Weak.up {k0 : Nat} {st st1 : St} {ρ : Nat → Nat} (h : Weak 0 st st1 ρ) (hk : k0 ≤ st1.k) (hr : ∀ n, n < k0 → ρ n = n) : Weak k0 st st1 ρ := ⟨hk, hr, h.2.2⟩
theorem dv_e (d : Dt) : dv d = .agg d.cells := rfl
theorem litO {P : Program} {env : List (Nat × SV)} {hp : Hp} {k d p : Nat} {r : List SI} {K : St → List (Bool × List Nat) → Prop} {a : Dt}
    (ha : env.lookup p = some (.agg a.cells)) (hk : hset hp k (.arr 25 2 1 a.cells) = (k, .arr 25 2 1 a.cells) :: hp)
    (h : RW P r ⟨(d, .gs k 1) :: env, (k, .arr 25 2 1 a.cells) :: hp, k + 1⟩ fun st' ts => K st' ((false, [k]) :: ts)) : RW P (⟨some d, .bsl 25 2 1 [.d (.int .u8 0), .d (.int .u32 0)] [(0, 2, .t p)], none⟩ :: r) ⟨env, hp, k⟩ K := by
  refine RW.cons (e := ⟨.gs k 1, [], [(k, .arr 25 2 1 a.cells)], 1, ((2 = 2 ∧ 0 + 2 ≤ 2 ∧ True))⟩) (fun crs => ⟨.own :: crs, runOp_some (.inl rfl) ?_⟩) (by show 2 = 2 ∧ 0 + 2 ≤ 2 ∧ True; decide) ?_
  · have h1 : evp (fun t => env.lookup t) [(0, 2, X.t p)] = some [(0, 2, .agg a.cells)] := by
      simp only [evp, ev, ha]
    have h2 : bldS [SV.d (.int .u8 0), .d (.int .u32 0)] [(0, 2, .agg a.cells)] = some (a.cells, ((2 = 2 ∧ 0 + 2 ≤ 2 ∧ True))) := rfl
    have h4 : a.cells.all SV.isOne = true := rfl
    simp only [goOp, sop, h1, h2, h4, if_true, Bool.true_or]
  · rw [upd_eq]
    show RW P r ⟨(d, .gs k 1) :: env, hset hp k (.arr 25 2 1 a.cells), k + 1⟩ _
    rw [hk]; exact h
section
attribute [local irreducible] SW RW SCd SC CallP Pruned
def versV (S : Sh) (d : Dt) : SV := if 0 < (MM.get S.adds d).getD 0 then dots (Dt.set (versL S.lns d)) else .d .nils
set_option maxHeartbeats 4000000 in
theorem svers_sb (S : Sh) (hwf : MM.wf S.lns S.cl) (hA : ∀ d v, MM.get S.adds d = some v → v = 1) (hlen : S.lns.length < 100000000) (d : Dt) :
    SB Tryz.prog shape_Shape_Versions.f [.ptr 0 0, .agg d.cells] S.h0 7 0 fun r F => r = versV S d ∧ F = S.h0 := by
  refine shape_Shape_Versions.enter (by simp [SV.oks, SV.ok]) (S.ok (Nat.le_refl 7)) (by simp) ?_
  dsimp only [shape_Shape_Versions.s, Co.M, Co.G, Co.J, Co.H, Co.N, Co.F, Co.C, Co.Z, Co.B, Co.b8, Co.b32, Co.b64, Co.i6, Co.z8, Co.z29]
  have hn := snone_0 S
  have hv : (MM.get S.adds d).getD 0 = 0 ∨ (MM.get S.adds d).getD 0 = 1 := by
    cases h : MM.get S.adds d with
    | none => exact .inl rfl
    | some v => exact .inr (hA d v h)
  refine SW.seq ?_
  refine SW.g0 [0, 1, 3, 4, 5, 6, 7, 18, 25, 27, 33] mixed bq_tt ?_
  refine SW.seq (SW.seq ?_)
  rcases hv with hv | hv
  · refine SW.g1 [0, 1, 3, 4, 5, 6, 7, 18, 25, 27, 33] mixed (hv) hn ?_
    refine SW.condT rfl (SW.seq ?_)
    refine SW.g0 [0, 1, 3, 4, 5, 6, 7, 18, 25, 27, 33] mixed bq_tt ?_
    refine SW.ret ?_
    exact End.mk S.h0 (h4 := ⟨by unfold versV; rw [hv]; rfl, rfl⟩) (h6 := S.ok (Nat.le_refl 7))
  refine SW.g1 [0, 1, 3, 4, 5, 6, 7, 18, 25, 27, 33] mixed (hv) hn ?_
  refine SW.condF rfl (SW.skip ?_)
  refine SW.seq ?_
  (refine SW.regL [0, 1, 3, 4, 5, 6, 7, 18, 25, 27, 33] mixed ?_; (repeat (first | refine litO rfl rfl (h := ?_) | refine RW.ro bq_tt (h := ?_) | refine RW.skip (h := ?_) | refine RW.op bq_tt (h := ?_) | refine RW.opN bq_tt (h := ?_) | refine RW.skip0 (h := ?_))); refine RW.nil ⟨conf_of (by kernel_rfl), Pruned.mk (h := ?_)⟩)
  refine SW.seq (SW.seq ?_)
  refine SW.g0 [0, 1, 3, 4, 5, 6, 7, 18, 25, 27, 33] mixed bq_tt ?_
  refine SW.block ?_
  refine SW.mapLoop (es := fun _ => mapE Dt.cells dv S.lns) (c := fun _ => S.cl) (nit := fun _ => 9) (nm := fun _ => 3) (since := fun _ => S.cl) (sst := fun _ => S.cl)
    (α := {xs : MM Dt Dt // (∀ x, x ∈ xs → x ∈ S.lns) ∧ (xs.map (·.1)).Nodup})
    (fun p => ⟨[(25, .it 9), (5, .gs 8 (versL p.1 d).length), (3, .ptr 7 0)], (9, .iter (some 3) S.cl (p.1.map (·.1)) S.cl) :: (8, .arr 25 2 (versL p.1 d).length (((versL p.1 d).flatMap Dt.ds).map .d)) :: (7, .box 25 d.cells) :: S.h0, 10⟩)
    (fun p => unseen (mapE Dt.cells dv S.lns) (p.1.map (·.1))) ⟨[], by simp, by simp⟩ id (seen := fun p => p.1.map (·.1)) ?_ (fun p => by simp [List.lookup]) (fun p => by simp [lk_cons]) (fun p => by simp [lk_cons]) (fun p => by decide) (fun p e he => ?_) (fun p => Nat.le_refl _) (fun p hall => ?_) (fun p e he hs => ?_)
  · exact Weak.mk (And.intro (And.intro (show versL [] d = [d] from rfl) (Dt.map_ds d)) (shM S))
  · obtain ⟨x, hx, rfl⟩ := mapE_mem he
    exact hwf.old x hx
  · obtain ⟨xs, p1, p2⟩ := p
    dsimp only at *
    have hxs : ∀ x, x ∈ xs ↔ x ∈ S.lns := fun x => ⟨p1 x, fun hx => by
      have := hall _ (List.mem_map.2 ⟨x, hx, rfl⟩)
      simp only [List.contains_iff_mem] at this
      obtain ⟨z, hz, e⟩ := List.mem_map.1 this
      rw [← MM.time_inj hwf.times (p1 z hz) hx e]; exact hz⟩
    refine ⟨⟨[(5, .gs 8 (versL xs d).length)], (8, .arr 25 2 (versL xs d).length (((versL xs d).flatMap Dt.ds).map .d)) :: S.h0, 9⟩, id, Weak.mk (shM S), ?_⟩
    rw [if_pos rfl]
    refine SW.freeze 8 ((versL xs d).flatMap Dt.ds) rfl rfl ?_
    simp only [frzE, SV.frz, List.map_cons, List.map_nil, if_true, if_false, reduceIte, hdel, Nat.reduceEqDiff]
    have hs := sort_at (versL xs d) (by
      have h1 := versL_len xs d
      have h2 := p2.length_le_of_subset (l₂ := S.lns.map (·.1)) (fun t ht => by
        obtain ⟨x, hx, rfl⟩ := List.mem_map.1 ht
        exact List.mem_map.2 ⟨x, p1 x hx, rfl⟩)
      simp only [List.length_map] at h2
      omega)
    refine SW.seq ?_
    refine SW.g1 [0, 1, 3, 4, 5, 6, 7, 18, 25, 27, 33] mixed bq_tt hs ?_
    refine SW.ret ?_
    exact End.mk S.h0 (h4 := ⟨by unfold versV; rw [hv, if_pos (by decide), ← versL_set hxs d]; rfl, rfl⟩) (h6 := S.ok (by decide))
  · obtain ⟨xs, p1, p2⟩ := p
    dsimp only at *
    obtain ⟨x, hx, rfl⟩ := mapE_mem he
    dsimp only at hs
    have g5 : (xs.map (·.1) ++ [x.1]).getLast? = some x.1 := by simp
    have g6 := mapE_find (kc := Dt.cells) (vs := dv) hwf.times hx
    have hxt : x.1 ∉ xs.map (·.1) := fun h => by
      have : (xs.map (·.1)).contains x.1 = true := by simpa only [List.contains_iff_mem] using h
      rw [this] at hs; cases hs
    have q1 : ∀ z, z ∈ xs ++ [x] → z ∈ S.lns := fun z hz => by
      rcases List.mem_append.1 hz with hz | hz
      · exact p1 z hz
      · rw [List.mem_singleton.1 hz]; exact hx
    have q2 : ((xs ++ [x]).map (·.1)).Nodup := by
      rw [List.map_append, List.nodup_append]
      refine ⟨p2, by simp, fun a ha b' hb' => ?_⟩
      simp only [List.map_cons, List.map_nil, List.mem_singleton] at hb'
      intro e
      exact hxt (by rw [← hb', ← e]; exact ha)
    have em : (xs ++ [x]).map (·.1) = xs.map (·.1) ++ [x.1] := by simp
    have hm := unseen_lt he hs
    have hsn := versL_snoc xs x d
    have hsl : (versL xs d).length ≤ 100000000 := by
      have h1 := versL_len xs d
      have h2 := p2.length_le_of_subset (l₂ := S.lns.map (·.1)) (fun t ht => by
        obtain ⟨x, hx, rfl⟩ := List.mem_map.1 ht
        exact List.mem_map.2 ⟨x, p1 x hx, rfl⟩)
      simp only [List.length_map] at h2
      omega
    generalize versL xs d = s at hsn hsl ⊢
    rw [hset_head]
    refine SW.block (SW.seq ?_)
    refine SW.g0 [0, 1, 3, 4, 5, 6, 7, 18, 25, 27, 33] mixed (And.intro (g5) (And.intro (g6) (dv_e))) ?_
    refine SW.seq ?_
    by_cases h3 : x.2.2 = d
    · have z3 : decide (x.2.2 = d) = true := decide_eq_true h3
      rw [if_pos h3] at hsn
      refine SW.g0 [0, 1, 3, 4, 5, 6, 7, 18, 25, 27, 33] mixed (z3) ?_
      refine SW.condT rfl ?_
      refine SW.g0 [0, 1, 3, 4, 5, 6, 7, 18, 25, 27, 33] mixed bq_tt ?_
      have e5 : (s ++ [x.2.1]).length = s.length + [x.2.1].length := by simp
      have e6 : List.map SV.d ((s ++ [x.2.1]).flatMap Dt.ds) = List.map SV.d (s.flatMap Dt.ds) ++ List.map SV.d ([x.2.1].flatMap Dt.ds) := by simp
      refine ⟨⟨xs ++ [x], q1, q2⟩, fun n => if n = 8 then 12 else n, by rw [em]; exact hm, ?_⟩
      dsimp only
      rw [hsn, em]
      exact Weak.up (Weak.mk (And.intro (And.intro e5 e6) (shM S))) (by show 7 ≤ 10; decide) (fun n hn => if_neg (by omega))
    · have z3 : decide (x.2.2 = d) = false := decide_eq_false h3
      rw [if_neg h3] at hsn
      refine SW.g0 [0, 1, 3, 4, 5, 6, 7, 18, 25, 27, 33] mixed (z3) ?_
      refine SW.condF rfl (SW.skip ?_)
      refine ⟨⟨xs ++ [x], q1, q2⟩, id, by rw [em]; exact hm, ?_⟩
      dsimp only
      rw [hsn, em]
      exact Weak.mk (shM S)
end
end Go.Proofs.YtlgfknfdfnaedaaGreat
namespace Go.Proofs.YtlgfknfdfnaedaaGreat
open Go.Sl Go.Proofs
theorem crd_ref (l : List OpD) (d : Dt) (o : OpD) : crdP l (newTr l).at_ d o = ((getR l 10 d).2 && (decide ((getR l 10 d).1.cart = o.cart) && befP l d o)) := by
  obtain ⟨a1, a2⟩ := (newTr_tok l).get d
  have a1 : (getR l 10 d).2 = (MM.get (newTr l).at_ d).isSome := a1
  unfold crdP MM.has
  rw [a1]
  cases h : MM.get (newTr l).at_ d with
  | none => rfl
  | some c =>
    have := a2 c h
    rw [this]; rfl
theorem crd_get {l : List OpD} {d : Dt} {o : OpD} (h : crdP l (newTr l).at_ d o = true) : (getR l 10 d).1 = (MM.get (newTr l).at_ d).getD Cr.zero := by
  obtain ⟨c, a, h1, _⟩ := crdP_iff.1 h
  obtain ⟨_, a2⟩ := (newTr_tok l).get d
  have := a2 c h1
  rw [this, h1]; rfl
theorem wrap_u8n (n : Nat) : IntKind.u8.wrap (n : Int) = ((n % 256 : Nat) : Int) := by
  unfold IntKind.wrap
  simp [IntKind.bits, IntKind.signed]
theorem and_pow (m i : Nat) : m &&& 2 ^ i = if m.testBit i then 2 ^ i else 0 := by
  apply Nat.eq_of_testBit_eq
  intro j
  rw [Nat.testBit_and, Nat.testBit_two_pow]
  by_cases e : i = j
  · subst e; cases h : m.testBit i <;> simp [Nat.testBit_two_pow]
  · cases h : m.testBit i <;> simp [e, Nat.testBit_two_pow]
theorem role_val {c : Cr} {q : Nat} (h0 : q ≠ 0) (h8 : q ≤ 8) : ((IntKind.u8.wrap ((c.roles : Int).tdiv (needsV q : Int))).tmod 2 != 1) = roleB c q ∧ (needsV q : Int) ≠ 0 := by
  have key : ∀ i, i ≤ 2 → needsV q = 2 ^ i → ((IntKind.u8.wrap ((c.roles : Int).tdiv (needsV q : Int))).tmod 2 != 1) = roleB c q ∧ (needsV q : Int) ≠ 0 := fun i h2i hi => by
    unfold roleB
    rw [hi, and_eq]
    have e : (c.roles : Int).tdiv ((2 ^ i : Nat) : Int) = ((c.roles / 2 ^ i : Nat) : Int) := (Int.ofNat_tdiv _ _).symm
    have e2 : (((c.roles / 2 ^ i % 256 : Nat) : Int)).tmod 2 = ((c.roles / 2 ^ i % 256 % 2 : Nat) : Int) := (Int.ofNat_tmod _ 2).symm
    rw [e, wrap_u8n, e2, BitVec.toNat_and, BitVec.toNat_ofNat, BitVec.toNat_ofNat, Nat.mod_eq_of_lt (show 2 ^ i < 2 ^ 8 from Nat.pow_lt_pow_right (by omega) (by omega)), and_pow]
    have h3 : c.roles / 2 ^ i % 256 % 2 = (c.roles % 2 ^ 8) / 2 ^ i % 2 := by
      rcases (show i = 0 ∨ i = 1 ∨ i = 2 by omega) with rfl | rfl | rfl <;> simp only [Nat.reducePow] <;> omega
    have h4 : (c.roles % 2 ^ 8).testBit i = decide ((c.roles % 2 ^ 8) / 2 ^ i % 2 = 1) := Nat.testBit_eq_decide_div_mod_eq
    have hp := Nat.two_pow_pos i
    refine ⟨?_, by omega⟩
    rw [h3, h4]
    generalize (c.roles % 2 ^ 8) / 2 ^ i % 2 = m
    by_cases hm : m = 1
    · subst hm; simp
    · rw [decide_eq_false hm, Bool.eq_iff_iff]
      simp only [Bool.false_eq_true, if_false, bne_iff_ne, ne_eq]
      constructor
      · intro _; omega
      · intro _; omega
  rcases (show q = 1 ∨ q = 2 ∨ q = 3 ∨ q = 4 ∨ q = 5 ∨ q = 6 ∨ q = 7 ∨ q = 8 by omega) with rfl | rfl | rfl | rfl | rfl | rfl | rfl | rfl
  · exact key 0 (by omega) rfl
  · exact key 0 (by omega) rfl
  · exact key 1 (by omega) rfl
  · exact key 1 (by omega) rfl
  · exact key 1 (by omega) rfl
  · exact key 2 (by omega) rfl
  · exact key 2 (by omega) rfl
  · exact key 1 (by omega) rfl
noncomputable def rlineP (l : List OpD) (d cart : Dt) : Bool := match findO l d with
  | some a => decide (a.kind = 3) && (decide (a.cart = cart) && decide (whyL l a = 0))
  | none => false
theorem whyL_add {l : List OpD} {a : OpD} (h : a.kind = 3) : whyL l a = why0 l (newTr l).at_ (newTr l).made a true := by
  unfold whyL whyP
  have : tgtP l (newTr l).at_ (newTr l).made a (aboveR (newTr l).at_ a.cred a.at_ (upsL (newTr l).at_ a.at_)) = true := by
    unfold tgtP
    rw [if_neg (by omega), if_neg (by omega), if_neg (by omega), if_neg (by omega)]
  rw [this]
theorem whyL_set {l : List OpD} {s : OpD} (h : s.kind = 4) : whyL l s = why0 l (newTr l).at_ (newTr l).made s (lineP l (newTr l).at_ (newTr l).made s.at_ s) := by
  unfold whyL whyP
  have : tgtP l (newTr l).at_ (newTr l).made s (aboveR (newTr l).at_ s.cred s.at_ (upsL (newTr l).at_ s.at_)) = lineP l (newTr l).at_ (newTr l).made s.at_ s := by
    unfold tgtP
    rw [if_neg (by omega), if_pos (.inl h)]
  rw [this]
theorem line_ref (l : List OpD) (d : Dt) (o : OpD) : lineP l (newTr l).at_ (newTr l).made d o = (rlineP l d o.cart && befP l d o) := by
  unfold lineP addP rlineP
  cases h : findO l d with
  | none => rfl
  | some a =>
    dsimp only
    rw [opP_some h]
    by_cases h3 : a.kind = 3
    · rw [whyL_add h3]
      cases decide (a.cart = o.cart) <;> cases befP l d o <;> simp [h3]
    · simp [h3]
theorem clm_ref (l : List OpD) (c : Cm) (o : OpD) : clmP l (newTr l).at_ (newTr l).made c o = ((rlineP l c.line o.cart && befP l c.line o) && (decide (c.ver = c.line) || (match findO l c.ver with
    | some s => decide (s.kind = 4) && (decide (s.at_ = c.line) && (befP l c.ver o && decide (whyL l s = 0)))
    | none => false))) := by
  unfold clmP
  rw [line_ref]
  congr 2
  unfold setP
  cases h : findO l c.ver with
  | none => rfl
  | some s =>
    dsimp only
    by_cases h4 : s.kind = 4
    · rw [whyL_set h4]
      by_cases hw : why0 l (newTr l).at_ (newTr l).made s (lineP l (newTr l).at_ (newTr l).made s.at_ s) = 0
      · simp only [h4, hw, and_self, if_true, Option.isSome_some, Option.getD_some, decide_true, Bool.true_and, Bool.and_true]
      · simp only [hw, and_false, if_false, Option.isSome_none, Bool.false_and, decide_false, Bool.and_false]
    · simp only [h4, false_and, if_false, Option.isSome_none, Bool.false_and, decide_false]
end Go.Proofs.YtlgfknfdfnaedaaGreat
namespace Go.Proofs.YtlgfknfdfnaedaaGreat
open Go.Sl Go.Proofs
section
attribute [local irreducible] SW RW SCd SC CallP Pruned needsV
variable (l : List OpD) (hl : l.length < 1000000000)
include hl
theorem rfind_at (d : Dt) (k : Nat) : SCd Tryz.prog ref10_Find.f [ops l, .agg d.cells] [] k 0 (.tup [.agg (opP l d).cells, bl (findO l d).isSome]) [] := find_at l (by omega) d k
theorem b17_ok (d : Dt) (o : OpD) : Go.Sl.Pure Tryz.prog ref17_before.f [ops l, .agg d.cells, .agg o.cells] (bl (befP l d o)) := by
  have hf := rfind_at l hl d
  have e : befP l d o = ((findO l d).isSome && (opP l d).before o) := rfl
  rw [e]
  obtain ⟨a, ha⟩ : ∃ a, opP l d = a := ⟨_, rfl⟩
  rw [ha] at hf ⊢
  refine ref17_before.enter (by first | rfl | simp [SV.ok, SV.oks]) (by first | rfl | simp [Hp.ok, Ob.ok, SV.ok, SV.oks, Vec.cells_ok]) (by simp) ?_
  dsimp only [ref17_before.s, Co.M, Co.G, Co.J, Co.H, Co.N, Co.F, Co.C, Co.Z, Co.B, Co.b8, Co.b32, Co.b64, Co.i6, Co.z8, Co.z29]
  rcases hi : (findO l d).isSome with _ | _
  · (repeat (first | refine SW.seq ?_ | refine SW.block ?_ | refine SW.g2 [0, 1, 2, 4, 5, 6, 7, 8] mixed (hi) hf (rbefore_at a o) ?_ | refine SW.skip ?_ | refine SW.exit ?_ | refine SW.ret ?_ | refine SW.condT rfl ?_ | refine SW.condF rfl ?_))
    exact End.mk [] (h4 := ⟨rfl, rfl⟩)
  · (repeat (first | refine SW.seq ?_ | refine SW.block ?_ | refine SW.g2 [0, 1, 2, 4, 5, 6, 7, 8] mixed (hi) hf (rbefore_at a o) ?_ | refine SW.skip ?_ | refine SW.exit ?_ | refine SW.ret ?_ | refine SW.condT rfl ?_ | refine SW.condF rfl ?_))
    exact End.mk [] (h4 := ⟨by rw [Bool.true_and]; rfl, rfl⟩)
theorem b17_at (d : Dt) (o : OpD) (k : Nat) : SCd Tryz.prog ref17_before.f [ops l, .agg d.cells, .agg o.cells] [] k 0 (bl (befP l d o)) [] := (b17_ok l hl d o).sc rfl k
theorem cart17_ok (o : OpD) : Go.Sl.Pure Tryz.prog ref17_cart.f [ops l, .agg o.cells] (bl (cartP l o)) := by
  have hf := rfind_at l hl o.cart
  refine ref17_cart.enter (by first | rfl | simp [SV.ok, SV.oks]) (by first | rfl | simp [Hp.ok, Ob.ok, SV.ok, SV.oks, Vec.cells_ok]) (by simp) ?_
  dsimp only [ref17_cart.s, Co.M, Co.G, Co.J, Co.H, Co.N, Co.F, Co.C, Co.Z, Co.B, Co.b8, Co.b32, Co.b64, Co.i6, Co.z8, Co.z29]
  by_cases hk : o.kind = 0
  · have z : ((o.kind : Int) == 0) = true := by rw [hk]; rfl
    have e : cartP l o = decide (o.cart = o.dot) := by unfold cartP; rw [if_pos hk]
    rw [e]
    (repeat (first | refine SW.seq ?_ | refine SW.block ?_ | refine SW.g0 [0, 1, 3, 4, 5, 6, 9] mixed (z) ?_ | refine SW.skip ?_ | refine SW.exit ?_ | refine SW.ret ?_ | refine SW.condT rfl ?_ | refine SW.condF rfl ?_))
    exact End.mk [] (h4 := ⟨rfl, rfl⟩)
  have z : ((o.kind : Int) == 0) = false := by simp; exact hk
  obtain ⟨a, ha⟩ : ∃ a, opP l o.cart = a := ⟨_, rfl⟩
  have e : cartP l o = ((findO l o.cart).isSome && (decide (a.kind = 0) && (decide (a.cart = o.cart) && a.before o))) := by
    unfold cartP
    rw [if_neg hk]
    cases h : findO l o.cart with
    | none => rfl
    | some b =>
      have hb : a = b := by rw [← ha, opP_some h]
      rw [opP_some h, hb, findO_dot h]
  rw [e]
  rw [ha] at hf
  rcases hi : (findO l o.cart).isSome with _ | _
  · (repeat (first | refine SW.seq ?_ | refine SW.block ?_ | refine SW.g2 [0, 1, 3, 4, 5, 6, 9] mixed (And.intro (z) (hi)) hf (rbefore_at a o) ?_ | refine SW.skip ?_ | refine SW.exit ?_ | refine SW.ret ?_ | refine SW.condT rfl ?_ | refine SW.condF rfl ?_))
    exact End.mk [] (h4 := ⟨rfl, rfl⟩)
  by_cases h1 : a.kind = 0
  rotate_left
  · have z1 : ((a.kind : Int) == 0) = false := by simp; exact h1
    (repeat (first | refine SW.seq ?_ | refine SW.block ?_ | refine SW.g2 [0, 1, 3, 4, 5, 6, 9] mixed (And.intro (z) (And.intro (hi) (z1))) hf (rbefore_at a o) ?_ | refine SW.skip ?_ | refine SW.exit ?_ | refine SW.ret ?_ | refine SW.condT rfl ?_ | refine SW.condF rfl ?_))
    exact End.mk [] (h4 := ⟨by rw [decide_eq_false h1]; rfl, rfl⟩)
  have z1 : ((a.kind : Int) == 0) = true := by rw [h1]; rfl
  rw [decide_eq_true h1]
  rcases h2 : decide (a.cart = o.cart) with _ | _
  · (repeat (first | refine SW.seq ?_ | refine SW.block ?_ | refine SW.g2 [0, 1, 3, 4, 5, 6, 9] mixed (And.intro (z) (And.intro (hi) (And.intro (z1) (h2)))) hf (rbefore_at a o) ?_ | refine SW.skip ?_ | refine SW.exit ?_ | refine SW.ret ?_ | refine SW.condT rfl ?_ | refine SW.condF rfl ?_))
    exact End.mk [] (h4 := ⟨rfl, rfl⟩)
  · (repeat (first | refine SW.seq ?_ | refine SW.block ?_ | refine SW.g2 [0, 1, 3, 4, 5, 6, 9] mixed (And.intro (z) (And.intro (hi) (And.intro (z1) (h2)))) hf (rbefore_at a o) ?_ | refine SW.skip ?_ | refine SW.exit ?_ | refine SW.ret ?_ | refine SW.condT rfl ?_ | refine SW.condF rfl ?_))
    exact End.mk [] (h4 := ⟨by simp only [Bool.true_and]; rfl, rfl⟩)
theorem cart17_at (o : OpD) (k : Nat) : SCd Tryz.prog ref17_cart.f [ops l, .agg o.cells] [] k 0 (bl (cartP l o)) [] := (cart17_ok l hl o).sc rfl k
variable (hr : ∀ x, x ∈ l → x.roles < 256)
include hr
set_option maxHeartbeats 4000000 in
theorem cred17_ok (d : Dt) (o : OpD) : Go.Sl.Pure Tryz.prog ref17_cred.f [ops l, .agg d.cells, .agg o.cells] (.tup [.agg (getR l 10 d).1.cells, bl (crdP l (newTr l).at_ d o)]) := by
  have hg := rGet_at (by omega) hr d
  have hb := b17_at l hl d o
  rw [crd_ref]
  obtain ⟨⟨c, is⟩, hc⟩ : ∃ p, getR l 10 d = p := ⟨_, rfl⟩
  rw [hc] at hg ⊢
  dsimp only at hg ⊢
  obtain ⟨bf, hbf⟩ : ∃ b, befP l d o = b := ⟨_, rfl⟩
  rw [hbf] at hb ⊢
  refine ref17_cred.enter (by first | rfl | simp [SV.ok, SV.oks]) (by first | rfl | simp [Hp.ok, Ob.ok, SV.ok, SV.oks, Vec.cells_ok]) (by simp) ?_
  dsimp only [ref17_cred.s, Co.M, Co.G, Co.J, Co.H, Co.N, Co.F, Co.C, Co.Z, Co.B, Co.b8, Co.b32, Co.b64, Co.i6, Co.z8, Co.z29]
  refine SW.seq ?_
  refine SW.g0 [0, 1, 2, 4, 5, 6, 7, 8, 9] mixed bq_tt ?_
  refine SW.seq ?_
  refine SW.g1 [0, 1, 2, 4, 5, 6, 7, 8, 9] mixed bq_tt hg ?_
  refine SW.seq ?_
  cases is with
  | false =>
    refine SW.g1 [0, 1, 2, 4, 5, 6, 7, 8, 9] mixed bq_tt hb ?_
    refine SW.ret ?_
    exact End.mk [] (h1 := by first | rfl | simp [rvV, lk, List.lookup, ldv]; rfl) (h4 := ⟨rfl, rfl⟩)
  | true =>
    rcases h2 : decide (c.cart = o.cart) with _ | _
    · refine SW.g1 [0, 1, 2, 4, 5, 6, 7, 8, 9] mixed (h2) hb ?_
      refine SW.ret ?_
      exact End.mk [] (h4 := ⟨rfl, rfl⟩)
    · refine SW.g1 [0, 1, 2, 4, 5, 6, 7, 8, 9] mixed (h2) hb ?_
      refine SW.ret ?_
      exact End.mk [] (h4 := ⟨by simp only [Bool.true_and]; rfl, rfl⟩)
theorem cred17_at (d : Dt) (o : OpD) (k : Nat) : SCd Tryz.prog ref17_cred.f [ops l, .agg d.cells, .agg o.cells] [] k 0 (.tup [.agg (getR l 10 d).1.cells, bl (crdP l (newTr l).at_ d o)]) [] := (cred17_ok l hl hr d o).sc rfl k
end
section
attribute [local irreducible] SW RW SCd SC CallP Pruned
theorem rneeds_ok (q : Nat) (hq : q ≤ 8) : Go.Sl.Pure Tryz.prog ref17_Needs.f [u8 q] (u8 (needsV q)) := by
  rcases (show q = 0 ∨ q = 1 ∨ q = 2 ∨ q = 3 ∨ q = 4 ∨ q = 5 ∨ q = 6 ∨ q = 7 ∨ q = 8 by omega) with rfl | rfl | rfl | rfl | rfl | rfl | rfl | rfl | rfl
  all_goals
    refine ref17_Needs.enter (by first | rfl | simp [SV.ok, SV.oks]) (by first | rfl | simp [Hp.ok, Ob.ok, SV.ok, SV.oks, Vec.cells_ok]) (by simp) ?_
    dsimp only [ref17_Needs.s, Co.M, Co.G, Co.J, Co.H, Co.N, Co.F, Co.C, Co.Z, Co.B, Co.b8, Co.b32, Co.b64, Co.i6, Co.z8, Co.z29]
    (repeat (first | refine SW.seq ?_ | refine SW.block ?_ | refine SW.g0 [0, 2, 3, 4, 7, 12] mixed bq_tt ?_ | refine SW.skip ?_ | refine SW.exit ?_ | refine SW.ret ?_ | refine SW.condT rfl ?_ | refine SW.condF rfl ?_))
    exact End.mk [] (h4 := ⟨rfl, rfl⟩)
theorem rneeds_at (q : Nat) (hq : q ≤ 8) (k : Nat) : SCd Tryz.prog ref17_Needs.f [u8 q] [] k 0 (u8 (needsV q)) [] := (rneeds_ok q hq).sc rfl k
end
section
attribute [local irreducible] SW RW SCd SC CallP Pruned needsV
variable (l : List OpD) (hl : l.length < 1000000000) (hr : ∀ x, x ∈ l → x.roles < 256)
include hl hr
set_option maxHeartbeats 8000000 in
theorem why17_ok (o : OpD) (ho : o.roles < 256) (t : Bool) (ht : ∀ k, SCd Tryz.prog ref17_target.f [ops l, .agg o.cells] [] k 0 (bl t) []) (h0 : o.kind = 0 → t = true) :
    Go.Sl.Pure Tryz.prog ref17_Why.f [ops l, .agg o.cells] (i64 (why0 l (newTr l).at_ (newTr l).made o t)) := by
  have hct := cart17_at l hl o
  have hcd := cred17_at l hl hr o.cred o
  refine ref17_Why.enter (by first | rfl | simp [SV.ok, SV.oks]) (by first | rfl | simp [Hp.ok, Ob.ok, SV.ok, SV.oks, Vec.cells_ok]) (by simp) ?_
  dsimp only [ref17_Why.s, Co.M, Co.G, Co.J, Co.H, Co.N, Co.F, Co.C, Co.Z, Co.B, Co.b8, Co.b32, Co.b64, Co.i6, Co.z8, Co.z29]
  refine SW.seq ?_
  refine SW.g0 [0, 1, 3, 4, 5, 6, 9, 13, 16, 26, 31, 39, 48, 52] mixed bq_tt ?_
  refine SW.seq (SW.seq ?_)
  by_cases h8 : (o.kind : Int) > 8
  · have e : why0 l (newTr l).at_ (newTr l).made o t = 2 := by unfold why0; rw [decide_eq_true h8]; rfl
    rw [e]
    have g := decide_eq_true h8
    (repeat (first | refine SW.seq ?_ | refine SW.block ?_ | refine SW.g0 [0, 1, 3, 4, 5, 6, 9, 13, 16, 26, 31, 39, 48, 52] mixed (g) ?_ | refine SW.skip ?_ | refine SW.exit ?_ | refine SW.ret ?_ | refine SW.condT rfl ?_ | refine SW.condF rfl ?_))
    exact End.mk [] (h4 := ⟨rfl, rfl⟩)
  have g8 := decide_eq_false h8
  refine SW.g0 [0, 1, 3, 4, 5, 6, 9, 13, 16, 26, 31, 39, 48, 52] mixed (g8) ?_
  refine SW.condF rfl (SW.skip ?_)
  refine SW.seq (SW.seq ?_)
  rcases hc : cartP l o with _ | _
  · have e : why0 l (newTr l).at_ (newTr l).made o t = 271 := by unfold why0; rw [g8, hc]; rfl
    rw [e]
    rw [hc] at hct
    (repeat (first | refine SW.seq ?_ | refine SW.block ?_ | refine SW.g1 [0, 1, 3, 4, 5, 6, 9, 13, 16, 26, 31, 39, 48, 52] mixed bq_tt hct ?_ | refine SW.skip ?_ | refine SW.exit ?_ | refine SW.ret ?_ | refine SW.condT rfl ?_ | refine SW.condF rfl ?_))
    exact End.mk [] (h4 := ⟨rfl, rfl⟩)
  rw [hc] at hct
  refine SW.g1 [0, 1, 3, 4, 5, 6, 9, 13, 16, 26, 31, 39, 48, 52] mixed bq_tt hct ?_
  refine SW.condF rfl (SW.skip ?_)
  refine SW.seq (SW.seq ?_)
  by_cases hk0 : o.kind = 0
  · have z : ((o.kind : Int) == 0) = true := by rw [hk0]; rfl
    have e : why0 l (newTr l).at_ (newTr l).made o t = 0 := by
      unfold why0
      rw [g8, hc, z, hk0, roleB_zero, h0 hk0]; rfl
    rw [e]
    (repeat (first | refine SW.seq ?_ | refine SW.block ?_ | refine SW.g0 [0, 1, 3, 4, 5, 6, 9, 13, 16, 26, 31, 39, 48, 52] mixed (z) ?_ | refine SW.skip ?_ | refine SW.exit ?_ | refine SW.ret ?_ | refine SW.condT rfl ?_ | refine SW.condF rfl ?_))
    exact End.mk [] (h4 := ⟨rfl, rfl⟩)
  have z : ((o.kind : Int) == 0) = false := by simp; exact hk0
  refine SW.g0 [0, 1, 3, 4, 5, 6, 9, 13, 16, 26, 31, 39, 48, 52] mixed (z) ?_
  refine SW.condF rfl (SW.skip ?_)
  refine SW.seq ?_
  rcases hd : crdP l (newTr l).at_ o.cred o with _ | _
  · have e : why0 l (newTr l).at_ (newTr l).made o t = 272 := by unfold why0; rw [g8, hc, z, hd]; rfl
    rw [e]
    rw [hd] at hcd
    refine SW.g1 [0, 1, 3, 4, 5, 6, 9, 13, 16, 26, 31, 39, 48, 52] mixed bq_tt hcd ?_
    (repeat (first | refine SW.seq ?_ | refine SW.block ?_ | refine SW.g0 [0, 1, 3, 4, 5, 6, 9, 13, 16, 26, 31, 39, 48, 52] mixed bq_tt ?_ | refine SW.skip ?_ | refine SW.exit ?_ | refine SW.ret ?_ | refine SW.condT rfl ?_ | refine SW.condF rfl ?_))
    exact End.mk [] (h4 := ⟨rfl, rfl⟩)
  rw [hd, crd_get hd] at hcd
  obtain ⟨c, hcr⟩ : ∃ c, (MM.get (newTr l).at_ o.cred).getD Cr.zero = c := ⟨_, rfl⟩
  rw [hcr] at hcd
  refine SW.g1 [0, 1, 3, 4, 5, 6, 9, 13, 16, 26, 31, 39, 48, 52] mixed bq_tt hcd ?_
  refine SW.seq (SW.seq ?_)
  refine SW.g0 [0, 1, 3, 4, 5, 6, 9, 13, 16, 26, 31, 39, 48, 52] mixed bq_tt ?_
  refine SW.condF rfl (SW.skip ?_)
  refine SW.seq (SW.seq ?_)
  rcases hh : ((c.hold : Int) != (o.who : Int)) with _ | _
  rotate_left
  · have e : why0 l (newTr l).at_ (newTr l).made o t = 273 := by unfold why0; rw [g8, hc, z, hd, hcr, hh]; rfl
    rw [e]
    (repeat (first | refine SW.seq ?_ | refine SW.block ?_ | refine SW.g0 [0, 1, 3, 4, 5, 6, 9, 13, 16, 26, 31, 39, 48, 52] mixed (hh) ?_ | refine SW.skip ?_ | refine SW.exit ?_ | refine SW.ret ?_ | refine SW.condT rfl ?_ | refine SW.condF rfl ?_))
    exact End.mk [] (h4 := ⟨rfl, rfl⟩)
  refine SW.g0 [0, 1, 3, 4, 5, 6, 9, 13, 16, 26, 31, 39, 48, 52] mixed (hh) ?_
  refine SW.condF rfl (SW.skip ?_)
  refine SW.seq (SW.seq ?_)
  have hk8 : o.kind ≤ 8 := by omega
  obtain ⟨hq1, hq2⟩ := role_val (c := c) hk0 hk8
  have hn := rneeds_at o.kind hk8
  obtain ⟨nv, hnv⟩ : ∃ nv, needsV o.kind = nv := ⟨_, rfl⟩
  rw [hnv] at hq1 hq2 hn
  rcases hb : roleB c o.kind with _ | _
  rotate_left
  · have e : why0 l (newTr l).at_ (newTr l).made o t = 274 := by unfold why0; rw [g8, hc, z, hd, hcr, hh, hb]; rfl
    rw [e]
    rw [hb] at hq1
    refine SW.g1 [0, 1, 3, 4, 5, 6, 9, 13, 16, 26, 31, 39, 48, 52] mixed (hq1) hn ?_
    (repeat (first | refine SW.seq ?_ | refine SW.block ?_ | refine SW.g0 [0, 1, 3, 4, 5, 6, 9, 13, 16, 26, 31, 39, 48, 52] mixed bq_tt ?_ | refine SW.skip ?_ | refine SW.exit ?_ | refine SW.ret ?_ | refine SW.condT rfl ?_ | refine SW.condF rfl ?_))
    exact End.mk [] (h4 := ⟨rfl, rfl⟩)
  rw [hb] at hq1
  refine SW.g1 [0, 1, 3, 4, 5, 6, 9, 13, 16, 26, 31, 39, 48, 52] mixed (hq1) hn ?_
  refine SW.condF rfl (SW.skip ?_)
  refine SW.seq (SW.seq ?_)
  have hw := rWhy_at (by omega) hr o ho
  have hti := twhy_is l o
  rw [← hti] at hw
  obtain ⟨w, hww⟩ : ∃ w, twhyP (newTr l).at_ (newTr l).made o = w := ⟨_, rfl⟩
  rw [hww] at hw
  by_cases h1 : o.kind = 1
  · have z1 : ((o.kind : Int) == 1) = true := by rw [h1]; rfl
    by_cases hw0 : w = 0
    rotate_left
    · have zw : ((w : Int) != 0) = true := by simp; exact hw0
      have e : why0 l (newTr l).at_ (newTr l).made o t = 275 := by
        unfold why0; rw [g8, hc, z, hd, hcr, hh, hb, hww, decide_eq_true h1, decide_eq_true hw0]; rfl
      rw [e]
      refine SW.g1 [0, 1, 3, 4, 5, 6, 9, 13, 16, 26, 31, 39, 48, 52] mixed (And.intro (z1) (zw)) hw ?_
      (repeat (first | refine SW.seq ?_ | refine SW.block ?_ | refine SW.g0 [0, 1, 3, 4, 5, 6, 9, 13, 16, 26, 31, 39, 48, 52] mixed bq_tt ?_ | refine SW.skip ?_ | refine SW.exit ?_ | refine SW.ret ?_ | refine SW.condT rfl ?_ | refine SW.condF rfl ?_))
      exact End.mk [] (h4 := ⟨rfl, rfl⟩)
    have zw : ((w : Int) != 0) = false := by simp; exact hw0
    have e : why0 l (newTr l).at_ (newTr l).made o t = if !t then 276 else 0 := by
      unfold why0; rw [g8, hc, z, hd, hcr, hh, hb, hww, decide_eq_true h1, decide_eq_false (fun h => h hw0)]; rfl
    rw [e]
    refine SW.g1 [0, 1, 3, 4, 5, 6, 9, 13, 16, 26, 31, 39, 48, 52] mixed (And.intro (z1) (zw)) hw ?_
    refine SW.condF rfl (SW.skip ?_)
    cases t
    · (repeat (first | refine SW.seq ?_ | refine SW.block ?_ | refine SW.g1 [0, 1, 3, 4, 5, 6, 9, 13, 16, 26, 31, 39, 48, 52] mixed bq_tt ht ?_ | refine SW.skip ?_ | refine SW.exit ?_ | refine SW.ret ?_ | refine SW.condT rfl ?_ | refine SW.condF rfl ?_))
      exact End.mk [] (h4 := ⟨rfl, rfl⟩)
    · (repeat (first | refine SW.seq ?_ | refine SW.block ?_ | refine SW.g1 [0, 1, 3, 4, 5, 6, 9, 13, 16, 26, 31, 39, 48, 52] mixed bq_tt ht ?_ | refine SW.skip ?_ | refine SW.exit ?_ | refine SW.ret ?_ | refine SW.condT rfl ?_ | refine SW.condF rfl ?_))
      exact End.mk [] (h4 := ⟨rfl, rfl⟩)
  have z1 : ((o.kind : Int) == 1) = false := by simp; omega
  have e : why0 l (newTr l).at_ (newTr l).made o t = if !t then 276 else 0 := by
    unfold why0; rw [g8, hc, z, hd, hcr, hh, hb, decide_eq_false h1]; rfl
  rw [e]
  refine SW.g0 [0, 1, 3, 4, 5, 6, 9, 13, 16, 26, 31, 39, 48, 52] mixed (z1) ?_
  refine SW.condF rfl (SW.skip ?_)
  cases t
  · (repeat (first | refine SW.seq ?_ | refine SW.block ?_ | refine SW.g1 [0, 1, 3, 4, 5, 6, 9, 13, 16, 26, 31, 39, 48, 52] mixed bq_tt ht ?_ | refine SW.skip ?_ | refine SW.exit ?_ | refine SW.ret ?_ | refine SW.condT rfl ?_ | refine SW.condF rfl ?_))
    exact End.mk [] (h4 := ⟨rfl, rfl⟩)
  · (repeat (first | refine SW.seq ?_ | refine SW.block ?_ | refine SW.g1 [0, 1, 3, 4, 5, 6, 9, 13, 16, 26, 31, 39, 48, 52] mixed bq_tt ht ?_ | refine SW.skip ?_ | refine SW.exit ?_ | refine SW.ret ?_ | refine SW.condT rfl ?_ | refine SW.condF rfl ?_))
    exact End.mk [] (h4 := ⟨rfl, rfl⟩)
end
end Go.Proofs.YtlgfknfdfnaedaaGreat
