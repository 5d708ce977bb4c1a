/-
  Rows that are not too great have no long row of lines.
-/
import Derived.Test.YtlgfknfdfnaedaaUJ
import Derived.Test.YtlgfknfdfnaedaaUE
import Derived.Test.YtlgfknfdfnaedaaU6
import Derived.Test.YtlgfknfdfnaedaaUK
import Derived.Test.YtlgfknfdfnaedaaU5
set_option linter.unusedSectionVars false
set_option linter.unusedVariables false
set_option linter.unusedSimpArgs false
namespace Go.Proofs.Ytlgfknfdfnaedaa
open Go.Sl Go.Proofs
theorem linesTo_short {l : List OpD} (hl : l.length ≤ 80) (hd : ∀ o, o ∈ l → o.lin ∧ o.cl.length ≤ 140737488351232) : ∀ i, i ≤ l.length → 0 ≤ linesTo l i ∧ linesTo l i ≤ i * 140737488351232 ∧ ∀ j, j < i → ∀ o, l[j]? = some o → (o.cl.length : Int) ≤ linesTo l i
  | 0, _ => ⟨Int.le_refl _, by simp [linesTo], fun j h => by omega⟩
  | i + 1, hi => by
    obtain ⟨h1, h2, h3⟩ := linesTo_short hl hd i (by omega)
    obtain ⟨x, hx⟩ := get_of_lt (show i < l.length by omega)
    obtain ⟨k1, k2⟩ := hd x (List.mem_of_getElem? hx)
    have hn : nlines x = x.cl.length := by unfold nlines; rw [k1.eq]
    have e : linesTo l (i + 1) = linesTo l i + (x.cl.length : Int) := by
      simp only [linesTo, hx, Option.map_some, Option.getD_some, hn]
      exact wrap_i64 _ (by omega)
    rw [e]
    refine ⟨by omega, by omega, fun j hj o ho => ?_⟩
    by_cases hji : j = i
    · subst hji; rw [hx] at ho; cases ho; omega
    · have := h3 j (by omega) o ho; omega
theorem great_short {l : List OpD} (h : greatV l = false) (hd : ∀ o, o ∈ l → o.lin ∧ o.cl.length ≤ 140737488351232) : ∀ o, o ∈ l → o.cl.length ≤ 1048576 := fun o ho => by
  have hl := great_len h
  unfold greatV at h
  simp only [Bool.or_eq_false_iff, decide_eq_false_iff_not] at h
  obtain ⟨i, hi, rfl⟩ := List.getElem_of_mem ho
  have := (linesTo_short hl hd l.length (Nat.le_refl _)).2.2 i hi _ (List.getElem?_eq_getElem hi)
  rw [show min l.length 100 = l.length by omega] at h
  omega
end Go.Proofs.Ytlgfknfdfnaedaa
namespace Go.Proofs.Ytlgfknfdfnaedaa
open Go.Sl Go.Proofs
section
variable {l : List OpD} {o : OpD} (hw : whyL l o = 0)
include hw
theorem names_cred (hk : o.kind ≠ 0) : ∃ c, MM.get (newTr l).at_ o.cred = some c ∧ c.cart = o.cart ∧ c.hold = o.who ∧ roleB c o.kind = false := by
  unfold whyL whyP at hw
  obtain ⟨_, _, h3, _, _⟩ := why0_iff.1 hw
  obtain ⟨e1, e2, e3⟩ := h3 hk
  obtain ⟨c, a, h1, _, _, _, h5⟩ := crdP_iff.1 e1
  rw [h1] at e2 e3
  exact ⟨c, h1, h5, Int.ofNat_inj.1 e2, e3⟩
theorem names_kind : o.kind ≤ 8 := by
  unfold whyL whyP at hw
  have := (why0_iff.1 hw).1
  omega
theorem names_tgt : tgtP l (newTr l).at_ (newTr l).made o (aboveR (newTr l).at_ o.cred o.at_ (upsL (newTr l).at_ o.at_)) = true := by
  unfold whyL whyP at hw
  exact (why0_iff.1 hw).2.2.2.2
theorem names_above (hk : o.kind = 2) : aboveR (newTr l).at_ o.cred o.at_ (upsL (newTr l).at_ o.at_) = true := by
  have := names_tgt hw
  unfold tgtP at this
  rw [if_pos hk, Bool.and_eq_true] at this
  exact this.2
theorem names_clm (hk : o.kind = 6 ∨ o.kind = 7) : clmP l (newTr l).at_ (newTr l).made ⟨o.at_, o.ver⟩ o = true := by
  have := names_tgt hw
  unfold tgtP at this
  rwa [if_neg (by omega), if_neg (by omega), if_pos hk] at this
theorem names_line (hk : 4 ≤ o.kind ∧ o.kind ≤ 7) : lineP l (newTr l).at_ (newTr l).made o.at_ o = true := by
  by_cases h : o.kind = 4 ∨ o.kind = 5
  · have := names_tgt hw
    unfold tgtP at this
    rwa [if_neg (by omega), if_pos h] at this
  · exact (clmP_iff.1 (names_clm hw (by omega))).1
theorem names_lines (hk : o.kind = 8) {c : Cm} (hc : c ∈ o.cl) : clmP l (newTr l).at_ (newTr l).made c o = true := by
  have := names_tgt hw
  unfold tgtP at this
  rw [if_neg (by omega), if_neg (by omega), if_neg (by omega), if_pos hk] at this
  simp only [Bool.not_eq_true', List.any_eq_false, Bool.not_eq_true, Bool.not_eq_false] at this
  exact this c hc
end
theorem line_add {l : List OpD} {d : Dt} {o : OpD} (hl : lineP l (newTr l).at_ (newTr l).made d o = true) : ∃ a, findO l d = some a ∧ a.kind = 3 ∧ a.cart = o.cart ∧ whyL l a = 0 := by
  rw [lineP_look, Bool.and_eq_true] at hl
  obtain ⟨a, h1, h2, h3⟩ := look_some hl.2
  have h4 := hl.1
  unfold addP at h4
  rw [h1] at h4
  simp only [Bool.and_eq_true, decide_eq_true_eq] at h4
  refine ⟨a, h1, h4.1, h3, ?_⟩
  unfold whyL whyP
  have : tgtP l (newTr l).at_ (newTr l).made a (aboveR (newTr l).at_ a.cred a.at_ (upsL (newTr l).at_ a.at_)) = true := by
    unfold tgtP
    rw [if_neg (by omega), if_neg (by omega), if_neg (by omega), if_neg (by omega)]
  rw [this]
  exact h4.2
theorem role_div {r i : Nat} (h : r &&& 2 ^ i = 2 ^ i) : r / 2 ^ i % 2 = 1 := by
  have h1 : (r &&& 2 ^ i).testBit i = true := by rw [h, Nat.testBit_two_pow_self]
  rw [Nat.testBit_and, Bool.and_eq_true] at h1
  have := h1.1
  rw [Nat.testBit_eq_decide_div_mod_eq] at this
  simpa using this
end Go.Proofs.Ytlgfknfdfnaedaa
namespace Go.Proofs.Ytlgfknfdfnaedaa
open Go.Sl Go.Proofs
def versL (lns : MM Dt Dt) (d : Dt) : List Dt := d :: ((lns.filter fun x => decide (x.2.2 = d)).map (·.2.1))
theorem mem_versL {lns : MM Dt Dt} (hk : (MM.keys lns).Nodup) {d v : Dt} : v ∈ versL lns d ↔ v = d ∨ MM.get lns v = some d := by
  unfold versL
  rw [List.mem_cons, List.mem_map]
  constructor
  · rintro (h | ⟨x, hx, rfl⟩)
    · exact .inl h
    · obtain ⟨h1, h2⟩ := List.mem_filter.1 hx
      rw [mem_get hk h1]
      exact .inr (congrArg some (of_decide_eq_true h2))
  · rintro (h | h)
    · exact .inl h
    · obtain ⟨x, hx, e1, e2⟩ := get_mem h
      exact .inr ⟨x, List.mem_filter.2 ⟨hx, by simp [e2]⟩, e1⟩
theorem ShOk.vers {l : List OpD} {S : Sh} (h : ShOk l S) {c : Cm} {o : OpD} (hc : clmP l (newTr l).at_ (newTr l).made c o = true) : 0 < (MM.get S.adds c.line).getD 0 ∧ c.ver ∈ Dt.set (versL S.lns c.line) := by
  obtain ⟨h1, h2⟩ := clmP_iff.1 hc
  have ha := h.add c.line
  rw [h.base.tr, h.base.md] at ha
  rw [lineP_look, Bool.and_eq_true] at h1
  rw [h1.1] at ha
  refine ⟨by simpa using ha, ?_⟩
  rw [Dt.mem_set, mem_versL h.lns.1.keys]
  rcases h2 with h2 | ⟨h2, _⟩
  · exact .inl h2
  · refine .inr ?_
    rw [h.set, h.base.tr, h.base.md]
    exact h2
end Go.Proofs.Ytlgfknfdfnaedaa
namespace Go.Proofs.Ytlgfknfdfnaedaa
open Go.Sl Go.Proofs
theorem shM (S : Sh) : ((∀ q : Nat → Bool, ((mapE Dt.cells ov S.ops).all fun e => e.2.1.ok q && e.2.2.ok q) = true) ∧ (∀ q : Nat → Bool, ((mapE Dt.cells iv S.adds).all fun e => e.2.1.ok q && e.2.2.ok q) = true) ∧ (∀ q : Nat → Bool, ((mapE Dt.cells dv S.lns).all fun e => e.2.1.ok q && e.2.2.ok q) = true) ∧ (∀ q : Nat → Bool, ((mapE Dt.cells cv S.tr).all fun e => e.2.1.ok q && e.2.2.ok q) = true) ∧ (∀ q : Nat → Bool, ((mapE Dt.cells ov S.md).all fun e => e.2.1.ok q && e.2.2.ok q) = true)) ∧
    (∀ r : Nat → Nat, (mapE Dt.cells ov S.ops).map (fun e => (e.1, e.2.1.ren r, e.2.2.ren r)) = mapE Dt.cells ov S.ops) ∧ (∀ r : Nat → Nat, (mapE Dt.cells iv S.adds).map (fun e => (e.1, e.2.1.ren r, e.2.2.ren r)) = mapE Dt.cells iv S.adds) ∧ (∀ r : Nat → Nat, (mapE Dt.cells dv S.lns).map (fun e => (e.1, e.2.1.ren r, e.2.2.ren r)) = mapE Dt.cells dv S.lns) ∧ (∀ r : Nat → Nat, (mapE Dt.cells cv S.tr).map (fun e => (e.1, e.2.1.ren r, e.2.2.ren r)) = mapE Dt.cells cv S.tr) ∧ (∀ r : Nat → Nat, (mapE Dt.cells ov S.md).map (fun e => (e.1, e.2.1.ren r, e.2.2.ren r)) = mapE Dt.cells ov S.md) :=
  ⟨shF S, fun r => omap_ren r S.ops, fun r => dmap_ren r S.adds, fun r => dvmap_ren r S.lns, fun r => cmap_ren r S.tr, fun r => omap_ren r S.md⟩
theorem versL_snoc (xs : MM Dt Dt) (x : Nat × Dt × Dt) (d : Dt) : versL (xs ++ [x]) d = if x.2.2 = d then versL xs d ++ [x.2.1] else versL xs d := by
  unfold versL
  rw [List.filter_append]
  by_cases h : x.2.2 = d <;> simp [h]
theorem versL_len (xs : MM Dt Dt) (d : Dt) : (versL xs d).length ≤ xs.length + 1 := by
  unfold versL
  rw [List.length_cons, List.length_map]
  have := List.length_filter_le (fun x : Nat × Dt × Dt => decide (x.2.2 = d)) xs
  omega
theorem versL_set {l xs : MM Dt Dt} (h : ∀ x, x ∈ xs ↔ x ∈ l) (d : Dt) : Dt.set (versL xs d) = Dt.set (versL l d) :=
  Dt.rises_unique (Dt.set_rises _) (Dt.set_rises _) fun v => by
    rw [Dt.mem_set, Dt.mem_set]
    unfold versL
    simp only [List.mem_cons, List.mem_map, List.mem_filter, h]
theorem Weak.up {k0 : Nat} {st st1 : St} {ρ : Nat → Nat} (h : Weak 0 st st1 ρ) (hk : k0 ≤ st1.k) (hr : ∀ n, n < k0 → ρ n = n) : Weak k0 st st1 ρ := ⟨hk, hr, h.2.2⟩
theorem dv_e (d : Dt) : dv d = .agg d.cells := rfl
theorem litO {P : Program} {env : List (Nat × SV)} {hp : Hp} {k d p : Nat} {r : List SI} {K : St → List (Bool × List Nat) → Prop} {a : Dt}
    (ha : env.lookup p = some (.agg a.cells)) (hk : hset hp k (.arr 31 2 1 a.cells) = (k, .arr 31 2 1 a.cells) :: hp)
    (h : RW P r ⟨(d, .gs k 1) :: env, (k, .arr 31 2 1 a.cells) :: hp, k + 1⟩ fun st' ts => K st' ((false, [k]) :: ts)) : RW P (⟨some d, .bsl 31 2 1 [.d (.int .u8 0), .d (.int .u32 0)] [(0, 2, .t p)], none⟩ :: r) ⟨env, hp, k⟩ K := by
  refine RW.cons (e := ⟨.gs k 1, [], [(k, .arr 31 2 1 a.cells)], 1, ((2 = 2 ∧ 0 + 2 ≤ 2 ∧ True))⟩) (fun crs => ⟨.own :: crs, runOp_some (.inl rfl) ?_⟩) (by show 2 = 2 ∧ 0 + 2 ≤ 2 ∧ True; decide) ?_
  · have h1 : evp (fun t => env.lookup t) [(0, 2, X.t p)] = some [(0, 2, .agg a.cells)] := by
      simp only [evp, ev, ha]
    have h2 : bldS [SV.d (.int .u8 0), .d (.int .u32 0)] [(0, 2, .agg a.cells)] = some (a.cells, ((2 = 2 ∧ 0 + 2 ≤ 2 ∧ True))) := rfl
    have h4 : a.cells.all SV.isOne = true := rfl
    simp only [goOp, sop, h1, h2, h4, if_true, Bool.true_or]
  · rw [upd_eq]
    show RW P r ⟨(d, .gs k 1) :: env, hset hp k (.arr 31 2 1 a.cells), k + 1⟩ _
    rw [hk]; exact h
section
attribute [local irreducible] SW RW SCd SC CallP Pruned
theorem stree_sb (S : Sh) : SB Try.prog shape_Shape_Tree.f [.ptr 0 0] S.h0 7 0 fun r F => r = .ptr 4 0 ∧ F = S.h0 := by
  refine shape_Shape_Tree.enter (by simp [SV.oks, SV.ok]) (S.ok (Nat.le_refl 7)) (by simp) ?_
  dsimp only [shape_Shape_Tree.s, Co.M, Co.G, Co.J, Co.H, Co.N, Co.F, Co.C, Co.Z, Co.B, Co.b8, Co.b32, Co.b64, Co.i6, Co.z8, Co.z29]
  (repeat (first | refine SW.seq ?_ | refine SW.block ?_ | refine SW.g1 [0, 2, 4] mixed bq_tt (snone_0 S) ?_ | refine SW.skip ?_ | refine SW.exit ?_ | refine SW.ret ?_ | refine SW.condT rfl ?_ | refine SW.condF rfl ?_))
  exact End.mk S.h0 (h4 := ⟨rfl, rfl⟩) (h6 := S.ok (Nat.le_refl 7))
theorem ShOk.stree10 (S : Sh) (k : Nat) : SCd Try.prog shape_Shape_Tree.f [.ptr 10 0] S.h10 k 0 (.ptr 2 0) S.h10 := by
  have := SB.atL n10.nl (stree_sb S) (by decide) (fun i hi => S.h0_ne i hi) k
  rw [S.hp_ren n10 k] at this
  exact this
def versV (S : Sh) (d : Dt) : SV := if 0 < (MM.get S.adds d).getD 0 then dots (Dt.set (versL S.lns d)) else .d .nils
set_option maxHeartbeats 4000000 in
theorem svers_sb (S : Sh) (hwf : MM.wf S.lns S.cl) (hA : ∀ d v, MM.get S.adds d = some v → v = 1) (hlen : S.lns.length < 100000000) (d : Dt) :
    SB Try.prog shape_Shape_Versions.f [.ptr 0 0, .agg d.cells] S.h0 7 0 fun r F => r = versV S d ∧ F = S.h0 := by
  refine shape_Shape_Versions.enter (by simp [SV.oks, SV.ok]) (S.ok (Nat.le_refl 7)) (by simp) ?_
  dsimp only [shape_Shape_Versions.s, Co.M, Co.G, Co.J, Co.H, Co.N, Co.F, Co.C, Co.Z, Co.B, Co.b8, Co.b32, Co.b64, Co.i6, Co.z8, Co.z29]
  have hn := snone_0 S
  have hv : (MM.get S.adds d).getD 0 = 0 ∨ (MM.get S.adds d).getD 0 = 1 := by
    cases h : MM.get S.adds d with
    | none => exact .inl rfl
    | some v => exact .inr (hA d v h)
  refine SW.seq ?_
  refine SW.g0 [0, 1, 3, 4, 5, 6, 7, 18, 25, 27, 33] mixed bq_tt ?_
  refine SW.seq (SW.seq ?_)
  rcases hv with hv | hv
  · refine SW.g1 [0, 1, 3, 4, 5, 6, 7, 18, 25, 27, 33] mixed (hv) hn ?_
    refine SW.condT rfl (SW.seq ?_)
    refine SW.g0 [0, 1, 3, 4, 5, 6, 7, 18, 25, 27, 33] mixed bq_tt ?_
    refine SW.ret ?_
    exact End.mk S.h0 (h4 := ⟨by unfold versV; rw [hv]; rfl, rfl⟩) (h6 := S.ok (Nat.le_refl 7))
  refine SW.g1 [0, 1, 3, 4, 5, 6, 7, 18, 25, 27, 33] mixed (hv) hn ?_
  refine SW.condF rfl (SW.skip ?_)
  refine SW.seq ?_
  (refine SW.regL [0, 1, 3, 4, 5, 6, 7, 18, 25, 27, 33] mixed ?_; (repeat (first | refine litO rfl rfl (h := ?_) | refine RW.ro bq_tt (h := ?_) | refine RW.skip (h := ?_) | refine RW.op bq_tt (h := ?_) | refine RW.opN bq_tt (h := ?_) | refine RW.skip0 (h := ?_))); refine RW.nil ⟨conf_of (by kernel_rfl), Pruned.mk (h := ?_)⟩)
  refine SW.seq (SW.seq ?_)
  refine SW.g0 [0, 1, 3, 4, 5, 6, 7, 18, 25, 27, 33] mixed bq_tt ?_
  refine SW.block ?_
  refine SW.mapLoop (es := fun _ => mapE Dt.cells dv S.lns) (c := fun _ => S.cl) (nit := fun _ => 9) (nm := fun _ => 3) (since := fun _ => S.cl) (sst := fun _ => S.cl)
    (α := {xs : MM Dt Dt // (∀ x, x ∈ xs → x ∈ S.lns) ∧ (xs.map (·.1)).Nodup})
    (fun p => ⟨[(25, .it 9), (5, .gs 8 (versL p.1 d).length), (3, .ptr 7 0)], (9, .iter (some 3) S.cl (p.1.map (·.1)) S.cl) :: (8, .arr 31 2 (versL p.1 d).length (((versL p.1 d).flatMap Dt.ds).map .d)) :: (7, .box 31 d.cells) :: S.h0, 10⟩)
    (fun p => unseen (mapE Dt.cells dv S.lns) (p.1.map (·.1))) ⟨[], by simp, by simp⟩ id (seen := fun p => p.1.map (·.1)) ?_ (fun p => by simp [List.lookup]) (fun p => by simp [lk_cons]) (fun p => by simp [lk_cons]) (fun p => by decide) (fun p e he => ?_) (fun p => Nat.le_refl _) (fun p hall => ?_) (fun p e he hs => ?_)
  · exact Weak.mk (And.intro (And.intro (show versL [] d = [d] from rfl) (Dt.map_ds d)) (shM S))
  · obtain ⟨x, hx, rfl⟩ := mapE_mem he
    exact hwf.old x hx
  · obtain ⟨xs, p1, p2⟩ := p
    dsimp only at *
    have hxs : ∀ x, x ∈ xs ↔ x ∈ S.lns := fun x => ⟨p1 x, fun hx => by
      have := hall _ (List.mem_map.2 ⟨x, hx, rfl⟩)
      simp only [List.contains_iff_mem] at this
      obtain ⟨z, hz, e⟩ := List.mem_map.1 this
      rw [← MM.time_inj hwf.times (p1 z hz) hx e]; exact hz⟩
    refine ⟨⟨[(5, .gs 8 (versL xs d).length)], (8, .arr 31 2 (versL xs d).length (((versL xs d).flatMap Dt.ds).map .d)) :: S.h0, 9⟩, id, Weak.mk (shM S), ?_⟩
    rw [if_pos rfl]
    refine SW.freeze 8 ((versL xs d).flatMap Dt.ds) rfl rfl ?_
    simp only [frzE, SV.frz, List.map_cons, List.map_nil, if_true, if_false, reduceIte, hdel, Nat.reduceEqDiff]
    have hs := sort_at (versL xs d) (by
      have h1 := versL_len xs d
      have h2 := p2.length_le_of_subset (l₂ := S.lns.map (·.1)) (fun t ht => by
        obtain ⟨x, hx, rfl⟩ := List.mem_map.1 ht
        exact List.mem_map.2 ⟨x, p1 x hx, rfl⟩)
      simp only [List.length_map] at h2
      omega)
    refine SW.seq ?_
    refine SW.g1 [0, 1, 3, 4, 5, 6, 7, 18, 25, 27, 33] mixed bq_tt hs ?_
    refine SW.ret ?_
    exact End.mk S.h0 (h4 := ⟨by unfold versV; rw [hv, if_pos (by decide), ← versL_set hxs d]; rfl, rfl⟩) (h6 := S.ok (by decide))
  · obtain ⟨xs, p1, p2⟩ := p
    dsimp only at *
    obtain ⟨x, hx, rfl⟩ := mapE_mem he
    dsimp only at hs
    have g5 : (xs.map (·.1) ++ [x.1]).getLast? = some x.1 := by simp
    have g6 := mapE_find (kc := Dt.cells) (vs := dv) hwf.times hx
    have hxt : x.1 ∉ xs.map (·.1) := fun h => by
      have : (xs.map (·.1)).contains x.1 = true := by simpa only [List.contains_iff_mem] using h
      rw [this] at hs; cases hs
    have q1 : ∀ z, z ∈ xs ++ [x] → z ∈ S.lns := fun z hz => by
      rcases List.mem_append.1 hz with hz | hz
      · exact p1 z hz
      · rw [List.mem_singleton.1 hz]; exact hx
    have q2 : ((xs ++ [x]).map (·.1)).Nodup := by
      rw [List.map_append, List.nodup_append]
      refine ⟨p2, by simp, fun a ha b' hb' => ?_⟩
      simp only [List.map_cons, List.map_nil, List.mem_singleton] at hb'
      intro e
      exact hxt (by rw [← hb', ← e]; exact ha)
    have em : (xs ++ [x]).map (·.1) = xs.map (·.1) ++ [x.1] := by simp
    have hm := unseen_lt he hs
    have hsn := versL_snoc xs x d
    have hsl : (versL xs d).length ≤ 100000000 := by
      have h1 := versL_len xs d
      have h2 := p2.length_le_of_subset (l₂ := S.lns.map (·.1)) (fun t ht => by
        obtain ⟨x, hx, rfl⟩ := List.mem_map.1 ht
        exact List.mem_map.2 ⟨x, p1 x hx, rfl⟩)
      simp only [List.length_map] at h2
      omega
    generalize versL xs d = s at hsn hsl ⊢
    rw [hset_head]
    refine SW.block (SW.seq ?_)
    refine SW.g0 [0, 1, 3, 4, 5, 6, 7, 18, 25, 27, 33] mixed (And.intro (g5) (And.intro (g6) (dv_e))) ?_
    refine SW.seq ?_
    by_cases h3 : x.2.2 = d
    · have z3 : decide (x.2.2 = d) = true := decide_eq_true h3
      rw [if_pos h3] at hsn
      refine SW.g0 [0, 1, 3, 4, 5, 6, 7, 18, 25, 27, 33] mixed (z3) ?_
      refine SW.condT rfl ?_
      refine SW.g0 [0, 1, 3, 4, 5, 6, 7, 18, 25, 27, 33] mixed bq_tt ?_
      have e5 : (s ++ [x.2.1]).length = s.length + [x.2.1].length := by simp
      have e6 : List.map SV.d ((s ++ [x.2.1]).flatMap Dt.ds) = List.map SV.d (s.flatMap Dt.ds) ++ List.map SV.d ([x.2.1].flatMap Dt.ds) := by simp
      refine ⟨⟨xs ++ [x], q1, q2⟩, fun n => if n = 8 then 12 else n, by rw [em]; exact hm, ?_⟩
      dsimp only
      rw [hsn, em]
      exact Weak.up (Weak.mk (And.intro (And.intro e5 e6) (shM S))) (by show 7 ≤ 10; decide) (fun n hn => if_neg (by omega))
    · have z3 : decide (x.2.2 = d) = false := decide_eq_false h3
      rw [if_neg h3] at hsn
      refine SW.g0 [0, 1, 3, 4, 5, 6, 7, 18, 25, 27, 33] mixed (z3) ?_
      refine SW.condF rfl (SW.skip ?_)
      refine ⟨⟨xs ++ [x], q1, q2⟩, id, by rw [em]; exact hm, ?_⟩
      dsimp only
      rw [hsn, em]
      exact Weak.mk (shM S)
end
end Go.Proofs.Ytlgfknfdfnaedaa
namespace Go.Proofs.Ytlgfknfdfnaedaa
open Go.Sl Go.Proofs
theorem ShOk.lns_len {l : List OpD} {S : Sh} (h : ShOk l S) : S.lns.length ≤ l.length := by
  have := h.lns.1.keys.length_le_of_subset (l₂ := l.map (·.dot)) fun d hd => by
    obtain ⟨x, hx, rfl⟩ := List.mem_map.1 hd
    have h1 := mem_get h.lns.1.keys hx
    obtain ⟨y, hy, e, _⟩ := (h.lns.2 _ _).1 h1
    have h2 := mem_get h.base.ops.wf.keys hy
    rw [e, h.base.ops.get] at h2
    obtain ⟨h3, h4⟩ := findO_some h2
    exact List.mem_map.2 ⟨_, h3, h4⟩
  simpa [MM.keys] using this
theorem ShOk.adds1 {l : List OpD} {S : Sh} (h : ShOk l S) : ∀ d v, MM.get S.adds d = some v → v = 1 := fun d v hv => ((h.adds.2 d v).1 hv).1
theorem versV_ren (S : Sh) (d : Dt) (ρ : Nat → Nat) : (versV S d).ren ρ = versV S d := by
  unfold versV; split <;> rfl
section
variable {l : List OpD} {S : Sh} (h : ShOk l S)
include h
theorem ShOk.op10 (hs : Short S) (d : Dt) (k : Nat) : SCd Try.prog shape_Shape_Op.f [.ptr 10 0, .agg d.cells] S.h10 k 0 (.tup [.agg (S.op d).cells, bl (MM.has S.ops d)]) S.h10 :=
  S.at_ (sop_sb S hs d) (fun ρ => by simp [SV.rens, SV.ren, Dt.cells_ren]) (fun ρ => by simp [SV.rens, SV.ren, OpD.cells_ren]) n10 n10_ok k
theorem ShOk.vers10 (hl : l.length ≤ 80) (d : Dt) (k : Nat) : SCd Try.prog shape_Shape_Versions.f [.ptr 10 0, .agg d.cells] S.h10 k 0 (versV S d) S.h10 :=
  S.at_ (svers_sb S h.lns.1 h.adds1 (by have := h.lns_len; omega) d) (fun ρ => by simp [SV.rens, SV.ren, Dt.cells_ren]) (versV_ren S d) n10 n10_ok k
theorem ShOk.get10 (d : Dt) (k : Nat) : SCd Try.prog tree_Tree_Get.f [.ptr 2 0, .agg d.cells] (H2 S.tr S.ct S.md S.cm) k 3 (.tup [.agg ((MM.get S.tr d).getD Cr.zero).cells, i64 (if MM.has S.tr d then 0 else 7)]) (H2 S.tr S.ct S.md S.cm) := get_at (T := tr2 S.tr S.ct S.md S.cm) ⟨by show (0 : Nat) ≠ 2; decide, by show (1 : Nat) ≠ 2; decide, by show (0 : Nat) ≠ 1; decide⟩ d k
theorem ShOk.abv10 (e d : Dt) : ∃ m, ∀ k, SCd Try.prog tree_Tree_Above.f [.ptr 2 0, .agg e.cells, .agg d.cells] (H2 S.tr S.ct S.md S.cm) k m (bl (S.abv e d)) (H2 S.tr S.ct S.md S.cm) := by
  obtain ⟨L, hL, hlen⟩ := h.base.ups d
  refine ⟨6 + L.length * (1 + 1), fun k => ?_⟩
  have := above_at (T := tr2 S.tr S.ct S.md S.cm) ⟨by show (0 : Nat) ≠ 2; decide, by show (1 : Nat) ≠ 2; decide, by show (0 : Nat) ≠ 1; decide⟩ e d L hL (by omega) k
  unfold Sh.abv
  rw [upsL_eq hL]
  exact this
end
section
attribute [local irreducible] SW RW SCd SC CallP Pruned
theorem rneeds_ok (q : Nat) (hq : q ≤ 8) : Go.Sl.Pure Try.prog ref17_Needs.f [u8 q] (u8 (needsV q)) := by
  rcases (show q = 0 ∨ q = 1 ∨ q = 2 ∨ q = 3 ∨ q = 4 ∨ q = 5 ∨ q = 6 ∨ q = 7 ∨ q = 8 by omega) with rfl | rfl | rfl | rfl | rfl | rfl | rfl | rfl | rfl
  all_goals
    refine ref17_Needs.enter (by first | rfl | simp [SV.ok, SV.oks]) (by first | rfl | simp [Hp.ok, Ob.ok, SV.ok, SV.oks, Vec.cells_ok]) (by simp) ?_
    dsimp only [ref17_Needs.s, Co.M, Co.G, Co.J, Co.H, Co.N, Co.F, Co.C, Co.Z, Co.B, Co.b8, Co.b32, Co.b64, Co.i6, Co.z8, Co.z29]
    (repeat (first | refine SW.seq ?_ | refine SW.block ?_ | refine SW.g0 [0, 2, 3, 4, 7, 12] mixed bq_tt ?_ | refine SW.skip ?_ | refine SW.exit ?_ | refine SW.ret ?_ | refine SW.condT rfl ?_ | refine SW.condF rfl ?_))
    exact End.mk [] (h4 := ⟨rfl, rfl⟩)
end
theorem rneeds_at (q : Nat) (hq : q ≤ 8) (k : Nat) : SCd Try.prog ref17_Needs.f [u8 q] [] k 0 (u8 (needsV q)) [] := (rneeds_ok q hq).sc rfl k
theorem Dt.set_len (l : List Dt) : (Dt.set l).length ≤ l.length := by
  unfold Dt.set
  rw [(Dt.sorted_perm _).length_eq, show (MM.keys (setM l).1).length = (setM l).1.length from by simp [MM.keys]]
  exact setM_len l
theorem wrap_u8n (n : Nat) : IntKind.u8.wrap (n : Int) = ((n % 256 : Nat) : Int) := by
  unfold IntKind.wrap
  simp [IntKind.bits, IntKind.signed]
theorem role_mod {c : Cr} {q : Nat} (h0 : q ≠ 0) (h8 : q ≤ 8) (h : roleB c q = false) : (IntKind.u8.wrap ((c.roles : Int).tdiv (needsV q : Int))).tmod 2 = 1 ∧ (needsV q : Int) ≠ 0 := by
  have key : ∀ i, i ≤ 2 → needsV q = 2 ^ i → (IntKind.u8.wrap ((c.roles : Int).tdiv (needsV q : Int))).tmod 2 = 1 ∧ (needsV q : Int) ≠ 0   := fun i h2i hi => by
    unfold roleB at h
    rw [hi, and_eq, bne_eq_false_iff_eq] at h
    have h' := Int.ofNat_inj.1 h
    rw [BitVec.toNat_and, BitVec.toNat_ofNat, BitVec.toNat_ofNat, Nat.mod_eq_of_lt (show 2 ^ i < 2 ^ 8 from Nat.pow_lt_pow_right (by omega) (by omega))] at h'
    have h2 := role_div h'
    have h3 : c.roles / 2 ^ i % 2 = 1 := by
      rcases (show i = 0 ∨ i = 1 ∨ i = 2 by omega) with rfl | rfl | rfl <;> simp only [Nat.reducePow] at h2 ⊢ <;> omega
    rw [hi]
    have e : (c.roles : Int).tdiv ((2 ^ i : Nat) : Int) = ((c.roles / 2 ^ i : Nat) : Int) := (Int.ofNat_tdiv _ _).symm
    rw [e, wrap_u8n]
    have e2 : (((c.roles / 2 ^ i % 256 : Nat) : Int)).tmod 2 = ((c.roles / 2 ^ i % 256 % 2 : Nat) : Int) := (Int.ofNat_tmod _ 2).symm
    rw [e2, show c.roles / 2 ^ i % 256 % 2 = 1 by omega]
    refine ⟨rfl, ?_⟩
    have := Nat.two_pow_pos i
    omega
  rcases (show q = 1 ∨ q = 2 ∨ q = 3 ∨ q = 4 ∨ q = 5 ∨ q = 6 ∨ q = 7 ∨ q = 8 by omega) with rfl | rfl | rfl | rfl | rfl | rfl | rfl | rfl
  · exact key 0 (by omega) rfl
  · exact key 0 (by omega) rfl
  · exact key 1 (by omega) rfl
  · exact key 1 (by omega) rfl
  · exact key 1 (by omega) rfl
  · exact key 2 (by omega) rfl
  · exact key 2 (by omega) rfl
  · exact key 1 (by omega) rfl
theorem cm_line {l : List Cm} {i : Nat} {x : Cm} (h : l[i]? = some x) : List.take 2 (List.drop (i * 4) (List.map SV.d (l.flatMap Cm.ds))) = x.line.cells := by
  have := cm_load h
  rw [← x.s0, ← this, List.take_take]
  rfl
theorem cm_ver {l : List Cm} {i : Nat} {x : Cm} (h : l[i]? = some x) : List.take 2 (List.drop (i * 4 + 2) (List.map SV.d (l.flatMap Cm.ds))) = x.ver.cells := by
  have := cm_load h
  rw [← x.s2, ← this, List.drop_take, List.take_take, List.drop_drop]
  rfl
theorem cm_roomL {l : List Cm} {i : Nat} {x : Cm} (h : l[i]? = some x) : (i * 4 + 2 ≤ (List.map SV.d (l.flatMap Cm.ds)).length) = True := eq_true (by
  have := of_eq_true (cm_room17 h); omega)
theorem cm_roomV {l : List Cm} {i : Nat} {x : Cm} (h : l[i]? = some x) : (i * 4 + 2 + 2 ≤ (List.map SV.d (l.flatMap Cm.ds)).length) = True := eq_true (by
  have := of_eq_true (cm_room17 h); omega)
section
attribute [local irreducible] SW RW SCd SC CallP Pruned needsV
set_option maxHeartbeats 16000000 in
theorem law_names (l : List OpD) (hd : ∀ o, o ∈ l → o.kind < 256 ∧ o.lin ∧ o.cl.length ≤ 140737488351232) (hlen : l.length ≤ 9223372036854775807) :
    SB Try.prog law17_ShapeNames.f [ops l] [] 0 0 (fun r F => r = bl true) := by
  refine law17_ShapeNames.enter (by first | rfl | simp [SV.ok, SV.oks]) (by first | rfl | simp [Hp.ok, Ob.ok, SV.ok, SV.oks, Vec.cells_ok]) (by simp) ?_
  dsimp only [law17_ShapeNames.s, Co.M, Co.G, Co.J, Co.H, Co.N, Co.F, Co.C, Co.Z, Co.B, Co.b8, Co.b32, Co.b64, Co.i6, Co.z8, Co.z29]
  have hG' := great_at l (fun o ho => ⟨_, _, (hd o ho).2.1.eq, (hd o ho).2.1.le⟩) hlen
  rcases hG : greatV l with _ | _
  rotate_left
  · rw [hG] at hG'
    (repeat (first | refine SW.seq ?_ | refine SW.block ?_ | refine SW.g2 [0, 2, 3, 4, 5, 7, 8, 9, 10, 11, 12, 14, 24, 28, 50, 85, 98, 106, 149, 159, 177] mixed bq_tt hG' head17_at ?_ | refine SW.skip ?_ | refine SW.exit ?_ | refine SW.ret ?_ | refine SW.condT rfl ?_ | refine SW.condF rfl ?_))
    exact End.mk [] (h4 := rfl)
  rw [hG] at hG'
  have hl80 := great_len hG
  have hd' := great_short hG (fun o ho => ⟨(hd o ho).2.1, (hd o ho).2.2⟩)
  replace hd : ∀ o, o ∈ l → o.kind < 256 ∧ o.lin ∧ o.cl.length ≤ 1048576 := fun o ho => ⟨(hd o ho).1, (hd o ho).2.1, hd' o ho⟩
  have hdl : ∀ o, o ∈ l → o.kind < 256 ∧ o.lin := fun o ho => ⟨(hd o ho).1, (hd o ho).2.1⟩
  refine SW.seq ?_
  refine SW.g1 [0, 2, 3, 4, 5, 7, 8, 9, 10, 11, 12, 14, 24, 28, 50, 85, 98, 106, 149, 159, 177] mixed bq_tt hG' ?_
  refine SW.seq (SW.seq ?_)
  refine SW.g1 [0, 2, 3, 4, 5, 7, 8, 9, 10, 11, 12, 14, 24, 28, 50, 85, 98, 106, 149, 159, 177] mixed bq_tt hG' ?_
  refine SW.condF rfl (SW.skip ?_)
  have c2 := snew_0 l (by omega) hdl
  refine SW.seq (SW.ofN ?_)
  (repeat (first | refine SWn.op bq_tt (h := ?_) | refine SWn.opN bq_tt (h := ?_) | refine SWn.skip (h := ?_)))
  refine SWn.callC c2 (HSub.nil _) (h := ?_)
  rintro _ _ ⟨U, hU, rfl, rfl⟩
  simp only [hmrg, hsets, hdels, hset, hrep, hdel, lk, List.lookup, Nat.reduceBEq, BEq.rfl, beq_self_eq_true, if_true, if_false, reduceIte, Nat.reduceEqDiff, Bool.false_eq_true, Option.isSome_some, Option.isSome_none, Nat.reduceAdd]
  (repeat (first | refine SWn.op bq_tt (h := ?_) | refine SWn.opN bq_tt (h := ?_) | refine SWn.skip (h := ?_)))
  refine SWn.nil ?_
  have cT := ShOk.stree10 U
  have sU : Short U := hU.short hd
  refine SW.seq (SW.seq ?_)
  refine SW.g1 [0, 2, 3, 4, 5, 7, 8, 9, 10, 11, 12, 14, 24, 28, 50, 85, 98, 106, 149, 159, 177] mixed bq_tt cT ?_
  refine SW.condF rfl (SW.skip ?_)
  refine SW.seq (SW.seq ?_)
  refine SW.g0 [0, 2, 3, 4, 5, 7, 8, 9, 10, 11, 12, 14, 24, 28, 50, 85, 98, 106, 149, 159, 177] mixed bq_tt ?_
  refine SW.block ?_
  refine SW.loopA (α := {i : Nat // i ≤ l.length}) (fun i => ⟨[(4, i64 i.1), (3, .ptr 10 0), (0, ops l)], U.h10, 11⟩) (fun i => l.length - i.1) ⟨0, by omega⟩ id (shM U) (round := ?_)
  rintro ⟨i, hi⟩
  dsimp only
  by_cases h : i < l.length
  · obtain ⟨x, hx⟩ := get_of_lt h
    have hxl : x ∈ l := List.mem_of_getElem? hx
    have h1 : decide ((i : Int) < l.length) = true := by simp only [decide_eq_true_eq]; omega
    have e2 : IntKind.i64.wrap ((i : Int) + 1) = ((i + 1 : Nat) : Int) := wrap_i64 _ (by omega)
    obtain ⟨o, ho⟩ := Option.isSome_iff_exists.1 (findO_isSome.2 ⟨x, hxl, rfl⟩ : (findO l x.dot).isSome = true)
    have hol := (findO_some ho).1
    have hod := findO_dot ho
    obtain ⟨hk256, hlin, hcl⟩ := hd o hol
    have cO : ∀ k, SCd Try.prog shape_Shape_Op.f [.ptr 10 0, .agg x.dot.cells] U.h10 k 0 (.tup [.agg o.cells, bl true]) U.h10 := fun k => by
      have := hU.op10 sU x.dot k
      rw [hU.base.op, hU.base.has, ho, opP_some ho] at this
      exact this
    have cG := hU.good10 sU o.dot
    rw [hU.goodY (show findO l o.dot = some o by rw [hod]; exact ho)] at cG
    refine SW.seq (SW.seq ?_)
    refine SW.g0 [0, 2, 3, 4, 5, 7, 8, 9, 10, 11, 12, 14, 24, 28, 50, 85, 98, 106, 149, 159, 177] mixed (h1) ?_
    refine SW.condT rfl (SW.skip ?_)
    refine SW.seq (SW.block (SW.seq ?_))
    refine SW.g1 [0, 2, 3, 4, 5, 7, 8, 9, 10, 11, 12, 14, 24, 28, 50, 85, 98, 106, 149, 159, 177] mixed (And.intro (op_load hx) (op_roomd hx)) cO ?_
    by_cases hw : whyL l o = 0
    rotate_left
    · rw [decide_eq_false hw] at cG
      refine SW.seq (SW.seq ?_)
      refine SW.g1 [0, 2, 3, 4, 5, 7, 8, 9, 10, 11, 12, 14, 24, 28, 50, 85, 98, 106, 149, 159, 177] mixed bq_tt cG ?_
      refine SW.condT rfl (SW.exit ?_)
      refine SW.g0 [0, 2, 3, 4, 5, 7, 8, 9, 10, 11, 12, 14, 24, 28, 50, 85, 98, 106, 149, 159, 177] mixed (e2) ?_
      dsimp only
      exact ⟨⟨i + 1, by omega⟩, id, by show l.length - (i + 1) < _; omega, Weak.mk (shM U)⟩
    rw [decide_eq_true hw] at cG
    by_cases hk0 : o.kind = 0
    · have z0 : ((o.kind : Int) == 0) = true := by simp; exact hk0
      refine SW.seq (SW.seq ?_)
      refine SW.g1 [0, 2, 3, 4, 5, 7, 8, 9, 10, 11, 12, 14, 24, 28, 50, 85, 98, 106, 149, 159, 177] mixed (z0) cG ?_
      refine SW.condT rfl (SW.exit ?_)
      refine SW.g0 [0, 2, 3, 4, 5, 7, 8, 9, 10, 11, 12, 14, 24, 28, 50, 85, 98, 106, 149, 159, 177] mixed (e2) ?_
      dsimp only
      exact ⟨⟨i + 1, by omega⟩, id, by show l.length - (i + 1) < _; omega, Weak.mk (shM U)⟩
    have z0 : ((o.kind : Int) == 0) = false := by simp; exact hk0
    refine SW.seq (SW.seq ?_)
    refine SW.g1 [0, 2, 3, 4, 5, 7, 8, 9, 10, 11, 12, 14, 24, 28, 50, 85, 98, 106, 149, 159, 177] mixed (z0) cG ?_
    refine SW.condF rfl (SW.skip ?_)
    obtain ⟨c, hc, hcart, hhold, hrole⟩ := names_cred hw hk0
    have hk8 := names_kind hw
    obtain ⟨hq1, hq2⟩ := role_mod hk0 hk8 hrole
    have hcU : MM.get U.tr o.cred = some c := by rw [hU.base.tr]; exact hc
    have cC : ∀ k, SCd Try.prog tree_Tree_Get.f [.ptr 2 0, .agg o.cred.cells] (H2 U.tr U.ct U.md U.cm) k 3 (.tup [.agg c.cells, i64 0]) (H2 U.tr U.ct U.md U.cm) := fun k => by
      have := hU.get10 o.cred k
      unfold MM.has at this
      rw [hcU] at this
      exact this
    refine SW.seq ?_
    refine SW.g2 [0, 2, 3, 4, 5, 7, 8, 9, 10, 11, 12, 14, 24, 28, 50, 85, 98, 106, 149, 159, 177] mixed bq_tt cT cC ?_
    refine SW.seq ?_
    refine SW.g1 [0, 2, 3, 4, 5, 7, 8, 9, 10, 11, 12, 14, 24, 28, 50, 85, 98, 106, 149, 159, 177] mixed bq_tt (rneeds_at o.kind hk8) ?_
    obtain ⟨nv, hnv⟩ : ∃ nv, needsV o.kind = nv := ⟨_, rfl⟩
    rw [hnv] at hq1 hq2 ⊢
    have f1 : decide (c.cart = o.cart) = true := decide_eq_true hcart
    have f2 : ((c.hold : Int) != (o.who : Int)) = false := by rw [hhold]; simp
    refine SW.seq (SW.seq ?_)
    refine SW.g0 [0, 2, 3, 4, 5, 7, 8, 9, 10, 11, 12, 14, 24, 28, 50, 85, 98, 106, 149, 159, 177] mixed (And.intro (f1) (And.intro (f2) (hq1))) ?_
    refine SW.condF rfl (SW.skip ?_)
    refine SW.cut ⟨[(5, .ptr 11 0), (4, i64 i), (3, .ptr 10 0), (0, ops l)], (11, .box 37 o.cells) :: U.h10, 12⟩ id ?_ ?_
    · refine SW.seq ?_
      by_cases k2 : o.kind = 2
      · have z2 : ((o.kind : Int) == 2) = true := by rw [k2]; rfl
        obtain ⟨m, hab⟩ := hU.abv10 o.cred o.at_
        have ha : U.abv o.cred o.at_ = true := by
          have := names_above hw k2
          unfold Sh.abv; rw [hU.base.tr]; exact this
        rw [ha] at hab
        refine SW.g2 [0, 2, 3, 4, 5, 7, 8, 9, 10, 11, 12, 14, 24, 28, 50, 85, 98, 106, 149, 159, 177] mixed (z2) cT hab ?_
        refine SW.condF rfl (SW.skip ?_)
        exact Weak.mk (shM U)
      · have z2 : ((o.kind : Int) == 2) = false := by simp; omega
        refine SW.g0 [0, 2, 3, 4, 5, 7, 8, 9, 10, 11, 12, 14, 24, 28, 50, 85, 98, 106, 149, 159, 177] mixed (z2) ?_
        refine SW.condF rfl (SW.skip ?_)
        exact Weak.mk (shM U)
    refine SW.cut ⟨[(5, .ptr 11 0), (4, i64 i), (3, .ptr 10 0), (0, ops l)], (11, .box 37 o.cells) :: U.h10, 12⟩ id ?_ ?_
    · refine SW.seq ?_
      by_cases k47 : 4 ≤ o.kind ∧ o.kind ≤ 7
      · have g4 : decide ((o.kind : Int) ≥ 4) = true := by simp only [decide_eq_true_eq]; omega
        have g7 : decide ((o.kind : Int) ≤ 7) = true := by simp only [decide_eq_true_eq]; omega
        obtain ⟨a, ha, hak, hac, haw⟩ := line_add (names_line hw k47)
        have cO2 : ∀ k, SCd Try.prog shape_Shape_Op.f [.ptr 10 0, .agg o.at_.cells] U.h10 k 0 (.tup [.agg a.cells, bl true]) U.h10 := fun k => by
          have := hU.op10 sU o.at_ k
          rw [hU.base.op, hU.base.has, ha, opP_some ha] at this
          exact this
        have cG2 := hU.good10 sU o.at_
        rw [hU.goodY ha, decide_eq_true haw] at cG2
        have z3 : ((a.kind : Int) != 3) = false := by rw [hak]; rfl
        have z4 : decide (a.cart = o.cart) = true := decide_eq_true hac
        refine SW.g0 [0, 2, 3, 4, 5, 7, 8, 9, 10, 11, 12, 14, 24, 28, 50, 85, 98, 106, 149, 159, 177] mixed (And.intro (g4) (g7)) ?_
        refine SW.condT rfl (SW.seq ?_)
        refine SW.g1 [0, 2, 3, 4, 5, 7, 8, 9, 10, 11, 12, 14, 24, 28, 50, 85, 98, 106, 149, 159, 177] mixed bq_tt cO2 ?_
        refine SW.seq ?_
        by_cases k67 : o.kind = 6 ∨ o.kind = 7
        · have g6 : decide ((o.kind : Int) ≥ 6) = true := by simp only [decide_eq_true_eq]; omega
          obtain ⟨hadd, hmem⟩ := hU.vers (names_clm hw k67)
          have cV := hU.vers10 hl80 o.at_
          unfold versV at cV
          rw [if_pos hadd] at cV
          have hlL := Dt.set_len (versL U.lns o.at_)
          have cI := rin_at (Dt.set (versL U.lns o.at_)) o.ver (by have a1 := versL_len U.lns o.at_; have a2 := hU.lns_len; omega)
          rw [decide_eq_true hmem] at cI
          refine SW.g4 [0, 2, 3, 4, 5, 7, 8, 9, 10, 11, 12, 14, 24, 28, 50, 85, 98, 106, 149, 159, 177] mixed (And.intro (z3) (And.intro (z4) (g6))) cG2 cV cI trivial ?_
          refine SW.condF rfl (SW.skip ?_)
          exact Weak.mk (shM U)
        · have g6 : decide ((o.kind : Int) ≥ 6) = false := by simp only [decide_eq_false_iff_not]; omega
          refine SW.g1 [0, 2, 3, 4, 5, 7, 8, 9, 10, 11, 12, 14, 24, 28, 50, 85, 98, 106, 149, 159, 177] mixed (And.intro (z3) (And.intro (z4) (g6))) cG2 ?_
          refine SW.condF rfl (SW.skip ?_)
          exact Weak.mk (shM U)
      · by_cases k4 : 4 ≤ o.kind
        · have g4 : decide ((o.kind : Int) ≥ 4) = true := by simp only [decide_eq_true_eq]; omega
          have g7 : decide ((o.kind : Int) ≤ 7) = false := by simp only [decide_eq_false_iff_not]; omega
          refine SW.g0 [0, 2, 3, 4, 5, 7, 8, 9, 10, 11, 12, 14, 24, 28, 50, 85, 98, 106, 149, 159, 177] mixed (And.intro (g4) (g7)) ?_
          refine SW.condF rfl (SW.skip ?_)
          exact Weak.mk (shM U)
        · have g4 : decide ((o.kind : Int) ≥ 4) = false := by simp only [decide_eq_false_iff_not]; omega
          refine SW.g0 [0, 2, 3, 4, 5, 7, 8, 9, 10, 11, 12, 14, 24, 28, 50, 85, 98, 106, 149, 159, 177] mixed (g4) ?_
          refine SW.condF rfl (SW.skip ?_)
          exact Weak.mk (shM U)
    have hle := hlin.eq
    refine SW.seq ?_
    refine SW.g0 [0, 2, 3, 4, 5, 7, 8, 9, 10, 11, 12, 14, 24, 28, 50, 85, 98, 106, 149, 159, 177] mixed bq_tt ?_
    refine SW.block ?_
    refine SW.loopA (α := {j : Nat // j ≤ o.cl.length}) (fun j => ⟨[(12, i64 j.1), (5, .ptr 11 0), (4, i64 i), (3, .ptr 10 0), (0, ops l)], (11, .box 37 o.cells) :: U.h10, 12⟩) (fun j => o.cl.length - j.1) ⟨0, by omega⟩ id (shM U) (round := ?_)
    rintro ⟨j, hj⟩
    dsimp only
    refine SW.seq (SW.seq ?_)
    by_cases hjl : j < o.cl.length
    · have j1 : decide ((j : Int) < o.cl.length) = true := by simp only [decide_eq_true_eq]; omega
      by_cases k8 : o.kind = 8
      · have z8 : ((o.kind : Int) == 8) = true := by rw [k8]; rfl
        obtain ⟨y, hy⟩ := get_of_lt hjl
        have j2 : IntKind.i64.wrap ((j : Int) + 1) = ((j + 1 : Nat) : Int) := wrap_i64 _ (by omega)
        obtain ⟨hadd, hmem⟩ := hU.vers (names_lines hw k8 (List.mem_of_getElem? hy))
        have cV := hU.vers10 hl80 y.line
        unfold versV at cV
        rw [if_pos hadd] at cV
        have hlL := Dt.set_len (versL U.lns y.line)
        have cI := rin_at (Dt.set (versL U.lns y.line)) y.ver (by have a1 := versL_len U.lns y.line; have a2 := hU.lns_len; omega)
        rw [decide_eq_true hmem] at cI
        refine SW.g0 [0, 2, 3, 4, 5, 7, 8, 9, 10, 11, 12, 14, 24, 28, 50, 85, 98, 106, 149, 159, 177] mixed (And.intro (hle) (And.intro (j1) (z8))) ?_
        refine SW.condT rfl (SW.skip ?_)
        refine SW.seq (SW.block (SW.seq ?_))
        refine SW.g2 [0, 2, 3, 4, 5, 7, 8, 9, 10, 11, 12, 14, 24, 28, 50, 85, 98, 106, 149, 159, 177] mixed (And.intro (hle) (And.intro (cm_line hy) (And.intro (cm_roomL hy) (And.intro (cm_ver hy) (cm_roomV hy))))) cV cI ?_
        refine SW.condF rfl (SW.skip ?_)
        refine SW.g0 [0, 2, 3, 4, 5, 7, 8, 9, 10, 11, 12, 14, 24, 28, 50, 85, 98, 106, 149, 159, 177] mixed (j2) ?_
        dsimp only
        exact ⟨⟨j + 1, by omega⟩, id, by show o.cl.length - (j + 1) < _; omega, Weak.mk (shM U)⟩
      · have z8 : ((o.kind : Int) == 8) = false := by simp; omega
        refine SW.g0 [0, 2, 3, 4, 5, 7, 8, 9, 10, 11, 12, 14, 24, 28, 50, 85, 98, 106, 149, 159, 177] mixed (And.intro (hle) (And.intro (j1) (z8))) ?_
        refine SW.condF rfl (SW.exit ?_)
        refine SW.g0 [0, 2, 3, 4, 5, 7, 8, 9, 10, 11, 12, 14, 24, 28, 50, 85, 98, 106, 149, 159, 177] mixed (e2) ?_
        dsimp only
        exact ⟨⟨i + 1, by omega⟩, id, by show l.length - (i + 1) < _; omega, Weak.mk (shM U)⟩
    · have j1 : decide ((j : Int) < o.cl.length) = false := by simp only [decide_eq_false_iff_not]; omega
      refine SW.g0 [0, 2, 3, 4, 5, 7, 8, 9, 10, 11, 12, 14, 24, 28, 50, 85, 98, 106, 149, 159, 177] mixed (And.intro (hle) (j1)) ?_
      refine SW.condF rfl (SW.exit ?_)
      refine SW.g0 [0, 2, 3, 4, 5, 7, 8, 9, 10, 11, 12, 14, 24, 28, 50, 85, 98, 106, 149, 159, 177] mixed (e2) ?_
      dsimp only
      exact ⟨⟨i + 1, by omega⟩, id, by show l.length - (i + 1) < _; omega, Weak.mk (shM U)⟩
  · have h1 : decide ((i : Int) < l.length) = false := by simp; omega
    (repeat (first | refine SW.seq ?_ | refine SW.block ?_ | refine SW.g1 [0, 2, 3, 4, 5, 7, 8, 9, 10, 11, 12, 14, 24, 28, 50, 85, 98, 106, 149, 159, 177] mixed (h1) head17_at ?_ | refine SW.skip ?_ | refine SW.exit ?_ | refine SW.ret ?_ | refine SW.condT rfl ?_ | refine SW.condF rfl ?_))
    exact End.mk [] (h4 := rfl)
end
end Go.Proofs.Ytlgfknfdfnaedaa
