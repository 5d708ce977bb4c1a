/-
  Buffers: puts that the document fixes.
-/
import Derived.Test.YtnakpdoioammhaaDoorUE
import Derived.Test.YtnakpdoioammhaaDoorUD
import Derived.Test.YtnakpdoioammhaaDoorU8
import Derived.Test.YtnakpdoioammhaaDoorUL
import Derived.Test.YtnakpdoioammhaaDoorUW
set_option linter.unusedSectionVars false
set_option linter.unusedVariables false
set_option linter.unusedSimpArgs false
namespace Go.Proofs.YtnakpdoioammhaaDoor
open Go.Sl Go.Proofs
attribute [local irreducible] SW RW SCd SC CallP Pruned
def vc (a b : Nat) : Vec := ⟨a, b, 0, 0, 0, 0, 0, 0⟩
def opT (r n : Nat) (dep : Vec) (t : Nat) (ln : DV) : OpD := ⟨⟨r, n⟩, dep, t, 1, ⟨r, n⟩, 0, ⟨0, 0⟩, 0, 0, 0, 0, ⟨0, 0⟩, ⟨0, 0⟩, 0, 0, 0, ln⟩
abbrev z0l : DV := .sl 0 []
def hA (ln : DV) : OpD := opT 0 1 Vec.zero 1 ln
def hB (ln : DV) : OpD := opT 1 1 (vc 1 0) 2 ln
def hC (ln : DV) : OpD := opT 0 2 (vc 1 1) 3 ln
def threeL (ln : DV) : List OpD := [hA ln, hB ln, hC ln]
abbrev gA : OpD := hA z0l
abbrev gB : OpD := hB z0l
abbrev gC : OpD := hC z0l
theorem SC.resd {P : Program} {f : FuncId} {args : List SV} {F F' : Hp} {k nk : Nat} {r r' : SV} (h : SCd P f args F k nk r F') (hr : ∀ (p : Nat → Prop) μ M u, Rp p μ M r u → Rp p μ M r' u) : SCd P f args F k nk r' F' := by
  unfold SCd SC at h ⊢
  refine ⟨h.1, fun p μ M w vals h1 h2 h3 => (h.2 p μ M w vals h1 h2 h3).mono ?_⟩
  rintro e w' ⟨r0, F0, μ', M', u, a, ⟨rfl, rfl⟩, b, c⟩
  exact ⟨r', F0, μ', M', u, a, ⟨rfl, rfl⟩, hr _ _ _ _ b, c⟩
def nz0 : DV → DV
  | .nils => .sl 0 []
  | x => x
theorem repR_nz0 {M : Mem} {b : Nat} : ∀ (ds : List DV) (o : Nat), RepR M b o ds → RepR M b o (ds.map nz0)
  | [], _, h => h
  | x :: ds, o, h => by
    simp only [RepR, List.map_cons] at h ⊢
    obtain ⟨⟨u, hu, hr⟩, h2⟩ := h
    refine ⟨⟨u, hu, ?_⟩, repR_nz0 ds _ h2⟩
    cases x <;> first | exact hr | exact hr.nils_sl
set_option maxRecDepth 100000 in
theorem lit3 {P : Program} {env : List (Nat × SV)} {hp : Hp} {k d p p2 p3 : Nat} {r : List SI} {K : St → List (Bool × List Nat) → Prop} {a b c : OpD} {z : List SV} (hz : z = zOp ++ zOp ++ zOp)
    (ha : env.lookup p = some (.agg a.cells)) (hb : env.lookup p2 = some (.agg b.cells)) (hc : env.lookup p3 = some (.agg c.cells))
    (h : RW P r ⟨(d, ops [a, b, c]) :: env, hp, k⟩ fun st' ts => K st' ((false, []) :: ts)) : RW P (⟨some d, .bsl 37 29 3 z [(0, 29, .t p), (29, 29, .t p2), (58, 29, .t p3)], none⟩ :: r) ⟨env, hp, k⟩ K := by
  subst hz
  refine RW.cons (e := ⟨ops [a, b, c], [], [], 0, ((29 = 29 ∧ 0 + 29 ≤ 87 ∧ 29 = 29 ∧ 29 + 29 ≤ 87 ∧ 29 = 29 ∧ 58 + 29 ≤ 87 ∧ True))⟩) (fun crs => ⟨.frz :: crs, runOp_some (.inl rfl) ?_⟩) (by show 29 = 29 ∧ 0 + 29 ≤ 87 ∧ 29 = 29 ∧ 29 + 29 ≤ 87 ∧ 29 = 29 ∧ 58 + 29 ≤ 87 ∧ True; decide) ?_
  · have h1 : evp (fun t => env.lookup t) [(0, 29, X.t p), (29, 29, X.t p2), (58, 29, X.t p3)] = some [(0, 29, .agg a.cells), (29, 29, .agg b.cells), (58, 29, .agg c.cells)] := by
      simp only [evp, ev, ha, hb, hc]
    have h2 : bldS (zOp ++ zOp ++ zOp) [(0, 29, .agg a.cells), (29, 29, .agg b.cells), (58, 29, .agg c.cells)] = some (a.cells ++ b.cells ++ c.cells, ((29 = 29 ∧ 0 + 29 ≤ 87 ∧ 29 = 29 ∧ 29 + 29 ≤ 87 ∧ 29 = 29 ∧ 58 + 29 ≤ 87 ∧ True))) := rfl
    have h3 : datas (a.cells ++ b.cells ++ c.cells) = some ([a, b, c].flatMap OpD.ds) := rfl
    have h4 : (a.cells ++ b.cells ++ c.cells).all SV.isOne = true := rfl
    simp only [goOp, sop, h1, h2, h3, h4, if_true, Bool.false_or]
    rfl
  · exact h
set_option maxRecDepth 100000 in
theorem lit2 {P : Program} {env : List (Nat × SV)} {hp : Hp} {k d p p2 : Nat} {r : List SI} {K : St → List (Bool × List Nat) → Prop} {a b : OpD} {z : List SV} (hz : z = zOp ++ zOp)
    (ha : env.lookup p = some (.agg a.cells)) (hb : env.lookup p2 = some (.agg b.cells))
    (h : RW P r ⟨(d, ops [a, b]) :: env, hp, k⟩ fun st' ts => K st' ((false, []) :: ts)) : RW P (⟨some d, .bsl 37 29 2 z [(0, 29, .t p), (29, 29, .t p2)], none⟩ :: r) ⟨env, hp, k⟩ K := by
  subst hz
  refine RW.cons (e := ⟨ops [a, b], [], [], 0, ((29 = 29 ∧ 0 + 29 ≤ 58 ∧ 29 = 29 ∧ 29 + 29 ≤ 58 ∧ True))⟩) (fun crs => ⟨.frz :: crs, runOp_some (.inl rfl) ?_⟩) (by show 29 = 29 ∧ 0 + 29 ≤ 58 ∧ 29 = 29 ∧ 29 + 29 ≤ 58 ∧ True; decide) ?_
  · have h1 : evp (fun t => env.lookup t) [(0, 29, X.t p), (29, 29, X.t p2)] = some [(0, 29, .agg a.cells), (29, 29, .agg b.cells)] := by
      simp only [evp, ev, ha, hb]
    have h2 : bldS (zOp ++ zOp) [(0, 29, .agg a.cells), (29, 29, .agg b.cells)] = some (a.cells ++ b.cells, ((29 = 29 ∧ 0 + 29 ≤ 58 ∧ 29 = 29 ∧ 29 + 29 ≤ 58 ∧ True))) := rfl
    have h3 : datas (a.cells ++ b.cells) = some ([a, b].flatMap OpD.ds) := rfl
    have h4 : (a.cells ++ b.cells).all SV.isOne = true := rfl
    simp only [goOp, sop, h1, h2, h3, h4, if_true, Bool.false_or]
    rfl
  · exact h
theorem SWn.slot {P : Program} {N k0 : Nat} {st : St} {sis : List SI} {K : St → Prop} (t : Nat) {s : SV} (s' : SV) (hl : st.env.lookup t = some s) (hs : ∀ (p : Nat → Prop) μ M v, Rp p μ M s v → Rp p μ M s' v) (h : SWn P N k0 sis ⟨(t, s') :: st.env, st.hp, st.k⟩ K) : SWn P N k0 sis st K := by
  refine fun ops i h1 h2 h3 rd μ0 M0 w0 c0 a w hSt => h ops i h1 h2 h3 rd μ0 M0 w0 c0 a w ?_
  obtain ⟨hk0, hdf, hsz, μ, M, hsl, hS, hE⟩ := hSt
  refine ⟨hk0, hdf, hsz, μ, M, fun q x hq => ?_, hS, hE⟩
  simp only [List.lookup] at hq
  split at hq
  · rename_i e
    have e : q = t := by simpa using e
    injection hq with hq
    subst e; subst hq
    exact hs _ _ _ _ (hsl q s hl)
  · exact hsl q x hq
set_option maxRecDepth 100000 in
theorem three_ok : Go.Sl.Pure Tryd.prog law11_three.f [] (ops (threeL .nils)) := by
  refine law11_three.enter (by first | rfl | simp [SV.ok, SV.oks]) (by first | rfl | simp [Hp.ok, Ob.ok, SV.ok, SV.oks, Vec.cells_ok]) (by simp) ?_
  dsimp only [law11_three.s, Co.M, Co.G, Co.J, Co.H, Co.N, Co.F, Co.C, Co.Z, Co.B, Co.b8, Co.b32, Co.b64, Co.i6, Co.z8, Co.z29]
  refine SW.seq ?_
  (refine SW.regL [0, 1, 2, 3] mixed ?_; (repeat (first | refine RW.ro bq_tt (h := ?_) | refine RW.skip (h := ?_) | refine RW.op bq_tt (h := ?_) | refine RW.opN bq_tt (h := ?_) | refine RW.skip0 (h := ?_) | refine lit3 rfl rfl rfl rfl (h := ?_))); refine RW.nil ⟨by kernel_rfl, Pruned.mk (h := ?_)⟩)
  have e1 : spl [SV.d (.int .u8 0), .d (.int .u32 0)] 1 [SV.d (.int .u32 1)] = (Dt.mk 0 1).cells := rfl
  have e2 : spl (spl [SV.d (.int .u8 0), .d (.int .u32 0)] 0 [SV.d (.int .u8 1)]) 1 [SV.d (.int .u32 1)] = (Dt.mk 1 1).cells := rfl
  have e3 : spl [SV.d (.int .u8 0), .d (.int .u32 0)] 1 [SV.d (.int .u32 2)] = (Dt.mk 0 2).cells := rfl
  have fA : spl (spl (spl (spl OpD.zero.cells 0 (Dt.mk 0 1).cells) 10 [SV.d (.int .u64 1)]) 11 [SV.d (.int .u32 1)]) 12 (Dt.mk 0 1).cells = (hA .nils).cells := rfl
  have fB : spl (spl (spl (spl (spl OpD.zero.cells 0 (Dt.mk 1 1).cells) 2 (vc 1 0).cells) 10 [SV.d (.int .u64 2)]) 11 [SV.d (.int .u32 1)]) 12 (Dt.mk 1 1).cells = (hB .nils).cells := rfl
  have fC : spl (spl (spl (spl (spl OpD.zero.cells 0 (Dt.mk 0 2).cells) 2 (vc 1 1).cells) 10 [SV.d (.int .u64 3)]) 11 [SV.d (.int .u32 1)]) 12 (Dt.mk 0 2).cells = (hC .nils).cells := rfl
  have v1 : spl Vec.zero.cells 0 [SV.d (.int .u32 1)] = (vc 1 0).cells := rfl
  have v2 : spl (vc 1 0).cells 1 [SV.d (.int .u32 1)] = (vc 1 1).cells := rfl
  have sa : ∀ x : OpD, spl OpD.zero.cells 0 x.cells = x.cells := fun _ => rfl
  have ta : ∀ x : OpD, List.take 29 x.cells = x.cells := fun _ => rfl
  have la : ∀ x : OpD, x.cells.length = 29 := fun _ => rfl
  have oa : ∀ x : OpD, x.cells.all SV.isOne = true := fun x => x.cells_one
  refine SW.seq ?_
  (have fx := (And.intro (e1) (And.intro (fA) (And.intro (sa) (And.intro (oa) (la))))); refine SW.regL [0, 1, 2, 3] mixed ?_; (repeat (first | refine RW.ro fx (h := ?_) | refine RW.skip (h := ?_) | refine RW.op fx (h := ?_) | refine RW.opN fx (h := ?_) | refine RW.skip0 (h := ?_) | refine lit3 rfl rfl rfl rfl (h := ?_))); refine RW.nil ⟨by kernel_rfl, Pruned.mk (h := ?_)⟩)
  refine SW.seq ?_
  (have fx := (And.intro (e2) (And.intro (fB) (And.intro (v1) (And.intro (v2) (And.intro (sa) (And.intro (oa) (la))))))); refine SW.regL [0, 1, 2, 3] mixed ?_; (repeat (first | refine RW.ro fx (h := ?_) | refine RW.skip (h := ?_) | refine RW.op fx (h := ?_) | refine RW.opN fx (h := ?_) | refine RW.skip0 (h := ?_) | refine lit3 rfl rfl rfl rfl (h := ?_))); refine RW.nil ⟨by kernel_rfl, Pruned.mk (h := ?_)⟩)
  refine SW.seq ?_
  (have fx := (And.intro (e3) (And.intro (fC) (And.intro (v1) (And.intro (v2) (And.intro (sa) (And.intro (oa) (la))))))); refine SW.regL [0, 1, 2, 3] mixed ?_; (repeat (first | refine RW.ro fx (h := ?_) | refine RW.skip (h := ?_) | refine RW.op fx (h := ?_) | refine RW.opN fx (h := ?_) | refine RW.skip0 (h := ?_) | refine lit3 rfl rfl rfl rfl (h := ?_))); refine RW.nil ⟨by kernel_rfl, Pruned.mk (h := ?_)⟩)
  refine SW.seq ?_
  (have fx := (And.intro (ta) (And.intro (oa) (la))); refine SW.regL [0, 1, 2, 3] mixed ?_; (repeat (first | refine RW.ro fx (h := ?_) | refine RW.skip (h := ?_) | refine RW.op fx (h := ?_) | refine RW.opN fx (h := ?_) | refine RW.skip0 (h := ?_) | refine lit3 rfl rfl rfl rfl (h := ?_))); refine RW.nil ⟨by kernel_rfl, Pruned.mk (h := ?_)⟩)
  refine SW.ret ?_
  exact End.mk [] (h4 := ⟨rfl, rfl⟩)
theorem three_at (k : Nat) : SCd Tryd.prog law11_three.f [] [] k 0 (ops (threeL z0l)) [] := by
  have h0 : SCd Tryd.prog law11_three.f [] [] k 0 (ops (threeL .nils)) [] := three_ok.sc rfl k
  refine SC.resd h0 fun p μ M u hu => ?_
  rw [Rp.d_iff] at hu ⊢
  simp only [RepD] at hu ⊢
  obtain ⟨A, c, rfl, h1, h2, h3⟩ := hu
  refine ⟨A, c, rfl, h1, fun h => by simp [threeL] at h, fun h => ?_⟩
  obtain ⟨b, o, rfl, h4⟩ := h3 (by simp [threeL])
  exact ⟨b, o, rfl, repR_nz0 _ o h4⟩
theorem opT_lin (r n dep t) : (opT r n dep t z0l).lin ∧ (opT r n dep t z0l).cl = [] := OpD.lin.of (l := []) rfl (by simp)
theorem opT_r (r n : Nat) (dep : Vec) (t : Nat) (hr : r < 256) (hn : n < 4294967296) : OpR (opT r n dep t z0l) ∧ (opT r n dep t z0l).cl.length ≤ 1048576 := by
  obtain ⟨h1, h2⟩ := opT_lin r n dep t
  refine ⟨⟨⟨h1, fun x hx => (by rw [h2] at hx; cases hx), hr, (by show 0 < 256; decide), (by show 0 < 256; decide), (by show 0 < 256; decide)⟩, hr, hn⟩, by rw [h2]; decide⟩
theorem zero_r : OpR OpD.zero.nz ∧ OpD.zero.nz.cl.length ≤ 1048576 := by
  have h := OpD.lin.of (o := OpD.zero.nz) (l := []) rfl (by simp)
  refine ⟨⟨⟨h.1, fun x hx => (by rw [h.2] at hx; cases hx), (by decide), (by decide), (by decide), (by decide)⟩, (by decide), (by decide)⟩, by rw [h.2]; decide⟩
theorem three_r (x : OpD) (hx : x ∈ threeL z0l) : OpR x ∧ x.cl.length ≤ 1048576 := by
  simp only [threeL, List.mem_cons, List.not_mem_nil, or_false] at hx
  rcases hx with rfl | rfl | rfl <;> exact opT_r _ _ _ _ (by decide) (by decide)
theorem putOk_of {l : List OpD} (hl : l.length ≤ 3) (h : ∀ x, x ∈ l → x ∈ threeL z0l) : PutOk l := ⟨by omega, fun x hx => ⟨(three_r x (h x hx)).1, by have := (three_r x (h x hx)).2; omega⟩⟩
theorem nextB_no {has : Vec} {L : List OpD} (h : ∀ o, o ∈ L → mayB has o = false) : nextB has L = none := by
  cases hn : nextB has L with
  | none => rfl
  | some o =>
    have := nextB_some hn
    rw [h o this.1] at this; cases this.2
theorem nextB_yes {has : Vec} {L : List OpD} {o : OpD} (ho : o ∈ L) (hm : mayB has o = true) (h : ∀ x, x ∈ L → mayB has x = true → x = o) : nextB has L = some o := by
  cases hn : nextB has L with
  | none => rw [nextB_none hn ho] at hm; cases hm
  | some x => rw [h x (nextB_some hn).1 (nextB_some hn).2]
def M1 : MM Dt OpD := [(0, ⟨0, 2⟩, gC), (1, ⟨1, 1⟩, gB)]
def M2 : MM Dt OpD := M1 ++ [(2, ⟨0, 1⟩, gA)]
def M3 : MM Dt OpD := [(0, ⟨0, 2⟩, gC)]
theorem p1m : putMs Vec.zero ([], 0) [gC, gB] = (M1, 2) := by rfl
theorem p1 : putR Vec.zero ([], 0) [gC, gB] = ([], Vec.zero, M1) := by
  unfold putR
  rw [p1m]
  exact drainM_none (nextB_no (by decide +kernel))
theorem p2m : putMs Vec.zero (M1, 2) [gA] = (M2, 3) := by rfl
theorem p2 : putR Vec.zero (M1, 2) [gA] = ([gA, gB, gC], vc 2 1, []) := by
  unfold putR
  rw [p2m]
  have n1 : nextB Vec.zero (vals M2) = some gA := nextB_yes (by simp [vals, M2, M1]) (by decide +kernel) (fun x hx hm => by
    simp only [vals, M2, M1, List.cons_append, List.nil_append, List.map_cons, List.map_nil, List.mem_cons, List.not_mem_nil, or_false] at hx
    rcases hx with rfl | rfl | rfl
    · exact absurd hm (by decide +kernel)
    · exact absurd hm (by decide +kernel)
    · rfl)
  have n2 : nextB (vc 1 0) (vals M1) = some gB := nextB_yes (by simp [vals, M1]) (by decide +kernel) (fun x hx hm => by
    simp only [vals, M1, List.map_cons, List.map_nil, List.mem_cons, List.not_mem_nil, or_false] at hx
    rcases hx with rfl | rfl
    · exact absurd hm (by decide +kernel)
    · rfl)
  have n3 : nextB (vc 1 1) (vals M3) = some gC := nextB_yes (by simp [vals, M3]) (by decide +kernel) (fun x hx hm => by
    simp only [vals, M3, List.map_cons, List.map_nil, List.mem_cons, List.not_mem_nil, or_false] at hx
    rw [hx])
  show drainM 3 Vec.zero M2 = _
  rw [drainM_some n1]
  rw [show Vec.zero.set gA.dot.r gA.dot.n = vc 1 0 from rfl, show MM.del M2 gA.dot = M1 from rfl, drainM_some n2]
  rw [show (vc 1 0).set gB.dot.r gB.dot.n = vc 1 1 from rfl, show MM.del M1 gB.dot = M3 from rfl, drainM_some n3]
  rfl
theorem p3m : putMs (vc 2 1) ([], 3) [gB, gC, gA] = ([], 3) := by rfl
theorem p3 : putR (vc 2 1) ([], 3) [gB, gC, gA] = ([], vc 2 1, []) := by
  unfold putR
  rw [p3m]
  rfl
theorem okB (o : OpD) (h : o ∈ threeL z0l) : badF 2 o = false := by
  unfold badF checkV
  have hf : Go.Sl.Form 2 o := (form_iff 2 o).1 (by
    simp only [threeL, List.mem_cons, List.not_mem_nil, or_false] at h
    rcases h with rfl | rfl | rfl <;> decide +kernel)
  rw [if_neg (by decide), Int.toNat_natCast, if_pos hf]; rfl
theorem badZ : [OpD.zero.nz].any (badF 2) = true := by
  simp only [List.any_cons, List.any_nil, Bool.or_false]
  unfold badF checkV
  have hf : ¬ Go.Sl.Form 2 OpD.zero.nz := fun h => by
    have := h.pos
    exact absurd this (by decide)
  rw [if_neg (by decide), Int.toNat_natCast, if_neg hf]; rfl
theorem okL {l : List OpD} (h : ∀ x, x ∈ l → x ∈ threeL z0l) : l.any (badF 2) = false := by
  rw [List.any_eq_false]
  intro x hx; rw [okB x (h x hx)]; decide
theorem w0 : WaitOk [] 0 := ⟨WB.nil, by simp, by simp [vals]⟩
theorem w1 : WaitOk M1 2 := by
  have h := (putMs_ok (has := Vec.zero) [gC, gB] (X := ([], 0)) WB.nil).1
  rw [p1m] at h
  refine ⟨h, by decide, fun o ho => ?_⟩
  simp only [vals, M1, List.map_cons, List.map_nil, List.mem_cons, List.not_mem_nil, or_false] at ho
  rcases ho with rfl | rfl <;> exact ⟨by decide, by decide⟩
theorem w2 : WaitOk [] 3 := by
  have h := (putMs_ok (has := vc 2 1) [gB, gC, gA] (X := ([], 3)) ⟨⟨List.nodup_nil, List.nodup_nil, by simp⟩, by simp⟩).1
  rw [p3m] at h
  exact ⟨h, by simp, by simp [vals]⟩
theorem s1 : osorted (vals M1) = [gB, gC] := by
  refine (osorted_rises w1.wb.uniq).unique ?_ ((osorted_perm _).trans (List.Perm.swap _ _ _))
  unfold Rises
  decide +kernel
theorem m1 (o : OpD) (h : o ∈ vals M1) : o ∈ threeL z0l := by
  simp only [vals, M1, List.map_cons, List.map_nil, List.mem_cons, List.not_mem_nil, or_false] at h
  rcases h with rfl | rfl <;> simp [threeL]
theorem lns3 (o : OpD) (h : o ∈ threeL z0l) : LnS o := ⟨(three_r o h).1.w.lin, (three_r o h).2⟩
theorem vc_wf (a b : Nat) (ha : a < 4294967296) (hb : b < 4294967296) : (vc a b).wf := fun r hr => by
  match r, hr with
  | 0, _ => exact ha
  | 1, _ => exact hb
  | 2, _ | 3, _ | 4, _ | 5, _ | 6, _ | 7, _ => exact Nat.zero_lt_succ _
theorem zero_w : ∀ (p : Nat → Prop) μ M v, Rp p μ M (ops [OpD.zero]) v → Rp p μ M (ops [OpD.zero.nz]) v := fun p μ M u hu => by
  have h1 := rps_nzr (n := 1) (cs := [OpD.zero].flatMap OpD.ds) (r := []) (r' := []) (fun vs h => h) [u] (Rps.cons_iff.2 ⟨u, [], rfl, hu, Rps.nil_iff.2 rfl⟩)
  obtain ⟨u', us, e, h2, _⟩ := Rps.cons_iff.1 h1
  injection e with e1 e2
  rw [e1]; exact h2
set_option maxRecDepth 100000 in
set_option maxHeartbeats 8000000 in
theorem head11_ok : Go.Sl.Pure Tryd.prog law11_head.f [] (bl true) := by
  refine law11_head.enter (by first | rfl | simp [SV.ok, SV.oks]) (by first | rfl | simp [Hp.ok, Ob.ok, SV.ok, SV.oks, Vec.cells_ok]) (by simp) ?_
  dsimp only [law11_head.s, Co.M, Co.G, Co.J, Co.H, Co.N, Co.F, Co.C, Co.Z, Co.B, Co.b8, Co.b32, Co.b64, Co.i6, Co.z8, Co.z29]
  have n1 : SCd Tryd.prog buffer_New.f [.d (.int .i64 2), .agg Vec.zero.cells] [] 0 3 (.tup [.ptr 2 0, .d (.int .i64 0)]) (bH 2 1 2 Vec.zero [] 0) := new_at 2 (by decide) (by decide) Vec.zero (farB_zero 2) 0
  have n2 := fun k => newx_at 9 Vec.zero (.inr (.inl (by decide))) k
  have n3 := fun k => newx_at 2 ⟨0, 0, 1, 0, 0, 0, 0, 0⟩ (.inr (.inr ⟨by decide, by decide, by decide +kernel⟩)) k
  have q1 := fun k => put_good (n := 2) (has := Vec.zero) (M := []) (c := 0) (l := [gC, gB]) (by decide) Vec.zero_wf w0 (putOk_of (by decide) (by simp [threeL])) 2 1 (by decide) k (okL (by simp [threeL]))
  rw [p1, p1m] at q1
  have q2 := fun k => put_good (n := 2) (has := Vec.zero) (M := M1) (c := 2) (l := [gA]) (by decide) Vec.zero_wf w1 (putOk_of (by decide) (by simp [threeL])) 2 1 (by decide) k (okL (by simp [threeL]))
  rw [p2, p2m] at q2
  have q3 := fun k => put_good (n := 2) (has := vc 2 1) (M := []) (c := 3) (l := [gB, gC, gA]) (by decide) (vc_wf 2 1 (by decide) (by decide)) w2 (putOk_of (by decide) (by simp [threeL])) 2 1 (by decide) k (okL (by simp [threeL]))
  rw [p3, p3m] at q3
  have q4 := fun k => put_wrong (n := 2) (has := vc 2 1) (M := []) (c := 3) (l := [OpD.zero.nz]) (by decide) (vc_wf 2 1 (by decide) (by decide)) w2 ⟨by simp, fun x hx => by simp at hx; rw [hx]; exact ⟨zero_r.1, by have := zero_r.2; omega⟩⟩ 2 1 (by decide) k badZ
  have u1 := fun k => waits_at 2 Vec.zero M1 2 w1 (fun o h => lns3 o (m1 o h)) 2 1 (by decide) k
  rw [s1] at u1
  have u2 := fun k => waits_at 2 (vc 2 1) [] 3 w2 (by simp [vals]) 2 1 (by decide) k
  rw [show osorted (vals []) = [] by simp [vals, osorted]] at u2
  have u3 := fun k => bhas_at 2 (vc 2 1) [] 3 2 1 (by decide) k
  have a1 := fun k => sameA_at [gB, gC] (by decide) (fun x hx => .inr (three_r x (by simp [threeL] at hx ⊢; rcases hx with h | h <;> simp [h])).1.w.lin) k
  have a2 := fun k => sameA_at (threeL z0l) (by decide) (fun x hx => .inr (three_r x hx).1.w.lin) k
  simp only [bH] at n1 q1 q2 q3 q4 u1 u2 u3
  have x0 := op_at (l := threeL z0l) (i := 0) (x := gA) rfl
  have x1 := op_at (l := threeL z0l) (i := 1) (x := gB) rfl
  have x2 := op_at (l := threeL z0l) (i := 2) (x := gC) rfl
  have y0 := op_room0 (l := threeL z0l) (i := 0) (x := gA) rfl
  have y1 := op_room0 (l := threeL z0l) (i := 1) (x := gB) rfl
  have y2 := op_room0 (l := threeL z0l) (i := 2) (x := gC) rfl
  have ln : (threeL z0l).length = 3 := rfl
  have v1 : spl (spl (spl Vec.zero.cells 0 [SV.d (.int .u32 0)]) 1 [SV.d (.int .u32 0)]) 2 [SV.d (.int .u32 1)] = (⟨0, 0, 1, 0, 0, 0, 0, 0⟩ : Vec).cells := rfl
  have v2 : spl (spl Vec.zero.cells 0 [SV.d (.int .u32 2)]) 1 [SV.d (.int .u32 1)] = (vc 2 1).cells := rfl
  have t3 := fun k => three_at k
  refine SW.seq ?_
  (refine SW.regL [0, 1, 2, 3, 5, 7, 8, 10, 11, 13, 14, 16, 38] mixed ?_; (repeat (first | refine RW.ro bq_tt (h := ?_) | refine RW.skip (h := ?_) | refine RW.op bq_tt (h := ?_) | refine RW.opN bq_tt (h := ?_) | refine RW.skip0 (h := ?_) | refine lit3 rfl rfl rfl rfl (h := ?_))); refine RW.nil ⟨conf_of (by kernel_rfl), Pruned.mk (h := ?_)⟩)
  refine SW.seq ?_
  (refine SW.regL [0, 1, 2, 3, 5, 7, 8, 10, 11, 13, 14, 16, 38] mixed ?_; (repeat (first | refine RW.ro bq_tt (h := ?_) | refine RW.skip (h := ?_) | refine RW.op bq_tt (h := ?_) | refine RW.opN bq_tt (h := ?_) | refine RW.skip0 (h := ?_) | refine lit3 rfl rfl rfl rfl (h := ?_) | (refine RW.callC (h := ?_); (first | refine CallP.mk bq_tt (hc := t3 _) (h := ?_))))); refine RW.nil ⟨conf_of (by kernel_rfl), Pruned.mk (h := ?_)⟩)
  refine SW.seq ?_
  (refine SW.regL [0, 1, 2, 3, 5, 7, 8, 10, 11, 13, 14, 16, 38] mixed ?_; (repeat (first | refine RW.ro bq_tt (h := ?_) | refine RW.skip (h := ?_) | refine RW.op bq_tt (h := ?_) | refine RW.opN bq_tt (h := ?_) | refine RW.skip0 (h := ?_) | refine lit3 rfl rfl rfl rfl (h := ?_) | (refine RW.callC (h := ?_); (first | refine CallP.mk bq_tt (hc := n1) (h := ?_))))); refine RW.nil ⟨conf_of (by kernel_rfl), Pruned.mk (h := ?_)⟩)
  refine SW.seq ?_
  (refine SW.regL [0, 1, 2, 3, 5, 7, 8, 10, 11, 13, 14, 16, 38] mixed ?_; (repeat (first | refine RW.ro bq_tt (h := ?_) | refine RW.skip (h := ?_) | refine RW.op bq_tt (h := ?_) | refine RW.opN bq_tt (h := ?_) | refine RW.skip0 (h := ?_) | refine lit3 rfl rfl rfl rfl (h := ?_) | (refine RW.callC (h := ?_); (first | refine CallP.mk bq_tt (hc := n2 _) (h := ?_))))); refine RW.nil ⟨conf_of (by kernel_rfl), Pruned.mk (h := ?_)⟩)
  refine SW.seq ?_
  (refine SW.regL [0, 1, 2, 3, 5, 7, 8, 10, 11, 13, 14, 16, 38] mixed ?_; (repeat (first | refine RW.ro (v1) (h := ?_) | refine RW.skip (h := ?_) | refine RW.op (v1) (h := ?_) | refine RW.opN (v1) (h := ?_) | refine RW.skip0 (h := ?_) | refine lit3 rfl rfl rfl rfl (h := ?_) | (refine RW.callC (h := ?_); (first | refine CallP.mk (v1) (hc := n3 _) (h := ?_))))); refine RW.nil ⟨conf_of (by kernel_rfl), Pruned.mk (h := ?_)⟩)
  refine SW.seq (SW.seq ?_)
  (refine SW.regL [0, 1, 2, 3, 5, 7, 8, 10, 11, 13, 14, 16, 38] mixed ?_; (repeat (first | refine RW.ro bq_tt (h := ?_) | refine RW.skip (h := ?_) | refine RW.op bq_tt (h := ?_) | refine RW.opN bq_tt (h := ?_) | refine RW.skip0 (h := ?_) | refine lit3 rfl rfl rfl rfl (h := ?_))); refine RW.nil ⟨conf_of (by kernel_rfl), Pruned.mk (h := ?_)⟩)
  refine SW.condF rfl (SW.skip (SW.seq ?_))
  (have fx := (And.intro (x1) (And.intro (x2) (And.intro (y1) (And.intro (y2) (ln))))); refine SW.regL [0, 1, 2, 3, 5, 7, 8, 10, 11, 13, 14, 16, 38] mixed ?_; (repeat (first | refine RW.ro fx (h := ?_) | refine RW.skip (h := ?_) | refine RW.op fx (h := ?_) | refine RW.opN fx (h := ?_) | refine RW.skip0 (h := ?_) | refine lit2 rfl rfl rfl (h := ?_) | (refine RW.callC (h := ?_); (first | refine CallP.mk fx (hc := q1 _) (h := ?_))))); refine RW.nil ⟨conf_of (by kernel_rfl), Pruned.mk (h := ?_)⟩)
  refine SW.seq ?_
  (refine SW.regL [0, 1, 2, 3, 5, 7, 8, 10, 11, 13, 14, 16, 38] mixed ?_; (repeat (first | refine RW.ro bq_tt (h := ?_) | refine RW.skip (h := ?_) | refine RW.op bq_tt (h := ?_) | refine RW.opN bq_tt (h := ?_) | refine RW.skip0 (h := ?_) | (refine RW.callC (h := ?_); (first | refine CallP.mk bq_tt (hc := u1 _) (h := ?_))))); refine RW.nil ⟨conf_of (by kernel_rfl), Pruned.mk (h := ?_)⟩)
  refine SW.seq ?_
  (have fx := (And.intro (x0) (And.intro (y0) (ln))); refine SW.regL [0, 1, 2, 3, 5, 7, 8, 10, 11, 13, 14, 16, 38] mixed ?_; (repeat (first | refine RW.ro fx (h := ?_) | refine RW.skip (h := ?_) | refine RW.op fx (h := ?_) | refine RW.opN fx (h := ?_) | refine RW.skip0 (h := ?_) | refine lit1 rfl rfl (h := ?_) | (refine RW.callC (h := ?_); (first | refine CallP.mk fx (hc := q2 _) (h := ?_))))); refine RW.nil ⟨conf_of (by kernel_rfl), Pruned.mk (h := ?_)⟩)
  refine SW.seq ?_
  (have fx := (And.intro (x0) (And.intro (x1) (And.intro (x2) (And.intro (y0) (And.intro (y1) (And.intro (y2) (ln))))))); refine SW.regL [0, 1, 2, 3, 5, 7, 8, 10, 11, 13, 14, 16, 38] mixed ?_; (repeat (first | refine RW.ro fx (h := ?_) | refine RW.skip (h := ?_) | refine RW.op fx (h := ?_) | refine RW.opN fx (h := ?_) | refine RW.skip0 (h := ?_) | refine lit3 rfl rfl rfl rfl (h := ?_) | (refine RW.callC (h := ?_); (first | refine CallP.mk fx (hc := q3 _) (h := ?_))))); refine RW.nil ⟨conf_of (by kernel_rfl), Pruned.mk (h := ?_)⟩)
  refine SW.seq (SW.ofN ?_)
  (repeat (first | refine SWn.op bq_tt (h := ?_) | refine SWn.opN bq_tt (h := ?_) | refine SWn.skip (h := ?_)))
  refine SWn.op (v := ops [OpD.zero]) (F := []) (F' := []) (nk := 0) (ob := 29 = 29 ∧ 0 + 29 ≤ 29 ∧ True) True.intro (he := fun _ => rfl) (h := ?_)
  refine SWn.slot 80 (ops [OpD.zero.nz]) rfl zero_w ?_
  refine SWn.callD bq_tt (q4 _) (h := ?_)
  (repeat (first | refine SWn.op bq_tt (h := ?_) | refine SWn.opN bq_tt (h := ?_) | refine SWn.skip (h := ?_)))
  refine SWn.nil ?_
  refine SW.seq ?_
  (refine SW.regL [0, 1, 2, 3, 5, 7, 8, 10, 11, 13, 14, 16, 38] mixed ?_; (repeat (first | refine RW.ro (And.intro (ln) (v2)) (h := ?_) | refine RW.skip (h := ?_) | refine RW.op (And.intro (ln) (v2)) (h := ?_) | refine RW.opN (And.intro (ln) (v2)) (h := ?_) | refine RW.skip0 (h := ?_) | (refine RW.callC (h := ?_); (first | refine CallP.mk (And.intro (ln) (v2)) (hc := u2 _) (h := ?_) | refine CallP.mk (And.intro (ln) (v2)) (hc := u3 _) (h := ?_) | refine CallP.mk (And.intro (ln) (v2)) (hc := a1 _) (h := ?_) | refine CallP.mk (And.intro (ln) (v2)) (hc := a2 _) (h := ?_))))); refine RW.nil ⟨conf_of (by kernel_rfl), Pruned.mk (h := ?_)⟩)
  refine SW.ret ?_
  exact End.mk [] (h4 := ⟨rfl, rfl⟩)
theorem head11_at (k : Nat) : SCd Tryd.prog law11_head.f [] [] k 0 (bl true) [] := head11_ok.sc rfl k
end Go.Proofs.YtnakpdoioammhaaDoor
namespace Go.Proofs.YtnakpdoioammhaaDoor
open Go.Sl Go.Proofs
attribute [local irreducible] SW RW SCd SC CallP Pruned
theorem drainM_wf : ∀ (k : Nat) (has : Vec) (M : MM Dt OpD) (c : Nat), WB M c → has.wf → (∀ o, o ∈ vals M → o.dot.wf) → (drainM k has M).2.1.wf
  | 0, has, M, c, _, hv, _ => hv
  | k + 1, has, M, c, hw, hv, hd => by
    cases hn : nextB has (vals M) with
    | none => rw [drainM_none hn]; exact hv
    | some o =>
      rw [drainM_some hn]
      have hm := (nextB_some hn).1
      refine drainM_wf k _ _ c (hw.del _) (Vec.set_wf hv (hd o hm).2) fun x hx => ?_
      rw [vals_del hw] at hx
      exact hd x (mem_dropB.1 hx).1
structure Buf (n : Nat) (S : List OpD) (has : Vec) (M : MM Dt OpD) (c : Nat) : Prop where
  n1 : 1 ≤ n
  puts : Puts n S
  full : Full S has (vals M)
  wb : WB M c
  hv : has.wf
  opr : ∀ o, o ∈ S → OpR o
theorem Buf.new {n : Nat} (h1 : 1 ≤ n) (h8 : n ≤ 8) : Buf n [] Vec.zero [] 0 := ⟨h1, (new_full h8).1, (new_full h8).2, WB.nil, Vec.zero_wf, by simp⟩
section
variable {n : Nat} {S : List OpD} {has : Vec} {M : MM Dt OpD} {c : Nat} (h : Buf n S has M c)
include h
theorem Buf.mem {o : OpD} (ho : o ∈ vals M) : o ∈ S := ((h.full.wt o).1 ho).1
theorem Buf.len : M.length ≤ S.length := by
  rw [← vals_len]
  exact h.full.uniq.nd.length_le_of_subset fun o ho => h.mem ho
theorem Buf.lns {o : OpD} (ho : o ∈ S) : LnS o := ⟨(h.opr o ho).w.lin, by have := form_lines (h.puts.form o ho); omega⟩
theorem Buf.wf {o : OpD} (ho : o ∈ S) : o.dot.wf := ⟨(h.opr o ho).dr, (h.opr o ho).dn⟩
theorem Buf.wait (hS : S.length ≤ 400000) : WaitOk M c := ⟨h.wb, by have := h.len; omega, fun o ho => h.wf (h.mem ho)⟩
theorem Buf.put {l : List OpD} (hl : PutOk l) (hb : l.any (badF n) = false) : Buf n (fstO (S ++ l)) (putR has (M, c) l).2.1 (putR has (M, c) l).2.2 (putMs has (M, c) l).2 ∧ Drained (fstO (S ++ l)) has ((putR has (M, c) l).1, (putR has (M, c) l).2.1, vals (putR has (M, c) l).2.2) := by
  have hf : ∀ o, o ∈ l → Go.Sl.Form n o := fun o ho => by
    rw [List.any_eq_false] at hb
    exact (badF_iff.1 (by simpa using hb o ho)).2.2
  obtain ⟨h1, h2⟩ := put_ok h.puts h.full hf
  obtain ⟨h3, h4⟩ := putR_ok (has := has) (X := (M, c)) h.wb l
  rw [← h4] at h2
  obtain ⟨h5, h6⟩ := putMs_ok (has := has) l (X := (M, c)) h.wb
  refine ⟨⟨h.n1, h1, h2.full, h3, ?_, fun o ho => ?_⟩, h2⟩
  · refine drainM_wf _ _ _ _ h5 h.hv fun o ho => ?_
    rw [h6] at ho
    rcases addAll_mem ho with ho | ho
    · exact h.wf (h.mem ho)
    · exact hl.wf ho
  · rcases fstO_all ho with ho | ho
    · exact h.opr o ho
    · exact (hl.op o ho).1
end
structure RowR (l : List OpD) : Prop where
  len : l.length ≤ 140737488351232
  op : ∀ o, o ∈ l → OpR o ∧ o.cl.length ≤ 140737488351232
theorem RowR.put {l m : List OpD} (h : RowR l) (hm : m.length ≤ 500000) (hs : ∀ o, o ∈ m → o ∈ l) : PutOk m := ⟨hm, fun x hx => h.op x (hs x hx)⟩
theorem op_load11 {l : List OpD} {i : Nat} {x : OpD} (h : l[i]? = some x) : List.take 2 (List.drop (i * 29) (List.map SV.d (l.flatMap OpD.ds))) = x.dot.cells := by
  have h1 : List.take 2 (List.take 29 (List.drop (i * 29) (List.map SV.d (l.flatMap OpD.ds)))) = x.dot.cells := by rw [op_at h]; rfl
  rw [← h1, List.take_take]; rfl
theorem op_roomd11 {l : List OpD} {i : Nat} {x : OpD} (h : l[i]? = some x) : (i * 29 + 2 ≤ (List.map SV.d (l.flatMap OpD.ds)).length) = True := eq_true (by
  have := of_eq_true (op_room0 h); omega)
theorem great11_ok (l : List OpD) : Go.Sl.Pure Tryd.prog law11_great.f [ops l] (bl (decide ((l.length : Int) > 80))) := by
  refine law11_great.enter (by first | rfl | simp [SV.ok, SV.oks]) (by first | rfl | simp [Hp.ok, Ob.ok, SV.ok, SV.oks, Vec.cells_ok]) (by simp) ?_
  dsimp only [law11_great.s, Co.M, Co.G, Co.J, Co.H, Co.N, Co.F, Co.C, Co.Z, Co.B, Co.b8, Co.b32, Co.b64, Co.i6, Co.z8, Co.z29]
  refine SW.seq ?_
  (refine SW.regL [0, 2] mixed ?_; (repeat (first | refine RW.ro bq_tt (h := ?_) | refine RW.skip (h := ?_) | refine RW.op bq_tt (h := ?_) | refine RW.opN bq_tt (h := ?_) | refine RW.skip0 (h := ?_))); refine RW.nil ⟨by kernel_rfl, Pruned.mk (h := ?_)⟩)
  refine SW.seq ?_
  (refine SW.regL [0, 2] mixed ?_; (repeat (first | refine RW.ro bq_tt (h := ?_) | refine RW.skip (h := ?_) | refine RW.op bq_tt (h := ?_) | refine RW.opN bq_tt (h := ?_) | refine RW.skip0 (h := ?_))); refine RW.nil ⟨by kernel_rfl, Pruned.mk (h := ?_)⟩)
  refine SW.ret ?_
  exact End.mk [] (h4 := ⟨rfl, rfl⟩)
theorem great11_at (l : List OpD) (k : Nat) : SCd Tryd.prog law11_great.f [ops l] [] k 0 (bl (decide ((l.length : Int) > 80))) [] := (great11_ok l).sc rfl k
end Go.Proofs.YtnakpdoioammhaaDoor
namespace Go.Proofs.YtnakpdoioammhaaDoor
open Go.Sl Go.Proofs
attribute [local irreducible] SW RW SCd SC CallP Pruned
theorem ops_fm_take : ∀ (l : List OpD) (i : Nat), (l.flatMap OpD.ds).take (i * 29) = (l.take i).flatMap OpD.ds
  | [], i => by simp
  | x :: l, 0 => by simp
  | x :: l, i + 1 => by
    have := ops_fm_take l i
    rw [List.take_succ_cons, List.flatMap_cons, List.flatMap_cons, List.take_append, ← this, OpD.ds_len, show (i + 1) * 29 - 29 = i * 29 by omega, List.take_of_length_le (by rw [OpD.ds_len]; omega)]
theorem ops_fm_drop : ∀ (l : List OpD) (i : Nat), (l.flatMap OpD.ds).drop (i * 29) = (l.drop i).flatMap OpD.ds
  | [], i => by simp
  | x :: l, 0 => by simp
  | x :: l, i + 1 => by
    have := ops_fm_drop l i
    rw [List.drop_succ_cons, ← this, List.flatMap_cons, List.drop_append]
    rw [show (i + 1) * 29 - x.ds.length = i * 29 by rw [OpD.ds_len]; omega, List.drop_of_length_le (by rw [OpD.ds_len]; omega)]
    rfl
theorem uniq_snoc {t : List OpD} {x : OpD} (h : Uniq t) (hx : ∀ y, y ∈ t → y.dot ≠ x.dot) : Uniq (t ++ [x]) :=
  uniq_app h (by simp [Uniq]) fun a b ha hb => by simp at hb; rw [hb]; exact hx a ha
theorem drained_len {S x L : List OpD} {h h0 : Vec} (hx : Drained S h0 (x, h, L)) : x.length ≤ S.length := hx.nd.nd.length_le_of_subset fun o ho => ((hx.mem o).1 ho).1
end Go.Proofs.YtnakpdoioammhaaDoor
namespace Go.Proofs.YtnakpdoioammhaaDoor
open Go.Sl Go.Proofs
attribute [local irreducible] SW RW SCd SC CallP Pruned
theorem ahead_ok (a b : OpD) : Go.Sl.Pure Tryd.prog ref11_Ahead.f [.agg a.cells, .agg b.cells] (bl (a.lt b)) := by
  refine ref11_Ahead.enter (by first | rfl | simp [SV.ok, SV.oks]) (by first | rfl | simp [Hp.ok, Ob.ok, SV.ok, SV.oks, Vec.cells_ok]) (by simp) ?_
  dsimp only [ref11_Ahead.s, Co.M, Co.G, Co.J, Co.H, Co.N, Co.F, Co.C, Co.Z, Co.B, Co.b8, Co.b32, Co.b64, Co.i6, Co.z8, Co.z29]
  by_cases h1 : a.time = b.time
  · have e1 : ((a.time : Int) != (b.time : Int)) = false := by simp; omega
    by_cases h2 : a.dot.r = b.dot.r
    · have e2 : ((a.dot.r : Int) != (b.dot.r : Int)) = false := by simp; omega
      have e : a.lt b = decide ((a.dot.n : Int) < (b.dot.n : Int)) := by
        rw [Bool.eq_iff_iff, OpD.lt_iff, decide_eq_true_eq]; omega
      rw [e]
      (repeat (first | refine SW.seq ?_ | refine SW.block ?_ | (refine SW.regL [0, 1, 2, 3, 4, 9, 21] mixed ?_; (repeat (first | refine RW.ro (And.intro (e1) (e2)) (h := ?_) | refine RW.skip (h := ?_) | refine RW.op (And.intro (e1) (e2)) (h := ?_) | refine RW.opN (And.intro (e1) (e2)) (h := ?_) | refine RW.skip0 (h := ?_))); refine RW.nil ⟨by kernel_rfl, Pruned.mk (h := ?_)⟩) | refine SW.skip ?_ | refine SW.exit ?_ | refine SW.ret ?_ | refine SW.condT rfl ?_ | refine SW.condF rfl ?_))
      exact End.mk [] (h4 := ⟨rfl, rfl⟩)
    · have e2 : ((a.dot.r : Int) != (b.dot.r : Int)) = true := by simp; omega
      have e : a.lt b = decide ((a.dot.r : Int) < (b.dot.r : Int)) := by
        rw [Bool.eq_iff_iff, OpD.lt_iff, decide_eq_true_eq]; omega
      rw [e]
      (repeat (first | refine SW.seq ?_ | refine SW.block ?_ | (refine SW.regL [0, 1, 2, 3, 4, 9, 21] mixed ?_; (repeat (first | refine RW.ro (And.intro (e1) (e2)) (h := ?_) | refine RW.skip (h := ?_) | refine RW.op (And.intro (e1) (e2)) (h := ?_) | refine RW.opN (And.intro (e1) (e2)) (h := ?_) | refine RW.skip0 (h := ?_))); refine RW.nil ⟨by kernel_rfl, Pruned.mk (h := ?_)⟩) | refine SW.skip ?_ | refine SW.exit ?_ | refine SW.ret ?_ | refine SW.condT rfl ?_ | refine SW.condF rfl ?_))
      exact End.mk [] (h4 := ⟨rfl, rfl⟩)
  · have e1 : ((a.time : Int) != (b.time : Int)) = true := by simp; omega
    have e : a.lt b = decide ((a.time : Int) < (b.time : Int)) := by
      rw [Bool.eq_iff_iff, OpD.lt_iff, decide_eq_true_eq]; omega
    rw [e]
    (repeat (first | refine SW.seq ?_ | refine SW.block ?_ | (refine SW.regL [0, 1, 2, 3, 4, 9, 21] mixed ?_; (repeat (first | refine RW.ro (e1) (h := ?_) | refine RW.skip (h := ?_) | refine RW.op (e1) (h := ?_) | refine RW.opN (e1) (h := ?_) | refine RW.skip0 (h := ?_))); refine RW.nil ⟨by kernel_rfl, Pruned.mk (h := ?_)⟩) | refine SW.skip ?_ | refine SW.exit ?_ | refine SW.ret ?_ | refine SW.condT rfl ?_ | refine SW.condF rfl ?_))
    exact End.mk [] (h4 := ⟨rfl, rfl⟩)
theorem ahead_at (a b : OpD) (k : Nat) : SCd Tryd.prog ref11_Ahead.f [.agg a.cells, .agg b.cells] [] k 0 (bl (a.lt b)) [] := (ahead_ok a b).sc rfl k
theorem ops_drop : ∀ (l : List OpD) (i : Nat), (l.flatMap OpD.ds).drop (i * 29) = (l.drop i).flatMap OpD.ds
  | [], i => by simp
  | x :: l, 0 => by simp
  | x :: l, i + 1 => by
    have := ops_drop l i
    rw [List.drop_succ_cons, ← this, List.flatMap_cons, List.drop_append]
    rw [show (i + 1) * 29 - x.ds.length = i * 29 by rw [OpD.ds_len]; omega, List.drop_of_length_le (by rw [OpD.ds_len]; omega)]
    rfl
theorem ops_rest (l : List OpD) (i : Nat) : ((l.flatMap OpD.ds).drop (i * 29)).take ((l.length - i) * 29) = (l.drop i).flatMap OpD.ds := by
  rw [ops_drop, List.take_of_length_le]
  rw [ops_len]; simp
theorem ops_take : ∀ (l : List OpD) (i : Nat), (l.flatMap OpD.ds).take (i * 29) = (l.take i).flatMap OpD.ds
  | [], i => by simp
  | x :: l, 0 => by simp
  | x :: l, i + 1 => by
    have := ops_take l i
    rw [List.take_succ_cons, List.flatMap_cons, List.flatMap_cons, List.take_append, ← this, OpD.ds_len, show (i + 1) * 29 - 29 = i * 29 by omega, List.take_of_length_le (by rw [OpD.ds_len]; omega)]
set_option maxHeartbeats 4000000 in
theorem rsorted_ok (l : List OpD) (hl : l.length ≤ 1048576) : Go.Sl.Pure Tryd.prog ref11_Sorted.f [ops l] (ops (sortedR l)) := by
  refine ref11_Sorted.enter (by first | rfl | simp [SV.ok, SV.oks]) (by first | rfl | simp [Hp.ok, Ob.ok, SV.ok, SV.oks, Vec.cells_ok]) (by simp) ?_
  dsimp only [ref11_Sorted.s, Co.M, Co.G, Co.J, Co.H, Co.N, Co.F, Co.C, Co.Z, Co.B, Co.b8, Co.b32, Co.b64, Co.i6, Co.z8, Co.z29]
  refine SW.seq ?_
  (refine SW.regL [0, 2, 3, 4, 5, 9, 26] mixed ?_; (repeat (first | refine RW.ro bq_tt (h := ?_) | refine RW.skip (h := ?_) | refine RW.op bq_tt (h := ?_) | refine RW.opN bq_tt (h := ?_) | refine RW.skip0 (h := ?_) | refine lit1 rfl rfl (h := ?_) | (refine RW.callC (h := ?_); (first | refine CallP.mk bq_tt (hc := ahead_at _ _ _) (h := ?_))))); refine RW.nil ⟨by kernel_rfl, Pruned.mk (h := ?_)⟩)
  refine SW.seq ?_
  (refine SW.regL [0, 2, 3, 4, 5, 9, 26] mixed ?_; (repeat (first | refine RW.ro bq_tt (h := ?_) | refine RW.skip (h := ?_) | refine RW.op bq_tt (h := ?_) | refine RW.opN bq_tt (h := ?_) | refine RW.skip0 (h := ?_) | refine lit1 rfl rfl (h := ?_) | (refine RW.callC (h := ?_); (first | refine CallP.mk bq_tt (hc := ahead_at _ _ _) (h := ?_))))); refine RW.nil ⟨by kernel_rfl, Pruned.mk (h := ?_)⟩)
  refine SW.nils 3 rfl ?_
  refine SW.seq (SW.seq ?_)
  (refine SW.regL [0, 2, 3, 4, 5, 9, 26] mixed ?_; (repeat (first | refine RW.ro bq_tt (h := ?_) | refine RW.skip (h := ?_) | refine RW.op bq_tt (h := ?_) | refine RW.opN bq_tt (h := ?_) | refine RW.skip0 (h := ?_) | refine lit1 rfl rfl (h := ?_) | (refine RW.callC (h := ?_); (first | refine CallP.mk bq_tt (hc := ahead_at _ _ _) (h := ?_))))); refine RW.nil ⟨by kernel_rfl, Pruned.mk (h := ?_)⟩)
  refine SW.block ?_
  refine SW.loopA (α := {i : Nat // i ≤ l.length}) (fun i => ⟨[(4, i64 i.1), (0, ops l), (3, ops (sortedR (l.take i.1)))], [], 0⟩) (fun i => l.length - i.1) ⟨0, by omega⟩ id (And.intro (show sortedR [] = [] from rfl) bq_tt) (round := ?_)
  rintro ⟨i, hi⟩
  dsimp only
  by_cases h : i < l.length
  · have h1 : decide ((i : Int) < l.length) = true := by simp only [decide_eq_true_eq]; omega
    obtain ⟨x, hx⟩ := get_of_lt h
    have e2 : IntKind.i64.wrap ((i : Int) + 1) = ((i + 1 : Nat) : Int) := wrap_i64 _ (by omega)
    have e1 : l.take (i + 1) = l.take i ++ [x] := take_snoc hx
    have hsn := sortedR_snoc (l.take i) x
    rw [← e1] at hsn
    have hlen : (sortedR (l.take i)).length ≤ i := by rw [(sortedR_perm _).length_eq]; simp; omega
    generalize sortedR (l.take i) = s at hsn hlen ⊢
    refine SW.seq (SW.seq ?_)
    (refine SW.regL [0, 2, 3, 4, 5, 9, 26] mixed ?_; (repeat (first | refine RW.ro (h1) (h := ?_) | refine RW.skip (h := ?_) | refine RW.op (h1) (h := ?_) | refine RW.opN (h1) (h := ?_) | refine RW.skip0 (h := ?_) | refine lit1 rfl rfl (h := ?_) | (refine RW.callC (h := ?_); (first | refine CallP.mk (h1) (hc := ahead_at _ _ _) (h := ?_))))); refine RW.nil ⟨by kernel_rfl, Pruned.mk (h := ?_)⟩)
    refine SW.condT rfl (SW.skip ?_)
    refine SW.seq (SW.block (SW.seq ?_))
    (refine SW.regL [0, 2, 3, 4, 5, 9, 26] mixed ?_; (repeat (first | refine RW.ro bq_tt (h := ?_) | refine RW.skip (h := ?_) | refine RW.op bq_tt (h := ?_) | refine RW.opN bq_tt (h := ?_) | refine RW.skip0 (h := ?_) | refine lit1 rfl rfl (h := ?_) | (refine RW.callC (h := ?_); (first | refine CallP.mk bq_tt (hc := ahead_at _ _ _) (h := ?_))))); refine RW.nil ⟨by kernel_rfl, Pruned.mk (h := ?_)⟩)
    refine SW.seq (SW.block ?_)
    refine SW.loopA (α := {k : Nat // k ≤ s.length ∧ ∀ j y, j < k → s[j]? = some y → y.lt x = true}) (fun k => ⟨[(5, i64 k.1), (4, i64 i), (0, ops l), (3, ops s)], [], 0⟩) (fun k => s.length - k.1) ⟨0, by omega, by omega⟩ id bq_tt (round := ?_)
    rintro ⟨k, hk, hs⟩
    have last : ∀ (hn : ∀ y, s[k]? = some y → y.lt x = false), insL s x = s.take k ++ x :: s.drop k := fun hn => by
      have key : ∀ (s : List OpD) (k : Nat), k ≤ s.length → (∀ j y, j < k → s[j]? = some y → y.lt x = true) → (∀ y, s[k]? = some y → y.lt x = false) → s.takeWhile (fun y => y.lt x) = s.take k ∧ s.dropWhile (fun y => y.lt x) = s.drop k := by
        intro s
        induction s with
        | nil => intro k hk _ _; have : k = 0 := by simpa using hk
                 subst this; exact ⟨rfl, rfl⟩
        | cons z s ih =>
          intro k hk h1 h2
          cases k with
          | zero => have := h2 z rfl; simp [this]
          | succ k =>
            have hz := h1 0 z (by omega) rfl
            obtain ⟨a, b⟩ := ih k (by simpa using hk) (fun j y hj hy => h1 (j + 1) y (by omega) hy) (fun y hy => h2 y hy)
            simp [hz, a, b]
      unfold insL
      rw [(key s k hk hs hn).1, (key s k hk hs hn).2]
    by_cases hks : k < s.length
    · obtain ⟨y, hy⟩ := get_of_lt hks
      have k1 : decide ((k : Int) < s.length) = true := by simp only [decide_eq_true_eq]; omega
      have k2 : IntKind.i64.wrap ((k : Int) + 1) = ((k + 1 : Nat) : Int) := wrap_i64 _ (by omega)
      rcases hyx : y.lt x with _ | _
      · refine SW.seq (SW.seq ?_)
        (have fx := (And.intro (k1) (And.intro (op_at hy) (And.intro (op_room0 hy) (And.intro (op_at hx) (And.intro (op_room0 hx) (hyx)))))); refine SW.regL [0, 2, 3, 4, 5, 9, 26] mixed ?_; (repeat (first | refine RW.ro fx (h := ?_) | refine RW.skip (h := ?_) | refine RW.op fx (h := ?_) | refine RW.opN fx (h := ?_) | refine RW.skip0 (h := ?_) | refine lit1 rfl rfl (h := ?_) | (refine RW.callC (h := ?_); (first | refine CallP.mk fx (hc := ahead_at _ _ _) (h := ?_))))); refine RW.nil ⟨by kernel_rfl, Pruned.mk (h := ?_)⟩)
        have hins := last fun z hz => by rw [hy] at hz; injection hz with hz; rw [← hz]; exact hyx
        refine SW.condF rfl (SW.exit ?_)
        have e0 : (k : Int).toNat = k := Int.toNat_natCast k
        (have fx := (And.intro (e0) (And.intro (op_at hx) (op_room0 hx))); refine SW.regL [0, 2, 3, 4, 5, 9, 26] mixed ?_; (repeat (first | refine RW.ro fx (h := ?_) | refine RW.skip (h := ?_) | refine RW.op fx (h := ?_) | refine RW.opN fx (h := ?_) | refine RW.skip0 (h := ?_) | refine lit1 rfl rfl (h := ?_) | (refine RW.callC (h := ?_); (first | refine CallP.mk fx (hc := ahead_at _ _ _) (h := ?_))))); refine RW.nil ⟨by kernel_rfl, Pruned.mk (h := ?_)⟩)
        have hlen2 : k - 0 + [x].length + (s.length - k) = (insL s x).length := by rw [hins]; simp; omega
        refine SW.freeze 3 ((insL s x).flatMap OpD.ds) rfl (by rw [ops_rest, Nat.sub_zero, ops_take, hins]; simp) ?_
        simp only [frzE, SV.frz, List.map_cons, List.map_nil, if_true, if_false, reduceIte, hdel, Nat.reduceEqDiff, hlen2]
        (repeat (first | refine SW.seq ?_ | refine SW.block ?_ | (refine SW.regL [0, 2, 3, 4, 5, 9, 26] mixed ?_; (repeat (first | refine RW.ro (e2) (h := ?_) | refine RW.skip (h := ?_) | refine RW.op (e2) (h := ?_) | refine RW.opN (e2) (h := ?_) | refine RW.skip0 (h := ?_) | refine lit1 rfl rfl (h := ?_) | (refine RW.callC (h := ?_); (first | refine CallP.mk (e2) (hc := ahead_at _ _ _) (h := ?_))))); refine RW.nil ⟨by kernel_rfl, Pruned.mk (h := ?_)⟩) | refine SW.skip ?_ | refine SW.exit ?_ | refine SW.ret ?_ | refine SW.condT rfl ?_ | refine SW.condF rfl ?_))
        dsimp only
        exact ⟨⟨i + 1, by omega⟩, id, by show l.length - (i + 1) < _; omega, Weak.mk (And.intro hsn bq_tt)⟩
      · (repeat (first | refine SW.seq ?_ | refine SW.block ?_ | (have fx := (And.intro (k1) (And.intro (op_at hy) (And.intro (op_room0 hy) (And.intro (op_at hx) (And.intro (op_room0 hx) (And.intro (hyx) (k2))))))); refine SW.regL [0, 2, 3, 4, 5, 9, 26] mixed ?_; (repeat (first | refine RW.ro fx (h := ?_) | refine RW.skip (h := ?_) | refine RW.op fx (h := ?_) | refine RW.opN fx (h := ?_) | refine RW.skip0 (h := ?_) | refine lit1 rfl rfl (h := ?_) | (refine RW.callC (h := ?_); (first | refine CallP.mk fx (hc := ahead_at _ _ _) (h := ?_))))); refine RW.nil ⟨by kernel_rfl, Pruned.mk (h := ?_)⟩) | refine SW.skip ?_ | refine SW.exit ?_ | refine SW.ret ?_ | refine SW.condT rfl ?_ | refine SW.condF rfl ?_))
        refine Next.mk ⟨k + 1, by omega, fun j z hj hz => ?_⟩ id bq_tt
        rcases Nat.lt_or_ge j k with h3 | h3
        · exact hs j z h3 hz
        · have : j = k := by omega
          subst this
          rw [hy] at hz; injection hz with hz; rw [← hz]; exact hyx
    · have k1 : decide ((k : Int) < s.length) = false := by simp only [decide_eq_false_iff_not]; omega
      have hins := last fun z hz => by rw [List.getElem?_eq_none (by omega)] at hz; cases hz
      refine SW.seq (SW.seq ?_)
      (refine SW.regL [0, 2, 3, 4, 5, 9, 26] mixed ?_; (repeat (first | refine RW.ro (k1) (h := ?_) | refine RW.skip (h := ?_) | refine RW.op (k1) (h := ?_) | refine RW.opN (k1) (h := ?_) | refine RW.skip0 (h := ?_) | refine lit1 rfl rfl (h := ?_) | (refine RW.callC (h := ?_); (first | refine CallP.mk (k1) (hc := ahead_at _ _ _) (h := ?_))))); refine RW.nil ⟨by kernel_rfl, Pruned.mk (h := ?_)⟩)
      refine SW.condF rfl (SW.exit ?_)
      have e0 : (k : Int).toNat = k := Int.toNat_natCast k
      (have fx := (And.intro (e0) (And.intro (op_at hx) (op_room0 hx))); refine SW.regL [0, 2, 3, 4, 5, 9, 26] mixed ?_; (repeat (first | refine RW.ro fx (h := ?_) | refine RW.skip (h := ?_) | refine RW.op fx (h := ?_) | refine RW.opN fx (h := ?_) | refine RW.skip0 (h := ?_) | refine lit1 rfl rfl (h := ?_) | (refine RW.callC (h := ?_); (first | refine CallP.mk fx (hc := ahead_at _ _ _) (h := ?_))))); refine RW.nil ⟨by kernel_rfl, Pruned.mk (h := ?_)⟩)
      have hlen2 : k - 0 + [x].length + (s.length - k) = (insL s x).length := by rw [hins]; simp; omega
      refine SW.freeze 3 ((insL s x).flatMap OpD.ds) rfl (by rw [ops_rest, Nat.sub_zero, ops_take, hins]; simp) ?_
      simp only [frzE, SV.frz, List.map_cons, List.map_nil, if_true, if_false, reduceIte, hdel, Nat.reduceEqDiff, hlen2]
      (repeat (first | refine SW.seq ?_ | refine SW.block ?_ | (refine SW.regL [0, 2, 3, 4, 5, 9, 26] mixed ?_; (repeat (first | refine RW.ro (e2) (h := ?_) | refine RW.skip (h := ?_) | refine RW.op (e2) (h := ?_) | refine RW.opN (e2) (h := ?_) | refine RW.skip0 (h := ?_) | refine lit1 rfl rfl (h := ?_) | (refine RW.callC (h := ?_); (first | refine CallP.mk (e2) (hc := ahead_at _ _ _) (h := ?_))))); refine RW.nil ⟨by kernel_rfl, Pruned.mk (h := ?_)⟩) | refine SW.skip ?_ | refine SW.exit ?_ | refine SW.ret ?_ | refine SW.condT rfl ?_ | refine SW.condF rfl ?_))
      dsimp only
      exact ⟨⟨i + 1, by omega⟩, id, by show l.length - (i + 1) < _; omega, Weak.mk (And.intro hsn bq_tt)⟩
  · have h1 : decide ((i : Int) < l.length) = false := by simp only [decide_eq_false_iff_not]; omega
    have h2 : i = l.length := by omega
    subst h2
    rw [List.take_length]
    have hlen : (sortedR l).length = l.length := (sortedR_perm l).length_eq
    (repeat (first | refine SW.seq ?_ | refine SW.block ?_ | (refine SW.regL [0, 2, 3, 4, 5, 9, 26] mixed ?_; (repeat (first | refine RW.ro (h1) (h := ?_) | refine RW.skip (h := ?_) | refine RW.op (h1) (h := ?_) | refine RW.opN (h1) (h := ?_) | refine RW.skip0 (h := ?_) | refine lit1 rfl rfl (h := ?_) | (refine RW.callC (h := ?_); (first | refine CallP.mk (h1) (hc := ahead_at _ _ _) (h := ?_))))); refine RW.nil ⟨by kernel_rfl, Pruned.mk (h := ?_)⟩) | refine SW.skip ?_ | refine SW.exit ?_ | refine SW.ret ?_ | refine SW.condT rfl ?_ | refine SW.condF rfl ?_))
    exact End.mk [] (h4 := ⟨rfl, rfl⟩)
theorem rsorted_at (l : List OpD) (hl : l.length ≤ 1048576) (k : Nat) : SCd Tryd.prog ref11_Sorted.f [ops l] [] k 0 (ops (sortedR l)) [] := (rsorted_ok l hl).sc rfl k
end Go.Proofs.YtnakpdoioammhaaDoor
