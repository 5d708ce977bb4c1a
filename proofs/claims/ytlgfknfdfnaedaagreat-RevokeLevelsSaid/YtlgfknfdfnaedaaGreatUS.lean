/-
  Revoke: levels fall from who hits to who is hit (plain).
-/
import Derived.Test.YtlgfknfdfnaedaaGreatUO
import Derived.Test.YtlgfknfdfnaedaaGreatUL
import Derived.Test.YtlgfknfdfnaedaaGreatUR
import Derived.Test.YtlgfknfdfnaedaaGreatUN
import Derived.Test.YtlgfknfdfnaedaaGreatUE
set_option linter.unusedSectionVars false
set_option linter.unusedVariables false
set_option linter.unusedSimpArgs false
namespace Go.Proofs.YtlgfknfdfnaedaaGreat
open Go.Sl Go.Proofs
noncomputable def chnL (l : List OpD) (o : OpD) : List Dt := if o.kind = 0 then [] else (upsL (newTr l).at_ o.cred).map (·.dot)
theorem ShOk.chn {l : List OpD} {S : Sh} (h : ShOk l S) (o : OpD) : S.chn o = chnL l o := by unfold Sh.chn chnL; rw [h.base.tr]
noncomputable def Sh.thr (S : Sh) (ds : List Dt) (o : OpD) : List Dt := (S.chn o).flatMap fun c => (ds.filter (S.rv c)).filter fun t => !o.before (S.op t)
theorem Sh.mem_thr {S : Sh} {ds : List Dt} {o : OpD} {t : Dt} : t ∈ S.thr ds o ↔ t ∈ ds ∧ S.good t = true ∧ (S.op t).kind = 2 ∧ (S.op t).at_ ∈ S.chn o ∧ o.before (S.op t) = false := by
  unfold Sh.thr Sh.rv
  simp only [List.mem_flatMap, List.mem_filter, Bool.and_eq_true, decide_eq_true_eq, Bool.not_eq_true']
  constructor
  · rintro ⟨c, hc, ⟨h1, h2, h3, rfl⟩, h4⟩
    exact ⟨h1, h2, h3, hc, h4⟩
  · rintro ⟨h1, h2, h3, h4, h5⟩
    exact ⟨_, h4, ⟨h1, h2, h3, rfl⟩, h5⟩
theorem TOk.upsCart {l : List OpD} {T : Tr} (h : TOk l T) {oc : Option Cr} {L : List Cr} (hL : Ups T.at_ oc L) : ∀ c d, oc = some c → MM.get T.at_ d = some c → ∀ x, x ∈ L → x.cart = c.cart := by
  induction hL with
  | none => intro c d hc; cases hc
  | root c0 _ =>
    intro c d hc _ x hx
    injection hc with hc
    rw [List.mem_singleton] at hx
    rw [hx, hc]
  | more c0 L hl hU ih =>
    intro c d hc hg x hx
    injection hc with hc
    subst hc
    rcases List.mem_cons.1 hx with rfl | hx
    · rfl
    · obtain ⟨o, p, q, _, _, hp, hb⟩ := h.above hg hl
      rw [ih p c0.par hp hp x hx, hb.cart, hb.is]
theorem TOk.upsIn {l : List OpD} {T : Tr} (h : TOk l T) {d : Dt} {c : Cr} (hc : MM.get T.at_ d = some c) {L : List Cr} (hL : Ups T.at_ (MM.get T.at_ d) L) {x : Cr} (hx : x ∈ L) : x.level ≤ c.level ∧ (x.level = c.level → x.dot = d) ∧ x.cart = c.cart ∧ MM.get T.at_ x.dot = some x := by
  obtain ⟨i, hi⟩ := List.mem_iff_getElem?.1 hx
  have h1 := h.upsLevel hL i x c hc hi
  refine ⟨by omega, fun e => ?_, h.upsCart hL c d hc hc x hx, h.upsGet hL x hx⟩
  have h0 : i = 0 := by omega
  subst h0
  have h2 : L[0]? = some c := by rw [hc] at hL; exact hL.head
  rw [hi] at h2
  injection h2 with h2
  rw [h2]; exact h.dotIs hc
theorem chnL_cred {l : List OpD} {o : OpD} (hk : o.kind ≠ 0) {c : Cr} (hc : MM.get (newTr l).at_ o.cred = some c) : ((chnL l o).length : Int) = c.level + 1 ∧ ∀ a, a ∈ chnL l o → ∃ x, x ∈ upsL (newTr l).at_ o.cred ∧ x.dot = a := by
  obtain ⟨L, h1, _, h3⟩ := (newTr_tok l).ups o.cred
  unfold chnL
  rw [if_neg hk, List.length_map, upsL_eq h1]
  refine ⟨h3 c hc, fun a ha => ?_⟩
  obtain ⟨x, hx, e⟩ := List.mem_map.1 ha
  exact ⟨x, hx, e⟩
theorem thr_low {l : List OpD} {o r : OpD} (ho : whyL l o = 0) (hr : whyL l r = 0) (hk : r.kind = 2) (ha : r.at_ ∈ chnL l o) : (chnL l r).length < (chnL l o).length ∧ 2 ≤ (chnL l o).length ∧ r.cart = o.cart := by
  have hko : o.kind ≠ 0 := fun e => by unfold chnL at ha; rw [if_pos e] at ha; cases ha
  have hT := newTr_tok l
  obtain ⟨co, g1, g2, _, _⟩ := names_cred ho hko
  obtain ⟨cr, g3, g4, _, _⟩ := names_cred hr (by omega)
  obtain ⟨n1, n2⟩ := chnL_cred hko g1
  obtain ⟨n3, _⟩ := chnL_cred (show r.kind ≠ 0 by omega) g3
  obtain ⟨y, hy, ey⟩ := n2 _ ha
  obtain ⟨L, hL, _, _⟩ := hT.ups o.cred
  rw [upsL_eq hL] at hy
  obtain ⟨y1, _, y3, y4⟩ := hT.upsIn g1 hL hy
  rw [ey] at y4
  have hab := names_above hr hk
  obtain ⟨M, hM, _, _⟩ := hT.ups r.at_
  rw [upsL_eq hM] at hab
  unfold aboveR at hab
  simp only [Bool.and_eq_true, Bool.not_eq_true', decide_eq_false_iff_not, List.any_eq_true, decide_eq_true_eq] at hab
  obtain ⟨hne, x, hx, ex⟩ := hab
  obtain ⟨x1, x2, x3, x4⟩ := hT.upsIn y4 hM hx
  rw [ex, g3] at x4
  injection x4 with x4
  subst x4
  have hlt : cr.level < y.level := by
    rcases Int.lt_or_le cr.level y.level with h | h
    · exact h
    · exact absurd (ex.symm.trans (x2 (by omega))) hne
  have hz := (hT.level g3).1
  refine ⟨by omega, by omega, ?_⟩
  rw [← g2, ← g4, x3, y3]
end Go.Proofs.YtlgfknfdfnaedaaGreat
namespace Go.Proofs.YtlgfknfdfnaedaaGreat
open Go.Sl Go.Proofs
def q1 : OpD := ⟨⟨0, 1⟩, Vec.zero, 1, 1, ⟨0, 1⟩, 0, ⟨0, 0⟩, 0, 0, 0, 0, ⟨0, 0⟩, ⟨0, 0⟩, 0, 0, 0, .nils⟩
def q2 : OpD := ⟨⟨0, 2⟩, vec1 1, 2, 1, ⟨0, 1⟩, 1, ⟨0, 1⟩, 2, 2, 0, 9, ⟨0, 0⟩, ⟨0, 0⟩, 0, 0, 0, .nils⟩
def q3 : OpD := ⟨⟨0, 3⟩, vec1 2, 3, 2, ⟨0, 1⟩, 3, ⟨0, 2⟩, 0, 0, 0, 0, ⟨0, 0⟩, ⟨0, 0⟩, 0, 1, 0, .nils⟩
def q4 : OpD := ⟨⟨0, 4⟩, vec1 3, 4, 2, ⟨0, 1⟩, 4, ⟨0, 2⟩, 0, 0, 0, 0, ⟨0, 3⟩, ⟨0, 0⟩, 0, 2, 0, .nils⟩
def q5 : OpD := ⟨⟨1, 1⟩, vec1 3, 4, 1, ⟨0, 1⟩, 2, ⟨0, 1⟩, 0, 0, 0, 0, ⟨0, 2⟩, ⟨0, 0⟩, 0, 0, 0, .nils⟩
def p1 : OpD := q1.nz
def p2 : OpD := q2.nz
def p3 : OpD := q3.nz
def p4 : OpD := q4.nz
def p5 : OpD := q5.nz
def prow : List OpD := [p1, p2, p3, p4, p5]
set_option maxRecDepth 100000 in
theorem lit5 {P : Program} {env : List (Nat × SV)} {hp : Hp} {k d p q s v w : Nat} {r : List SI} {K : St → List (Bool × List Nat) → Prop} (a b c e g : OpD) {z : List SV} (hz : z = zOp ++ (zOp ++ (zOp ++ (zOp ++ zOp))))
    (ha : env.lookup p = some (.agg a.cells)) (hb : env.lookup q = some (.agg b.cells)) (hc : env.lookup s = some (.agg c.cells)) (he : env.lookup v = some (.agg e.cells)) (hg : env.lookup w = some (.agg g.cells))
    (h : RW P r ⟨(d, ops [a, b, c, e, g]) :: env, hp, k⟩ fun st' ts => K st' ((false, []) :: ts)) : RW P (⟨some d, .bsl 31 29 5 z [(0, 29, .t p), (29, 29, .t q), (58, 29, .t s), (87, 29, .t v), (116, 29, .t w)], none⟩ :: r) ⟨env, hp, k⟩ K := by
  subst hz
  refine RW.cons (e := ⟨ops [a, b, c, e, g], [], [], 0, ((29 = 29 ∧ 0 + 29 ≤ 145 ∧ 29 = 29 ∧ 29 + 29 ≤ 145 ∧ 29 = 29 ∧ 58 + 29 ≤ 145 ∧ 29 = 29 ∧ 87 + 29 ≤ 145 ∧ 29 = 29 ∧ 116 + 29 ≤ 145 ∧ True))⟩) (fun crs => ⟨.frz :: crs, runOp_some (.inl rfl) ?_⟩) (by show 29 = 29 ∧ 0 + 29 ≤ 145 ∧ 29 = 29 ∧ 29 + 29 ≤ 145 ∧ 29 = 29 ∧ 58 + 29 ≤ 145 ∧ 29 = 29 ∧ 87 + 29 ≤ 145 ∧ 29 = 29 ∧ 116 + 29 ≤ 145 ∧ True; decide) ?_
  · have h1 : evp (fun t => env.lookup t) [(0, 29, X.t p), (29, 29, X.t q), (58, 29, X.t s), (87, 29, X.t v), (116, 29, X.t w)] = some [(0, 29, .agg a.cells), (29, 29, .agg b.cells), (58, 29, .agg c.cells), (87, 29, .agg e.cells), (116, 29, .agg g.cells)] := by
      simp only [evp, ev, ha, hb, hc, he, hg]
    have h2 : bldS (zOp ++ (zOp ++ (zOp ++ (zOp ++ zOp)))) [(0, 29, .agg a.cells), (29, 29, .agg b.cells), (58, 29, .agg c.cells), (87, 29, .agg e.cells), (116, 29, .agg g.cells)] = some (a.cells ++ (b.cells ++ (c.cells ++ (e.cells ++ g.cells))), ((29 = 29 ∧ 0 + 29 ≤ 145 ∧ 29 = 29 ∧ 29 + 29 ≤ 145 ∧ 29 = 29 ∧ 58 + 29 ≤ 145 ∧ 29 = 29 ∧ 87 + 29 ≤ 145 ∧ 29 = 29 ∧ 116 + 29 ≤ 145 ∧ True))) := rfl
    have h3 : datas (a.cells ++ (b.cells ++ (c.cells ++ (e.cells ++ g.cells)))) = some ([a, b, c, e, g].flatMap OpD.ds) := rfl
    have h4 : (a.cells ++ (b.cells ++ (c.cells ++ (e.cells ++ g.cells)))).all SV.isOne = true := rfl
    simp only [goOp, sop, h1, h2, h3, h4, if_true, Bool.false_or]
    rfl
  · exact h
theorem RW.bldQ {P : Program} {d : Nat} {z : List SV} {parts : List (Nat × Nat × X)} {r : List SI} {K : St → List (Bool × List Nat) → Prop} {env : List (Nat × SV)} {hp : Hp} {k : Nat} (cs : List SV) {ps : List (Nat × Nat × SV)} {ob : Prop} (h1 : evp (fun t => env.lookup t) parts = some ps) (h2 : bldS z ps = some (cs, ob)) (hob : ob)
    (h : Go.Sl.RW P r ⟨(d, .agg cs) :: env, hp, k⟩ fun st' ts => K st' ((true, []) :: ts)) : Go.Sl.RW P (⟨some d, .bld z parts, none⟩ :: r) ⟨env, hp, k⟩ K :=
  RW.ro_aux (F := []) (F' := []) (nk := 0) (ob := ob) rfl rfl rfl (.inl rfl) (by simp only [goOp, sop, h1, h2]) hob rfl h
section
attribute [local irreducible] SW RW SCd SC CallP Pruned nkT nkH
set_option maxRecDepth 100000 in
set_option maxHeartbeats 4000000 in
theorem prow_ok : Go.Sl.Pure Tryz.prog law18_row.f [] (ops [q1, q2, q3, q4, q5]) := by
  refine law18_row.enter (by first | rfl | simp [SV.ok, SV.oks]) (by first | rfl | simp [Hp.ok, Ob.ok, SV.ok, SV.oks, Vec.cells_ok]) (by simp) ?_
  dsimp only [law18_row.s, Co.M, Co.G, Co.J, Co.H, Co.N, Co.F, Co.C, Co.Z, Co.B, Co.b8, Co.b32, Co.b64, Co.i6, Co.z8, Co.z29]
  refine SW.seq ?_
  (refine SW.regL [0, 1] mixed ?_; (repeat (first | refine RW.ro bq_tt (h := ?_) | refine RW.skip (h := ?_) | refine RW.op bq_tt (h := ?_) | refine RW.opN bq_tt (h := ?_) | refine RW.skip0 (h := ?_))); refine RW.nil ⟨by kernel_rfl, Pruned.mk (h := ?_)⟩)
  refine SW.seq ?_
  (refine SW.regL [0, 1] mixed ?_; (repeat (first | refine RW.ro bq_tt (h := ?_) | refine RW.skip (h := ?_) | refine RW.op bq_tt (h := ?_) | refine RW.opN bq_tt (h := ?_) | refine RW.skip0 (h := ?_))); refine RW.nil ⟨by kernel_rfl, Pruned.mk (h := ?_)⟩)
  refine SW.seq ?_
  (refine SW.regL [0, 1] mixed ?_; (repeat (first | refine RW.bldQ q1.cells rfl rfl (by decide) (h := ?_) | refine RW.bldQ q2.cells rfl rfl (by decide) (h := ?_) | refine RW.bldQ q3.cells rfl rfl (by decide) (h := ?_) | refine RW.bldQ q4.cells rfl rfl (by decide) (h := ?_) | refine RW.bldQ q5.cells rfl rfl (by decide) (h := ?_) | refine lit5 q1 q2 q3 q4 q5 rfl rfl rfl rfl rfl rfl (h := ?_) | refine RW.ro bq_tt (h := ?_) | refine RW.skip (h := ?_) | refine RW.op bq_tt (h := ?_) | refine RW.opN bq_tt (h := ?_) | refine RW.skip0 (h := ?_))); refine RW.nil ⟨by kernel_rfl, Pruned.mk (h := ?_)⟩)
  refine SW.ret ?_
  exact End.mk [] (h4 := ⟨rfl, rfl⟩)
end
theorem prow_at (k : Nat) : SCd Tryz.prog law18_row.f [] [] k 0 (ops prow) [] := by
  have h0 : SCd Tryz.prog law18_row.f [] [] k 0 (ops [q1, q2, q3, q4, q5]) [] := prow_ok.sc rfl k
  refine SC.resd7 h0 fun p μ M u hu => ?_
  rw [Rp.d_iff] at hu ⊢
  have := RepD.nzr hu
  rw [← ops_nz] at this
  exact this
theorem pr_at : (newTr prow).at_ = [(0, ⟨0, 1⟩, hc1), (1, ⟨0, 2⟩, hc2)] := by kernel_rfl
theorem pr_u1 : Ups (newTr prow).at_ (MM.get (newTr prow).at_ ⟨0, 1⟩) [hc1] := by
  rw [pr_at]
  exact .root hc1 (by decide)
theorem pr_u2 : Ups (newTr prow).at_ (MM.get (newTr prow).at_ ⟨0, 2⟩) [hc2, hc1] := by
  rw [pr_at]
  exact .more hc2 _ (by decide) (.root hc1 (by decide))
theorem pr_w1 : whyL prow p1 = 0 := by kernel_rfl
theorem pr_w2 : whyL prow p2 = 0 := by kernel_rfl
theorem pr_w3 : whyL prow p3 = 0 := by kernel_rfl
theorem pr_w4 : whyL prow p4 = 0 := by kernel_rfl
theorem pr_w5 : whyL prow p5 = 0 := whyL_of pr_u2 (by kernel_rfl)
theorem prow_lin : ∀ o, o ∈ prow → o.kind < 256 ∧ o.lin ∧ o.cl.length ≤ 1048576 := fun o ho => by
  simp only [prow, List.mem_cons, List.not_mem_nil, or_false] at ho
  rcases ho with rfl | rfl | rfl | rfl | rfl
  all_goals exact ⟨by decide, lin0 rfl, by decide⟩
end Go.Proofs.YtlgfknfdfnaedaaGreat
namespace Go.Proofs.YtlgfknfdfnaedaaGreat
open Go.Sl Go.Proofs
theorem dset_nodup (l : List Dt) : (Dt.set l).Nodup := (Dt.sorted_perm _).nodup_iff.2 (setM_wf l).keys
section
variable {l : List OpD} {S : Sh} (h : ShOk l S) (hl : l.length ≤ 80)
include h
theorem ShOk.gmem {d : Dt} (hg : S.good d = true) : ∃ o, findO l d = some o ∧ whyL l o = 0 ∧ S.op d = o ∧ o.dot = d ∧ d ∈ Dt.set (l.map (·.dot)) := by
  rw [h.good] at hg
  cases hf : findO l d with
  | none => rw [hf] at hg; cases hg
  | some o =>
    rw [hf] at hg
    have hd := findO_dot hf
    refine ⟨o, rfl, of_decide_eq_true hg, ?_, hd, ?_⟩
    · rw [h.base.op, opP_some hf]
    · rw [Dt.mem_set]
      exact List.mem_map.2 ⟨o, findO_mem hf, hd⟩
theorem ShOk.inds {d : Dt} : (d ∈ Dt.set (l.map (·.dot)) ∧ S.good d = true) ↔ S.good d = true := ⟨fun h => h.2, fun hg => ⟨(h.gmem hg).elim fun _ h => h.2.2.2.2, hg⟩⟩
noncomputable abbrev ShOk.X (_ : ShOk l S) : Ix := ixL S (Dt.set (l.map (·.dot)))
theorem ShOk.xok : IxOk S (Dt.set (l.map (·.dot))) h.X := ixL_ok _ _
theorem ShOk.xhas (d : Dt) : MM.has h.X.ops d = S.good d := by
  unfold MM.has
  rw [h.xok.ops]
  simp only [h.inds]
  cases S.good d <;> rfl
theorem ShOk.xop {d : Dt} (hg : S.good d = true) : h.X.op d = S.op d := by
  unfold Ix.op
  rw [h.xok.ops, if_pos (h.inds.2 hg)]; rfl
theorem ShOk.xchn {d : Dt} (hg : S.good d = true) : h.X.chn d = S.chn (S.op d) := by
  unfold Ix.chn
  rw [h.xok.ch, if_pos (h.inds.2 hg)]; rfl
theorem ShOk.xchn0 {d : Dt} (hg : S.good d = false) : h.X.chn d = [] := by
  unfold Ix.chn
  rw [h.xok.ch, if_neg (fun hh => by rw [hg] at hh; cases hh.2)]; rfl
theorem ShOk.xrvs (c : Dt) : h.X.rvs c = (Dt.set (l.map (·.dot))).filter (S.rv c) := h.xok.of_ c
theorem ShOk.chn_len (o : OpD) : (S.chn o).length ≤ 9 := by
  unfold Sh.chn
  split
  · simp
  · obtain ⟨L, h1, h2⟩ := h.base.ups o.cred
    rw [List.length_map, upsL_eq h1]; exact h2
include hl
theorem ShOk.ds_len : (Dt.set (l.map (·.dot))).length ≤ 80 := by
  have := (dset_nodup (l.map (·.dot))).length_le_of_subset (l₂ := l.map (·.dot)) fun d hd => Dt.mem_set.1 hd
  simpa using Nat.le_trans this (by simpa using hl)
theorem ShOk.small : h.X.small := by
  have hd := h.ds_len hl
  refine ⟨fun d => ?_, fun c => ?_, ?_, h.xok.wo⟩
  · cases hg : S.good d with
    | false => rw [h.xchn0 hg]; simp
    | true => rw [h.xchn hg]; have := h.chn_len (S.op d); omega
  · rw [h.xrvs]
    have := List.length_filter_le (S.rv c) (Dt.set (l.map (·.dot)))
    omega
  · have := h.xok.wo.keys.length_le_of_subset (l₂ := Dt.set (l.map (·.dot))) fun d hd' => by
      rw [← MM.has_iff, h.xhas] at hd'
      exact (h.inds.2 hd').1
    have e : (MM.keys h.X.ops).length = h.X.ops.length := by simp [MM.keys]
    omega
omit hl
theorem ShOk.xthr {d : Dt} (hg : S.good d = true) : h.X.thr (S.op d) = S.thr (Dt.set (l.map (·.dot))) (S.op d) := by
  obtain ⟨o, _, _, e1, e2, _⟩ := h.gmem hg
  unfold Ix.thr Sh.thr
  rw [e1, e2, h.xchn hg, e1]
  congr 1
  funext c
  rw [h.xrvs]
  refine List.filter_congr fun t ht => ?_
  have : S.good t = true := by
    have := (List.mem_filter.1 ht).2
    unfold Sh.rv at this
    rw [Bool.and_eq_true] at this
    exact this.1
  rw [h.xop this]
theorem ShOk.mem_tht {e v : Dt} : v ∈ h.X.tht e ↔ S.good v = true ∧ e ∈ S.thr (Dt.set (l.map (·.dot))) (S.op v) := by
  unfold Ix.tht
  rw [List.mem_map]
  simp only [Ix.mem_hit]
  constructor
  · rintro ⟨o, ⟨⟨x, hx, rfl⟩, he⟩, rfl⟩
    have hk := mem_get h.xok.wo.keys hx
    rw [h.xok.ops] at hk
    split at hk
    · rename_i hc
      injection hk with hk
      obtain ⟨o', _, _, e1, e2, _⟩ := h.gmem hc.2
      have e3 : x.2.2.dot = x.2.1 := by rw [← hk, e1, e2]
      rw [e3]
      refine ⟨hc.2, ?_⟩
      rw [← h.xthr hc.2, hk]; exact he
    · cases hk
  · rintro ⟨hg, he⟩
    obtain ⟨o, _, _, e1, e2, _⟩ := h.gmem hg
    have h2 : MM.get h.X.ops v = some (S.op v) := by rw [h.xok.ops, if_pos (h.inds.2 hg)]
    obtain ⟨x, hx, a1, a2⟩ := get_mem h2
    exact ⟨S.op v, ⟨⟨x, hx, a2⟩, by rw [h.xthr hg]; exact he⟩, by rw [e1, e2]⟩
end
theorem Dt.set_ext {a b : List Dt} (h : ∀ v, v ∈ a ↔ v ∈ b) : Dt.set a = Dt.set b := Dt.rises_unique (Dt.set_rises _) (Dt.set_rises _) fun v => by rw [Dt.mem_set, Dt.mem_set, h]
theorem pr_ds : Dt.set (prow.map (·.dot)) = [⟨0, 1⟩, ⟨0, 2⟩, ⟨0, 3⟩, ⟨0, 4⟩, ⟨1, 1⟩] := (Dt.setR_eq _).symm.trans (by kernel_rfl)
section
variable {S : Sh} (h : ShOk prow S)
include h
theorem pr_op1 : S.op ⟨0, 1⟩ = p1 := by rw [h.base.op]; exact opP_some (by kernel_rfl)
theorem pr_op2 : S.op ⟨0, 2⟩ = p2 := by rw [h.base.op]; exact opP_some (by kernel_rfl)
theorem pr_op3 : S.op ⟨0, 3⟩ = p3 := by rw [h.base.op]; exact opP_some (by kernel_rfl)
theorem pr_op4 : S.op ⟨0, 4⟩ = p4 := by rw [h.base.op]; exact opP_some (by kernel_rfl)
theorem pr_op5 : S.op ⟨1, 1⟩ = p5 := by rw [h.base.op]; exact opP_some (by kernel_rfl)
theorem pr_g1 : S.good ⟨0, 1⟩ = true := by rw [h.goodY (o := p1) (by kernel_rfl), pr_w1]; rfl
theorem pr_g2 : S.good ⟨0, 2⟩ = true := by rw [h.goodY (o := p2) (by kernel_rfl), pr_w2]; rfl
theorem pr_g3 : S.good ⟨0, 3⟩ = true := by rw [h.goodY (o := p3) (by kernel_rfl), pr_w3]; rfl
theorem pr_g4 : S.good ⟨0, 4⟩ = true := by rw [h.goodY (o := p4) (by kernel_rfl), pr_w4]; rfl
theorem pr_g5 : S.good ⟨1, 1⟩ = true := by rw [h.goodY (o := p5) (by kernel_rfl), pr_w5]; rfl
theorem pr_g9 : S.good ⟨0, 9⟩ = false := h.goodN (by kernel_rfl)
theorem pr_c1 : S.chn p1 = [] := by unfold Sh.chn; rw [if_pos (by decide)]
theorem pr_c2 : S.chn p2 = [⟨0, 1⟩] := by unfold Sh.chn; rw [if_neg (by decide), h.base.tr]; exact congrArg (List.map (·.dot)) (upsL_eq pr_u1)
theorem pr_c3 : S.chn p3 = [⟨0, 2⟩, ⟨0, 1⟩] := by unfold Sh.chn; rw [if_neg (by decide), h.base.tr]; exact congrArg (List.map (·.dot)) (upsL_eq pr_u2)
theorem pr_c4 : S.chn p4 = [⟨0, 2⟩, ⟨0, 1⟩] := by unfold Sh.chn; rw [if_neg (by decide), h.base.tr]; exact congrArg (List.map (·.dot)) (upsL_eq pr_u2)
theorem pr_c5 : S.chn p5 = [⟨0, 1⟩] := by unfold Sh.chn; rw [if_neg (by decide), h.base.tr]; exact congrArg (List.map (·.dot)) (upsL_eq pr_u1)
theorem pr_rv {a d : Dt} (hd : d ∈ Dt.set (prow.map (·.dot))) (hk : S.good d = true ∧ (S.op d).kind = 2 ∧ (S.op d).at_ = a) : d = ⟨1, 1⟩ ∧ a = ⟨0, 2⟩ := by
  rw [pr_ds] at hd
  simp only [List.mem_cons, List.not_mem_nil, or_false] at hd
  obtain ⟨_, h1, h2⟩ := hk
  rcases hd with rfl | rfl | rfl | rfl | rfl
  · rw [pr_op1 h] at h1; exact absurd h1 (by decide)
  · rw [pr_op2 h] at h1; exact absurd h1 (by decide)
  · rw [pr_op3 h] at h1; exact absurd h1 (by decide)
  · rw [pr_op4 h] at h1; exact absurd h1 (by decide)
  · rw [pr_op5 h] at h2; exact ⟨rfl, h2.symm⟩
theorem pr_thr (o : OpD) (v : Dt) : v ∈ S.thr (Dt.set (prow.map (·.dot))) o ↔ v = ⟨1, 1⟩ ∧ (⟨0, 2⟩ : Dt) ∈ S.chn o ∧ o.before p5 = false := by
  rw [Sh.mem_thr]
  constructor
  · rintro ⟨h1, h2, h3, h4, h5⟩
    obtain ⟨rfl, ha⟩ := pr_rv h h1 ⟨h2, h3, rfl⟩
    rw [pr_op5 h] at h4 h5
    exact ⟨rfl, h4, h5⟩
  · rintro ⟨rfl, h1, h2⟩
    rw [pr_op5 h]
    exact ⟨by rw [pr_ds]; decide, pr_g5 h, by decide, h1, h2⟩
theorem pr_t4 : Dt.set (h.X.thr (h.X.op ⟨0, 4⟩)) = [⟨1, 1⟩] := by
  rw [h.xop (pr_g4 h), h.xthr (pr_g4 h), pr_op4 h]
  refine (Dt.set_ext (b := [⟨1, 1⟩]) fun v => ?_).trans ((Dt.setR_eq _).symm.trans (by kernel_rfl))
  rw [pr_thr h, pr_c4 h]
  simp [show p4.before p5 = false by kernel_rfl]
theorem pr_t3 : Dt.set (h.X.thr (h.X.op ⟨0, 3⟩)) = [] := by
  rw [h.xop (pr_g3 h), h.xthr (pr_g3 h), pr_op3 h]
  refine (Dt.set_ext (b := []) fun v => ?_).trans ((Dt.setR_eq _).symm.trans (by kernel_rfl))
  rw [pr_thr h, pr_c3 h]
  simp [show p3.before p5 = true by kernel_rfl]
theorem pr_t2 : Dt.set (h.X.thr (h.X.op ⟨0, 2⟩)) = [] := by
  rw [h.xop (pr_g2 h), h.xthr (pr_g2 h), pr_op2 h]
  refine (Dt.set_ext (b := []) fun v => ?_).trans ((Dt.setR_eq _).symm.trans (by kernel_rfl))
  rw [pr_thr h, pr_c2 h]
  simp
theorem pr_r2 : Dt.set (h.X.rvs ⟨0, 2⟩) = [⟨1, 1⟩] := by
  rw [h.xrvs]
  refine (Dt.set_ext (b := [⟨1, 1⟩]) fun v => ?_).trans ((Dt.setR_eq _).symm.trans (by kernel_rfl))
  rw [List.mem_filter, List.mem_singleton]
  unfold Sh.rv
  simp only [Bool.and_eq_true, decide_eq_true_eq]
  constructor
  · rintro ⟨h1, h2, h3, h4⟩
    exact (pr_rv h h1 ⟨h2, h3, h4⟩).1
  · rintro rfl
    rw [pr_op5 h]
    exact ⟨by rw [pr_ds]; decide, pr_g5 h, by decide, by decide⟩
theorem pr_h5 : Dt.set (h.X.tht ⟨1, 1⟩) = [⟨0, 4⟩] := by
  refine (Dt.set_ext (b := [⟨0, 4⟩]) fun v => ?_).trans ((Dt.setR_eq _).symm.trans (by kernel_rfl))
  rw [h.mem_tht, List.mem_singleton, pr_thr h]
  constructor
  · rintro ⟨hg, _, hc, hb⟩
    have hd := (h.inds.2 hg).1
    rw [pr_ds] at hd
    simp only [List.mem_cons, List.not_mem_nil, or_false] at hd
    rcases hd with rfl | rfl | rfl | rfl | rfl
    · rw [pr_op1 h, pr_c1 h] at hc; cases hc
    · rw [pr_op2 h, pr_c2 h] at hc; exact absurd hc (by decide)
    · rw [pr_op3 h] at hb; exact absurd hb (by rw [show p3.before p5 = true by kernel_rfl]; decide)
    · rfl
    · rw [pr_op5 h, pr_c5 h] at hc; exact absurd hc (by decide)
  · rintro rfl
    rw [pr_op4 h, pr_c4 h]
    exact ⟨pr_g4 h, rfl, by decide, by kernel_rfl⟩
end
end Go.Proofs.YtlgfknfdfnaedaaGreat
namespace Go.Proofs.YtlgfknfdfnaedaaGreat
open Go.Sl Go.Proofs
attribute [local irreducible] SW RW SCd SC CallP Pruned nkT nkH
theorem isome10 (S : Sh) (n : Nat) : (lk S.h10 n).isSome = true ↔ n ∈ [10, 7, 8, 9, 2, 0, 1] := by
  rw [Option.isSome_iff_ne_none]
  constructor
  · intro hn
    obtain ⟨ob, ho⟩ := Option.ne_none_iff_exists'.1 hn
    have := (List.mem_map (f := fun x : Nat × Ob => x.1)).2 ⟨(n, ob), lk_mem ho, rfl⟩
    simpa using this
  · intro hn
    simp only [List.mem_cons, List.not_mem_nil, or_false] at hn
    rcases hn with rfl | rfl | rfl | rfl | rfl | rfl | rfl <;> simp [lk_cons]
theorem hX_okq (S : Sh) (X : Ix) (q : Nat → Bool) (h : ∀ n, n ∈ [0, 1, 2, 7, 8, 9, 10, 11, 12, 13, 14] → q n = true) : (hX S X).ok q = true := by
  have a := fun n hn => h n hn
  refine ok_cons (h 14 (by decide)) ?_ (ok_cons (h 13 (by decide)) (nmap_ok _ _) (ok_cons (h 12 (by decide)) (nmap_ok _ _) (ok_cons (h 11 (by decide)) (omap_ok _ _) (ok_cons (h 10 (by decide)) ?_ (ok_cons (h 7 (by decide)) (omap_ok _ _) (ok_cons (h 8 (by decide)) (dmap_ok _ _) (ok_cons (h 9 (by decide)) (dvmap_ok _ _) (ok_cons (h 2 (by decide)) ?_ (ok_cons (h 0 (by decide)) (cmap_ok _ _) (ok_cons (h 1 (by decide)) (omap_ok _ _) rfl))))))))))
  · simp [Ob.ok, SV.oks, SV.ok, h 11, h 12, h 13]
  · simp [Ob.ok, SV.oks, SV.ok, h 2, h 7, h 8, h 9]
  · simp [Ob.ok, SV.oks, SV.ok, h 0, h 1]
theorem h10_okq (S : Sh) (q : Nat → Bool) (h : ∀ n, n ∈ [0, 1, 2, 7, 8, 9, 10] → q n = true) : S.h10.ok q = true := by
  refine ok_cons (h 10 (by decide)) ?_ (ok_cons (h 7 (by decide)) (omap_ok _ _) (ok_cons (h 8 (by decide)) (dmap_ok _ _) (ok_cons (h 9 (by decide)) (dvmap_ok _ _) (ok_cons (h 2 (by decide)) ?_ (ok_cons (h 0 (by decide)) (cmap_ok _ _) (ok_cons (h 1 (by decide)) (omap_ok _ _) rfl))))))
  · simp [Ob.ok, SV.oks, SV.ok, h 2, h 7, h 8, h 9]
  · simp [Ob.ok, SV.oks, SV.ok, h 0, h 1]
theorem ShOk.rnew {l : List OpD} {S : Sh} (h : ShOk l S) (hl : l.length ≤ 80) (hs : Short S) : SCd Tryz.prog revoke_New.f [.ptr 10 0] S.h10 11 4 (.ptr 14 0) (hX S h.X) := by
  unfold SCd
  refine (rnew_sb S _ h.base.ups hs (by have := h.ds_len hl; omega) (h.dots10 hl)).here (fun n => (lk S.h10 n).isSome) (fun n hn => Option.isSome_iff_ne_none.1 hn) (by simp [SV.oks, SV.ok, lk_cons]) (h10_okq S _ fun n hn => (isome10 S n).2 (by revert hn; simp; omega)) ?_
  rintro r F' ⟨rfl, rfl⟩ _ _
  refine ⟨by simp [SV.ok], hX_okq S _ _ fun n hn => ?_⟩
  rw [Bool.or_eq_true]
  by_cases h10 : n ∈ [10, 7, 8, 9, 2, 0, 1]
  · exact .inl ((isome10 S n).2 h10)
  · refine .inr ?_
    simp at hn h10 ⊢
    omega
theorem snoneN_ok : Go.Sl.Pure Tryz.prog shape_Shape_none.f [.d .nilp] (bl true) := by
  refine shape_Shape_none.enter (by first | rfl | simp [SV.ok, SV.oks]) (by first | rfl | simp [Hp.ok, Ob.ok, SV.ok, SV.oks, Vec.cells_ok]) (by simp) ?_
  dsimp only [shape_Shape_none.s, Co.M, Co.G, Co.J, Co.H, Co.N, Co.F, Co.C, Co.Z, Co.B, Co.b8, Co.b32, Co.b64, Co.i6, Co.z8, Co.z29]
  (repeat (first | refine SW.seq ?_ | refine SW.block ?_ | (refine SW.regL [0, 2] mixed ?_; (repeat (first | refine RW.ro bq_tt (h := ?_) | refine RW.skip (h := ?_) | refine RW.op bq_tt (h := ?_) | refine RW.opN bq_tt (h := ?_) | refine RW.skip0 (h := ?_))); refine RW.nil ⟨by kernel_rfl, Pruned.mk (h := ?_)⟩) | refine SW.skip ?_ | refine SW.exit ?_ | refine SW.ret ?_ | refine SW.condT rfl ?_ | refine SW.condF rfl ?_))
  exact End.mk [] (h4 := ⟨rfl, rfl⟩)
theorem streeN_ok : Go.Sl.Pure Tryz.prog shape_Shape_Tree.f [.d .nilp] (.d .nilp) := by
  refine shape_Shape_Tree.enter (by first | rfl | simp [SV.ok, SV.oks]) (by first | rfl | simp [Hp.ok, Ob.ok, SV.ok, SV.oks, Vec.cells_ok]) (by simp) ?_
  dsimp only [shape_Shape_Tree.s, Co.M, Co.G, Co.J, Co.H, Co.N, Co.F, Co.C, Co.Z, Co.B, Co.b8, Co.b32, Co.b64, Co.i6, Co.z8, Co.z29]
  (repeat (first | refine SW.seq ?_ | refine SW.block ?_ | (refine SW.regL [0, 2, 4] mixed ?_; (repeat (first | refine RW.ro bq_tt (h := ?_) | refine RW.skip (h := ?_) | refine RW.op bq_tt (h := ?_) | refine RW.opN bq_tt (h := ?_) | refine RW.skip0 (h := ?_) | (refine RW.callC (h := ?_); (first | refine CallP.mk bq_tt (hc := snoneN_ok.sc rfl _) (h := ?_))))); refine RW.nil ⟨by kernel_rfl, Pruned.mk (h := ?_)⟩) | refine SW.skip ?_ | refine SW.exit ?_ | refine SW.ret ?_ | refine SW.condT rfl ?_ | refine SW.condF rfl ?_))
  exact End.mk [] (h4 := ⟨rfl, rfl⟩)
theorem rnewN_ok : Go.Sl.Pure Tryz.prog revoke_New.f [.d .nilp] (.d .nilp) := by
  refine revoke_New.enter (by first | rfl | simp [SV.ok, SV.oks]) (by first | rfl | simp [Hp.ok, Ob.ok, SV.ok, SV.oks, Vec.cells_ok]) (by simp) ?_
  dsimp only [revoke_New.s, Co.M, Co.G, Co.J, Co.H, Co.N, Co.F, Co.C, Co.Z, Co.B, Co.b8, Co.b32, Co.b64, Co.i6, Co.z8, Co.z29]
  (repeat (first | refine SW.seq ?_ | refine SW.block ?_ | (refine SW.regL [0, 2, 3, 5, 6, 10, 18, 19, 20, 21, 27, 55, 63] mixed ?_; (repeat (first | refine RW.ro bq_tt (h := ?_) | refine RW.skip (h := ?_) | refine RW.op bq_tt (h := ?_) | refine RW.opN bq_tt (h := ?_) | refine RW.skip0 (h := ?_) | (refine RW.callC (h := ?_); (first | refine CallP.mk bq_tt (hc := streeN_ok.sc rfl _) (h := ?_))))); refine RW.nil ⟨by kernel_rfl, Pruned.mk (h := ?_)⟩) | refine SW.skip ?_ | refine SW.exit ?_ | refine SW.ret ?_ | refine SW.condT rfl ?_ | refine SW.condF rfl ?_))
  exact End.mk [] (h4 := ⟨rfl, rfl⟩)
theorem rnewN_at (k : Nat) : SCd Tryz.prog revoke_New.f [.d .nilp] [] k 0 (.d .nilp) [] := rnewN_ok.sc rfl k
section
variable {S : Sh} (h : ShOk prow S)
include h
theorem pr_small : h.X.small := h.small (by decide)
theorem cT4 (k : Nat) : SCd Tryz.prog revoke_Index_Threats.f [.ptr 14 0, .agg (Dt.mk 0 4).cells] h.X.h14 k (9 + nkT 4) (.tup [dots [⟨1, 1⟩], .d (.int .i64 0)]) h.X.h14 := by
  have := rthr_14 h.X (pr_small h) ⟨0, 4⟩ k
  unfold threatsV at this
  rw [h.xhas, pr_g4 h, pr_t4 h] at this
  exact this
theorem cT3 (k : Nat) : SCd Tryz.prog revoke_Index_Threats.f [.ptr 14 0, .agg (Dt.mk 0 3).cells] h.X.h14 k (9 + nkT 4) (.tup [dots [], .d (.int .i64 0)]) h.X.h14 := by
  have := rthr_14 h.X (pr_small h) ⟨0, 3⟩ k
  unfold threatsV at this
  rw [h.xhas, pr_g3 h, pr_t3 h] at this
  exact this
theorem cT2 (k : Nat) : SCd Tryz.prog revoke_Index_Threats.f [.ptr 14 0, .agg (Dt.mk 0 2).cells] h.X.h14 k (9 + nkT 4) (.tup [dots [], .d (.int .i64 0)]) h.X.h14 := by
  have := rthr_14 h.X (pr_small h) ⟨0, 2⟩ k
  unfold threatsV at this
  rw [h.xhas, pr_g2 h, pr_t2 h] at this
  exact this
theorem cL1 (k : Nat) : SCd Tryz.prog revoke_Index_Level.f [.ptr 14 0, .agg (Dt.mk 0 1).cells] h.X.h14 k 2 (.tup [.d (.int .i64 (-1)), .d (.int .i64 0)]) h.X.h14 := by
  have := rlevel_14 h.X (pr_small h) ⟨0, 1⟩ k
  unfold levelV at this
  rw [h.xhas, pr_g1 h, h.xchn (pr_g1 h), pr_op1 h, pr_c1 h] at this
  exact this
theorem cL2 (k : Nat) : SCd Tryz.prog revoke_Index_Level.f [.ptr 14 0, .agg (Dt.mk 0 2).cells] h.X.h14 k 2 (.tup [.d (.int .i64 0), .d (.int .i64 0)]) h.X.h14 := by
  have := rlevel_14 h.X (pr_small h) ⟨0, 2⟩ k
  unfold levelV at this
  rw [h.xhas, pr_g2 h, h.xchn (pr_g2 h), pr_op2 h, pr_c2 h] at this
  exact this
theorem cL4 (k : Nat) : SCd Tryz.prog revoke_Index_Level.f [.ptr 14 0, .agg (Dt.mk 0 4).cells] h.X.h14 k 2 (.tup [.d (.int .i64 1), .d (.int .i64 0)]) h.X.h14 := by
  have := rlevel_14 h.X (pr_small h) ⟨0, 4⟩ k
  unfold levelV at this
  rw [h.xhas, pr_g4 h, h.xchn (pr_g4 h), pr_op4 h, pr_c4 h] at this
  exact this
theorem cL9 (k : Nat) : SCd Tryz.prog revoke_Index_Level.f [.ptr 14 0, .agg (Dt.mk 0 9).cells] h.X.h14 k 2 (.tup [.d (.int .i64 0), .d (.int .i64 7)]) h.X.h14 := by
  have := rlevel_14 h.X (pr_small h) ⟨0, 9⟩ k
  unfold levelV at this
  rw [h.xhas, pr_g9 h] at this
  exact this
theorem cR2 (k : Nat) : SCd Tryz.prog revoke_Index_Revokes.f [.ptr 14 0, .agg (Dt.mk 0 2).cells] h.X.h14 k 1 (dots [⟨1, 1⟩]) h.X.h14 := by
  have := rrvs_14 h.X (pr_small h) ⟨0, 2⟩ k
  rw [pr_r2 h] at this
  exact this
theorem cH5 (k : Nat) : SCd Tryz.prog revoke_Index_Threatened.f [.ptr 14 0, .agg (Dt.mk 1 1).cells] h.X.h14 k (6 + nkH 4) (dots [⟨0, 4⟩]) h.X.h14 := by
  have := rtht_14 h.X (pr_small h) ⟨1, 1⟩ k
  rw [pr_h5 h] at this
  exact this
end
end Go.Proofs.YtlgfknfdfnaedaaGreat
namespace Go.Proofs.YtlgfknfdfnaedaaGreat
open Go.Sl Go.Proofs
attribute [local irreducible] SW RW SCd SC CallP Pruned nkT nkH
theorem sm11 (k : Nat) : SCd Tryz.prog ref03_Same.f [dots [⟨1, 1⟩], .d (.sl 1 (Dt.mk 1 1).ds)] [] k 0 (.d (.bool true)) [] := same_at [⟨1, 1⟩] [⟨1, 1⟩] (by decide) (by decide) k
theorem sm04 (k : Nat) : SCd Tryz.prog ref03_Same.f [dots [⟨0, 4⟩], .d (.sl 1 (Dt.mk 0 4).ds)] [] k 0 (.d (.bool true)) [] := same_at [⟨0, 4⟩] [⟨0, 4⟩] (by decide) (by decide) k
theorem e9 : spl (Dt.mk 0 0).cells 1 [.d (.int .u32 9)] = (Dt.mk 0 9).cells := rfl
theorem e1 : spl (Dt.mk 0 0).cells 1 [.d (.int .u32 1)] = (Dt.mk 0 1).cells := rfl
theorem e2 : spl (Dt.mk 0 0).cells 1 [.d (.int .u32 2)] = (Dt.mk 0 2).cells := rfl
theorem e11 : spl (spl (Dt.mk 0 0).cells 0 [.d (.int .u8 1)]) 1 [.d (.int .u32 1)] = (Dt.mk 1 1).cells := rfl
set_option maxHeartbeats 16000000 in
theorem head18_ok : Go.Sl.Pure Tryz.prog law18_head.f [] (bl true) := by
  refine law18_head.enter (by first | rfl | simp [SV.ok, SV.oks]) (by first | rfl | simp [Hp.ok, Ob.ok, SV.ok, SV.oks, Vec.cells_ok]) (by simp) ?_
  dsimp only [law18_head.s, Co.M, Co.G, Co.J, Co.H, Co.N, Co.F, Co.C, Co.Z, Co.B, Co.b8, Co.b32, Co.b64, Co.i6, Co.z8, Co.z29]
  refine SW.seq ?_
  (refine SW.regL [0, 1, 2, 3, 4, 5, 6, 7, 8, 10, 12, 15, 16, 21] mixed ?_; (repeat (first | refine RW.ro bq_tt (h := ?_) | refine RW.skip (h := ?_) | refine RW.op bq_tt (h := ?_) | refine RW.opN bq_tt (h := ?_) | refine RW.skip0 (h := ?_))); refine RW.nil ⟨by kernel_rfl, Pruned.mk (h := ?_)⟩)
  refine SW.seq (SW.ofN ?_)
  refine SWn.callD bq_tt (prow_at _) (h := ?_)
  refine SWn.callC (snew_0 prow (by decide) (fun o ho => ⟨(prow_lin o ho).1, (prow_lin o ho).2.1⟩)) (HSub.nil _) (h := ?_)
  rintro _ _ ⟨S, h, rfl, rfl⟩
  simp only [hmrg, hsets, hdels, hset, hrep, hdel, lk, List.lookup, Nat.reduceBEq, BEq.rfl, beq_self_eq_true, if_true, if_false, reduceIte, Nat.reduceEqDiff, Bool.false_eq_true, Option.isSome_some, Option.isSome_none, Nat.reduceAdd]
  refine SWn.callD bq_tt (h.rnew (by decide) (h.short prow_lin)) (h := ?_)
  (repeat (first | refine SWn.op bq_tt (h := ?_) | refine SWn.opN bq_tt (h := ?_) | refine SWn.skip (h := ?_)))
  refine SWn.nil ?_
  refine SW.seq (SW.seq ?_)
  (refine SW.regL [0, 1, 2, 3, 4, 5, 6, 7, 8, 10, 12, 15, 16, 21] mixed ?_; (repeat (first | refine RW.ro bq_tt (h := ?_) | refine RW.skip (h := ?_) | refine RW.op bq_tt (h := ?_) | refine RW.opN bq_tt (h := ?_) | refine RW.skip0 (h := ?_))); refine RW.nil ⟨by kernel_rfl, Pruned.mk (h := ?_)⟩)
  refine SW.condF rfl (SW.skip ?_)
  refine SW.seq ?_
  (refine SW.regL [0, 1, 2, 3, 4, 5, 6, 7, 8, 10, 12, 15, 16, 21] mixed ?_; (repeat (first | refine RW.ro (d4) (h := ?_) | refine RW.skip (h := ?_) | refine RW.op (d4) (h := ?_) | refine RW.opN (d4) (h := ?_) | refine RW.skip0 (h := ?_) | (refine RW.callC (h := ?_); (first | refine CallP.mk (d4) (hc := cT4 h _) (h := ?_) | refine CallP.mk (d4) (hc := cT3 h _) (h := ?_) | refine CallP.mk (d4) (hc := cT2 h _) (h := ?_) | refine CallP.mk (d4) (hc := cL1 h _) (h := ?_) | refine CallP.mk (d4) (hc := cL2 h _) (h := ?_) | refine CallP.mk (d4) (hc := cL4 h _) (h := ?_) | refine CallP.mk (d4) (hc := cL9 h _) (h := ?_) | refine CallP.mk (d4) (hc := cR2 h _) (h := ?_) | refine CallP.mk (d4) (hc := cH5 h _) (h := ?_) | refine CallP.mk (d4) (hc := sm11 _) (h := ?_) | refine CallP.mk (d4) (hc := sm04 _) (h := ?_) | refine CallP.mk (d4) (hc := rnewN_at _) (h := ?_))))); refine RW.nil ⟨by kernel_rfl, Pruned.mk (h := ?_)⟩)
  refine SW.seq ?_
  (refine SW.regL [0, 1, 2, 3, 4, 5, 6, 7, 8, 10, 12, 15, 16, 21] mixed ?_; (repeat (first | refine RW.ro (d3) (h := ?_) | refine RW.skip (h := ?_) | refine RW.op (d3) (h := ?_) | refine RW.opN (d3) (h := ?_) | refine RW.skip0 (h := ?_) | (refine RW.callC (h := ?_); (first | refine CallP.mk (d3) (hc := cT4 h _) (h := ?_) | refine CallP.mk (d3) (hc := cT3 h _) (h := ?_) | refine CallP.mk (d3) (hc := cT2 h _) (h := ?_) | refine CallP.mk (d3) (hc := cL1 h _) (h := ?_) | refine CallP.mk (d3) (hc := cL2 h _) (h := ?_) | refine CallP.mk (d3) (hc := cL4 h _) (h := ?_) | refine CallP.mk (d3) (hc := cL9 h _) (h := ?_) | refine CallP.mk (d3) (hc := cR2 h _) (h := ?_) | refine CallP.mk (d3) (hc := cH5 h _) (h := ?_) | refine CallP.mk (d3) (hc := sm11 _) (h := ?_) | refine CallP.mk (d3) (hc := sm04 _) (h := ?_) | refine CallP.mk (d3) (hc := rnewN_at _) (h := ?_))))); refine RW.nil ⟨by kernel_rfl, Pruned.mk (h := ?_)⟩)
  refine SW.seq ?_
  (refine SW.regL [0, 1, 2, 3, 4, 5, 6, 7, 8, 10, 12, 15, 16, 21] mixed ?_; (repeat (first | refine RW.ro (e2) (h := ?_) | refine RW.skip (h := ?_) | refine RW.op (e2) (h := ?_) | refine RW.opN (e2) (h := ?_) | refine RW.skip0 (h := ?_) | (refine RW.callC (h := ?_); (first | refine CallP.mk (e2) (hc := cT4 h _) (h := ?_) | refine CallP.mk (e2) (hc := cT3 h _) (h := ?_) | refine CallP.mk (e2) (hc := cT2 h _) (h := ?_) | refine CallP.mk (e2) (hc := cL1 h _) (h := ?_) | refine CallP.mk (e2) (hc := cL2 h _) (h := ?_) | refine CallP.mk (e2) (hc := cL4 h _) (h := ?_) | refine CallP.mk (e2) (hc := cL9 h _) (h := ?_) | refine CallP.mk (e2) (hc := cR2 h _) (h := ?_) | refine CallP.mk (e2) (hc := cH5 h _) (h := ?_) | refine CallP.mk (e2) (hc := sm11 _) (h := ?_) | refine CallP.mk (e2) (hc := sm04 _) (h := ?_) | refine CallP.mk (e2) (hc := rnewN_at _) (h := ?_))))); refine RW.nil ⟨by kernel_rfl, Pruned.mk (h := ?_)⟩)
  refine SW.seq ?_
  (refine SW.regL [0, 1, 2, 3, 4, 5, 6, 7, 8, 10, 12, 15, 16, 21] mixed ?_; (repeat (first | refine RW.ro (e1) (h := ?_) | refine RW.skip (h := ?_) | refine RW.op (e1) (h := ?_) | refine RW.opN (e1) (h := ?_) | refine RW.skip0 (h := ?_) | (refine RW.callC (h := ?_); (first | refine CallP.mk (e1) (hc := cT4 h _) (h := ?_) | refine CallP.mk (e1) (hc := cT3 h _) (h := ?_) | refine CallP.mk (e1) (hc := cT2 h _) (h := ?_) | refine CallP.mk (e1) (hc := cL1 h _) (h := ?_) | refine CallP.mk (e1) (hc := cL2 h _) (h := ?_) | refine CallP.mk (e1) (hc := cL4 h _) (h := ?_) | refine CallP.mk (e1) (hc := cL9 h _) (h := ?_) | refine CallP.mk (e1) (hc := cR2 h _) (h := ?_) | refine CallP.mk (e1) (hc := cH5 h _) (h := ?_) | refine CallP.mk (e1) (hc := sm11 _) (h := ?_) | refine CallP.mk (e1) (hc := sm04 _) (h := ?_) | refine CallP.mk (e1) (hc := rnewN_at _) (h := ?_))))); refine RW.nil ⟨by kernel_rfl, Pruned.mk (h := ?_)⟩)
  refine SW.seq ?_
  (refine SW.regL [0, 1, 2, 3, 4, 5, 6, 7, 8, 10, 12, 15, 16, 21] mixed ?_; (repeat (first | refine RW.ro (e2) (h := ?_) | refine RW.skip (h := ?_) | refine RW.op (e2) (h := ?_) | refine RW.opN (e2) (h := ?_) | refine RW.skip0 (h := ?_) | (refine RW.callC (h := ?_); (first | refine CallP.mk (e2) (hc := cT4 h _) (h := ?_) | refine CallP.mk (e2) (hc := cT3 h _) (h := ?_) | refine CallP.mk (e2) (hc := cT2 h _) (h := ?_) | refine CallP.mk (e2) (hc := cL1 h _) (h := ?_) | refine CallP.mk (e2) (hc := cL2 h _) (h := ?_) | refine CallP.mk (e2) (hc := cL4 h _) (h := ?_) | refine CallP.mk (e2) (hc := cL9 h _) (h := ?_) | refine CallP.mk (e2) (hc := cR2 h _) (h := ?_) | refine CallP.mk (e2) (hc := cH5 h _) (h := ?_) | refine CallP.mk (e2) (hc := sm11 _) (h := ?_) | refine CallP.mk (e2) (hc := sm04 _) (h := ?_) | refine CallP.mk (e2) (hc := rnewN_at _) (h := ?_))))); refine RW.nil ⟨by kernel_rfl, Pruned.mk (h := ?_)⟩)
  refine SW.seq ?_
  (refine SW.regL [0, 1, 2, 3, 4, 5, 6, 7, 8, 10, 12, 15, 16, 21] mixed ?_; (repeat (first | refine RW.ro (d4) (h := ?_) | refine RW.skip (h := ?_) | refine RW.op (d4) (h := ?_) | refine RW.opN (d4) (h := ?_) | refine RW.skip0 (h := ?_) | (refine RW.callC (h := ?_); (first | refine CallP.mk (d4) (hc := cT4 h _) (h := ?_) | refine CallP.mk (d4) (hc := cT3 h _) (h := ?_) | refine CallP.mk (d4) (hc := cT2 h _) (h := ?_) | refine CallP.mk (d4) (hc := cL1 h _) (h := ?_) | refine CallP.mk (d4) (hc := cL2 h _) (h := ?_) | refine CallP.mk (d4) (hc := cL4 h _) (h := ?_) | refine CallP.mk (d4) (hc := cL9 h _) (h := ?_) | refine CallP.mk (d4) (hc := cR2 h _) (h := ?_) | refine CallP.mk (d4) (hc := cH5 h _) (h := ?_) | refine CallP.mk (d4) (hc := sm11 _) (h := ?_) | refine CallP.mk (d4) (hc := sm04 _) (h := ?_) | refine CallP.mk (d4) (hc := rnewN_at _) (h := ?_))))); refine RW.nil ⟨by kernel_rfl, Pruned.mk (h := ?_)⟩)
  refine SW.seq ?_
  (refine SW.regL [0, 1, 2, 3, 4, 5, 6, 7, 8, 10, 12, 15, 16, 21] mixed ?_; (repeat (first | refine RW.ro (e9) (h := ?_) | refine RW.skip (h := ?_) | refine RW.op (e9) (h := ?_) | refine RW.opN (e9) (h := ?_) | refine RW.skip0 (h := ?_) | (refine RW.callC (h := ?_); (first | refine CallP.mk (e9) (hc := cT4 h _) (h := ?_) | refine CallP.mk (e9) (hc := cT3 h _) (h := ?_) | refine CallP.mk (e9) (hc := cT2 h _) (h := ?_) | refine CallP.mk (e9) (hc := cL1 h _) (h := ?_) | refine CallP.mk (e9) (hc := cL2 h _) (h := ?_) | refine CallP.mk (e9) (hc := cL4 h _) (h := ?_) | refine CallP.mk (e9) (hc := cL9 h _) (h := ?_) | refine CallP.mk (e9) (hc := cR2 h _) (h := ?_) | refine CallP.mk (e9) (hc := cH5 h _) (h := ?_) | refine CallP.mk (e9) (hc := sm11 _) (h := ?_) | refine CallP.mk (e9) (hc := sm04 _) (h := ?_) | refine CallP.mk (e9) (hc := rnewN_at _) (h := ?_))))); refine RW.nil ⟨by kernel_rfl, Pruned.mk (h := ?_)⟩)
  refine SW.seq ?_
  (refine SW.regL [0, 1, 2, 3, 4, 5, 6, 7, 8, 10, 12, 15, 16, 21] mixed ?_; (repeat (first | refine RW.ro (e11) (h := ?_) | refine RW.skip (h := ?_) | refine RW.op (e11) (h := ?_) | refine RW.opN (e11) (h := ?_) | refine RW.skip0 (h := ?_) | (refine RW.callC (h := ?_); (first | refine CallP.mk (e11) (hc := cT4 h _) (h := ?_) | refine CallP.mk (e11) (hc := cT3 h _) (h := ?_) | refine CallP.mk (e11) (hc := cT2 h _) (h := ?_) | refine CallP.mk (e11) (hc := cL1 h _) (h := ?_) | refine CallP.mk (e11) (hc := cL2 h _) (h := ?_) | refine CallP.mk (e11) (hc := cL4 h _) (h := ?_) | refine CallP.mk (e11) (hc := cL9 h _) (h := ?_) | refine CallP.mk (e11) (hc := cR2 h _) (h := ?_) | refine CallP.mk (e11) (hc := cH5 h _) (h := ?_) | refine CallP.mk (e11) (hc := sm11 _) (h := ?_) | refine CallP.mk (e11) (hc := sm04 _) (h := ?_) | refine CallP.mk (e11) (hc := rnewN_at _) (h := ?_))))); refine RW.nil ⟨by kernel_rfl, Pruned.mk (h := ?_)⟩)
  refine SW.seq ?_
  (have fx := (And.intro (d4) (And.intro (e2) (e11))); refine SW.regL [0, 1, 2, 3, 4, 5, 6, 7, 8, 10, 12, 15, 16, 21] mixed ?_; (repeat (first | refine RW.ro fx (h := ?_) | refine RW.skip (h := ?_) | refine RW.op fx (h := ?_) | refine RW.opN fx (h := ?_) | refine RW.skip0 (h := ?_) | (refine RW.callC (h := ?_); (first | refine CallP.mk fx (hc := cT4 h _) (h := ?_) | refine CallP.mk fx (hc := cT3 h _) (h := ?_) | refine CallP.mk fx (hc := cT2 h _) (h := ?_) | refine CallP.mk fx (hc := cL1 h _) (h := ?_) | refine CallP.mk fx (hc := cL2 h _) (h := ?_) | refine CallP.mk fx (hc := cL4 h _) (h := ?_) | refine CallP.mk fx (hc := cL9 h _) (h := ?_) | refine CallP.mk fx (hc := cR2 h _) (h := ?_) | refine CallP.mk fx (hc := cH5 h _) (h := ?_) | refine CallP.mk fx (hc := sm11 _) (h := ?_) | refine CallP.mk fx (hc := sm04 _) (h := ?_) | refine CallP.mk fx (hc := rnewN_at _) (h := ?_))))); refine RW.nil ⟨by kernel_rfl, Pruned.mk (h := ?_)⟩)
  refine SW.ret ?_
  exact End.mk [] (h4 := ⟨rfl, rfl⟩)
theorem head18_at (k : Nat) : SCd Tryz.prog law18_head.f [] [] k 0 (.d (.bool true)) [] := head18_ok.sc rfl k
end Go.Proofs.YtlgfknfdfnaedaaGreat
namespace Go.Proofs.YtlgfknfdfnaedaaGreat
open Go.Sl Go.Proofs
structure LvD (S : Sh) (X : Ix) (d t : Dt) (n : Int) : Prop where
  op : MM.has S.ops t = true
  lev : ∃ m : Int, m < n ∧ levelV X t = .tup [.d (.int .i64 m), i64 0]
  thr : threatsV X t = .tup [dots (Dt.set (X.thr (X.op t))), i64 0] ∧ d ∉ Dt.set (X.thr (X.op t))
  cart : (S.op t).cart = (S.op d).cart
  kind : (S.op t).kind = 2
  tht : d ∈ Dt.set (X.tht t)
  rvs : t ∈ Dt.set (X.rvs (S.op t).at_)
  bef : (S.op d).before (S.op t) = false
theorem Dt.set_le (l : List Dt) : (Dt.set l).length ≤ l.length := (dset_nodup l).length_le_of_subset fun d hd => Dt.mem_set.1 hd
section
variable {l : List OpD} {S : Sh} (h : ShOk l S) (hl : l.length ≤ 80)
include h
theorem ShOk.hit {d t : Dt} (hd : S.good d = true) (ht : t ∈ S.thr (Dt.set (l.map (·.dot))) (S.op d)) : S.good t = true ∧ (S.op t).kind = 2 ∧ (S.op t).at_ ∈ S.chn (S.op d) ∧ (S.op d).before (S.op t) = false ∧ (S.chn (S.op t)).length < (S.chn (S.op d)).length ∧ 2 ≤ (S.chn (S.op d)).length ∧ (S.op t).cart = (S.op d).cart := by
  obtain ⟨_, h1, h2, h3, h4⟩ := Sh.mem_thr.1 ht
  obtain ⟨o, _, ho, e1, _, _⟩ := h.gmem hd
  obtain ⟨r, _, hr, e2, _, _⟩ := h.gmem h1
  have h3' := h3
  rw [h.chn, e1, e2] at h3'
  rw [e2] at h2
  obtain ⟨a1, a2, a3⟩ := thr_low ho hr h2 h3'
  refine ⟨h1, by rw [e2]; exact h2, h3, h4, ?_, ?_, by rw [e1, e2]; exact a3⟩
  · rw [h.chn, h.chn, e1, e2]; exact a1
  · rw [h.chn, e1]; exact a2
theorem ShOk.lvd {d t : Dt} (hd : S.good d = true) (ht : t ∈ Dt.set (h.X.thr (h.X.op d))) : LvD S h.X d t (((h.X.chn d).length : Int) - 1) := by
  rw [Dt.mem_set, h.xop hd, h.xthr hd] at ht
  obtain ⟨h1, h2, h3, h4, h5, h6, h7⟩ := h.hit hd ht
  obtain ⟨r, hf, _, e2, _, hm⟩ := h.gmem h1
  refine ⟨?_, ⟨((h.X.chn t).length : Int) - 1, ?_, ?_⟩, ⟨?_, fun hh => ?_⟩, h7, h2, ?_, ?_, h4⟩
  · rw [h.base.has, hf]; rfl
  · rw [h.xchn h1, h.xchn hd]; omega
  · unfold levelV; rw [h.xhas, h1]; rfl
  · unfold threatsV; rw [h.xhas, h1]; rfl
  · rw [Dt.mem_set, h.xop h1, h.xthr h1] at hh
    have := (h.hit h1 hh).2.2.2.2.1
    omega
  · rw [Dt.mem_set, h.mem_tht]; exact ⟨hd, ht⟩
  · rw [Dt.mem_set, h.xrvs, List.mem_filter]
    refine ⟨hm, ?_⟩
    unfold Sh.rv
    simp [h1, h2]
theorem ShOk.low {d : Dt} (hd : S.good d = true) (hn : ((h.X.chn d).length : Int) - 1 ≤ 0) : Dt.set (h.X.thr (h.X.op d)) = [] := by
  cases hs : Dt.set (h.X.thr (h.X.op d)) with
  | nil => rfl
  | cons t T =>
    have ht : t ∈ Dt.set (h.X.thr (h.X.op d)) := by rw [hs]; simp
    rw [Dt.mem_set, h.xop hd, h.xthr hd] at ht
    have := (h.hit hd ht).2.2.2.2.2.1
    rw [h.xchn hd] at hn
    omega
include hl
theorem ShOk.tht_len (t : Dt) : (Dt.set (h.X.tht t)).length < 1000000000 := by
  have h1 := Dt.set_le (h.X.tht t)
  have h2 := h.X.hit_len (h.small hl) t (xs := h.X.ops) h.xok.wo.times (fun _ => Iff.rfl)
  have e : (h.X.tht t).length = (h.X.hit t h.X.ops).length := by unfold Ix.tht; rw [List.length_map]
  omega
theorem ShOk.thr_len (o : OpD) : (Dt.set (h.X.thr o)).length < 1000000000 := by
  have h1 := Dt.set_le (h.X.thr o)
  have h2 := Go.Proofs.YtlgfknfdfnaedaaGreat.thr_len h.X (h.small hl) o
  omega
theorem ShOk.rvs_len (c : Dt) : (Dt.set (h.X.rvs c)).length < 1000000000 := by
  have h1 := Dt.set_le (h.X.rvs c)
  have h2 := (h.small hl).rv c
  omega
end
end Go.Proofs.YtlgfknfdfnaedaaGreat
namespace Go.Proofs.YtlgfknfdfnaedaaGreat
open Go.Sl Go.Proofs
attribute [local irreducible] SW RW SCd SC CallP Pruned nkT nkH
theorem hX_lk (S : Sh) (X : Ix) : ∀ y, y ∈ hX S X → lk (hX S X) y.1 = some y.2 := fun y hy => by
  simp only [List.mem_cons, List.not_mem_nil, or_false] at hy
  rcases hy with rfl | rfl | rfl | rfl | rfl | rfl | rfl | rfl | rfl | rfl | rfl <;> rfl
theorem b15_ok (S : Sh) (X : Ix) (d : Dt) : Hp.ok (fun n => decide (n < 16)) ((15, .box 25 d.cells) :: hX S X) = true := ok_cons (by decide) (by simp [Ob.ok, Dt.cells_ok]) (hX_ok S X (by decide))
theorem b18_ok (S : Sh) (X : Ix) (d : Dt) (o : OpD) : Hp.ok (fun n => decide (n < 19)) ((18, .box 31 o.cells) :: (15, .box 25 d.cells) :: hX S X) = true := ok_cons (by decide) (by simp [Ob.ok, OpD.cells_ok]) (ok_cons (by decide) (by simp [Ob.ok, Dt.cells_ok]) (hX_ok S X (by decide)))
theorem b19_ok (S : Sh) (X : Ix) (d : Dt) (o r : OpD) : Hp.ok (fun n => decide (n < 20)) ((19, .box 31 r.cells) :: (18, .box 31 o.cells) :: (15, .box 25 d.cells) :: hX S X) = true := ok_cons (by decide) (by simp [Ob.ok, OpD.cells_ok]) (ok_cons (by decide) (by simp [Ob.ok, OpD.cells_ok]) (ok_cons (by decide) (by simp [Ob.ok, Dt.cells_ok]) (hX_ok S X (by decide))))
set_option maxHeartbeats 16000000 in
theorem law_levels18 (l : List OpD) (hd : ∀ o, o ∈ l → o.kind < 256 ∧ o.lin ∧ o.cl.length ≤ 140737488351232) (hlen : l.length ≤ 9223372036854775807) :
    SB Tryz.prog law18_RevokeLevels.f [ops l] [] 0 0 (fun r F => r = bl true) := by
  refine law18_RevokeLevels.enter (by first | rfl | simp [SV.ok, SV.oks]) (by first | rfl | simp [Hp.ok, Ob.ok, SV.ok, SV.oks, Vec.cells_ok]) (by simp) ?_
  dsimp only [law18_RevokeLevels.s, Co.M, Co.G, Co.J, Co.H, Co.N, Co.F, Co.C, Co.Z, Co.B, Co.b8, Co.b32, Co.b64, Co.i6, Co.z8, Co.z29]
  have hG' := great_at l (fun o ho => ⟨_, _, (hd o ho).2.1.eq, (hd o ho).2.1.le⟩) hlen
  refine SW.seq ?_
  (refine SW.regL [0, 2, 3, 4, 5, 6, 7, 8, 9, 11, 13, 14, 15, 16, 17, 18, 21, 28, 32, 59, 66, 70, 155] mixed ?_; (repeat (first | refine RW.ro bq_tt (h := ?_) | refine RW.skip (h := ?_) | refine RW.op bq_tt (h := ?_) | refine RW.opN bq_tt (h := ?_) | refine RW.skip0 (h := ?_))); refine RW.nil ⟨conf_of (by kernel_rfl), Pruned.mk (h := ?_)⟩)
  refine SW.seq (SW.seq ?_)
  rcases hG : greatV l with _ | _
  rotate_left
  · rw [hG] at hG'
    (refine SW.regL [0, 2, 3, 4, 5, 6, 7, 8, 9, 11, 13, 14, 15, 16, 17, 18, 21, 28, 32, 59, 66, 70, 155] mixed ?_; (repeat (first | refine RW.ro bq_tt (h := ?_) | refine RW.skip (h := ?_) | refine RW.op bq_tt (h := ?_) | refine RW.opN bq_tt (h := ?_) | refine RW.skip0 (h := ?_) | (refine RW.callC (h := ?_); (first | refine CallP.mk bq_tt (hc := hG' _) (h := ?_) | refine CallP.mk bq_tt (hc := head18_at _) (h := ?_))))); refine RW.nil ⟨conf_of (by kernel_rfl), Pruned.mk (h := ?_)⟩)
    refine SW.condT rfl (SW.seq ?_)
    (refine SW.regL [0, 2, 3, 4, 5, 6, 7, 8, 9, 11, 13, 14, 15, 16, 17, 18, 21, 28, 32, 59, 66, 70, 155] mixed ?_; (repeat (first | refine RW.ro bq_tt (h := ?_) | refine RW.skip (h := ?_) | refine RW.op bq_tt (h := ?_) | refine RW.opN bq_tt (h := ?_) | refine RW.skip0 (h := ?_) | (refine RW.callC (h := ?_); (first | refine CallP.mk bq_tt (hc := hG' _) (h := ?_) | refine CallP.mk bq_tt (hc := head18_at _) (h := ?_))))); refine RW.nil ⟨conf_of (by kernel_rfl), Pruned.mk (h := ?_)⟩)
    refine SW.ret ?_
    exact End.mk [] (h4 := rfl)
  rw [hG] at hG'
  have hl80 := great_len hG
  have hd' := great_short hG (fun o ho => ⟨(hd o ho).2.1, (hd o ho).2.2⟩)
  replace hd : ∀ o, o ∈ l → o.kind < 256 ∧ o.lin ∧ o.cl.length ≤ 1048576 := fun o ho => ⟨(hd o ho).1, (hd o ho).2.1, hd' o ho⟩
  (refine SW.regL [0, 2, 3, 4, 5, 6, 7, 8, 9, 11, 13, 14, 15, 16, 17, 18, 21, 28, 32, 59, 66, 70, 155] mixed ?_; (repeat (first | refine RW.ro bq_tt (h := ?_) | refine RW.skip (h := ?_) | refine RW.op bq_tt (h := ?_) | refine RW.opN bq_tt (h := ?_) | refine RW.skip0 (h := ?_) | (refine RW.callC (h := ?_); (first | refine CallP.mk bq_tt (hc := hG' _) (h := ?_))))); refine RW.nil ⟨conf_of (by kernel_rfl), Pruned.mk (h := ?_)⟩)
  refine SW.condF rfl (SW.skip ?_)
  refine SW.seq (SW.ofN ?_)
  (repeat (first | refine SWn.op bq_tt (h := ?_) | refine SWn.opN bq_tt (h := ?_) | refine SWn.skip (h := ?_)))
  refine SWn.callC (snew_0 l (by omega) (fun o ho => ⟨(hd o ho).1, (hd o ho).2.1⟩)) (HSub.nil _) (h := ?_)
  rintro _ _ ⟨S, h, rfl, rfl⟩
  simp only [hmrg, hsets, hdels, hset, hrep, hdel, lk, List.lookup, Nat.reduceBEq, BEq.rfl, beq_self_eq_true, if_true, if_false, reduceIte, Nat.reduceEqDiff, Bool.false_eq_true, Option.isSome_some, Option.isSome_none, Nat.reduceAdd]
  (repeat (first | refine SWn.op bq_tt (h := ?_) | refine SWn.opN bq_tt (h := ?_) | refine SWn.skip (h := ?_)))
  refine SWn.nil ?_
  have hs := h.short hd
  have hN := h.rnew hl80 hs
  refine SW.seq ?_
  (refine SW.regL [0, 2, 3, 4, 5, 6, 7, 8, 9, 11, 13, 14, 15, 16, 17, 18, 21, 28, 32, 59, 66, 70, 155] mixed ?_; (repeat (first | refine RW.ro bq_tt (h := ?_) | refine RW.skip (h := ?_) | refine RW.op bq_tt (h := ?_) | refine RW.opN bq_tt (h := ?_) | refine RW.skip0 (h := ?_) | (refine RW.callC (h := ?_); (first | refine CallP.mk bq_tt (hc := hN) (h := ?_))))); refine RW.nil ⟨conf_of (by kernel_rfl), Pruned.mk (h := ?_)⟩)
  refine SW.seq (SW.seq ?_)
  (refine SW.regL [0, 2, 3, 4, 5, 6, 7, 8, 9, 11, 13, 14, 15, 16, 17, 18, 21, 28, 32, 59, 66, 70, 155] mixed ?_; (repeat (first | refine RW.ro bq_tt (h := ?_) | refine RW.skip (h := ?_) | refine RW.op bq_tt (h := ?_) | refine RW.opN bq_tt (h := ?_) | refine RW.skip0 (h := ?_))); refine RW.nil ⟨conf_of (by kernel_rfl), Pruned.mk (h := ?_)⟩)
  refine SW.condF rfl (SW.skip ?_)
  have hsm := h.small hl80
  have cOp := S10_op S hs
  have cTt := rthr_14 h.X hsm
  have cLv := rlevel_14 h.X hsm
  have cTd := rtht_14 h.X hsm
  have cRv := rrvs_14 h.X hsm
  have htl := h.tht_len hl80
  have hhl := h.thr_len hl80
  have hrl := h.rvs_len hl80
  have hlvd := @ShOk.lvd _ _ h
  have hlow := @ShOk.low _ _ h
  have hhas := h.xhas
  have hcl : ∀ d, (h.X.chn d).length ≤ 1000 := hsm.ch
  generalize h.X = X at *
  refine SW.seq (SW.seq ?_)
  (refine SW.regL [0, 2, 3, 4, 5, 6, 7, 8, 9, 11, 13, 14, 15, 16, 17, 18, 21, 28, 32, 59, 66, 70, 155] mixed ?_; (repeat (first | refine RW.ro bq_tt (h := ?_) | refine RW.skip (h := ?_) | refine RW.op bq_tt (h := ?_) | refine RW.opN bq_tt (h := ?_) | refine RW.skip0 (h := ?_))); refine RW.nil ⟨conf_of (by kernel_rfl), Pruned.mk (h := ?_)⟩)
  refine SW.block ?_
  refine SW.loop (α := {i : Nat // i ≤ l.length}) (fun i => ⟨[(5, i64 i.1), (4, .ptr 14 0), (3, .ptr 10 0), (0, ops l)], hX S X, 15⟩) (fun i => l.length - i.1) ⟨0, Nat.zero_le _⟩ id (Weak.same (Nat.zero_le _) (by simp [EnvW, List.lookup, SV.ren, SV.ok, SV.oks]) (hX_ok S X (Nat.le_refl _)) (hX_lk S X)) ?_
  rintro ⟨i, hi⟩
  dsimp only
  by_cases hil : i < l.length
  · have h1 : decide ((i : Int) < l.length) = true := by simp only [decide_eq_true_eq]; omega
    obtain ⟨x, hx⟩ := get_of_lt hil
    have e2 : IntKind.i64.wrap ((i : Int) + 1) = ((i + 1 : Nat) : Int) := wrap_i64 _ (by omega)
    obtain ⟨d, hxd⟩ : ∃ d, x.dot = d := ⟨_, rfl⟩
    have hld := op_load hx
    rw [hxd] at hld
    have next : ∀ (env : List (Nat × SV)) (hp : Hp) (kz : Nat), (∀ y, y ∈ hX S X → lk hp y.1 = some y.2) → EnvW id 15 env [(5, i64 ((i + 1 : Nat) : Int)), (4, .ptr 14 0), (3, .ptr 10 0), (0, ops l)] → ∃ (j : {i : Nat // i ≤ l.length}) (ρ : Nat → Nat), l.length - j.1 < l.length - i ∧ Weak 0 ⟨env, hp, kz⟩ ⟨[(5, i64 j.1), (4, .ptr 14 0), (3, .ptr 10 0), (0, ops l)], hX S X, 15⟩ ρ := fun env hp kz g1 g2 =>
      ⟨⟨i + 1, by omega⟩, id, by show l.length - (i + 1) < l.length - i; omega, Weak.same (Nat.zero_le _) g2 (hX_ok S X (Nat.le_refl _)) g1⟩
    refine SW.seq (SW.seq ?_)
    (refine SW.regL [0, 2, 3, 4, 5, 6, 7, 8, 9, 11, 13, 14, 15, 16, 17, 18, 21, 28, 32, 59, 66, 70, 155] mixed ?_; (repeat (first | refine RW.ro (h1) (h := ?_) | refine RW.skip (h := ?_) | refine RW.op (h1) (h := ?_) | refine RW.opN (h1) (h := ?_) | refine RW.skip0 (h := ?_))); refine RW.nil ⟨conf_of (by kernel_rfl), Pruned.mk (h := ?_)⟩)
    refine SW.condT rfl (SW.skip ?_)
    refine SW.seq (SW.block (SW.seq ?_))
    (have fx := (And.intro (hld) (op_roomd hx)); refine SW.regL [0, 2, 3, 4, 5, 6, 7, 8, 9, 11, 13, 14, 15, 16, 17, 18, 21, 28, 32, 59, 66, 70, 155] mixed ?_; (repeat (first | refine RW.ro fx (h := ?_) | refine RW.skip (h := ?_) | refine RW.op fx (h := ?_) | refine RW.opN fx (h := ?_) | refine RW.skip0 (h := ?_))); refine RW.nil ⟨conf_of (by kernel_rfl), Pruned.mk (h := ?_)⟩)
    refine SW.seq ?_
    rcases hg : S.good d with _ | _
    · have c1 : threatsV X d = .tup [.d .nils, i64 7] := by unfold threatsV; rw [hhas, hg]; rfl
      have c2 : levelV X d = .tup [i64 0, i64 7] := by unfold levelV; rw [hhas, hg]; rfl
      have cT := cTt d
      have cL := cLv d
      have cO := cOp d
      rw [c1] at cT
      rw [c2] at cL
      obtain ⟨o, ho⟩ : ∃ o, S.op d = o := ⟨_, rfl⟩
      obtain ⟨b, hb⟩ : ∃ b, MM.has S.ops d = b := ⟨_, rfl⟩
      rw [ho, hb] at cO
      (refine SW.regL [0, 2, 3, 4, 5, 6, 7, 8, 9, 11, 13, 14, 15, 16, 17, 18, 21, 28, 32, 59, 66, 70, 155] mixed ?_; (repeat (first | refine RW.ro bq_tt (h := ?_) | refine RW.skip (h := ?_) | refine RW.op bq_tt (h := ?_) | refine RW.opN bq_tt (h := ?_) | refine RW.skip0 (h := ?_) | (refine RW.callC (h := ?_); (first | refine CallP.mk bq_tt (hc := cT _) (h := ?_))))); refine RW.nil ⟨conf_of (by kernel_rfl), Pruned.mk (h := ?_)⟩)
      refine SW.weak id (st1 := ⟨[(8, i64 7), (7, .d .nils), (6, .ptr 15 0), (5, i64 i), (4, .ptr 14 0), (3, .ptr 10 0), (0, ops l)], (15, .box 25 d.cells) :: hX S X, 16⟩) (Weak.same (Nat.zero_le _) (by simp [EnvW, List.lookup, SV.ren, SV.ok, SV.oks]) (b15_ok S X d) (fun y hy => ?_)) ?_
      · simp only [List.mem_cons, List.not_mem_nil, or_false] at hy
        rcases hy with rfl | rfl | rfl | rfl | rfl | rfl | rfl | rfl | rfl | rfl | rfl | rfl <;> rfl
      refine SW.seq ?_
      (refine SW.regL [0, 2, 3, 4, 5, 6, 7, 8, 9, 11, 13, 14, 15, 16, 17, 18, 21, 28, 32, 59, 66, 70, 155] mixed ?_; (repeat (first | refine RW.ro bq_tt (h := ?_) | refine RW.skip (h := ?_) | refine RW.op bq_tt (h := ?_) | refine RW.opN bq_tt (h := ?_) | refine RW.skip0 (h := ?_) | (refine RW.callC (h := ?_); (first | refine CallP.mk bq_tt (hc := cL _) (h := ?_))))); refine RW.nil ⟨conf_of (by kernel_rfl), Pruned.mk (h := ?_)⟩)
      refine SW.seq ?_
      (refine SW.regL [0, 2, 3, 4, 5, 6, 7, 8, 9, 11, 13, 14, 15, 16, 17, 18, 21, 28, 32, 59, 66, 70, 155] mixed ?_; (repeat (first | refine RW.ro bq_tt (h := ?_) | refine RW.skip (h := ?_) | refine RW.op bq_tt (h := ?_) | refine RW.opN bq_tt (h := ?_) | refine RW.skip0 (h := ?_) | (refine RW.callC (h := ?_); (first | refine CallP.mk bq_tt (hc := cO _) (h := ?_))))); refine RW.nil ⟨conf_of (by kernel_rfl), Pruned.mk (h := ?_)⟩)
      refine SW.seq (SW.seq ?_)
      (refine SW.regL [0, 2, 3, 4, 5, 6, 7, 8, 9, 11, 13, 14, 15, 16, 17, 18, 21, 28, 32, 59, 66, 70, 155] mixed ?_; (repeat (first | refine RW.ro bq_tt (h := ?_) | refine RW.skip (h := ?_) | refine RW.op bq_tt (h := ?_) | refine RW.opN bq_tt (h := ?_) | refine RW.skip0 (h := ?_))); refine RW.nil ⟨conf_of (by kernel_rfl), Pruned.mk (h := ?_)⟩)
      refine SW.condT rfl (SW.exit ?_)
      refine (?_ : Sl.SW _ _ _ _ _ _)
      (refine SW.regL [0, 2, 3, 4, 5, 6, 7, 8, 9, 11, 13, 14, 15, 16, 17, 18, 21, 28, 32, 59, 66, 70, 155] mixed ?_; (repeat (first | refine RW.ro (e2) (h := ?_) | refine RW.skip (h := ?_) | refine RW.op (e2) (h := ?_) | refine RW.opN (e2) (h := ?_) | refine RW.skip0 (h := ?_))); refine RW.nil ⟨conf_of (by kernel_rfl), Pruned.mk (h := ?_)⟩)
      refine next _ _ _ (fun y hy => ?_) (by simp [EnvW, List.lookup, SV.ren, SV.ok, SV.oks])
      simp only [List.mem_cons, List.not_mem_nil, or_false] at hy
      rcases hy with rfl | rfl | rfl | rfl | rfl | rfl | rfl | rfl | rfl | rfl | rfl <;> rfl
    have c1 : threatsV X d = .tup [dots (Dt.set (X.thr (X.op d))), i64 0] := by unfold threatsV; rw [hhas, hg]; rfl
    have c2 : levelV X d = .tup [.d (.int .i64 (((X.chn d).length : Int) - 1)), i64 0] := by unfold levelV; rw [hhas, hg]; rfl
    have cT := cTt d
    have cL := cLv d
    have cO := cOp d
    rw [c1] at cT
    rw [c2] at cL
    have hlow' := hlow hg
    have hlvd' := fun t => @hlvd d t hg
    have hTl := hhl (X.op d)
    obtain ⟨o, ho⟩ : ∃ o, S.op d = o := ⟨_, rfl⟩
    obtain ⟨b, hb⟩ : ∃ b, MM.has S.ops d = b := ⟨_, rfl⟩
    rw [ho, hb] at cO
    obtain ⟨n, hn⟩ : ∃ n, ((X.chn d).length : Int) - 1 = n := ⟨_, rfl⟩
    rw [hn] at cL hlow' hlvd'
    generalize Dt.set (X.thr (X.op d)) = T at *
    (refine SW.regL [0, 2, 3, 4, 5, 6, 7, 8, 9, 11, 13, 14, 15, 16, 17, 18, 21, 28, 32, 59, 66, 70, 155] mixed ?_; (repeat (first | refine RW.ro bq_tt (h := ?_) | refine RW.skip (h := ?_) | refine RW.op bq_tt (h := ?_) | refine RW.opN bq_tt (h := ?_) | refine RW.skip0 (h := ?_) | (refine RW.callC (h := ?_); (first | refine CallP.mk bq_tt (hc := cT _) (h := ?_))))); refine RW.nil ⟨conf_of (by kernel_rfl), Pruned.mk (h := ?_)⟩)
    refine SW.weak id (st1 := ⟨[(8, i64 0), (7, dots T), (6, .ptr 15 0), (5, i64 i), (4, .ptr 14 0), (3, .ptr 10 0), (0, ops l)], (15, .box 25 d.cells) :: hX S X, 16⟩) (Weak.same (Nat.zero_le _) (by simp [EnvW, List.lookup, SV.ren, SV.ok, SV.oks]) (b15_ok S X d) (fun y hy => ?_)) ?_
    · simp only [List.mem_cons, List.not_mem_nil, or_false] at hy
      rcases hy with rfl | rfl | rfl | rfl | rfl | rfl | rfl | rfl | rfl | rfl | rfl | rfl <;> rfl
    refine SW.seq ?_
    (refine SW.regL [0, 2, 3, 4, 5, 6, 7, 8, 9, 11, 13, 14, 15, 16, 17, 18, 21, 28, 32, 59, 66, 70, 155] mixed ?_; (repeat (first | refine RW.ro bq_tt (h := ?_) | refine RW.skip (h := ?_) | refine RW.op bq_tt (h := ?_) | refine RW.opN bq_tt (h := ?_) | refine RW.skip0 (h := ?_) | (refine RW.callC (h := ?_); (first | refine CallP.mk bq_tt (hc := cL _) (h := ?_))))); refine RW.nil ⟨conf_of (by kernel_rfl), Pruned.mk (h := ?_)⟩)
    refine SW.seq ?_
    (refine SW.regL [0, 2, 3, 4, 5, 6, 7, 8, 9, 11, 13, 14, 15, 16, 17, 18, 21, 28, 32, 59, 66, 70, 155] mixed ?_; (repeat (first | refine RW.ro bq_tt (h := ?_) | refine RW.skip (h := ?_) | refine RW.op bq_tt (h := ?_) | refine RW.opN bq_tt (h := ?_) | refine RW.skip0 (h := ?_) | (refine RW.callC (h := ?_); (first | refine CallP.mk bq_tt (hc := cO _) (h := ?_))))); refine RW.nil ⟨conf_of (by kernel_rfl), Pruned.mk (h := ?_)⟩)
    refine SW.seq (SW.seq ?_)
    (refine SW.regL [0, 2, 3, 4, 5, 6, 7, 8, 9, 11, 13, 14, 15, 16, 17, 18, 21, 28, 32, 59, 66, 70, 155] mixed ?_; (repeat (first | refine RW.ro bq_tt (h := ?_) | refine RW.skip (h := ?_) | refine RW.op bq_tt (h := ?_) | refine RW.opN bq_tt (h := ?_) | refine RW.skip0 (h := ?_))); refine RW.nil ⟨conf_of (by kernel_rfl), Pruned.mk (h := ?_)⟩)
    refine SW.condF rfl (SW.skip ?_)
    have hcut : ∀ (Tl : Nat), (n ≤ 0 → T.length = 0) → (decide (n ≤ 0) && decide ((T.length : Int) > 0)) = false := fun _ h0 => by
      by_cases hn0 : n ≤ 0
      · rw [h0 hn0]; simp
      · simp [hn0]
    refine SW.seq ?_
    refine SW.cut (stM := ⟨[(66, bl false), (9, .d (.int .i64 n)), (7, dots T), (6, .ptr 15 0), (5, i64 i), (4, .ptr 14 0), (3, .ptr 10 0), (11, .ptr 18 0), (0, ops l)], (18, .box 31 o.cells) :: (15, .box 25 d.cells) :: hX S X, 19⟩) id ?_ ?_
    · rcases hn0 : decide (n ≤ 0) with _ | _
      · (refine SW.regL [0, 2, 3, 4, 5, 6, 7, 8, 9, 11, 13, 14, 15, 16, 17, 18, 21, 28, 32, 59, 66, 70, 155] mixed ?_; (repeat (first | refine RW.ro (hn0) (h := ?_) | refine RW.skip (h := ?_) | refine RW.op (hn0) (h := ?_) | refine RW.opN (hn0) (h := ?_) | refine RW.skip0 (h := ?_))); refine RW.nil ⟨conf_of (by kernel_rfl), Pruned.mk (h := ?_)⟩)
        refine Weak.same (Nat.zero_le _) (by simp [EnvW, List.lookup, SV.ren, SV.ok, SV.oks]) (b18_ok S X d o) (fun y hy => ?_)
        simp only [List.mem_cons, List.not_mem_nil, or_false] at hy
        rcases hy with rfl | rfl | rfl | rfl | rfl | rfl | rfl | rfl | rfl | rfl | rfl | rfl | rfl <;> rfl
      · have hT0 : T = [] := hlow' (by simpa using hn0)
        have hT1 : decide ((T.length : Int) > 0) = false := by rw [hT0]; rfl
        (refine SW.regL [0, 2, 3, 4, 5, 6, 7, 8, 9, 11, 13, 14, 15, 16, 17, 18, 21, 28, 32, 59, 66, 70, 155] mixed ?_; (repeat (first | refine RW.ro (And.intro (hn0) (hT1)) (h := ?_) | refine RW.skip (h := ?_) | refine RW.op (And.intro (hn0) (hT1)) (h := ?_) | refine RW.opN (And.intro (hn0) (hT1)) (h := ?_) | refine RW.skip0 (h := ?_))); refine RW.nil ⟨conf_of (by kernel_rfl), Pruned.mk (h := ?_)⟩)
        refine Weak.same (Nat.zero_le _) (by simp [EnvW, List.lookup, SV.ren, SV.ok, SV.oks]) (b18_ok S X d o) (fun y hy => ?_)
        simp only [List.mem_cons, List.not_mem_nil, or_false] at hy
        rcases hy with rfl | rfl | rfl | rfl | rfl | rfl | rfl | rfl | rfl | rfl | rfl | rfl | rfl <;> rfl
    refine SW.condF rfl (SW.skip ?_)
    refine SW.seq ?_
    (refine SW.regL [0, 2, 3, 4, 5, 6, 7, 8, 9, 11, 13, 14, 15, 16, 17, 18, 21, 28, 32, 59, 66, 70, 155] mixed ?_; (repeat (first | refine RW.ro bq_tt (h := ?_) | refine RW.skip (h := ?_) | refine RW.op bq_tt (h := ?_) | refine RW.opN bq_tt (h := ?_) | refine RW.skip0 (h := ?_))); refine RW.nil ⟨conf_of (by kernel_rfl), Pruned.mk (h := ?_)⟩)
    refine SW.block ?_
    refine SW.loop (α := {j : Nat // j ≤ T.length}) (fun j => ⟨[(13, i64 j.1), (9, .d (.int .i64 n)), (7, dots T), (6, .ptr 15 0), (5, i64 i), (4, .ptr 14 0), (3, .ptr 10 0), (11, .ptr 18 0), (0, ops l)], (18, .box 31 o.cells) :: (15, .box 25 d.cells) :: hX S X, 19⟩) (fun j => T.length - j.1) ⟨0, Nat.zero_le _⟩ id (Weak.same (Nat.zero_le _) (by simp [EnvW, List.lookup, SV.ren, SV.ok, SV.oks]) (b18_ok S X d o) (fun y hy => by
      simp only [List.mem_cons, List.not_mem_nil, or_false] at hy
      rcases hy with rfl | rfl | rfl | rfl | rfl | rfl | rfl | rfl | rfl | rfl | rfl | rfl | rfl <;> rfl)) ?_
    rintro ⟨j, hj⟩
    dsimp only
    by_cases hjl : j < T.length
    · have k1 : decide ((j : Int) < T.length) = true := by simp only [decide_eq_true_eq]; omega
      obtain ⟨t, ht⟩ := get_of_lt hjl
      have k2 : IntKind.i64.wrap ((j : Int) + 1) = ((j + 1 : Nat) : Int) := wrap_i64 _ (by omega)
      obtain ⟨a1, ⟨m, a2, a3⟩, ⟨a4, a5⟩, a6, a7, a8, a9, a10⟩ := hlvd' t (List.mem_of_getElem? ht)
      have dO := cOp t
      have dL := cLv t
      have dT := cTt t
      rw [a1] at dO
      rw [a3] at dL
      rw [a4] at dT
      have dB := rin_at (Dt.set (X.thr (X.op t))) d (hhl _)
      rw [decide_eq_false a5] at dB
      obtain ⟨r, hr⟩ : ∃ r, S.op t = r := ⟨_, rfl⟩
      rw [hr] at dO a6 a7 a9 a10
      rw [ho] at a6 a10
      have dD := cTd t
      have dI := rin_at (Dt.set (X.tht t)) d (htl t)
      rw [decide_eq_true a8] at dI
      have dR := cRv r.at_
      have dJ := rin_at (Dt.set (X.rvs r.at_)) t (hrl _)
      rw [decide_eq_true a9] at dJ
      have dF := rbefore_at o r
      rw [a10] at dF
      generalize Dt.set (X.thr (X.op t)) = B at dT dB
      generalize Dt.set (X.tht t) = D at dD dI
      generalize Dt.set (X.rvs r.at_) = E at dR dJ
      have f1 : decide (m ≥ n) = false := by simp; omega
      have f2 : decide (r.cart = o.cart) = true := decide_eq_true a6
      have f3 : (((r.kind : Nat) : Int) != 2) = false := by rw [a7]; rfl
      have o12 : List.take 2 (List.drop 12 o.cells) = o.cart.cells := rfl
      have r12 : List.take 2 (List.drop 12 r.cells) = r.cart.cells := rfl
      have r14 : r.cells[14]? = some (.d (.int .u8 r.kind)) := rfl
      have r21 : List.take 2 (List.drop 21 r.cells) = r.at_.cells := rfl
      refine SW.seq (SW.seq ?_)
      (refine SW.regL [0, 2, 3, 4, 5, 6, 7, 8, 9, 11, 13, 14, 15, 16, 17, 18, 21, 28, 32, 59, 66, 70, 155] mixed ?_; (repeat (first | refine RW.ro (k1) (h := ?_) | refine RW.skip (h := ?_) | refine RW.op (k1) (h := ?_) | refine RW.opN (k1) (h := ?_) | refine RW.skip0 (h := ?_))); refine RW.nil ⟨conf_of (by kernel_rfl), Pruned.mk (h := ?_)⟩)
      refine SW.condT rfl (SW.skip ?_)
      refine SW.seq (SW.block (SW.seq ?_))
      (refine SW.regL [0, 2, 3, 4, 5, 6, 7, 8, 9, 11, 13, 14, 15, 16, 17, 18, 21, 28, 32, 59, 66, 70, 155] mixed ?_; (repeat (first | refine RW.ro (dot_at ht) (h := ?_) | refine RW.skip (h := ?_) | refine RW.op (dot_at ht) (h := ?_) | refine RW.opN (dot_at ht) (h := ?_) | refine RW.skip0 (h := ?_) | (refine RW.callC (h := ?_); (first | refine CallP.mk (dot_at ht) (hc := dO _) (h := ?_))))); refine RW.nil ⟨conf_of (by kernel_rfl), Pruned.mk (h := ?_)⟩)
      refine SW.seq ?_
      (refine SW.regL [0, 2, 3, 4, 5, 6, 7, 8, 9, 11, 13, 14, 15, 16, 17, 18, 21, 28, 32, 59, 66, 70, 155] mixed ?_; (repeat (first | refine RW.ro (dot_at ht) (h := ?_) | refine RW.skip (h := ?_) | refine RW.op (dot_at ht) (h := ?_) | refine RW.opN (dot_at ht) (h := ?_) | refine RW.skip0 (h := ?_) | (refine RW.callC (h := ?_); (first | refine CallP.mk (dot_at ht) (hc := dL _) (h := ?_))))); refine RW.nil ⟨conf_of (by kernel_rfl), Pruned.mk (h := ?_)⟩)
      refine SW.seq ?_
      (refine SW.regL [0, 2, 3, 4, 5, 6, 7, 8, 9, 11, 13, 14, 15, 16, 17, 18, 21, 28, 32, 59, 66, 70, 155] mixed ?_; (repeat (first | refine RW.ro (dot_at ht) (h := ?_) | refine RW.skip (h := ?_) | refine RW.op (dot_at ht) (h := ?_) | refine RW.opN (dot_at ht) (h := ?_) | refine RW.skip0 (h := ?_) | (refine RW.callC (h := ?_); (first | refine CallP.mk (dot_at ht) (hc := dT _) (h := ?_))))); refine RW.nil ⟨conf_of (by kernel_rfl), Pruned.mk (h := ?_)⟩)
      refine SW.weak id (st1 := ⟨[(18, dots B), (17, i64 0), (16, .d (.int .i64 m)), (15, bl true), (14, .ptr 19 0), (13, i64 j), (9, .d (.int .i64 n)), (7, dots T), (6, .ptr 15 0), (5, i64 i), (4, .ptr 14 0), (3, .ptr 10 0), (11, .ptr 18 0), (0, ops l)], (19, .box 31 r.cells) :: (18, .box 31 o.cells) :: (15, .box 25 d.cells) :: hX S X, 20⟩) (Weak.same (Nat.zero_le _) (by simp [EnvW, List.lookup, SV.ren, SV.ok, SV.oks]) (b19_ok S X d o r) (fun y hy => ?_)) ?_
      · simp only [List.mem_cons, List.not_mem_nil, or_false] at hy
        rcases hy with rfl | rfl | rfl | rfl | rfl | rfl | rfl | rfl | rfl | rfl | rfl | rfl | rfl | rfl <;> rfl
      refine SW.seq ?_
      (have fx := (And.intro (dot_at ht) (And.intro (f1) (And.intro (f2) (And.intro (f3) (And.intro (o12) (And.intro (r12) (And.intro (r14) (r21)))))))); refine SW.regL [0, 2, 3, 4, 5, 6, 7, 8, 9, 11, 13, 14, 15, 16, 17, 18, 21, 28, 32, 59, 66, 70, 155] mixed ?_; (repeat (first | refine RW.ro fx (h := ?_) | refine RW.skip (h := ?_) | refine RW.op fx (h := ?_) | refine RW.opN fx (h := ?_) | refine RW.skip0 (h := ?_) | (refine RW.callC (h := ?_); (first | refine CallP.mk fx (hc := dB _) (h := ?_) | refine CallP.mk fx (hc := dD _) (h := ?_) | refine CallP.mk fx (hc := dI _) (h := ?_) | refine CallP.mk fx (hc := dR _) (h := ?_) | refine CallP.mk fx (hc := dJ _) (h := ?_) | refine CallP.mk fx (hc := dF _) (h := ?_))))); refine RW.nil ⟨conf_of (by kernel_rfl), Pruned.mk (h := ?_)⟩)
      refine SW.condF rfl (SW.skip ?_)
      (refine SW.regL [0, 2, 3, 4, 5, 6, 7, 8, 9, 11, 13, 14, 15, 16, 17, 18, 21, 28, 32, 59, 66, 70, 155] mixed ?_; (repeat (first | refine RW.ro (k2) (h := ?_) | refine RW.skip (h := ?_) | refine RW.op (k2) (h := ?_) | refine RW.opN (k2) (h := ?_) | refine RW.skip0 (h := ?_))); refine RW.nil ⟨conf_of (by kernel_rfl), Pruned.mk (h := ?_)⟩)
      refine ⟨⟨j + 1, by omega⟩, id, by show T.length - (j + 1) < T.length - j; omega, Weak.same (Nat.zero_le _) (by simp [EnvW, List.lookup, SV.ren, SV.ok, SV.oks]) (b18_ok S X d o) (fun y hy => ?_)⟩
      simp only [List.mem_cons, List.not_mem_nil, or_false] at hy
      rcases hy with rfl | rfl | rfl | rfl | rfl | rfl | rfl | rfl | rfl | rfl | rfl | rfl | rfl <;> rfl
    · have k1 : decide ((j : Int) < T.length) = false := by simp only [decide_eq_false_iff_not]; omega
      refine SW.seq (SW.seq ?_)
      (refine SW.regL [0, 2, 3, 4, 5, 6, 7, 8, 9, 11, 13, 14, 15, 16, 17, 18, 21, 28, 32, 59, 66, 70, 155] mixed ?_; (repeat (first | refine RW.ro (k1) (h := ?_) | refine RW.skip (h := ?_) | refine RW.op (k1) (h := ?_) | refine RW.opN (k1) (h := ?_) | refine RW.skip0 (h := ?_))); refine RW.nil ⟨conf_of (by kernel_rfl), Pruned.mk (h := ?_)⟩)
      refine SW.condF rfl (SW.exit ?_)
      refine (?_ : Sl.SW _ _ _ _ _ _)
      (refine SW.regL [0, 2, 3, 4, 5, 6, 7, 8, 9, 11, 13, 14, 15, 16, 17, 18, 21, 28, 32, 59, 66, 70, 155] mixed ?_; (repeat (first | refine RW.ro (e2) (h := ?_) | refine RW.skip (h := ?_) | refine RW.op (e2) (h := ?_) | refine RW.opN (e2) (h := ?_) | refine RW.skip0 (h := ?_))); refine RW.nil ⟨conf_of (by kernel_rfl), Pruned.mk (h := ?_)⟩)
      refine next _ _ _ (fun y hy => ?_) (by simp [EnvW, List.lookup, SV.ren, SV.ok, SV.oks])
      simp only [List.mem_cons, List.not_mem_nil, or_false] at hy
      rcases hy with rfl | rfl | rfl | rfl | rfl | rfl | rfl | rfl | rfl | rfl | rfl <;> rfl
  · have h1 : decide ((i : Int) < l.length) = false := by simp only [decide_eq_false_iff_not]; omega
    refine SW.seq (SW.seq ?_)
    (refine SW.regL [0, 2, 3, 4, 5, 6, 7, 8, 9, 11, 13, 14, 15, 16, 17, 18, 21, 28, 32, 59, 66, 70, 155] mixed ?_; (repeat (first | refine RW.ro (h1) (h := ?_) | refine RW.skip (h := ?_) | refine RW.op (h1) (h := ?_) | refine RW.opN (h1) (h := ?_) | refine RW.skip0 (h := ?_))); refine RW.nil ⟨conf_of (by kernel_rfl), Pruned.mk (h := ?_)⟩)
    refine SW.condF rfl (SW.exit ?_)
    refine (?_ : Sl.SW _ _ _ _ _ _)
    refine SW.seq ?_
    (refine SW.regL [0, 2, 3, 4, 5, 6, 7, 8, 9, 11, 13, 14, 15, 16, 17, 18, 21, 28, 32, 59, 66, 70, 155] mixed ?_; (repeat (first | refine RW.ro bq_tt (h := ?_) | refine RW.skip (h := ?_) | refine RW.op bq_tt (h := ?_) | refine RW.opN bq_tt (h := ?_) | refine RW.skip0 (h := ?_) | (refine RW.callC (h := ?_); (first | refine CallP.mk bq_tt (hc := head18_at _) (h := ?_))))); refine RW.nil ⟨conf_of (by kernel_rfl), Pruned.mk (h := ?_)⟩)
    refine SW.ret ?_
    exact End.mk [] (h4 := rfl)
end Go.Proofs.YtlgfknfdfnaedaaGreat
