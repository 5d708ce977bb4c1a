/-
  Revoke: levels fall from who hits to who is hit (plain).
-/
import Derived.Test.YtlgfknfdfnaedaaUO
import Derived.Test.YtlgfknfdfnaedaaUL
import Derived.Test.YtlgfknfdfnaedaaUR
import Derived.Test.YtlgfknfdfnaedaaUN
import Derived.Test.YtlgfknfdfnaedaaUE
set_option linter.unusedSectionVars false
set_option linter.unusedVariables false
set_option linter.unusedSimpArgs false
namespace Go.Proofs.Ytlgfknfdfnaedaa
open Go.Sl Go.Proofs
noncomputable def Sh.thr (S : Sh) (ds : List Dt) (o : OpD) : List Dt := (S.chn o).flatMap fun c => (ds.filter (S.rv c)).filter fun t => !o.before (S.op t)
theorem Sh.mem_thr {S : Sh} {ds : List Dt} {o : OpD} {t : Dt} : t ∈ S.thr ds o ↔ t ∈ ds ∧ S.good t = true ∧ (S.op t).kind = 2 ∧ (S.op t).at_ ∈ S.chn o ∧ o.before (S.op t) = false := by
  unfold Sh.thr Sh.rv
  simp only [List.mem_flatMap, List.mem_filter, Bool.and_eq_true, decide_eq_true_eq, Bool.not_eq_true']
  constructor
  · rintro ⟨c, hc, ⟨h1, h2, h3, rfl⟩, h4⟩
    exact ⟨h1, h2, h3, hc, h4⟩
  · rintro ⟨h1, h2, h3, h4, h5⟩
    exact ⟨_, h4, ⟨h1, h2, h3, rfl⟩, h5⟩
end Go.Proofs.Ytlgfknfdfnaedaa
namespace Go.Proofs.Ytlgfknfdfnaedaa
open Go.Sl Go.Proofs
def q1 : OpD := ⟨⟨0, 1⟩, Vec.zero, 1, 1, ⟨0, 1⟩, 0, ⟨0, 0⟩, 0, 0, 0, 0, ⟨0, 0⟩, ⟨0, 0⟩, 0, 0, 0, .nils⟩
def q2 : OpD := ⟨⟨0, 2⟩, vec1 1, 2, 1, ⟨0, 1⟩, 1, ⟨0, 1⟩, 2, 2, 0, 9, ⟨0, 0⟩, ⟨0, 0⟩, 0, 0, 0, .nils⟩
def q3 : OpD := ⟨⟨0, 3⟩, vec1 2, 3, 2, ⟨0, 1⟩, 3, ⟨0, 2⟩, 0, 0, 0, 0, ⟨0, 0⟩, ⟨0, 0⟩, 0, 1, 0, .nils⟩
def q4 : OpD := ⟨⟨0, 4⟩, vec1 3, 4, 2, ⟨0, 1⟩, 4, ⟨0, 2⟩, 0, 0, 0, 0, ⟨0, 3⟩, ⟨0, 0⟩, 0, 2, 0, .nils⟩
def q5 : OpD := ⟨⟨1, 1⟩, vec1 3, 4, 1, ⟨0, 1⟩, 2, ⟨0, 1⟩, 0, 0, 0, 0, ⟨0, 2⟩, ⟨0, 0⟩, 0, 0, 0, .nils⟩
def p1 : OpD := q1.nz
def p2 : OpD := q2.nz
def p3 : OpD := q3.nz
def p4 : OpD := q4.nz
def p5 : OpD := q5.nz
def prow : List OpD := [p1, p2, p3, p4, p5]
set_option maxRecDepth 100000 in
theorem lit5 {P : Program} {env : List (Nat × SV)} {hp : Hp} {k d p q s v w : Nat} {r : List SI} {K : St → List (Bool × List Nat) → Prop} (a b c e g : OpD) {z : List SV} (hz : z = zOp ++ (zOp ++ (zOp ++ (zOp ++ zOp))))
    (ha : env.lookup p = some (.agg a.cells)) (hb : env.lookup q = some (.agg b.cells)) (hc : env.lookup s = some (.agg c.cells)) (he : env.lookup v = some (.agg e.cells)) (hg : env.lookup w = some (.agg g.cells))
    (h : RW P r ⟨(d, ops [a, b, c, e, g]) :: env, hp, k⟩ fun st' ts => K st' ((false, []) :: ts)) : RW P (⟨some d, .bsl 37 29 5 z [(0, 29, .t p), (29, 29, .t q), (58, 29, .t s), (87, 29, .t v), (116, 29, .t w)], none⟩ :: r) ⟨env, hp, k⟩ K := by
  subst hz
  refine RW.cons (e := ⟨ops [a, b, c, e, g], [], [], 0, ((29 = 29 ∧ 0 + 29 ≤ 145 ∧ 29 = 29 ∧ 29 + 29 ≤ 145 ∧ 29 = 29 ∧ 58 + 29 ≤ 145 ∧ 29 = 29 ∧ 87 + 29 ≤ 145 ∧ 29 = 29 ∧ 116 + 29 ≤ 145 ∧ True))⟩) (fun crs => ⟨.frz :: crs, runOp_some (.inl rfl) ?_⟩) (by show 29 = 29 ∧ 0 + 29 ≤ 145 ∧ 29 = 29 ∧ 29 + 29 ≤ 145 ∧ 29 = 29 ∧ 58 + 29 ≤ 145 ∧ 29 = 29 ∧ 87 + 29 ≤ 145 ∧ 29 = 29 ∧ 116 + 29 ≤ 145 ∧ True; decide) ?_
  · have h1 : evp (fun t => env.lookup t) [(0, 29, X.t p), (29, 29, X.t q), (58, 29, X.t s), (87, 29, X.t v), (116, 29, X.t w)] = some [(0, 29, .agg a.cells), (29, 29, .agg b.cells), (58, 29, .agg c.cells), (87, 29, .agg e.cells), (116, 29, .agg g.cells)] := by
      simp only [evp, ev, ha, hb, hc, he, hg]
    have h2 : bldS (zOp ++ (zOp ++ (zOp ++ (zOp ++ zOp)))) [(0, 29, .agg a.cells), (29, 29, .agg b.cells), (58, 29, .agg c.cells), (87, 29, .agg e.cells), (116, 29, .agg g.cells)] = some (a.cells ++ (b.cells ++ (c.cells ++ (e.cells ++ g.cells))), ((29 = 29 ∧ 0 + 29 ≤ 145 ∧ 29 = 29 ∧ 29 + 29 ≤ 145 ∧ 29 = 29 ∧ 58 + 29 ≤ 145 ∧ 29 = 29 ∧ 87 + 29 ≤ 145 ∧ 29 = 29 ∧ 116 + 29 ≤ 145 ∧ True))) := rfl
    have h3 : datas (a.cells ++ (b.cells ++ (c.cells ++ (e.cells ++ g.cells)))) = some ([a, b, c, e, g].flatMap OpD.ds) := rfl
    have h4 : (a.cells ++ (b.cells ++ (c.cells ++ (e.cells ++ g.cells)))).all SV.isOne = true := rfl
    simp only [goOp, sop, h1, h2, h3, h4, if_true, Bool.false_or]
    rfl
  · exact h
theorem RW.bldQ {P : Program} {d : Nat} {z : List SV} {parts : List (Nat × Nat × X)} {r : List SI} {K : St → List (Bool × List Nat) → Prop} {env : List (Nat × SV)} {hp : Hp} {k : Nat} (cs : List SV) {ps : List (Nat × Nat × SV)} {ob : Prop} (h1 : evp (fun t => env.lookup t) parts = some ps) (h2 : bldS z ps = some (cs, ob)) (hob : ob)
    (h : Go.Sl.RW P r ⟨(d, .agg cs) :: env, hp, k⟩ fun st' ts => K st' ((true, []) :: ts)) : Go.Sl.RW P (⟨some d, .bld z parts, none⟩ :: r) ⟨env, hp, k⟩ K :=
  RW.ro_aux (F := []) (F' := []) (nk := 0) (ob := ob) rfl rfl rfl (.inl rfl) (by simp only [goOp, sop, h1, h2]) hob rfl h
section
attribute [local irreducible] SW RW SCd SC CallP Pruned nkT nkH
set_option maxRecDepth 100000 in
set_option maxHeartbeats 4000000 in
theorem prow_ok : Go.Sl.Pure Try.prog law18_row.f [] (ops [q1, q2, q3, q4, q5]) := by
  refine law18_row.enter (by first | rfl | simp [SV.ok, SV.oks]) (by first | rfl | simp [Hp.ok, Ob.ok, SV.ok, SV.oks, Vec.cells_ok]) (by simp) ?_
  dsimp only [law18_row.s, Co.M, Co.G, Co.J, Co.H, Co.N, Co.F, Co.C, Co.Z, Co.B, Co.b8, Co.b32, Co.b64, Co.i6, Co.z8, Co.z29]
  refine SW.seq ?_
  (refine SW.regL [0, 1] mixed ?_; (repeat (first | refine RW.ro bq_tt (h := ?_) | refine RW.skip (h := ?_) | refine RW.op bq_tt (h := ?_) | refine RW.opN bq_tt (h := ?_) | refine RW.skip0 (h := ?_))); refine RW.nil ⟨by kernel_rfl, Pruned.mk (h := ?_)⟩)
  refine SW.seq ?_
  (refine SW.regL [0, 1] mixed ?_; (repeat (first | refine RW.ro bq_tt (h := ?_) | refine RW.skip (h := ?_) | refine RW.op bq_tt (h := ?_) | refine RW.opN bq_tt (h := ?_) | refine RW.skip0 (h := ?_))); refine RW.nil ⟨by kernel_rfl, Pruned.mk (h := ?_)⟩)
  refine SW.seq ?_
  (refine SW.regL [0, 1] mixed ?_; (repeat (first | refine RW.bldQ q1.cells rfl rfl (by decide) (h := ?_) | refine RW.bldQ q2.cells rfl rfl (by decide) (h := ?_) | refine RW.bldQ q3.cells rfl rfl (by decide) (h := ?_) | refine RW.bldQ q4.cells rfl rfl (by decide) (h := ?_) | refine RW.bldQ q5.cells rfl rfl (by decide) (h := ?_) | refine lit5 q1 q2 q3 q4 q5 rfl rfl rfl rfl rfl rfl (h := ?_) | refine RW.ro bq_tt (h := ?_) | refine RW.skip (h := ?_) | refine RW.op bq_tt (h := ?_) | refine RW.opN bq_tt (h := ?_) | refine RW.skip0 (h := ?_))); refine RW.nil ⟨by kernel_rfl, Pruned.mk (h := ?_)⟩)
  refine SW.ret ?_
  exact End.mk [] (h4 := ⟨rfl, rfl⟩)
end
theorem prow_at (k : Nat) : SCd Try.prog law18_row.f [] [] k 0 (ops prow) [] := by
  have h0 : SCd Try.prog law18_row.f [] [] k 0 (ops [q1, q2, q3, q4, q5]) [] := prow_ok.sc rfl k
  refine SC.resd7 h0 fun p μ M u hu => ?_
  rw [Rp.d_iff] at hu ⊢
  have := RepD.nzr hu
  rw [← ops_nz] at this
  exact this
theorem pr_at : (newTr prow).at_ = [(0, ⟨0, 1⟩, hc1), (1, ⟨0, 2⟩, hc2)] := by kernel_rfl
theorem pr_u1 : Ups (newTr prow).at_ (MM.get (newTr prow).at_ ⟨0, 1⟩) [hc1] := by
  rw [pr_at]
  exact .root hc1 (by decide)
theorem pr_u2 : Ups (newTr prow).at_ (MM.get (newTr prow).at_ ⟨0, 2⟩) [hc2, hc1] := by
  rw [pr_at]
  exact .more hc2 _ (by decide) (.root hc1 (by decide))
theorem pr_w1 : whyL prow p1 = 0 := by kernel_rfl
theorem pr_w2 : whyL prow p2 = 0 := by kernel_rfl
theorem pr_w3 : whyL prow p3 = 0 := by kernel_rfl
theorem pr_w4 : whyL prow p4 = 0 := by kernel_rfl
theorem pr_w5 : whyL prow p5 = 0 := whyL_of pr_u2 (by kernel_rfl)
theorem prow_lin : ∀ o, o ∈ prow → o.kind < 256 ∧ o.lin ∧ o.cl.length ≤ 1048576 := fun o ho => by
  simp only [prow, List.mem_cons, List.not_mem_nil, or_false] at ho
  rcases ho with rfl | rfl | rfl | rfl | rfl
  all_goals exact ⟨by decide, lin0 rfl, by decide⟩
end Go.Proofs.Ytlgfknfdfnaedaa
namespace Go.Proofs.Ytlgfknfdfnaedaa
open Go.Sl Go.Proofs
theorem dset_nodup (l : List Dt) : (Dt.set l).Nodup := (Dt.sorted_perm _).nodup_iff.2 (setM_wf l).keys
section
variable {l : List OpD} {S : Sh} (h : ShOk l S) (hl : l.length ≤ 80)
include h
theorem ShOk.gmem {d : Dt} (hg : S.good d = true) : ∃ o, findO l d = some o ∧ whyL l o = 0 ∧ S.op d = o ∧ o.dot = d ∧ d ∈ Dt.set (l.map (·.dot)) := by
  rw [h.good] at hg
  cases hf : findO l d with
  | none => rw [hf] at hg; cases hg
  | some o =>
    rw [hf] at hg
    have hd := findO_dot hf
    refine ⟨o, rfl, of_decide_eq_true hg, ?_, hd, ?_⟩
    · rw [h.base.op, opP_some hf]
    · rw [Dt.mem_set]
      exact List.mem_map.2 ⟨o, findO_mem hf, hd⟩
theorem ShOk.inds {d : Dt} : (d ∈ Dt.set (l.map (·.dot)) ∧ S.good d = true) ↔ S.good d = true := ⟨fun h => h.2, fun hg => ⟨(h.gmem hg).elim fun _ h => h.2.2.2.2, hg⟩⟩
noncomputable abbrev ShOk.X (_ : ShOk l S) : Ix := ixL S (Dt.set (l.map (·.dot)))
theorem ShOk.xok : IxOk S (Dt.set (l.map (·.dot))) h.X := ixL_ok _ _
theorem ShOk.xhas (d : Dt) : MM.has h.X.ops d = S.good d := by
  unfold MM.has
  rw [h.xok.ops]
  simp only [h.inds]
  cases S.good d <;> rfl
theorem ShOk.xop {d : Dt} (hg : S.good d = true) : h.X.op d = S.op d := by
  unfold Ix.op
  rw [h.xok.ops, if_pos (h.inds.2 hg)]; rfl
theorem ShOk.xchn {d : Dt} (hg : S.good d = true) : h.X.chn d = S.chn (S.op d) := by
  unfold Ix.chn
  rw [h.xok.ch, if_pos (h.inds.2 hg)]; rfl
theorem ShOk.xchn0 {d : Dt} (hg : S.good d = false) : h.X.chn d = [] := by
  unfold Ix.chn
  rw [h.xok.ch, if_neg (fun hh => by rw [hg] at hh; cases hh.2)]; rfl
theorem ShOk.xrvs (c : Dt) : h.X.rvs c = (Dt.set (l.map (·.dot))).filter (S.rv c) := h.xok.of_ c
theorem ShOk.chn_len (o : OpD) : (S.chn o).length ≤ 9 := by
  unfold Sh.chn
  split
  · simp
  · obtain ⟨L, h1, h2⟩ := h.base.ups o.cred
    rw [List.length_map, upsL_eq h1]; exact h2
include hl
theorem ShOk.ds_len : (Dt.set (l.map (·.dot))).length ≤ 80 := by
  have := (dset_nodup (l.map (·.dot))).length_le_of_subset (l₂ := l.map (·.dot)) fun d hd => Dt.mem_set.1 hd
  simpa using Nat.le_trans this (by simpa using hl)
theorem ShOk.small : h.X.small := by
  have hd := h.ds_len hl
  refine ⟨fun d => ?_, fun c => ?_, ?_, h.xok.wo⟩
  · cases hg : S.good d with
    | false => rw [h.xchn0 hg]; simp
    | true => rw [h.xchn hg]; have := h.chn_len (S.op d); omega
  · rw [h.xrvs]
    have := List.length_filter_le (S.rv c) (Dt.set (l.map (·.dot)))
    omega
  · have := h.xok.wo.keys.length_le_of_subset (l₂ := Dt.set (l.map (·.dot))) fun d hd' => by
      rw [← MM.has_iff, h.xhas] at hd'
      exact (h.inds.2 hd').1
    have e : (MM.keys h.X.ops).length = h.X.ops.length := by simp [MM.keys]
    omega
omit hl
theorem ShOk.xthr {d : Dt} (hg : S.good d = true) : h.X.thr (S.op d) = S.thr (Dt.set (l.map (·.dot))) (S.op d) := by
  obtain ⟨o, _, _, e1, e2, _⟩ := h.gmem hg
  unfold Ix.thr Sh.thr
  rw [e1, e2, h.xchn hg, e1]
  congr 1
  funext c
  rw [h.xrvs]
  refine List.filter_congr fun t ht => ?_
  have : S.good t = true := by
    have := (List.mem_filter.1 ht).2
    unfold Sh.rv at this
    rw [Bool.and_eq_true] at this
    exact this.1
  rw [h.xop this]
theorem ShOk.mem_tht {e v : Dt} : v ∈ h.X.tht e ↔ S.good v = true ∧ e ∈ S.thr (Dt.set (l.map (·.dot))) (S.op v) := by
  unfold Ix.tht
  rw [List.mem_map]
  simp only [Ix.mem_hit]
  constructor
  · rintro ⟨o, ⟨⟨x, hx, rfl⟩, he⟩, rfl⟩
    have hk := mem_get h.xok.wo.keys hx
    rw [h.xok.ops] at hk
    split at hk
    · rename_i hc
      injection hk with hk
      obtain ⟨o', _, _, e1, e2, _⟩ := h.gmem hc.2
      have e3 : x.2.2.dot = x.2.1 := by rw [← hk, e1, e2]
      rw [e3]
      refine ⟨hc.2, ?_⟩
      rw [← h.xthr hc.2, hk]; exact he
    · cases hk
  · rintro ⟨hg, he⟩
    obtain ⟨o, _, _, e1, e2, _⟩ := h.gmem hg
    have h2 : MM.get h.X.ops v = some (S.op v) := by rw [h.xok.ops, if_pos (h.inds.2 hg)]
    obtain ⟨x, hx, a1, a2⟩ := get_mem h2
    exact ⟨S.op v, ⟨⟨x, hx, a2⟩, by rw [h.xthr hg]; exact he⟩, by rw [e1, e2]⟩
end
theorem Dt.set_ext {a b : List Dt} (h : ∀ v, v ∈ a ↔ v ∈ b) : Dt.set a = Dt.set b := Dt.rises_unique (Dt.set_rises _) (Dt.set_rises _) fun v => by rw [Dt.mem_set, Dt.mem_set, h]
theorem pr_ds : Dt.set (prow.map (·.dot)) = [⟨0, 1⟩, ⟨0, 2⟩, ⟨0, 3⟩, ⟨0, 4⟩, ⟨1, 1⟩] := (Dt.setR_eq _).symm.trans (by kernel_rfl)
section
variable {S : Sh} (h : ShOk prow S)
include h
theorem pr_op1 : S.op ⟨0, 1⟩ = p1 := by rw [h.base.op]; exact opP_some (by kernel_rfl)
theorem pr_op2 : S.op ⟨0, 2⟩ = p2 := by rw [h.base.op]; exact opP_some (by kernel_rfl)
theorem pr_op3 : S.op ⟨0, 3⟩ = p3 := by rw [h.base.op]; exact opP_some (by kernel_rfl)
theorem pr_op4 : S.op ⟨0, 4⟩ = p4 := by rw [h.base.op]; exact opP_some (by kernel_rfl)
theorem pr_op5 : S.op ⟨1, 1⟩ = p5 := by rw [h.base.op]; exact opP_some (by kernel_rfl)
theorem pr_g1 : S.good ⟨0, 1⟩ = true := by rw [h.goodY (o := p1) (by kernel_rfl), pr_w1]; rfl
theorem pr_g2 : S.good ⟨0, 2⟩ = true := by rw [h.goodY (o := p2) (by kernel_rfl), pr_w2]; rfl
theorem pr_g3 : S.good ⟨0, 3⟩ = true := by rw [h.goodY (o := p3) (by kernel_rfl), pr_w3]; rfl
theorem pr_g4 : S.good ⟨0, 4⟩ = true := by rw [h.goodY (o := p4) (by kernel_rfl), pr_w4]; rfl
theorem pr_g5 : S.good ⟨1, 1⟩ = true := by rw [h.goodY (o := p5) (by kernel_rfl), pr_w5]; rfl
theorem pr_g9 : S.good ⟨0, 9⟩ = false := h.goodN (by kernel_rfl)
theorem pr_c1 : S.chn p1 = [] := by unfold Sh.chn; rw [if_pos (by decide)]
theorem pr_c2 : S.chn p2 = [⟨0, 1⟩] := by unfold Sh.chn; rw [if_neg (by decide), h.base.tr]; exact congrArg (List.map (·.dot)) (upsL_eq pr_u1)
theorem pr_c3 : S.chn p3 = [⟨0, 2⟩, ⟨0, 1⟩] := by unfold Sh.chn; rw [if_neg (by decide), h.base.tr]; exact congrArg (List.map (·.dot)) (upsL_eq pr_u2)
theorem pr_c4 : S.chn p4 = [⟨0, 2⟩, ⟨0, 1⟩] := by unfold Sh.chn; rw [if_neg (by decide), h.base.tr]; exact congrArg (List.map (·.dot)) (upsL_eq pr_u2)
theorem pr_c5 : S.chn p5 = [⟨0, 1⟩] := by unfold Sh.chn; rw [if_neg (by decide), h.base.tr]; exact congrArg (List.map (·.dot)) (upsL_eq pr_u1)
theorem pr_rv {a d : Dt} (hd : d ∈ Dt.set (prow.map (·.dot))) (hk : S.good d = true ∧ (S.op d).kind = 2 ∧ (S.op d).at_ = a) : d = ⟨1, 1⟩ ∧ a = ⟨0, 2⟩ := by
  rw [pr_ds] at hd
  simp only [List.mem_cons, List.not_mem_nil, or_false] at hd
  obtain ⟨_, h1, h2⟩ := hk
  rcases hd with rfl | rfl | rfl | rfl | rfl
  · rw [pr_op1 h] at h1; exact absurd h1 (by decide)
  · rw [pr_op2 h] at h1; exact absurd h1 (by decide)
  · rw [pr_op3 h] at h1; exact absurd h1 (by decide)
  · rw [pr_op4 h] at h1; exact absurd h1 (by decide)
  · rw [pr_op5 h] at h2; exact ⟨rfl, h2.symm⟩
theorem pr_thr (o : OpD) (v : Dt) : v ∈ S.thr (Dt.set (prow.map (·.dot))) o ↔ v = ⟨1, 1⟩ ∧ (⟨0, 2⟩ : Dt) ∈ S.chn o ∧ o.before p5 = false := by
  rw [Sh.mem_thr]
  constructor
  · rintro ⟨h1, h2, h3, h4, h5⟩
    obtain ⟨rfl, ha⟩ := pr_rv h h1 ⟨h2, h3, rfl⟩
    rw [pr_op5 h] at h4 h5
    exact ⟨rfl, h4, h5⟩
  · rintro ⟨rfl, h1, h2⟩
    rw [pr_op5 h]
    exact ⟨by rw [pr_ds]; decide, pr_g5 h, by decide, h1, h2⟩
theorem pr_t4 : Dt.set (h.X.thr (h.X.op ⟨0, 4⟩)) = [⟨1, 1⟩] := by
  rw [h.xop (pr_g4 h), h.xthr (pr_g4 h), pr_op4 h]
  refine (Dt.set_ext (b := [⟨1, 1⟩]) fun v => ?_).trans ((Dt.setR_eq _).symm.trans (by kernel_rfl))
  rw [pr_thr h, pr_c4 h]
  simp [show p4.before p5 = false by kernel_rfl]
theorem pr_t3 : Dt.set (h.X.thr (h.X.op ⟨0, 3⟩)) = [] := by
  rw [h.xop (pr_g3 h), h.xthr (pr_g3 h), pr_op3 h]
  refine (Dt.set_ext (b := []) fun v => ?_).trans ((Dt.setR_eq _).symm.trans (by kernel_rfl))
  rw [pr_thr h, pr_c3 h]
  simp [show p3.before p5 = true by kernel_rfl]
theorem pr_t2 : Dt.set (h.X.thr (h.X.op ⟨0, 2⟩)) = [] := by
  rw [h.xop (pr_g2 h), h.xthr (pr_g2 h), pr_op2 h]
  refine (Dt.set_ext (b := []) fun v => ?_).trans ((Dt.setR_eq _).symm.trans (by kernel_rfl))
  rw [pr_thr h, pr_c2 h]
  simp
theorem pr_r2 : Dt.set (h.X.rvs ⟨0, 2⟩) = [⟨1, 1⟩] := by
  rw [h.xrvs]
  refine (Dt.set_ext (b := [⟨1, 1⟩]) fun v => ?_).trans ((Dt.setR_eq _).symm.trans (by kernel_rfl))
  rw [List.mem_filter, List.mem_singleton]
  unfold Sh.rv
  simp only [Bool.and_eq_true, decide_eq_true_eq]
  constructor
  · rintro ⟨h1, h2, h3, h4⟩
    exact (pr_rv h h1 ⟨h2, h3, h4⟩).1
  · rintro rfl
    rw [pr_op5 h]
    exact ⟨by rw [pr_ds]; decide, pr_g5 h, by decide, by decide⟩
theorem pr_h5 : Dt.set (h.X.tht ⟨1, 1⟩) = [⟨0, 4⟩] := by
  refine (Dt.set_ext (b := [⟨0, 4⟩]) fun v => ?_).trans ((Dt.setR_eq _).symm.trans (by kernel_rfl))
  rw [h.mem_tht, List.mem_singleton, pr_thr h]
  constructor
  · rintro ⟨hg, _, hc, hb⟩
    have hd := (h.inds.2 hg).1
    rw [pr_ds] at hd
    simp only [List.mem_cons, List.not_mem_nil, or_false] at hd
    rcases hd with rfl | rfl | rfl | rfl | rfl
    · rw [pr_op1 h, pr_c1 h] at hc; cases hc
    · rw [pr_op2 h, pr_c2 h] at hc; exact absurd hc (by decide)
    · rw [pr_op3 h] at hb; exact absurd hb (by rw [show p3.before p5 = true by kernel_rfl]; decide)
    · rfl
    · rw [pr_op5 h, pr_c5 h] at hc; exact absurd hc (by decide)
  · rintro rfl
    rw [pr_op4 h, pr_c4 h]
    exact ⟨pr_g4 h, rfl, by decide, by kernel_rfl⟩
end
end Go.Proofs.Ytlgfknfdfnaedaa
namespace Go.Proofs.Ytlgfknfdfnaedaa
open Go.Sl Go.Proofs
attribute [local irreducible] SW RW SCd SC CallP Pruned nkT nkH
theorem isome10 (S : Sh) (n : Nat) : (lk S.h10 n).isSome = true ↔ n ∈ [10, 7, 8, 9, 2, 0, 1] := by
  rw [Option.isSome_iff_ne_none]
  constructor
  · intro hn
    obtain ⟨ob, ho⟩ := Option.ne_none_iff_exists'.1 hn
    have := (List.mem_map (f := fun x : Nat × Ob => x.1)).2 ⟨(n, ob), lk_mem ho, rfl⟩
    simpa using this
  · intro hn
    simp only [List.mem_cons, List.not_mem_nil, or_false] at hn
    rcases hn with rfl | rfl | rfl | rfl | rfl | rfl | rfl <;> simp [lk_cons]
theorem hX_okq (S : Sh) (X : Ix) (q : Nat → Bool) (h : ∀ n, n ∈ [0, 1, 2, 7, 8, 9, 10, 11, 12, 13, 14] → q n = true) : (hX S X).ok q = true := by
  have a := fun n hn => h n hn
  refine ok_cons (h 14 (by decide)) ?_ (ok_cons (h 13 (by decide)) (nmap_ok _ _) (ok_cons (h 12 (by decide)) (nmap_ok _ _) (ok_cons (h 11 (by decide)) (omap_ok _ _) (ok_cons (h 10 (by decide)) ?_ (ok_cons (h 7 (by decide)) (omap_ok _ _) (ok_cons (h 8 (by decide)) (dmap_ok _ _) (ok_cons (h 9 (by decide)) (dvmap_ok _ _) (ok_cons (h 2 (by decide)) ?_ (ok_cons (h 0 (by decide)) (cmap_ok _ _) (ok_cons (h 1 (by decide)) (omap_ok _ _) rfl))))))))))
  · simp [Ob.ok, SV.oks, SV.ok, h 11, h 12, h 13]
  · simp [Ob.ok, SV.oks, SV.ok, h 2, h 7, h 8, h 9]
  · simp [Ob.ok, SV.oks, SV.ok, h 0, h 1]
theorem h10_okq (S : Sh) (q : Nat → Bool) (h : ∀ n, n ∈ [0, 1, 2, 7, 8, 9, 10] → q n = true) : S.h10.ok q = true := by
  refine ok_cons (h 10 (by decide)) ?_ (ok_cons (h 7 (by decide)) (omap_ok _ _) (ok_cons (h 8 (by decide)) (dmap_ok _ _) (ok_cons (h 9 (by decide)) (dvmap_ok _ _) (ok_cons (h 2 (by decide)) ?_ (ok_cons (h 0 (by decide)) (cmap_ok _ _) (ok_cons (h 1 (by decide)) (omap_ok _ _) rfl))))))
  · simp [Ob.ok, SV.oks, SV.ok, h 2, h 7, h 8, h 9]
  · simp [Ob.ok, SV.oks, SV.ok, h 0, h 1]
theorem ShOk.rnew {l : List OpD} {S : Sh} (h : ShOk l S) (hl : l.length ≤ 80) (hs : Short S) : SCd Try.prog revoke_New.f [.ptr 10 0] S.h10 11 4 (.ptr 14 0) (hX S h.X) := by
  unfold SCd
  refine (rnew_sb S _ h.base.ups hs (by have := h.ds_len hl; omega) (h.dots10 hl)).here (fun n => (lk S.h10 n).isSome) (fun n hn => Option.isSome_iff_ne_none.1 hn) (by simp [SV.oks, SV.ok, lk_cons]) (h10_okq S _ fun n hn => (isome10 S n).2 (by revert hn; simp; omega)) ?_
  rintro r F' ⟨rfl, rfl⟩ _ _
  refine ⟨by simp [SV.ok], hX_okq S _ _ fun n hn => ?_⟩
  rw [Bool.or_eq_true]
  by_cases h10 : n ∈ [10, 7, 8, 9, 2, 0, 1]
  · exact .inl ((isome10 S n).2 h10)
  · refine .inr ?_
    simp at hn h10 ⊢
    omega
theorem snoneN_ok : Go.Sl.Pure Try.prog shape_Shape_none.f [.d .nilp] (bl true) := by
  refine shape_Shape_none.enter (by first | rfl | simp [SV.ok, SV.oks]) (by first | rfl | simp [Hp.ok, Ob.ok, SV.ok, SV.oks, Vec.cells_ok]) (by simp) ?_
  dsimp only [shape_Shape_none.s, Co.M, Co.G, Co.J, Co.H, Co.N, Co.F, Co.C, Co.Z, Co.B, Co.b8, Co.b32, Co.b64, Co.i6, Co.z8, Co.z29]
  (repeat (first | refine SW.seq ?_ | refine SW.block ?_ | (refine SW.regL [0, 2] mixed ?_; (repeat (first | refine RW.ro bq_tt (h := ?_) | refine RW.skip (h := ?_) | refine RW.op bq_tt (h := ?_) | refine RW.opN bq_tt (h := ?_) | refine RW.skip0 (h := ?_))); refine RW.nil ⟨by kernel_rfl, Pruned.mk (h := ?_)⟩) | refine SW.skip ?_ | refine SW.exit ?_ | refine SW.ret ?_ | refine SW.condT rfl ?_ | refine SW.condF rfl ?_))
  exact End.mk [] (h4 := ⟨rfl, rfl⟩)
theorem streeN_ok : Go.Sl.Pure Try.prog shape_Shape_Tree.f [.d .nilp] (.d .nilp) := by
  refine shape_Shape_Tree.enter (by first | rfl | simp [SV.ok, SV.oks]) (by first | rfl | simp [Hp.ok, Ob.ok, SV.ok, SV.oks, Vec.cells_ok]) (by simp) ?_
  dsimp only [shape_Shape_Tree.s, Co.M, Co.G, Co.J, Co.H, Co.N, Co.F, Co.C, Co.Z, Co.B, Co.b8, Co.b32, Co.b64, Co.i6, Co.z8, Co.z29]
  (repeat (first | refine SW.seq ?_ | refine SW.block ?_ | (refine SW.regL [0, 2, 4] mixed ?_; (repeat (first | refine RW.ro bq_tt (h := ?_) | refine RW.skip (h := ?_) | refine RW.op bq_tt (h := ?_) | refine RW.opN bq_tt (h := ?_) | refine RW.skip0 (h := ?_) | (refine RW.callC (h := ?_); (first | refine CallP.mk bq_tt (hc := snoneN_ok.sc rfl _) (h := ?_))))); refine RW.nil ⟨by kernel_rfl, Pruned.mk (h := ?_)⟩) | refine SW.skip ?_ | refine SW.exit ?_ | refine SW.ret ?_ | refine SW.condT rfl ?_ | refine SW.condF rfl ?_))
  exact End.mk [] (h4 := ⟨rfl, rfl⟩)
theorem rnewN_ok : Go.Sl.Pure Try.prog revoke_New.f [.d .nilp] (.d .nilp) := by
  refine revoke_New.enter (by first | rfl | simp [SV.ok, SV.oks]) (by first | rfl | simp [Hp.ok, Ob.ok, SV.ok, SV.oks, Vec.cells_ok]) (by simp) ?_
  dsimp only [revoke_New.s, Co.M, Co.G, Co.J, Co.H, Co.N, Co.F, Co.C, Co.Z, Co.B, Co.b8, Co.b32, Co.b64, Co.i6, Co.z8, Co.z29]
  (repeat (first | refine SW.seq ?_ | refine SW.block ?_ | (refine SW.regL [0, 2, 3, 5, 6, 10, 18, 19, 20, 21, 27, 55, 63] mixed ?_; (repeat (first | refine RW.ro bq_tt (h := ?_) | refine RW.skip (h := ?_) | refine RW.op bq_tt (h := ?_) | refine RW.opN bq_tt (h := ?_) | refine RW.skip0 (h := ?_) | (refine RW.callC (h := ?_); (first | refine CallP.mk bq_tt (hc := streeN_ok.sc rfl _) (h := ?_))))); refine RW.nil ⟨by kernel_rfl, Pruned.mk (h := ?_)⟩) | refine SW.skip ?_ | refine SW.exit ?_ | refine SW.ret ?_ | refine SW.condT rfl ?_ | refine SW.condF rfl ?_))
  exact End.mk [] (h4 := ⟨rfl, rfl⟩)
theorem rnewN_at (k : Nat) : SCd Try.prog revoke_New.f [.d .nilp] [] k 0 (.d .nilp) [] := rnewN_ok.sc rfl k
section
variable {S : Sh} (h : ShOk prow S)
include h
theorem pr_small : h.X.small := h.small (by decide)
theorem cT4 (k : Nat) : SCd Try.prog revoke_Index_Threats.f [.ptr 14 0, .agg (Dt.mk 0 4).cells] h.X.h14 k (9 + nkT 4) (.tup [dots [⟨1, 1⟩], .d (.int .i64 0)]) h.X.h14 := by
  have := rthr_14 h.X (pr_small h) ⟨0, 4⟩ k
  unfold threatsV at this
  rw [h.xhas, pr_g4 h, pr_t4 h] at this
  exact this
theorem cT3 (k : Nat) : SCd Try.prog revoke_Index_Threats.f [.ptr 14 0, .agg (Dt.mk 0 3).cells] h.X.h14 k (9 + nkT 4) (.tup [dots [], .d (.int .i64 0)]) h.X.h14 := by
  have := rthr_14 h.X (pr_small h) ⟨0, 3⟩ k
  unfold threatsV at this
  rw [h.xhas, pr_g3 h, pr_t3 h] at this
  exact this
theorem cT2 (k : Nat) : SCd Try.prog revoke_Index_Threats.f [.ptr 14 0, .agg (Dt.mk 0 2).cells] h.X.h14 k (9 + nkT 4) (.tup [dots [], .d (.int .i64 0)]) h.X.h14 := by
  have := rthr_14 h.X (pr_small h) ⟨0, 2⟩ k
  unfold threatsV at this
  rw [h.xhas, pr_g2 h, pr_t2 h] at this
  exact this
theorem cL1 (k : Nat) : SCd Try.prog revoke_Index_Level.f [.ptr 14 0, .agg (Dt.mk 0 1).cells] h.X.h14 k 2 (.tup [.d (.int .i64 (-1)), .d (.int .i64 0)]) h.X.h14 := by
  have := rlevel_14 h.X (pr_small h) ⟨0, 1⟩ k
  unfold levelV at this
  rw [h.xhas, pr_g1 h, h.xchn (pr_g1 h), pr_op1 h, pr_c1 h] at this
  exact this
theorem cL2 (k : Nat) : SCd Try.prog revoke_Index_Level.f [.ptr 14 0, .agg (Dt.mk 0 2).cells] h.X.h14 k 2 (.tup [.d (.int .i64 0), .d (.int .i64 0)]) h.X.h14 := by
  have := rlevel_14 h.X (pr_small h) ⟨0, 2⟩ k
  unfold levelV at this
  rw [h.xhas, pr_g2 h, h.xchn (pr_g2 h), pr_op2 h, pr_c2 h] at this
  exact this
theorem cL4 (k : Nat) : SCd Try.prog revoke_Index_Level.f [.ptr 14 0, .agg (Dt.mk 0 4).cells] h.X.h14 k 2 (.tup [.d (.int .i64 1), .d (.int .i64 0)]) h.X.h14 := by
  have := rlevel_14 h.X (pr_small h) ⟨0, 4⟩ k
  unfold levelV at this
  rw [h.xhas, pr_g4 h, h.xchn (pr_g4 h), pr_op4 h, pr_c4 h] at this
  exact this
theorem cL9 (k : Nat) : SCd Try.prog revoke_Index_Level.f [.ptr 14 0, .agg (Dt.mk 0 9).cells] h.X.h14 k 2 (.tup [.d (.int .i64 0), .d (.int .i64 7)]) h.X.h14 := by
  have := rlevel_14 h.X (pr_small h) ⟨0, 9⟩ k
  unfold levelV at this
  rw [h.xhas, pr_g9 h] at this
  exact this
theorem cR2 (k : Nat) : SCd Try.prog revoke_Index_Revokes.f [.ptr 14 0, .agg (Dt.mk 0 2).cells] h.X.h14 k 1 (dots [⟨1, 1⟩]) h.X.h14 := by
  have := rrvs_14 h.X (pr_small h) ⟨0, 2⟩ k
  rw [pr_r2 h] at this
  exact this
theorem cH5 (k : Nat) : SCd Try.prog revoke_Index_Threatened.f [.ptr 14 0, .agg (Dt.mk 1 1).cells] h.X.h14 k (6 + nkH 4) (dots [⟨0, 4⟩]) h.X.h14 := by
  have := rtht_14 h.X (pr_small h) ⟨1, 1⟩ k
  rw [pr_h5 h] at this
  exact this
end
end Go.Proofs.Ytlgfknfdfnaedaa
namespace Go.Proofs.Ytlgfknfdfnaedaa
open Go.Sl Go.Proofs
attribute [local irreducible] SW RW SCd SC CallP Pruned nkT nkH
theorem sm11 (k : Nat) : SCd Try.prog ref03_Same.f [dots [⟨1, 1⟩], .d (.sl 1 (Dt.mk 1 1).ds)] [] k 0 (.d (.bool true)) [] := same_at [⟨1, 1⟩] [⟨1, 1⟩] (by decide) (by decide) k
theorem sm04 (k : Nat) : SCd Try.prog ref03_Same.f [dots [⟨0, 4⟩], .d (.sl 1 (Dt.mk 0 4).ds)] [] k 0 (.d (.bool true)) [] := same_at [⟨0, 4⟩] [⟨0, 4⟩] (by decide) (by decide) k
theorem e9 : spl (Dt.mk 0 0).cells 1 [.d (.int .u32 9)] = (Dt.mk 0 9).cells := rfl
theorem e1 : spl (Dt.mk 0 0).cells 1 [.d (.int .u32 1)] = (Dt.mk 0 1).cells := rfl
theorem e2 : spl (Dt.mk 0 0).cells 1 [.d (.int .u32 2)] = (Dt.mk 0 2).cells := rfl
theorem e11 : spl (spl (Dt.mk 0 0).cells 0 [.d (.int .u8 1)]) 1 [.d (.int .u32 1)] = (Dt.mk 1 1).cells := rfl
set_option maxHeartbeats 16000000 in
theorem head18_ok : Go.Sl.Pure Try.prog law18_head.f [] (bl true) := by
  refine law18_head.enter (by first | rfl | simp [SV.ok, SV.oks]) (by first | rfl | simp [Hp.ok, Ob.ok, SV.ok, SV.oks, Vec.cells_ok]) (by simp) ?_
  dsimp only [law18_head.s, Co.M, Co.G, Co.J, Co.H, Co.N, Co.F, Co.C, Co.Z, Co.B, Co.b8, Co.b32, Co.b64, Co.i6, Co.z8, Co.z29]
  refine SW.seq ?_
  (refine SW.regL [0, 1, 2, 3, 4, 5, 6, 7, 8, 10, 12, 15, 16, 21] mixed ?_; (repeat (first | refine RW.ro bq_tt (h := ?_) | refine RW.skip (h := ?_) | refine RW.op bq_tt (h := ?_) | refine RW.opN bq_tt (h := ?_) | refine RW.skip0 (h := ?_))); refine RW.nil ⟨by kernel_rfl, Pruned.mk (h := ?_)⟩)
  refine SW.seq (SW.ofN ?_)
  refine SWn.callD bq_tt (prow_at _) (h := ?_)
  refine SWn.callC (snew_0 prow (by decide) (fun o ho => ⟨(prow_lin o ho).1, (prow_lin o ho).2.1⟩)) (HSub.nil _) (h := ?_)
  rintro _ _ ⟨S, h, rfl, rfl⟩
  simp only [hmrg, hsets, hdels, hset, hrep, hdel, lk, List.lookup, Nat.reduceBEq, BEq.rfl, beq_self_eq_true, if_true, if_false, reduceIte, Nat.reduceEqDiff, Bool.false_eq_true, Option.isSome_some, Option.isSome_none, Nat.reduceAdd]
  refine SWn.callD bq_tt (h.rnew (by decide) (h.short prow_lin)) (h := ?_)
  (repeat (first | refine SWn.op bq_tt (h := ?_) | refine SWn.opN bq_tt (h := ?_) | refine SWn.skip (h := ?_)))
  refine SWn.nil ?_
  refine SW.seq (SW.seq ?_)
  (refine SW.regL [0, 1, 2, 3, 4, 5, 6, 7, 8, 10, 12, 15, 16, 21] mixed ?_; (repeat (first | refine RW.ro bq_tt (h := ?_) | refine RW.skip (h := ?_) | refine RW.op bq_tt (h := ?_) | refine RW.opN bq_tt (h := ?_) | refine RW.skip0 (h := ?_))); refine RW.nil ⟨by kernel_rfl, Pruned.mk (h := ?_)⟩)
  refine SW.condF rfl (SW.skip ?_)
  refine SW.seq ?_
  (refine SW.regL [0, 1, 2, 3, 4, 5, 6, 7, 8, 10, 12, 15, 16, 21] mixed ?_; (repeat (first | refine RW.ro (d4) (h := ?_) | refine RW.skip (h := ?_) | refine RW.op (d4) (h := ?_) | refine RW.opN (d4) (h := ?_) | refine RW.skip0 (h := ?_) | (refine RW.callC (h := ?_); (first | refine CallP.mk (d4) (hc := cT4 h _) (h := ?_) | refine CallP.mk (d4) (hc := cT3 h _) (h := ?_) | refine CallP.mk (d4) (hc := cT2 h _) (h := ?_) | refine CallP.mk (d4) (hc := cL1 h _) (h := ?_) | refine CallP.mk (d4) (hc := cL2 h _) (h := ?_) | refine CallP.mk (d4) (hc := cL4 h _) (h := ?_) | refine CallP.mk (d4) (hc := cL9 h _) (h := ?_) | refine CallP.mk (d4) (hc := cR2 h _) (h := ?_) | refine CallP.mk (d4) (hc := cH5 h _) (h := ?_) | refine CallP.mk (d4) (hc := sm11 _) (h := ?_) | refine CallP.mk (d4) (hc := sm04 _) (h := ?_) | refine CallP.mk (d4) (hc := rnewN_at _) (h := ?_))))); refine RW.nil ⟨by kernel_rfl, Pruned.mk (h := ?_)⟩)
  refine SW.seq ?_
  (refine SW.regL [0, 1, 2, 3, 4, 5, 6, 7, 8, 10, 12, 15, 16, 21] mixed ?_; (repeat (first | refine RW.ro (d3) (h := ?_) | refine RW.skip (h := ?_) | refine RW.op (d3) (h := ?_) | refine RW.opN (d3) (h := ?_) | refine RW.skip0 (h := ?_) | (refine RW.callC (h := ?_); (first | refine CallP.mk (d3) (hc := cT4 h _) (h := ?_) | refine CallP.mk (d3) (hc := cT3 h _) (h := ?_) | refine CallP.mk (d3) (hc := cT2 h _) (h := ?_) | refine CallP.mk (d3) (hc := cL1 h _) (h := ?_) | refine CallP.mk (d3) (hc := cL2 h _) (h := ?_) | refine CallP.mk (d3) (hc := cL4 h _) (h := ?_) | refine CallP.mk (d3) (hc := cL9 h _) (h := ?_) | refine CallP.mk (d3) (hc := cR2 h _) (h := ?_) | refine CallP.mk (d3) (hc := cH5 h _) (h := ?_) | refine CallP.mk (d3) (hc := sm11 _) (h := ?_) | refine CallP.mk (d3) (hc := sm04 _) (h := ?_) | refine CallP.mk (d3) (hc := rnewN_at _) (h := ?_))))); refine RW.nil ⟨by kernel_rfl, Pruned.mk (h := ?_)⟩)
  refine SW.seq ?_
  (refine SW.regL [0, 1, 2, 3, 4, 5, 6, 7, 8, 10, 12, 15, 16, 21] mixed ?_; (repeat (first | refine RW.ro (e2) (h := ?_) | refine RW.skip (h := ?_) | refine RW.op (e2) (h := ?_) | refine RW.opN (e2) (h := ?_) | refine RW.skip0 (h := ?_) | (refine RW.callC (h := ?_); (first | refine CallP.mk (e2) (hc := cT4 h _) (h := ?_) | refine CallP.mk (e2) (hc := cT3 h _) (h := ?_) | refine CallP.mk (e2) (hc := cT2 h _) (h := ?_) | refine CallP.mk (e2) (hc := cL1 h _) (h := ?_) | refine CallP.mk (e2) (hc := cL2 h _) (h := ?_) | refine CallP.mk (e2) (hc := cL4 h _) (h := ?_) | refine CallP.mk (e2) (hc := cL9 h _) (h := ?_) | refine CallP.mk (e2) (hc := cR2 h _) (h := ?_) | refine CallP.mk (e2) (hc := cH5 h _) (h := ?_) | refine CallP.mk (e2) (hc := sm11 _) (h := ?_) | refine CallP.mk (e2) (hc := sm04 _) (h := ?_) | refine CallP.mk (e2) (hc := rnewN_at _) (h := ?_))))); refine RW.nil ⟨by kernel_rfl, Pruned.mk (h := ?_)⟩)
  refine SW.seq ?_
  (refine SW.regL [0, 1, 2, 3, 4, 5, 6, 7, 8, 10, 12, 15, 16, 21] mixed ?_; (repeat (first | refine RW.ro (e1) (h := ?_) | refine RW.skip (h := ?_) | refine RW.op (e1) (h := ?_) | refine RW.opN (e1) (h := ?_) | refine RW.skip0 (h := ?_) | (refine RW.callC (h := ?_); (first | refine CallP.mk (e1) (hc := cT4 h _) (h := ?_) | refine CallP.mk (e1) (hc := cT3 h _) (h := ?_) | refine CallP.mk (e1) (hc := cT2 h _) (h := ?_) | refine CallP.mk (e1) (hc := cL1 h _) (h := ?_) | refine CallP.mk (e1) (hc := cL2 h _) (h := ?_) | refine CallP.mk (e1) (hc := cL4 h _) (h := ?_) | refine CallP.mk (e1) (hc := cL9 h _) (h := ?_) | refine CallP.mk (e1) (hc := cR2 h _) (h := ?_) | refine CallP.mk (e1) (hc := cH5 h _) (h := ?_) | refine CallP.mk (e1) (hc := sm11 _) (h := ?_) | refine CallP.mk (e1) (hc := sm04 _) (h := ?_) | refine CallP.mk (e1) (hc := rnewN_at _) (h := ?_))))); refine RW.nil ⟨by kernel_rfl, Pruned.mk (h := ?_)⟩)
  refine SW.seq ?_
  (refine SW.regL [0, 1, 2, 3, 4, 5, 6, 7, 8, 10, 12, 15, 16, 21] mixed ?_; (repeat (first | refine RW.ro (e2) (h := ?_) | refine RW.skip (h := ?_) | refine RW.op (e2) (h := ?_) | refine RW.opN (e2) (h := ?_) | refine RW.skip0 (h := ?_) | (refine RW.callC (h := ?_); (first | refine CallP.mk (e2) (hc := cT4 h _) (h := ?_) | refine CallP.mk (e2) (hc := cT3 h _) (h := ?_) | refine CallP.mk (e2) (hc := cT2 h _) (h := ?_) | refine CallP.mk (e2) (hc := cL1 h _) (h := ?_) | refine CallP.mk (e2) (hc := cL2 h _) (h := ?_) | refine CallP.mk (e2) (hc := cL4 h _) (h := ?_) | refine CallP.mk (e2) (hc := cL9 h _) (h := ?_) | refine CallP.mk (e2) (hc := cR2 h _) (h := ?_) | refine CallP.mk (e2) (hc := cH5 h _) (h := ?_) | refine CallP.mk (e2) (hc := sm11 _) (h := ?_) | refine CallP.mk (e2) (hc := sm04 _) (h := ?_) | refine CallP.mk (e2) (hc := rnewN_at _) (h := ?_))))); refine RW.nil ⟨by kernel_rfl, Pruned.mk (h := ?_)⟩)
  refine SW.seq ?_
  (refine SW.regL [0, 1, 2, 3, 4, 5, 6, 7, 8, 10, 12, 15, 16, 21] mixed ?_; (repeat (first | refine RW.ro (d4) (h := ?_) | refine RW.skip (h := ?_) | refine RW.op (d4) (h := ?_) | refine RW.opN (d4) (h := ?_) | refine RW.skip0 (h := ?_) | (refine RW.callC (h := ?_); (first | refine CallP.mk (d4) (hc := cT4 h _) (h := ?_) | refine CallP.mk (d4) (hc := cT3 h _) (h := ?_) | refine CallP.mk (d4) (hc := cT2 h _) (h := ?_) | refine CallP.mk (d4) (hc := cL1 h _) (h := ?_) | refine CallP.mk (d4) (hc := cL2 h _) (h := ?_) | refine CallP.mk (d4) (hc := cL4 h _) (h := ?_) | refine CallP.mk (d4) (hc := cL9 h _) (h := ?_) | refine CallP.mk (d4) (hc := cR2 h _) (h := ?_) | refine CallP.mk (d4) (hc := cH5 h _) (h := ?_) | refine CallP.mk (d4) (hc := sm11 _) (h := ?_) | refine CallP.mk (d4) (hc := sm04 _) (h := ?_) | refine CallP.mk (d4) (hc := rnewN_at _) (h := ?_))))); refine RW.nil ⟨by kernel_rfl, Pruned.mk (h := ?_)⟩)
  refine SW.seq ?_
  (refine SW.regL [0, 1, 2, 3, 4, 5, 6, 7, 8, 10, 12, 15, 16, 21] mixed ?_; (repeat (first | refine RW.ro (e9) (h := ?_) | refine RW.skip (h := ?_) | refine RW.op (e9) (h := ?_) | refine RW.opN (e9) (h := ?_) | refine RW.skip0 (h := ?_) | (refine RW.callC (h := ?_); (first | refine CallP.mk (e9) (hc := cT4 h _) (h := ?_) | refine CallP.mk (e9) (hc := cT3 h _) (h := ?_) | refine CallP.mk (e9) (hc := cT2 h _) (h := ?_) | refine CallP.mk (e9) (hc := cL1 h _) (h := ?_) | refine CallP.mk (e9) (hc := cL2 h _) (h := ?_) | refine CallP.mk (e9) (hc := cL4 h _) (h := ?_) | refine CallP.mk (e9) (hc := cL9 h _) (h := ?_) | refine CallP.mk (e9) (hc := cR2 h _) (h := ?_) | refine CallP.mk (e9) (hc := cH5 h _) (h := ?_) | refine CallP.mk (e9) (hc := sm11 _) (h := ?_) | refine CallP.mk (e9) (hc := sm04 _) (h := ?_) | refine CallP.mk (e9) (hc := rnewN_at _) (h := ?_))))); refine RW.nil ⟨by kernel_rfl, Pruned.mk (h := ?_)⟩)
  refine SW.seq ?_
  (refine SW.regL [0, 1, 2, 3, 4, 5, 6, 7, 8, 10, 12, 15, 16, 21] mixed ?_; (repeat (first | refine RW.ro (e11) (h := ?_) | refine RW.skip (h := ?_) | refine RW.op (e11) (h := ?_) | refine RW.opN (e11) (h := ?_) | refine RW.skip0 (h := ?_) | (refine RW.callC (h := ?_); (first | refine CallP.mk (e11) (hc := cT4 h _) (h := ?_) | refine CallP.mk (e11) (hc := cT3 h _) (h := ?_) | refine CallP.mk (e11) (hc := cT2 h _) (h := ?_) | refine CallP.mk (e11) (hc := cL1 h _) (h := ?_) | refine CallP.mk (e11) (hc := cL2 h _) (h := ?_) | refine CallP.mk (e11) (hc := cL4 h _) (h := ?_) | refine CallP.mk (e11) (hc := cL9 h _) (h := ?_) | refine CallP.mk (e11) (hc := cR2 h _) (h := ?_) | refine CallP.mk (e11) (hc := cH5 h _) (h := ?_) | refine CallP.mk (e11) (hc := sm11 _) (h := ?_) | refine CallP.mk (e11) (hc := sm04 _) (h := ?_) | refine CallP.mk (e11) (hc := rnewN_at _) (h := ?_))))); refine RW.nil ⟨by kernel_rfl, Pruned.mk (h := ?_)⟩)
  refine SW.seq ?_
  (have fx := (And.intro (d4) (And.intro (e2) (e11))); refine SW.regL [0, 1, 2, 3, 4, 5, 6, 7, 8, 10, 12, 15, 16, 21] mixed ?_; (repeat (first | refine RW.ro fx (h := ?_) | refine RW.skip (h := ?_) | refine RW.op fx (h := ?_) | refine RW.opN fx (h := ?_) | refine RW.skip0 (h := ?_) | (refine RW.callC (h := ?_); (first | refine CallP.mk fx (hc := cT4 h _) (h := ?_) | refine CallP.mk fx (hc := cT3 h _) (h := ?_) | refine CallP.mk fx (hc := cT2 h _) (h := ?_) | refine CallP.mk fx (hc := cL1 h _) (h := ?_) | refine CallP.mk fx (hc := cL2 h _) (h := ?_) | refine CallP.mk fx (hc := cL4 h _) (h := ?_) | refine CallP.mk fx (hc := cL9 h _) (h := ?_) | refine CallP.mk fx (hc := cR2 h _) (h := ?_) | refine CallP.mk fx (hc := cH5 h _) (h := ?_) | refine CallP.mk fx (hc := sm11 _) (h := ?_) | refine CallP.mk fx (hc := sm04 _) (h := ?_) | refine CallP.mk fx (hc := rnewN_at _) (h := ?_))))); refine RW.nil ⟨by kernel_rfl, Pruned.mk (h := ?_)⟩)
  refine SW.ret ?_
  exact End.mk [] (h4 := ⟨rfl, rfl⟩)
theorem head18_at (k : Nat) : SCd Try.prog law18_head.f [] [] k 0 (.d (.bool true)) [] := head18_ok.sc rfl k
end Go.Proofs.Ytlgfknfdfnaedaa
namespace Go.Proofs.Ytlgfknfdfnaedaa
open Go.Sl Go.Proofs
section
attribute [local irreducible] SW RW SCd SC CallP Pruned nkT nkH
theorem xnoneN_ok : Go.Sl.Pure Try.prog revoke_Index_none.f [.d .nilp] (bl true) := by
  refine revoke_Index_none.enter (by first | rfl | simp [SV.ok, SV.oks]) (by first | rfl | simp [Hp.ok, Ob.ok, SV.ok, SV.oks, Vec.cells_ok]) (by simp) ?_
  dsimp only [revoke_Index_none.s, Co.M, Co.G, Co.J, Co.H, Co.N, Co.F, Co.C, Co.Z, Co.B, Co.b8, Co.b32, Co.b64, Co.i6, Co.z8, Co.z29]
  (repeat (first | refine SW.seq ?_ | refine SW.block ?_ | (refine SW.regL [0, 2] mixed ?_; (repeat (first | refine RW.ro bq_tt (h := ?_) | refine RW.skip (h := ?_) | refine RW.op bq_tt (h := ?_) | refine RW.opN bq_tt (h := ?_) | refine RW.skip0 (h := ?_))); refine RW.nil ⟨by kernel_rfl, Pruned.mk (h := ?_)⟩) | refine SW.skip ?_ | refine SW.exit ?_ | refine SW.ret ?_ | refine SW.condT rfl ?_ | refine SW.condF rfl ?_))
  exact End.mk [] (h4 := ⟨rfl, rfl⟩)
theorem xnoneN_at (k : Nat) : SCd Try.prog revoke_Index_none.f [.d .nilp] [] k 0 (.d (.bool true)) [] := xnoneN_ok.sc rfl k
theorem xlevelN_ok (d : Dt) : Go.Sl.Pure Try.prog revoke_Index_Level.f [.d .nilp, .agg d.cells] (.tup [i64 0, i64 1]) := by
  refine revoke_Index_Level.enter (by first | rfl | simp [SV.ok, SV.oks]) (by first | rfl | simp [Hp.ok, Ob.ok, SV.ok, SV.oks, Vec.cells_ok]) (by simp) ?_
  dsimp only [revoke_Index_Level.s, Co.M, Co.G, Co.J, Co.H, Co.N, Co.F, Co.C, Co.Z, Co.B, Co.b8, Co.b32, Co.b64, Co.i6, Co.z8, Co.z29]
  (repeat (first | refine SW.seq ?_ | refine SW.block ?_ | (refine SW.regL [0, 1, 3, 4, 5, 7, 9, 20] mixed ?_; (repeat (first | refine RW.ro bq_tt (h := ?_) | refine RW.skip (h := ?_) | refine RW.op bq_tt (h := ?_) | refine RW.opN bq_tt (h := ?_) | refine RW.skip0 (h := ?_) | (refine RW.callC (h := ?_); (first | refine CallP.mk bq_tt (hc := xnoneN_at _) (h := ?_))))); refine RW.nil ⟨by kernel_rfl, Pruned.mk (h := ?_)⟩) | refine SW.skip ?_ | refine SW.exit ?_ | refine SW.ret ?_ | refine SW.condT rfl ?_ | refine SW.condF rfl ?_))
  exact End.mk [] (h4 := ⟨rfl, rfl⟩)
theorem xlevelN_at (d : Dt) (k : Nat) : SCd Try.prog revoke_Index_Level.f [.d .nilp, .agg d.cells] [] k 0 (.tup [.d (.int .i64 0), .d (.int .i64 1)]) [] := (xlevelN_ok d).sc rfl k
theorem xthrN_ok (d : Dt) : Go.Sl.Pure Try.prog revoke_Index_Threats.f [.d .nilp, .agg d.cells] (.tup [.d .nils, i64 1]) := by
  refine revoke_Index_Threats.enter (by first | rfl | simp [SV.ok, SV.oks]) (by first | rfl | simp [Hp.ok, Ob.ok, SV.ok, SV.oks, Vec.cells_ok]) (by simp) ?_
  dsimp only [revoke_Index_Threats.s, Co.M, Co.G, Co.J, Co.H, Co.N, Co.F, Co.C, Co.Z, Co.B, Co.b8, Co.b32, Co.b64, Co.i6, Co.z8, Co.z29]
  (repeat (first | refine SW.seq ?_ | refine SW.block ?_ | (refine SW.regL [0, 1, 3, 4, 5, 7, 15] mixed ?_; (repeat (first | refine RW.ro bq_tt (h := ?_) | refine RW.skip (h := ?_) | refine RW.op bq_tt (h := ?_) | refine RW.opN bq_tt (h := ?_) | refine RW.skip0 (h := ?_) | (refine RW.callC (h := ?_); (first | refine CallP.mk bq_tt (hc := xlevelN_at _ _) (h := ?_))))); refine RW.nil ⟨by kernel_rfl, Pruned.mk (h := ?_)⟩) | refine SW.skip ?_ | refine SW.exit ?_ | refine SW.ret ?_ | refine SW.condT rfl ?_ | refine SW.condF rfl ?_))
  exact End.mk [] (h4 := ⟨rfl, rfl⟩)
theorem xthrN_at (d : Dt) (k : Nat) : SCd Try.prog revoke_Index_Threats.f [.d .nilp, .agg d.cells] [] k 0 (.tup [.d .nils, .d (.int .i64 1)]) [] := (xthrN_ok d).sc rfl k
theorem xrvsN_ok (d : Dt) : Go.Sl.Pure Try.prog revoke_Index_Revokes.f [.d .nilp, .agg d.cells] (.d .nils) := by
  refine revoke_Index_Revokes.enter (by first | rfl | simp [SV.ok, SV.oks]) (by first | rfl | simp [Hp.ok, Ob.ok, SV.ok, SV.oks, Vec.cells_ok]) (by simp) ?_
  dsimp only [revoke_Index_Revokes.s, Co.M, Co.G, Co.J, Co.H, Co.N, Co.F, Co.C, Co.Z, Co.B, Co.b8, Co.b32, Co.b64, Co.i6, Co.z8, Co.z29]
  (repeat (first | refine SW.seq ?_ | refine SW.block ?_ | (refine SW.regL [0, 1, 3, 4, 6] mixed ?_; (repeat (first | refine RW.ro bq_tt (h := ?_) | refine RW.skip (h := ?_) | refine RW.op bq_tt (h := ?_) | refine RW.opN bq_tt (h := ?_) | refine RW.skip0 (h := ?_) | (refine RW.callC (h := ?_); (first | refine CallP.mk bq_tt (hc := xnoneN_at _) (h := ?_))))); refine RW.nil ⟨by kernel_rfl, Pruned.mk (h := ?_)⟩) | refine SW.skip ?_ | refine SW.exit ?_ | refine SW.ret ?_ | refine SW.condT rfl ?_ | refine SW.condF rfl ?_))
  exact End.mk [] (h4 := ⟨rfl, rfl⟩)
theorem xrvsN_at (d : Dt) (k : Nat) : SCd Try.prog revoke_Index_Revokes.f [.d .nilp, .agg d.cells] [] k 0 (.d .nils) [] := (xrvsN_ok d).sc rfl k
theorem xthtN_ok (d : Dt) : Go.Sl.Pure Try.prog revoke_Index_Threatened.f [.d .nilp, .agg d.cells] (.d .nils) := by
  refine revoke_Index_Threatened.enter (by first | rfl | simp [SV.ok, SV.oks]) (by first | rfl | simp [Hp.ok, Ob.ok, SV.ok, SV.oks, Vec.cells_ok]) (by simp) ?_
  dsimp only [revoke_Index_Threatened.s, Co.M, Co.G, Co.J, Co.H, Co.N, Co.F, Co.C, Co.Z, Co.B, Co.b8, Co.b32, Co.b64, Co.i6, Co.z8, Co.z29]
  (repeat (first | refine SW.seq ?_ | refine SW.block ?_ | (refine SW.regL [0, 1, 2, 3, 4, 5, 7] mixed ?_; (repeat (first | refine RW.ro bq_tt (h := ?_) | refine RW.skip (h := ?_) | refine RW.op bq_tt (h := ?_) | refine RW.opN bq_tt (h := ?_) | refine RW.skip0 (h := ?_) | (refine RW.callC (h := ?_); (first | refine CallP.mk bq_tt (hc := xnoneN_at _) (h := ?_))))); refine RW.nil ⟨by kernel_rfl, Pruned.mk (h := ?_)⟩) | refine SW.skip ?_ | refine SW.exit ?_ | refine SW.ret ?_ | refine SW.condT rfl ?_ | refine SW.condF rfl ?_))
  exact End.mk [] (h4 := ⟨rfl, rfl⟩)
theorem xthtN_at (d : Dt) (k : Nat) : SCd Try.prog revoke_Index_Threatened.f [.d .nilp, .agg d.cells] [] k 0 (.d .nils) [] := (xthtN_ok d).sc rfl k
theorem xlvsN_ok : Go.Sl.Pure Try.prog revoke_Index_Levels.f [.d .nilp] (.d .nils) := by
  refine revoke_Index_Levels.enter (by first | rfl | simp [SV.ok, SV.oks]) (by first | rfl | simp [Hp.ok, Ob.ok, SV.ok, SV.oks, Vec.cells_ok]) (by simp) ?_
  dsimp only [revoke_Index_Levels.s, Co.M, Co.G, Co.J, Co.H, Co.N, Co.F, Co.C, Co.Z, Co.B, Co.b8, Co.b32, Co.b64, Co.i6, Co.z8, Co.z29]
  (repeat (first | refine SW.seq ?_ | refine SW.block ?_ | (refine SW.regL [0, 2, 3, 4, 5, 6, 8, 13, 15, 28, 43, 44, 45] mixed ?_; (repeat (first | refine RW.ro bq_tt (h := ?_) | refine RW.skip (h := ?_) | refine RW.op bq_tt (h := ?_) | refine RW.opN bq_tt (h := ?_) | refine RW.skip0 (h := ?_) | (refine RW.callC (h := ?_); (first | refine CallP.mk bq_tt (hc := xnoneN_at _) (h := ?_))))); refine RW.nil ⟨by kernel_rfl, Pruned.mk (h := ?_)⟩) | refine SW.skip ?_ | refine SW.exit ?_ | refine SW.ret ?_ | refine SW.condT rfl ?_ | refine SW.condF rfl ?_))
  exact End.mk [] (h4 := ⟨rfl, rfl⟩)
theorem xlvsN_at (k : Nat) : SCd Try.prog revoke_Index_Levels.f [.d .nilp] [] k 0 (.d .nils) [] := xlvsN_ok.sc rfl k
abbrev Zi (b : Nat) : Hp := [(b, .box 65 [.d .nilp, .d .nilm, .d .nilm, .d .nilm])]
theorem Zi_ok {k : Nat} (h : 1 ≤ k) : (Zi 0).ok (fun n => decide (n < k)) = true := ok_cons (by simp; omega) rfl rfl
theorem Zi_at {f : FuncId} {args args' : List SV} {r : SV} (h : SB Try.prog f args (Zi 0) 1 0 fun v F => v = r ∧ F = Zi 0) (b : Nat) (ha : ∀ k, SV.rens (atN [b] k) args = args') (hr : ∀ k, r.ren (atN [b] k) = r) (k : Nat) : SCd Try.prog f args' (Zi b) k 0 r (Zi b) := by
  have := SB.atL [b] h (by simp) (fun i hi => by
    match i, hi with
    | 0, _ => simp [lk_cons]) k
  rw [ha, hr] at this
  exact this
theorem xnoneZ_sb : SB Try.prog revoke_Index_none.f [.ptr 0 0] (Zi 0) 1 0 fun r F => r = bl true ∧ F = Zi 0 := by
  refine revoke_Index_none.enter (by simp [SV.oks, SV.ok]) (Zi_ok (Nat.le_refl 1)) (by simp) ?_
  dsimp only [revoke_Index_none.s, Co.M, Co.G, Co.J, Co.H, Co.N, Co.F, Co.C, Co.Z, Co.B, Co.b8, Co.b32, Co.b64, Co.i6, Co.z8, Co.z29]
  (repeat (first | refine SW.seq ?_ | refine SW.block ?_ | (refine SW.regL [0, 2] mixed ?_; (repeat (first | refine RW.ro bq_tt (h := ?_) | refine RW.skip (h := ?_) | refine RW.op bq_tt (h := ?_) | refine RW.opN bq_tt (h := ?_) | refine RW.skip0 (h := ?_))); refine RW.nil ⟨by kernel_rfl, Pruned.mk (h := ?_)⟩) | refine SW.skip ?_ | refine SW.exit ?_ | refine SW.ret ?_ | refine SW.condT rfl ?_ | refine SW.condF rfl ?_))
  exact End.mk (Zi 0) (h4 := ⟨rfl, rfl⟩) (h6 := Zi_ok (by decide))
theorem xnoneZ_at (b k : Nat) : SCd Try.prog revoke_Index_none.f [.ptr b 0] (Zi b) k 0 (.d (.bool true)) (Zi b) := Zi_at xnoneZ_sb b (fun k => by simp [SV.rens, SV.ren, atN]) (fun k => rfl) k
theorem xlevelZ_sb (d : Dt) : SB Try.prog revoke_Index_Level.f [.ptr 0 0, .agg d.cells] (Zi 0) 1 0 fun r F => r = .tup [i64 0, i64 1] ∧ F = Zi 0 := by
  refine revoke_Index_Level.enter (by simp [SV.oks, SV.ok]) (Zi_ok (Nat.le_refl 1)) (by simp) ?_
  dsimp only [revoke_Index_Level.s, Co.M, Co.G, Co.J, Co.H, Co.N, Co.F, Co.C, Co.Z, Co.B, Co.b8, Co.b32, Co.b64, Co.i6, Co.z8, Co.z29]
  (repeat (first | refine SW.seq ?_ | refine SW.block ?_ | (refine SW.regL [0, 1, 3, 4, 5, 7, 9, 20] mixed ?_; (repeat (first | refine RW.ro bq_tt (h := ?_) | refine RW.skip (h := ?_) | refine RW.op bq_tt (h := ?_) | refine RW.opN bq_tt (h := ?_) | refine RW.skip0 (h := ?_) | (refine RW.callC (h := ?_); (first | refine CallP.mk bq_tt (hc := xnoneZ_at 0 _) (h := ?_))))); refine RW.nil ⟨by kernel_rfl, Pruned.mk (h := ?_)⟩) | refine SW.skip ?_ | refine SW.exit ?_ | refine SW.ret ?_ | refine SW.condT rfl ?_ | refine SW.condF rfl ?_))
  exact End.mk (Zi 0) (h4 := ⟨rfl, rfl⟩) (h6 := Zi_ok (by decide))
theorem xlevelZ_at (d : Dt) (b k : Nat) : SCd Try.prog revoke_Index_Level.f [.ptr b 0, .agg d.cells] (Zi b) k 0 (.tup [.d (.int .i64 0), .d (.int .i64 1)]) (Zi b) := Zi_at (xlevelZ_sb d) b (fun k => by simp [SV.rens, SV.ren, atN, Dt.cells_ren]) (fun k => rfl) k
theorem xthrZ_sb (d : Dt) : SB Try.prog revoke_Index_Threats.f [.ptr 0 0, .agg d.cells] (Zi 0) 1 0 fun r F => r = .tup [.d .nils, i64 1] ∧ F = Zi 0 := by
  refine revoke_Index_Threats.enter (by simp [SV.oks, SV.ok]) (Zi_ok (Nat.le_refl 1)) (by simp) ?_
  dsimp only [revoke_Index_Threats.s, Co.M, Co.G, Co.J, Co.H, Co.N, Co.F, Co.C, Co.Z, Co.B, Co.b8, Co.b32, Co.b64, Co.i6, Co.z8, Co.z29]
  (repeat (first | refine SW.seq ?_ | refine SW.block ?_ | (refine SW.regL [0, 1, 3, 4, 5, 7, 15] mixed ?_; (repeat (first | refine RW.ro bq_tt (h := ?_) | refine RW.skip (h := ?_) | refine RW.op bq_tt (h := ?_) | refine RW.opN bq_tt (h := ?_) | refine RW.skip0 (h := ?_) | (refine RW.callC (h := ?_); (first | refine CallP.mk bq_tt (hc := xlevelZ_at d 0 _) (h := ?_))))); refine RW.nil ⟨by kernel_rfl, Pruned.mk (h := ?_)⟩) | refine SW.skip ?_ | refine SW.exit ?_ | refine SW.ret ?_ | refine SW.condT rfl ?_ | refine SW.condF rfl ?_))
  exact End.mk (Zi 0) (h4 := ⟨rfl, rfl⟩) (h6 := Zi_ok (by decide))
theorem xthrZ_at (d : Dt) (b k : Nat) : SCd Try.prog revoke_Index_Threats.f [.ptr b 0, .agg d.cells] (Zi b) k 0 (.tup [.d .nils, .d (.int .i64 1)]) (Zi b) := Zi_at (xthrZ_sb d) b (fun k => by simp [SV.rens, SV.ren, atN, Dt.cells_ren]) (fun k => rfl) k
theorem xrvsZ_sb (d : Dt) : SB Try.prog revoke_Index_Revokes.f [.ptr 0 0, .agg d.cells] (Zi 0) 1 0 fun r F => r = .d .nils ∧ F = Zi 0 := by
  refine revoke_Index_Revokes.enter (by simp [SV.oks, SV.ok]) (Zi_ok (Nat.le_refl 1)) (by simp) ?_
  dsimp only [revoke_Index_Revokes.s, Co.M, Co.G, Co.J, Co.H, Co.N, Co.F, Co.C, Co.Z, Co.B, Co.b8, Co.b32, Co.b64, Co.i6, Co.z8, Co.z29]
  (repeat (first | refine SW.seq ?_ | refine SW.block ?_ | (refine SW.regL [0, 1, 3, 4, 6] mixed ?_; (repeat (first | refine RW.ro bq_tt (h := ?_) | refine RW.skip (h := ?_) | refine RW.op bq_tt (h := ?_) | refine RW.opN bq_tt (h := ?_) | refine RW.skip0 (h := ?_) | (refine RW.callC (h := ?_); (first | refine CallP.mk bq_tt (hc := xnoneZ_at 0 _) (h := ?_))))); refine RW.nil ⟨by kernel_rfl, Pruned.mk (h := ?_)⟩) | refine SW.skip ?_ | refine SW.exit ?_ | refine SW.ret ?_ | refine SW.condT rfl ?_ | refine SW.condF rfl ?_))
  exact End.mk (Zi 0) (h4 := ⟨rfl, rfl⟩) (h6 := Zi_ok (by decide))
theorem xrvsZ_at (d : Dt) (b k : Nat) : SCd Try.prog revoke_Index_Revokes.f [.ptr b 0, .agg d.cells] (Zi b) k 0 (.d .nils) (Zi b) := Zi_at (xrvsZ_sb d) b (fun k => by simp [SV.rens, SV.ren, atN, Dt.cells_ren]) (fun k => rfl) k
theorem xthtZ_sb (d : Dt) : SB Try.prog revoke_Index_Threatened.f [.ptr 0 0, .agg d.cells] (Zi 0) 1 0 fun r F => r = .d .nils ∧ F = Zi 0 := by
  refine revoke_Index_Threatened.enter (by simp [SV.oks, SV.ok]) (Zi_ok (Nat.le_refl 1)) (by simp) ?_
  dsimp only [revoke_Index_Threatened.s, Co.M, Co.G, Co.J, Co.H, Co.N, Co.F, Co.C, Co.Z, Co.B, Co.b8, Co.b32, Co.b64, Co.i6, Co.z8, Co.z29]
  (repeat (first | refine SW.seq ?_ | refine SW.block ?_ | (refine SW.regL [0, 1, 2, 3, 4, 5, 7] mixed ?_; (repeat (first | refine RW.ro bq_tt (h := ?_) | refine RW.skip (h := ?_) | refine RW.op bq_tt (h := ?_) | refine RW.opN bq_tt (h := ?_) | refine RW.skip0 (h := ?_) | (refine RW.callC (h := ?_); (first | refine CallP.mk bq_tt (hc := xnoneZ_at 0 _) (h := ?_))))); refine RW.nil ⟨by kernel_rfl, Pruned.mk (h := ?_)⟩) | refine SW.skip ?_ | refine SW.exit ?_ | refine SW.ret ?_ | refine SW.condT rfl ?_ | refine SW.condF rfl ?_))
  exact End.mk (Zi 0) (h4 := ⟨rfl, rfl⟩) (h6 := Zi_ok (by decide))
theorem xthtZ_at (d : Dt) (b k : Nat) : SCd Try.prog revoke_Index_Threatened.f [.ptr b 0, .agg d.cells] (Zi b) k 0 (.d .nils) (Zi b) := Zi_at (xthtZ_sb d) b (fun k => by simp [SV.rens, SV.ren, atN, Dt.cells_ren]) (fun k => rfl) k
theorem xlvsZ_sb : SB Try.prog revoke_Index_Levels.f [.ptr 0 0] (Zi 0) 1 0 fun r F => r = .d .nils ∧ F = Zi 0 := by
  refine revoke_Index_Levels.enter (by simp [SV.oks, SV.ok]) (Zi_ok (Nat.le_refl 1)) (by simp) ?_
  dsimp only [revoke_Index_Levels.s, Co.M, Co.G, Co.J, Co.H, Co.N, Co.F, Co.C, Co.Z, Co.B, Co.b8, Co.b32, Co.b64, Co.i6, Co.z8, Co.z29]
  (repeat (first | refine SW.seq ?_ | refine SW.block ?_ | (refine SW.regL [0, 2, 3, 4, 5, 6, 8, 13, 15, 28, 43, 44, 45] mixed ?_; (repeat (first | refine RW.ro bq_tt (h := ?_) | refine RW.skip (h := ?_) | refine RW.op bq_tt (h := ?_) | refine RW.opN bq_tt (h := ?_) | refine RW.skip0 (h := ?_) | (refine RW.callC (h := ?_); (first | refine CallP.mk bq_tt (hc := xnoneZ_at 0 _) (h := ?_))))); refine RW.nil ⟨by kernel_rfl, Pruned.mk (h := ?_)⟩) | refine SW.skip ?_ | refine SW.exit ?_ | refine SW.ret ?_ | refine SW.condT rfl ?_ | refine SW.condF rfl ?_))
  exact End.mk (Zi 0) (h4 := ⟨rfl, rfl⟩) (h6 := Zi_ok (by decide))
theorem xlvsZ_at (b k : Nat) : SCd Try.prog revoke_Index_Levels.f [.ptr b 0] (Zi b) k 0 (.d .nils) (Zi b) := Zi_at xlvsZ_sb b (fun k => by simp [SV.rens, SV.ren, atN]) (fun k => rfl) k
end
theorem litP {P : Program} {env : List (Nat × SV)} {hp : Hp} {k d p q b : Nat} {r : List SI} {K : St → List (Bool × List Nat) → Prop}
    (ha : env.lookup p = some (.d .nilp)) (hb : env.lookup q = some (.ptr b 0)) (hk : Go.Sl.hset hp k (.arr 62 1 2 [.d .nilp, .ptr b 0]) = (k, .arr 62 1 2 [.d .nilp, .ptr b 0]) :: hp)
    (h : RW P r ⟨(d, .gs k 2) :: env, (k, .arr 62 1 2 [.d .nilp, .ptr b 0]) :: hp, k + 1⟩ fun st' ts => K st' ((false, [k]) :: ts)) : RW P (⟨some d, .bsl 62 1 2 [.d .nilp, .d .nilp] [(0, 1, .t p), (1, 1, .t q)], none⟩ :: r) ⟨env, hp, k⟩ K := by
  refine RW.cons (e := ⟨.gs k 2, [], [(k, .arr 62 1 2 [.d .nilp, .ptr b 0])], 1, ((1 = 1 ∧ 0 + 1 ≤ 2 ∧ 1 = 1 ∧ 1 + 1 ≤ 2 ∧ True))⟩) (fun crs => ⟨.own :: crs, runOp_some (.inl rfl) ?_⟩) (by show 1 = 1 ∧ 0 + 1 ≤ 2 ∧ 1 = 1 ∧ 1 + 1 ≤ 2 ∧ True; decide) ?_
  · have h1 : evp (fun t => env.lookup t) [(0, 1, X.t p), (1, 1, X.t q)] = some [(0, 1, .d .nilp), (1, 1, .ptr b 0)] := by
      simp only [evp, ev, ha, hb]
    have h2 : bldS [SV.d .nilp, .d .nilp] [(0, 1, .d .nilp), (1, 1, .ptr b 0)] = some ([.d .nilp, .ptr b 0], ((1 = 1 ∧ 0 + 1 ≤ 2 ∧ 1 = 1 ∧ 1 + 1 ≤ 2 ∧ True))) := rfl
    have h4 : [SV.d .nilp, .ptr b 0].all SV.isOne = true := rfl
    simp only [goOp, sop, h1, h2, h4, if_true, Bool.true_or]
  · rw [upd_eq]
    show RW P r ⟨(d, .gs k 2) :: env, Go.Sl.hset hp k (.arr 62 1 2 [.d .nilp, .ptr b 0]), k + 1⟩ _
    rw [hk]; exact h
abbrev Z3 (d : Dt) : Hp := [(2, Ob.arr 62 1 2 [.d .nilp, .ptr 1 0]), (1, .box 65 [.d .nilp, .d .nilm, .d .nilm, .d .nilm]), (0, .box 31 d.cells)]
attribute [local irreducible] SW RW SCd SC CallP Pruned nkT nkH
set_option maxHeartbeats 4000000 in
theorem law_none18 (d : Dt) : SB Try.prog law18_RevokeNone.f [.agg d.cells] [] 0 0 (fun r F => r = bl true) := by
  refine law18_RevokeNone.enter (by first | rfl | simp [SV.ok, SV.oks]) (by first | rfl | simp [Hp.ok, Ob.ok, SV.ok, SV.oks, Vec.cells_ok]) (by simp) ?_
  dsimp only [law18_RevokeNone.s, Co.M, Co.G, Co.J, Co.H, Co.N, Co.F, Co.C, Co.Z, Co.B, Co.b8, Co.b32, Co.b64, Co.i6, Co.z8, Co.z29]
  refine SW.seq ?_
  (refine SW.regL [0, 1, 2, 3, 4, 5, 6, 8, 10, 16, 60] mixed ?_; (repeat (first | refine RW.ro bq_tt (h := ?_) | refine RW.skip (h := ?_) | refine RW.op bq_tt (h := ?_) | refine RW.opN bq_tt (h := ?_) | refine RW.skip0 (h := ?_))); refine RW.nil ⟨by kernel_rfl, Pruned.mk (h := ?_)⟩)
  refine SW.seq ?_
  (refine SW.regL [0, 1, 2, 3, 4, 5, 6, 8, 10, 16, 60] mixed ?_; (repeat (first | refine RW.ro bq_tt (h := ?_) | refine RW.skip (h := ?_) | refine RW.op bq_tt (h := ?_) | refine RW.opN bq_tt (h := ?_) | refine RW.skip0 (h := ?_))); refine RW.nil ⟨by kernel_rfl, Pruned.mk (h := ?_)⟩)
  refine SW.seq ?_
  (refine SW.regL [0, 1, 2, 3, 4, 5, 6, 8, 10, 16, 60] mixed ?_; (repeat (first | refine litP rfl rfl rfl (h := ?_) | refine RW.ro bq_tt (h := ?_) | refine RW.skip (h := ?_) | refine RW.op bq_tt (h := ?_) | refine RW.opN bq_tt (h := ?_) | refine RW.skip0 (h := ?_))); refine RW.nil ⟨by kernel_rfl, Pruned.mk (h := ?_)⟩)
  refine SW.seq (SW.seq ?_)
  (refine SW.regL [0, 1, 2, 3, 4, 5, 6, 8, 10, 16, 60] mixed ?_; (repeat (first | refine RW.ro bq_tt (h := ?_) | refine RW.skip (h := ?_) | refine RW.op bq_tt (h := ?_) | refine RW.opN bq_tt (h := ?_) | refine RW.skip0 (h := ?_))); refine RW.nil ⟨by kernel_rfl, Pruned.mk (h := ?_)⟩)
  refine SW.block ?_
  have hk : ∀ {k : Nat}, 3 ≤ k → (Z3 d).ok (fun n => decide (n < k)) = true := fun h => ok_cons (by simp; omega) (by simp [Ob.ok, SV.oks, SV.ok]; omega) (ok_cons (by simp; omega) rfl (ok_cons (by simp; omega) (by simp [Ob.ok, Dt.cells_ok]) rfl))
  refine SW.loop (α := {i : Nat // i ≤ 2}) (fun i => ⟨[(5, i64 i.1), (4, .gs 2 2), (1, .ptr 0 0)], Z3 d, 3⟩) (fun i => 2 - i.1) ⟨0, by decide⟩ id (Weak.same (Nat.zero_le _) (by simp [EnvW, List.lookup, SV.ren, SV.ok, SV.oks]) (hk (Nat.le_refl 3)) (fun y hy => ?_)) ?_
  · simp only [List.mem_cons, List.not_mem_nil, or_false] at hy
    rcases hy with rfl | rfl | rfl <;> rfl
  rintro ⟨i, hi⟩
  dsimp only
  have cases : i = 0 ∨ i = 1 ∨ i = 2 := by omega
  rcases cases with rfl | rfl | rfl
  · refine SW.seq (SW.seq ?_)
    (refine SW.regL [0, 1, 2, 3, 4, 5, 6, 8, 10, 16, 60] mixed ?_; (repeat (first | refine RW.ro bq_tt (h := ?_) | refine RW.skip (h := ?_) | refine RW.op bq_tt (h := ?_) | refine RW.opN bq_tt (h := ?_) | refine RW.skip0 (h := ?_))); refine RW.nil ⟨by kernel_rfl, Pruned.mk (h := ?_)⟩)
    refine SW.condT rfl (SW.skip ?_)
    refine SW.seq (SW.block (SW.seq ?_))
    (refine SW.regL [0, 1, 2, 3, 4, 5, 6, 8, 10, 16, 60] mixed ?_; (repeat (first | refine RW.ro bq_tt (h := ?_) | refine RW.skip (h := ?_) | refine RW.op bq_tt (h := ?_) | refine RW.opN bq_tt (h := ?_) | refine RW.skip0 (h := ?_))); refine RW.nil ⟨by kernel_rfl, Pruned.mk (h := ?_)⟩)
    refine SW.seq ?_
    (refine SW.regL [0, 1, 2, 3, 4, 5, 6, 8, 10, 16, 60] mixed ?_; (repeat (first | refine RW.ro bq_tt (h := ?_) | refine RW.skip (h := ?_) | refine RW.op bq_tt (h := ?_) | refine RW.opN bq_tt (h := ?_) | refine RW.skip0 (h := ?_) | (refine RW.callC (h := ?_); (first | refine CallP.mk bq_tt (hc := xlevelN_at d _) (h := ?_) | refine CallP.mk bq_tt (hc := xthrN_at d _) (h := ?_) | refine CallP.mk bq_tt (hc := xrvsN_at d _) (h := ?_) | refine CallP.mk bq_tt (hc := xthtN_at d _) (h := ?_) | refine CallP.mk bq_tt (hc := xlvsN_at _) (h := ?_))))); refine RW.nil ⟨by kernel_rfl, Pruned.mk (h := ?_)⟩)
    refine SW.seq ?_
    (refine SW.regL [0, 1, 2, 3, 4, 5, 6, 8, 10, 16, 60] mixed ?_; (repeat (first | refine RW.ro bq_tt (h := ?_) | refine RW.skip (h := ?_) | refine RW.op bq_tt (h := ?_) | refine RW.opN bq_tt (h := ?_) | refine RW.skip0 (h := ?_) | (refine RW.callC (h := ?_); (first | refine CallP.mk bq_tt (hc := xlevelN_at d _) (h := ?_) | refine CallP.mk bq_tt (hc := xthrN_at d _) (h := ?_) | refine CallP.mk bq_tt (hc := xrvsN_at d _) (h := ?_) | refine CallP.mk bq_tt (hc := xthtN_at d _) (h := ?_) | refine CallP.mk bq_tt (hc := xlvsN_at _) (h := ?_))))); refine RW.nil ⟨by kernel_rfl, Pruned.mk (h := ?_)⟩)
    refine SW.seq ?_
    (refine SW.regL [0, 1, 2, 3, 4, 5, 6, 8, 10, 16, 60] mixed ?_; (repeat (first | refine RW.ro bq_tt (h := ?_) | refine RW.skip (h := ?_) | refine RW.op bq_tt (h := ?_) | refine RW.opN bq_tt (h := ?_) | refine RW.skip0 (h := ?_) | (refine RW.callC (h := ?_); (first | refine CallP.mk bq_tt (hc := xlevelN_at d _) (h := ?_) | refine CallP.mk bq_tt (hc := xthrN_at d _) (h := ?_) | refine CallP.mk bq_tt (hc := xrvsN_at d _) (h := ?_) | refine CallP.mk bq_tt (hc := xthtN_at d _) (h := ?_) | refine CallP.mk bq_tt (hc := xlvsN_at _) (h := ?_))))); refine RW.nil ⟨by kernel_rfl, Pruned.mk (h := ?_)⟩)
    refine SW.condF rfl (SW.skip ?_)
    (refine SW.regL [0, 1, 2, 3, 4, 5, 6, 8, 10, 16, 60] mixed ?_; (repeat (first | refine RW.ro bq_tt (h := ?_) | refine RW.skip (h := ?_) | refine RW.op bq_tt (h := ?_) | refine RW.opN bq_tt (h := ?_) | refine RW.skip0 (h := ?_))); refine RW.nil ⟨by kernel_rfl, Pruned.mk (h := ?_)⟩)
    refine ⟨⟨1, by decide⟩, id, by decide, Weak.same (Nat.zero_le _) (by simp [EnvW, List.lookup, SV.ren, SV.ok, SV.oks]) (hk (Nat.le_refl 3)) (fun y hy => ?_)⟩
    simp only [List.mem_cons, List.not_mem_nil, or_false] at hy
    rcases hy with rfl | rfl | rfl <;> rfl
  · refine SW.seq (SW.seq ?_)
    (refine SW.regL [0, 1, 2, 3, 4, 5, 6, 8, 10, 16, 60] mixed ?_; (repeat (first | refine RW.ro bq_tt (h := ?_) | refine RW.skip (h := ?_) | refine RW.op bq_tt (h := ?_) | refine RW.opN bq_tt (h := ?_) | refine RW.skip0 (h := ?_))); refine RW.nil ⟨by kernel_rfl, Pruned.mk (h := ?_)⟩)
    refine SW.condT rfl (SW.skip ?_)
    refine SW.seq (SW.block (SW.seq ?_))
    (refine SW.regL [0, 1, 2, 3, 4, 5, 6, 8, 10, 16, 60] mixed ?_; (repeat (first | refine RW.ro bq_tt (h := ?_) | refine RW.skip (h := ?_) | refine RW.op bq_tt (h := ?_) | refine RW.opN bq_tt (h := ?_) | refine RW.skip0 (h := ?_))); refine RW.nil ⟨by kernel_rfl, Pruned.mk (h := ?_)⟩)
    refine SW.seq ?_
    (refine SW.regL [0, 1, 2, 3, 4, 5, 6, 8, 10, 16, 60] mixed ?_; (repeat (first | refine RW.ro bq_tt (h := ?_) | refine RW.skip (h := ?_) | refine RW.op bq_tt (h := ?_) | refine RW.opN bq_tt (h := ?_) | refine RW.skip0 (h := ?_) | (refine RW.callC (h := ?_); (first | refine CallP.mk bq_tt (hc := xlevelZ_at d 1 _) (h := ?_) | refine CallP.mk bq_tt (hc := xthrZ_at d 1 _) (h := ?_) | refine CallP.mk bq_tt (hc := xrvsZ_at d 1 _) (h := ?_) | refine CallP.mk bq_tt (hc := xthtZ_at d 1 _) (h := ?_) | refine CallP.mk bq_tt (hc := xlvsZ_at 1 _) (h := ?_))))); refine RW.nil ⟨by kernel_rfl, Pruned.mk (h := ?_)⟩)
    refine SW.seq ?_
    (refine SW.regL [0, 1, 2, 3, 4, 5, 6, 8, 10, 16, 60] mixed ?_; (repeat (first | refine RW.ro bq_tt (h := ?_) | refine RW.skip (h := ?_) | refine RW.op bq_tt (h := ?_) | refine RW.opN bq_tt (h := ?_) | refine RW.skip0 (h := ?_) | (refine RW.callC (h := ?_); (first | refine CallP.mk bq_tt (hc := xlevelZ_at d 1 _) (h := ?_) | refine CallP.mk bq_tt (hc := xthrZ_at d 1 _) (h := ?_) | refine CallP.mk bq_tt (hc := xrvsZ_at d 1 _) (h := ?_) | refine CallP.mk bq_tt (hc := xthtZ_at d 1 _) (h := ?_) | refine CallP.mk bq_tt (hc := xlvsZ_at 1 _) (h := ?_))))); refine RW.nil ⟨by kernel_rfl, Pruned.mk (h := ?_)⟩)
    refine SW.seq ?_
    (refine SW.regL [0, 1, 2, 3, 4, 5, 6, 8, 10, 16, 60] mixed ?_; (repeat (first | refine RW.ro bq_tt (h := ?_) | refine RW.skip (h := ?_) | refine RW.op bq_tt (h := ?_) | refine RW.opN bq_tt (h := ?_) | refine RW.skip0 (h := ?_) | (refine RW.callC (h := ?_); (first | refine CallP.mk bq_tt (hc := xlevelZ_at d 1 _) (h := ?_) | refine CallP.mk bq_tt (hc := xthrZ_at d 1 _) (h := ?_) | refine CallP.mk bq_tt (hc := xrvsZ_at d 1 _) (h := ?_) | refine CallP.mk bq_tt (hc := xthtZ_at d 1 _) (h := ?_) | refine CallP.mk bq_tt (hc := xlvsZ_at 1 _) (h := ?_))))); refine RW.nil ⟨by kernel_rfl, Pruned.mk (h := ?_)⟩)
    refine SW.condF rfl (SW.skip ?_)
    (refine SW.regL [0, 1, 2, 3, 4, 5, 6, 8, 10, 16, 60] mixed ?_; (repeat (first | refine RW.ro bq_tt (h := ?_) | refine RW.skip (h := ?_) | refine RW.op bq_tt (h := ?_) | refine RW.opN bq_tt (h := ?_) | refine RW.skip0 (h := ?_))); refine RW.nil ⟨by kernel_rfl, Pruned.mk (h := ?_)⟩)
    refine ⟨⟨2, by decide⟩, id, by decide, Weak.same (Nat.zero_le _) (by simp [EnvW, List.lookup, SV.ren, SV.ok, SV.oks]) (hk (Nat.le_refl 3)) (fun y hy => ?_)⟩
    simp only [List.mem_cons, List.not_mem_nil, or_false] at hy
    rcases hy with rfl | rfl | rfl <;> rfl
  · refine SW.seq (SW.seq ?_)
    (refine SW.regL [0, 1, 2, 3, 4, 5, 6, 8, 10, 16, 60] mixed ?_; (repeat (first | refine RW.ro bq_tt (h := ?_) | refine RW.skip (h := ?_) | refine RW.op bq_tt (h := ?_) | refine RW.opN bq_tt (h := ?_) | refine RW.skip0 (h := ?_))); refine RW.nil ⟨by kernel_rfl, Pruned.mk (h := ?_)⟩)
    refine SW.condF rfl (SW.exit ?_)
    refine (?_ : Sl.SW _ _ _ _ _ _)
    refine SW.seq ?_
    (refine SW.regL [0, 1, 2, 3, 4, 5, 6, 8, 10, 16, 60] mixed ?_; (repeat (first | refine RW.ro bq_tt (h := ?_) | refine RW.skip (h := ?_) | refine RW.op bq_tt (h := ?_) | refine RW.opN bq_tt (h := ?_) | refine RW.skip0 (h := ?_) | (refine RW.callC (h := ?_); (first | refine CallP.mk bq_tt (hc := head18_at _) (h := ?_))))); refine RW.nil ⟨by kernel_rfl, Pruned.mk (h := ?_)⟩)
    refine SW.ret ?_
    exact End.mk [] (h4 := rfl)
end Go.Proofs.Ytlgfknfdfnaedaa
