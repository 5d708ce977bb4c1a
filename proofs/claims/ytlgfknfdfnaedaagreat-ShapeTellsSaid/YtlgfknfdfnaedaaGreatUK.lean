/-
  Shapes: the head's operations and its row.
-/
import Derived.Test.YtlgfknfdfnaedaaGreatU6
import Derived.Test.YtlgfknfdfnaedaaGreatUJ
import Derived.Test.YtlgfknfdfnaedaaGreatU5
set_option linter.unusedSectionVars false
set_option linter.unusedVariables false
set_option linter.unusedSimpArgs false
namespace Go.Proofs.YtlgfknfdfnaedaaGreat
open Go.Sl Go.Proofs
attribute [local irreducible] SW RW SCd SC CallP Pruned
def actN (n kind who cred : Nat) : OpD := ⟨⟨0, n⟩, vec1 (n - 1), n, who, ⟨0, 1⟩, kind, ⟨0, cred⟩, 0, 0, 0, 0, ⟨0, 0⟩, ⟨0, 0⟩, 0, 0, 0, .nils⟩
def actO (n kind who cred : Nat) : OpD := (actN n kind who cred).nz
theorem SC.resd7 {P : Program} {f : FuncId} {args : List SV} {F F' : Hp} {k nk : Nat} {r r' : SV} (h : SCd P f args F k nk r F') (hr : ∀ (p : Nat → Prop) μ M u, Rp p μ M r u → Rp p μ M r' u) : SCd P f args F k nk r' F' := by
  unfold SCd SC at h ⊢
  refine ⟨h.1, fun p μ M w vals h1 h2 h3 => (h.2 p μ M w vals h1 h2 h3).mono ?_⟩
  rintro e w' ⟨r0, F0, μ', M', u, a, ⟨rfl, rfl⟩, b, c⟩
  exact ⟨r', F0, μ', M', u, a, ⟨rfl, rfl⟩, hr _ _ _ _ b, c⟩
theorem op_nzR (o : OpD) (p : Nat → Prop) (μ : Nat → Nm) (M : Mem) (u : Value) (h : Rp p μ M (.agg o.cells) u) : Rp p μ M (.agg o.nz.cells) u := by
  obtain ⟨ws, e, h3⟩ := Rp.agg_iff.1 h
  exact Rp.agg_iff.2 ⟨ws, e, rps_nzs o.ds _ h3⟩
theorem bldV (n : Nat) : spl Vec.zero.cells 0 [.d (.int .u32 (n : Int))] = (vec1 n).cells := rfl
theorem bldD (n : Nat) : spl (Dt.mk 0 0).cells 1 [.d (.int .u32 (n : Int))] = (Dt.mk 0 n).cells := rfl
theorem bldO (n kind who cred : Nat) : spl (spl (spl (spl (spl (spl (spl OpD.zero.cells 0 (Dt.mk 0 n).cells) 2 (vec1 (n - 1)).cells) 10 [.d (.int .u64 (n : Int))]) 11 [.d (.int .u32 (who : Int))]) 12 (Dt.mk 0 1).cells) 14 [.d (.int .u8 (kind : Int))]) 15 (Dt.mk 0 cred).cells = (actN n kind who cred).cells := rfl
theorem bldL0 (n kind who : Nat) : (spl OpD.zero.cells 0 (Dt.mk 0 n).cells).length = 29 := rfl
theorem bldL1 (n kind who : Nat) : (spl (spl OpD.zero.cells 0 (Dt.mk 0 n).cells) 2 (vec1 (n - 1)).cells).length = 29 := rfl
theorem bldL2 (n kind who : Nat) : (spl (spl (spl OpD.zero.cells 0 (Dt.mk 0 n).cells) 2 (vec1 (n - 1)).cells) 10 [.d (.int .u64 (n : Int))]).length = 29 := rfl
theorem bldL3 (n kind who : Nat) : (spl (spl (spl (spl OpD.zero.cells 0 (Dt.mk 0 n).cells) 2 (vec1 (n - 1)).cells) 10 [.d (.int .u64 (n : Int))]) 11 [.d (.int .u32 (who : Int))]).length = 29 := rfl
theorem bldL4 (n kind who : Nat) : (spl (spl (spl (spl (spl OpD.zero.cells 0 (Dt.mk 0 n).cells) 2 (vec1 (n - 1)).cells) 10 [.d (.int .u64 (n : Int))]) 11 [.d (.int .u32 (who : Int))]) 12 (Dt.mk 0 1).cells).length = 29 := rfl
theorem bldL5 (n kind who : Nat) : (spl (spl (spl (spl (spl (spl OpD.zero.cells 0 (Dt.mk 0 n).cells) 2 (vec1 (n - 1)).cells) 10 [.d (.int .u64 (n : Int))]) 11 [.d (.int .u32 (who : Int))]) 12 (Dt.mk 0 1).cells) 14 [.d (.int .u8 (kind : Int))]).length = 29 := rfl
theorem act_ok (n kind who cred : Nat) (h1 : 1 ≤ n) (h2 : n < 4294967296) : Go.Sl.Pure Tryz.prog law17_act.f [.d (.int .u32 n), .d (.int .u8 kind), .d (.int .u32 who), .d (.int .u32 cred)] (.agg (actN n kind who cred).cells) := by
  have e1 : IntKind.u32.wrap ((n : Int) - 1) = ((n - 1 : Nat) : Int) := by rw [show ((n : Int) - 1) = ((n - 1 : Nat) : Int) by omega]; exact wrap_u32 _ (by omega)
  have e2 : IntKind.u64.wrap (n : Int) = (n : Int) := wrap_u64 _ (by omega)
  refine law17_act.enter (by first | rfl | simp [SV.ok, SV.oks]) (by first | rfl | simp [Hp.ok, Ob.ok, SV.ok, SV.oks, Vec.cells_ok]) (by simp) ?_
  dsimp only [law17_act.s, Co.M, Co.G, Co.J, Co.H, Co.N, Co.F, Co.C, Co.Z, Co.B, Co.b8, Co.b32, Co.b64, Co.i6, Co.z8, Co.z29]
  (repeat (first | refine SW.seq ?_ | refine SW.block ?_ | refine SW.g0 [0, 1, 2, 3, 8] mixed (And.intro (bldL0 n kind who) (And.intro (bldL1 n kind who) (And.intro (bldL2 n kind who) (And.intro (bldL3 n kind who) (And.intro (bldL4 n kind who) (And.intro (bldL5 n kind who) (And.intro (bldV) (And.intro (bldD) (And.intro (bldO) (And.intro (e1) (e2))))))))))) ?_ | refine SW.skip ?_ | refine SW.exit ?_ | refine SW.ret ?_ | refine SW.condT rfl ?_ | refine SW.condF rfl ?_))
  exact End.mk [] (h4 := ⟨rfl, rfl⟩)
theorem act_at (n kind who cred : Nat) (h1 : 1 ≤ n) (h2 : n < 4294967296) (k : Nat) : SCd Tryz.prog law17_act.f [.d (.int .u32 n), .d (.int .u8 kind), .d (.int .u32 who), .d (.int .u32 cred)] [] k 0 (.agg (actO n kind who cred).cells) [] :=
  SC.resd7 ((act_ok n kind who cred h1 h2).sc rfl k) (op_nzR _)
def atO (o : OpD) (a v : Nat) : OpD := if 0 < v then { o with at_ := ⟨0, a⟩, ver := ⟨0, v⟩ } else { o with at_ := ⟨0, a⟩ }
theorem splAt (o : OpD) (a : Nat) : spl o.cells 21 (Dt.mk 0 a).cells = ({ o with at_ := ⟨0, a⟩ } : OpD).cells := rfl
theorem splVer (o : OpD) (a : Nat) : spl o.cells 23 (Dt.mk 0 a).cells = ({ o with ver := ⟨0, a⟩ } : OpD).cells := rfl
theorem atO_ok (o : OpD) (a v : Nat) : Go.Sl.Pure Tryz.prog law17_at.f [.agg o.cells, .d (.int .u32 a), .d (.int .u32 v)] (.agg (atO o a v).cells) := by
  refine law17_at.enter (by first | rfl | simp [SV.ok, SV.oks]) (by first | rfl | simp [Hp.ok, Ob.ok, SV.ok, SV.oks, Vec.cells_ok]) (by simp) ?_
  dsimp only [law17_at.s, Co.M, Co.G, Co.J, Co.H, Co.N, Co.F, Co.C, Co.Z, Co.B, Co.b8, Co.b32, Co.b64, Co.i6, Co.z8, Co.z29]
  unfold atO
  by_cases hv : 0 < v
  · have e : decide ((v : Int) > 0) = true := by simp; omega
    rw [if_pos hv]
    (repeat (first | refine SW.seq ?_ | refine SW.block ?_ | refine SW.g0 [0, 1, 2, 3, 6, 11] mixed (And.intro (bldD) (And.intro (splAt) (And.intro (splVer) (e)))) ?_ | refine SW.skip ?_ | refine SW.exit ?_ | refine SW.ret ?_ | refine SW.condT rfl ?_ | refine SW.condF rfl ?_))
    exact End.mk [] (h4 := ⟨rfl, rfl⟩)
  · have e : decide ((v : Int) > 0) = false := by simp; omega
    rw [if_neg hv]
    (repeat (first | refine SW.seq ?_ | refine SW.block ?_ | refine SW.g0 [0, 1, 2, 3, 6, 11] mixed (And.intro (bldD) (And.intro (splAt) (And.intro (splVer) (e)))) ?_ | refine SW.skip ?_ | refine SW.exit ?_ | refine SW.ret ?_ | refine SW.condT rfl ?_ | refine SW.condF rfl ?_))
    exact End.mk [] (h4 := ⟨rfl, rfl⟩)
theorem atO_at (o : OpD) (a v : Nat) (k : Nat) : SCd Tryz.prog law17_at.f [.agg o.cells, .d (.int .u32 a), .d (.int .u32 v)] [] k 0 (.agg (atO o a v).cells) [] := (atO_ok o a v).sc rfl k
end Go.Proofs.YtlgfknfdfnaedaaGreat
namespace Go.Proofs.YtlgfknfdfnaedaaGreat
open Go.Sl Go.Proofs
abbrev nK (k : Nat) : Sn := ⟨10 + k, 7 + k, 8 + k, 9 + k, 2 + k, 0 + k, 1 + k⟩
theorem nK_ok (k : Nat) : (nK k).ok := by
  unfold Sn.ok Sn.nl
  simp only [List.nodup_cons, List.mem_cons, List.not_mem_nil, or_false, not_or, not_false_eq_true, List.nodup_nil, and_true]
  omega
theorem Sh.h10_ren (S : Sh) (k : Nat) : Hp.ren (· + k) S.h10 = S.hp (nK k) := by
  simp only [Hp.ren, List.map_cons, List.map_nil, Ob.ren, SV.rens, SV.ren, cmap_ren, omap_ren, dvmap_ren, dmap_ren, Sh.hp]
theorem snew_at (l : List OpD) (hl : l.length < 1000000000) (hd : ∀ o, o ∈ l → o.kind < 256 ∧ o.lin) (k : Nat) : SC Tryz.prog shape_New.f [ops l] [] k 11 fun r F => ∃ S, ShOk l S ∧ r = .ptr (10 + k) 0 ∧ F = S.hp (nK k) := by
  have := SB.at (snew_sb l hl hd) (· + k) k (fun n m h => absurd h (Nat.not_lt_zero n)) (fun n h => absurd h (Nat.not_lt_zero n)) (fun i _ => by show 0 + i + k = k + i; omega)
  refine SC.mono (show SC Tryz.prog shape_New.f [ops l] [] k 11 _ from this) ?_
  rintro r F ⟨r0, F0, ⟨S, hS, rfl, rfl⟩, rfl, rfl⟩
  exact ⟨S, hS, rfl, S.h10_ren k⟩
theorem snew_0 (l : List OpD) (hl : l.length < 1000000000) (hd : ∀ o, o ∈ l → o.kind < 256 ∧ o.lin) : SC Tryz.prog shape_New.f [ops l] [] 0 11 fun r F => ∃ S, ShOk l S ∧ r = .ptr 10 0 ∧ F = S.h10 := snew_at l hl hd 0
section
variable {l : List OpD} {S : Sh} (h : ShOk l S)
include h
theorem ShOk.why10 (o : OpD) (hk : o.kind < 256) (hl : o.lin) (k : Nat) : SCd Tryz.prog shape_Shape_Why.f [.ptr 10 0, .agg o.cells] S.h10 k 0 (i64 (whyL l o)) S.h10 := by
  have := S.whyC h.base.ups o hk hl n10 n10_ok k
  rw [h.whyF] at this
  exact this
theorem ShOk.short (hd : ∀ o, o ∈ l → o.kind < 256 ∧ o.lin ∧ o.cl.length ≤ 1048576) : Short S := fun d o ho => by
  rw [h.base.ops.get] at ho
  exact hd o (findO_some ho).1
theorem ShOk.good10 (hs : Short S) (d : Dt) (k : Nat) : SCd Tryz.prog shape_Shape_Good.f [.ptr 10 0, .agg d.cells] S.h10 k 0 (bl (S.good d)) S.h10 := sgood_at S h.base.ups hs d n10 n10_ok k
end
def o1 : OpD := actO 1 0 1 0
def o2 : OpD := { actO 2 1 1 1 with to := 2, roles := 2, cap := 9 }
def o3 : OpD := { actO 3 3 2 2 with qty := 1 }
def o4 : OpD := { actO 4 4 2 2 with at_ := ⟨0, 3⟩, qty := 2 }
def hrow : List OpD := [o1, o2, o3, o4]
theorem a1010 (k : Nat) : SCd Tryz.prog law17_act.f [.d (.int .u32 1), .d (.int .u8 0), .d (.int .u32 1), .d (.int .u32 0)] [] k 0 (.agg (actO 1 0 1 0).cells) [] := act_at 1 0 1 0 (by decide) (by decide) k
theorem a2111 (k : Nat) : SCd Tryz.prog law17_act.f [.d (.int .u32 2), .d (.int .u8 1), .d (.int .u32 1), .d (.int .u32 1)] [] k 0 (.agg (actO 2 1 1 1).cells) [] := act_at 2 1 1 1 (by decide) (by decide) k
theorem a3322 (k : Nat) : SCd Tryz.prog law17_act.f [.d (.int .u32 3), .d (.int .u8 3), .d (.int .u32 2), .d (.int .u32 2)] [] k 0 (.agg (actO 3 3 2 2).cells) [] := act_at 3 3 2 2 (by decide) (by decide) k
theorem a4422 (k : Nat) : SCd Tryz.prog law17_act.f [.d (.int .u32 4), .d (.int .u8 4), .d (.int .u32 2), .d (.int .u32 2)] [] k 0 (.agg (actO 4 4 2 2).cells) [] := act_at 4 4 2 2 (by decide) (by decide) k
theorem a5822 (k : Nat) : SCd Tryz.prog law17_act.f [.d (.int .u32 5), .d (.int .u8 8), .d (.int .u32 2), .d (.int .u32 2)] [] k 0 (.agg (actO 5 8 2 2).cells) [] := act_at 5 8 2 2 (by decide) (by decide) k
theorem a5422 (k : Nat) : SCd Tryz.prog law17_act.f [.d (.int .u32 5), .d (.int .u8 4), .d (.int .u32 2), .d (.int .u32 2)] [] k 0 (.agg (actO 5 4 2 2).cells) [] := act_at 5 4 2 2 (by decide) (by decide) k
theorem a5611 (k : Nat) : SCd Tryz.prog law17_act.f [.d (.int .u32 5), .d (.int .u8 6), .d (.int .u32 1), .d (.int .u32 1)] [] k 0 (.agg (actO 5 6 1 1).cells) [] := act_at 5 6 1 1 (by decide) (by decide) k
theorem a5622 (k : Nat) : SCd Tryz.prog law17_act.f [.d (.int .u32 5), .d (.int .u8 6), .d (.int .u32 2), .d (.int .u32 2)] [] k 0 (.agg (actO 5 6 2 2).cells) [] := act_at 5 6 2 2 (by decide) (by decide) k
theorem a5211 (k : Nat) : SCd Tryz.prog law17_act.f [.d (.int .u32 5), .d (.int .u8 2), .d (.int .u32 1), .d (.int .u32 1)] [] k 0 (.agg (actO 5 2 1 1).cells) [] := act_at 5 2 1 1 (by decide) (by decide) k
theorem a5412 (k : Nat) : SCd Tryz.prog law17_act.f [.d (.int .u32 5), .d (.int .u8 4), .d (.int .u32 1), .d (.int .u32 2)] [] k 0 (.agg (actO 5 4 1 2).cells) [] := act_at 5 4 1 2 (by decide) (by decide) k
theorem r17 : spl (actO 2 1 1 1).cells 17 [.d (.int .u32 2)] = ({ actO 2 1 1 1 with to := 2 } : OpD).cells := rfl
theorem r18 : spl ({ actO 2 1 1 1 with to := 2 } : OpD).cells 18 [.d (.int .u8 2)] = ({ actO 2 1 1 1 with to := 2, roles := 2 } : OpD).cells := rfl
theorem r20 : spl ({ actO 2 1 1 1 with to := 2, roles := 2 } : OpD).cells 20 [.d (.int .u64 9)] = o2.cells := rfl
theorem r26 : spl (actO 3 3 2 2).cells 26 [.d (.int .u32 1)] = o3.cells := rfl
theorem r21 : spl (actO 4 4 2 2).cells 21 (Dt.mk 0 3).cells = ({ actO 4 4 2 2 with at_ := ⟨0, 3⟩ } : OpD).cells := rfl
theorem r27 : spl ({ actO 4 4 2 2 with at_ := ⟨0, 3⟩ } : OpD).cells 26 [.d (.int .u32 2)] = o4.cells := rfl
theorem d3 : spl (Dt.mk 0 0).cells 1 [.d (.int .u32 3)] = (Dt.mk 0 3).cells := rfl
theorem d4 : spl (Dt.mk 0 0).cells 1 [.d (.int .u32 4)] = (Dt.mk 0 4).cells := rfl
theorem d5 : spl (Dt.mk 0 0).cells 1 [.d (.int .u32 5)] = (Dt.mk 0 5).cells := rfl
set_option maxRecDepth 100000 in
theorem lit4 {P : Program} {env : List (Nat × SV)} {hp : Hp} {k d p q s v : Nat} {r : List SI} {K : St → List (Bool × List Nat) → Prop} {a b c e : OpD} {z : List SV} (hz : z = zOp ++ (zOp ++ (zOp ++ zOp)))
    (ha : env.lookup p = some (.agg a.cells)) (hb : env.lookup q = some (.agg b.cells)) (hc : env.lookup s = some (.agg c.cells)) (he : env.lookup v = some (.agg e.cells))
    (h : RW P r ⟨(d, ops [a, b, c, e]) :: env, hp, k⟩ fun st' ts => K st' ((false, []) :: ts)) : RW P (⟨some d, .bsl 31 29 4 z [(0, 29, .t p), (29, 29, .t q), (58, 29, .t s), (87, 29, .t v)], none⟩ :: r) ⟨env, hp, k⟩ K := by
  subst hz
  refine RW.cons (e := ⟨ops [a, b, c, e], [], [], 0, ((29 = 29 ∧ 0 + 29 ≤ 116 ∧ 29 = 29 ∧ 29 + 29 ≤ 116 ∧ 29 = 29 ∧ 58 + 29 ≤ 116 ∧ 29 = 29 ∧ 87 + 29 ≤ 116 ∧ True))⟩) (fun crs => ⟨.frz :: crs, runOp_some (.inl rfl) ?_⟩) (by show 29 = 29 ∧ 0 + 29 ≤ 116 ∧ 29 = 29 ∧ 29 + 29 ≤ 116 ∧ 29 = 29 ∧ 58 + 29 ≤ 116 ∧ 29 = 29 ∧ 87 + 29 ≤ 116 ∧ True; decide) ?_
  · have h1 : evp (fun t => env.lookup t) [(0, 29, X.t p), (29, 29, X.t q), (58, 29, X.t s), (87, 29, X.t v)] = some [(0, 29, .agg a.cells), (29, 29, .agg b.cells), (58, 29, .agg c.cells), (87, 29, .agg e.cells)] := by
      simp only [evp, ev, ha, hb, hc, he]
    have h2 : bldS (zOp ++ (zOp ++ (zOp ++ zOp))) [(0, 29, .agg a.cells), (29, 29, .agg b.cells), (58, 29, .agg c.cells), (87, 29, .agg e.cells)] = some (a.cells ++ (b.cells ++ (c.cells ++ e.cells)), ((29 = 29 ∧ 0 + 29 ≤ 116 ∧ 29 = 29 ∧ 29 + 29 ≤ 116 ∧ 29 = 29 ∧ 58 + 29 ≤ 116 ∧ 29 = 29 ∧ 87 + 29 ≤ 116 ∧ True))) := rfl
    have h3 : datas (a.cells ++ (b.cells ++ (c.cells ++ e.cells))) = some ([a, b, c, e].flatMap OpD.ds) := rfl
    have h4 : (a.cells ++ (b.cells ++ (c.cells ++ e.cells))).all SV.isOne = true := rfl
    simp only [goOp, sop, h1, h2, h3, h4, if_true, Bool.false_or]
    rfl
  · exact h
attribute [local irreducible] SW RW SCd SC CallP Pruned
set_option maxHeartbeats 2000000 in
theorem hrow_ok : Go.Sl.Pure Tryz.prog law17_row.f [] (ops hrow) := by
  refine law17_row.enter (by first | rfl | simp [SV.ok, SV.oks]) (by first | rfl | simp [Hp.ok, Ob.ok, SV.ok, SV.oks, Vec.cells_ok]) (by simp) ?_
  dsimp only [law17_row.s, Co.M, Co.G, Co.J, Co.H, Co.N, Co.F, Co.C, Co.Z, Co.B, Co.b8, Co.b32, Co.b64, Co.i6, Co.z8, Co.z29]
  refine SW.seq ?_
  refine SW.g0 [0, 1, 2, 3, 4] mixed bq_tt ?_
  refine SW.seq ?_
  refine SW.g4 [0, 1, 2, 3, 4] mixed bq_tt a1010 a2111 a3322 a4422 ?_
  refine SW.seq ?_
  refine SW.g0 [0, 1, 2, 3, 4] mixed (r17) ?_
  refine SW.seq ?_
  refine SW.g0 [0, 1, 2, 3, 4] mixed (r18) ?_
  refine SW.seq ?_
  refine SW.g0 [0, 1, 2, 3, 4] mixed (r20) ?_
  refine SW.seq ?_
  refine SW.g0 [0, 1, 2, 3, 4] mixed (r26) ?_
  refine SW.seq ?_
  refine SW.g0 [0, 1, 2, 3, 4] mixed (And.intro (d3) (r21)) ?_
  refine SW.seq ?_
  refine SW.g0 [0, 1, 2, 3, 4] mixed (r27) ?_
  refine SW.seq ?_
  (refine SW.regL [0, 1, 2, 3, 4] mixed ?_; (repeat (first | refine RW.ro bq_tt (h := ?_) | refine RW.skip (h := ?_) | refine RW.op bq_tt (h := ?_) | refine RW.opN bq_tt (h := ?_) | refine RW.skip0 (h := ?_) | refine lit4 rfl rfl rfl rfl rfl (h := ?_))); refine RW.nil ⟨by kernel_rfl, Pruned.mk (h := ?_)⟩)
  refine SW.ret ?_
  exact End.mk [] (h4 := ⟨rfl, rfl⟩)
theorem hrow_at (k : Nat) : SCd Tryz.prog law17_row.f [] [] k 0 (ops hrow) [] := hrow_ok.sc rfl k
theorem hneeds_at (k : Nat) : SCd Tryz.prog shape_Needs.f [.d (.int .u8 6)] [] k 0 (.d (.int .u8 4)) [] := needs_at 6 (by decide) k
end Go.Proofs.YtlgfknfdfnaedaaGreat
namespace Go.Proofs.YtlgfknfdfnaedaaGreat
open Go.Sl Go.Proofs
def hc1 : Cr := ⟨⟨0, 1⟩, ⟨0, 1⟩, ⟨0, 0⟩, 1, 7, 8, 1099511627776, 0⟩
def hc2 : Cr := ⟨⟨0, 2⟩, ⟨0, 1⟩, ⟨0, 1⟩, 2, 2, 0, 9, 1⟩
theorem hr_at : (newTr hrow).at_ = [(0, ⟨0, 1⟩, hc1), (1, ⟨0, 2⟩, hc2)] := by kernel_rfl
theorem hr_u1 : Ups (newTr hrow).at_ (MM.get (newTr hrow).at_ ⟨0, 1⟩) [hc1] := by
  rw [hr_at]
  exact .root hc1 (by decide)
theorem hr_u2 : Ups (newTr hrow).at_ (MM.get (newTr hrow).at_ ⟨0, 2⟩) [hc2, hc1] := by
  rw [hr_at]
  exact .more hc2 _ (by decide) (.root hc1 (by decide))
theorem whyL_of {l : List OpD} {o : OpD} {L : List Cr} {n : Nat} (hL : Ups (newTr l).at_ (MM.get (newTr l).at_ o.at_) L) (h : whyP l (newTr l).at_ (newTr l).made o (aboveR (newTr l).at_ o.cred o.at_ L) = n) : whyL l o = n := by
  unfold whyL
  rw [upsL_eq hL]; exact h
def hcm : List Cm := [⟨⟨0, 3⟩, ⟨0, 4⟩⟩]
def oSub : OpD := { actO 5 8 2 2 with lines := .sl 1 (hcm.flatMap Cm.ds) }
def oFar : OpD := { atO (actO 5 4 2 2) 3 0 with cart := ⟨0, 3⟩ }
theorem lin0 {o : OpD} (h : o.lines = .sl 0 []) : o.lin := (OpD.lin.of (l := []) h (by simp)).1
theorem hsub_lin : oSub.lin := (OpD.lin.of (l := hcm) rfl (by simp [hcm])).1
theorem hrow_ok' : ∀ o, o ∈ hrow → o.kind < 256 ∧ o.lin ∧ o.cl.length ≤ 1048576 := fun o ho => by
  simp only [hrow, List.mem_cons, List.not_mem_nil, or_false] at ho
  rcases ho with rfl | rfl | rfl | rfl
  all_goals exact ⟨by decide, lin0 rfl, by decide⟩
theorem t5611_34 (k : Nat) : SCd Tryz.prog law17_at.f [.agg (actO 5 6 1 1).cells, .d (.int .u32 3), .d (.int .u32 4)] [] k 0 (.agg (atO (actO 5 6 1 1) 3 4).cells) [] := atO_at (actO 5 6 1 1) 3 4 k
theorem t5611_32 (k : Nat) : SCd Tryz.prog law17_at.f [.agg (actO 5 6 1 1).cells, .d (.int .u32 3), .d (.int .u32 2)] [] k 0 (.agg (atO (actO 5 6 1 1) 3 2).cells) [] := atO_at (actO 5 6 1 1) 3 2 k
theorem t5622_34 (k : Nat) : SCd Tryz.prog law17_at.f [.agg (actO 5 6 2 2).cells, .d (.int .u32 3), .d (.int .u32 4)] [] k 0 (.agg (atO (actO 5 6 2 2) 3 4).cells) [] := atO_at (actO 5 6 2 2) 3 4 k
theorem t5211_20 (k : Nat) : SCd Tryz.prog law17_at.f [.agg (actO 5 2 1 1).cells, .d (.int .u32 2), .d (.int .u32 0)] [] k 0 (.agg (atO (actO 5 2 1 1) 2 0).cells) [] := atO_at (actO 5 2 1 1) 2 0 k
theorem t5211_10 (k : Nat) : SCd Tryz.prog law17_at.f [.agg (actO 5 2 1 1).cells, .d (.int .u32 1), .d (.int .u32 0)] [] k 0 (.agg (atO (actO 5 2 1 1) 1 0).cells) [] := atO_at (actO 5 2 1 1) 1 0 k
theorem t5412_30 (k : Nat) : SCd Tryz.prog law17_at.f [.agg (actO 5 4 1 2).cells, .d (.int .u32 3), .d (.int .u32 0)] [] k 0 (.agg (atO (actO 5 4 1 2) 3 0).cells) [] := atO_at (actO 5 4 1 2) 3 0 k
theorem t5422_30 (k : Nat) : SCd Tryz.prog law17_at.f [.agg (actO 5 4 2 2).cells, .d (.int .u32 3), .d (.int .u32 0)] [] k 0 (.agg (atO (actO 5 4 2 2) 3 0).cells) [] := atO_at (actO 5 4 2 2) 3 0 k
theorem e5611_34 : whyL hrow (atO (actO 5 6 1 1) 3 4) = 0 := by kernel_rfl
theorem e5611_32 : whyL hrow (atO (actO 5 6 1 1) 3 2) = 276 := by kernel_rfl
theorem e5622_34 : whyL hrow (atO (actO 5 6 2 2) 3 4) = 274 := by kernel_rfl
theorem e5211_20 : whyL hrow (atO (actO 5 2 1 1) 2 0) = 0 := whyL_of hr_u2 (by kernel_rfl)
theorem e5211_10 : whyL hrow (atO (actO 5 2 1 1) 1 0) = 276 := whyL_of hr_u1 (by kernel_rfl)
theorem e5412_30 : whyL hrow (atO (actO 5 4 1 2) 3 0) = 273 := by kernel_rfl
theorem eSub : whyL hrow oSub = 0 := by kernel_rfl
theorem eFar : whyL hrow oFar = 271 := by kernel_rfl
section
variable {S : Sh} (h : ShOk hrow S)
include h
theorem ShOk.w5611_34 (k : Nat) : SCd Tryz.prog shape_Shape_Why.f [.ptr 10 0, .agg (atO (actO 5 6 1 1) 3 4).cells] S.h10 k 0 (.d (.int .i64 0)) S.h10 := by
  have := h.why10 (atO (actO 5 6 1 1) 3 4) (by decide) (lin0 rfl) k
  rw [e5611_34] at this; exact this
theorem ShOk.w5611_32 (k : Nat) : SCd Tryz.prog shape_Shape_Why.f [.ptr 10 0, .agg (atO (actO 5 6 1 1) 3 2).cells] S.h10 k 0 (.d (.int .i64 276)) S.h10 := by
  have := h.why10 (atO (actO 5 6 1 1) 3 2) (by decide) (lin0 rfl) k
  rw [e5611_32] at this; exact this
theorem ShOk.w5622_34 (k : Nat) : SCd Tryz.prog shape_Shape_Why.f [.ptr 10 0, .agg (atO (actO 5 6 2 2) 3 4).cells] S.h10 k 0 (.d (.int .i64 274)) S.h10 := by
  have := h.why10 (atO (actO 5 6 2 2) 3 4) (by decide) (lin0 rfl) k
  rw [e5622_34] at this; exact this
theorem ShOk.w5211_20 (k : Nat) : SCd Tryz.prog shape_Shape_Why.f [.ptr 10 0, .agg (atO (actO 5 2 1 1) 2 0).cells] S.h10 k 0 (.d (.int .i64 0)) S.h10 := by
  have := h.why10 (atO (actO 5 2 1 1) 2 0) (by decide) (lin0 rfl) k
  rw [e5211_20] at this; exact this
theorem ShOk.w5211_10 (k : Nat) : SCd Tryz.prog shape_Shape_Why.f [.ptr 10 0, .agg (atO (actO 5 2 1 1) 1 0).cells] S.h10 k 0 (.d (.int .i64 276)) S.h10 := by
  have := h.why10 (atO (actO 5 2 1 1) 1 0) (by decide) (lin0 rfl) k
  rw [e5211_10] at this; exact this
theorem ShOk.w5412_30 (k : Nat) : SCd Tryz.prog shape_Shape_Why.f [.ptr 10 0, .agg (atO (actO 5 4 1 2) 3 0).cells] S.h10 k 0 (.d (.int .i64 273)) S.h10 := by
  have := h.why10 (atO (actO 5 4 1 2) 3 0) (by decide) (lin0 rfl) k
  rw [e5412_30] at this; exact this
theorem ShOk.wSub (k : Nat) : SCd Tryz.prog shape_Shape_Why.f [.ptr 10 0, .agg oSub.cells] S.h10 k 0 (.d (.int .i64 0)) S.h10 := by
  have := h.why10 oSub (by decide) hsub_lin k
  rw [eSub] at this; exact this
theorem ShOk.wFar (k : Nat) : SCd Tryz.prog shape_Shape_Why.f [.ptr 10 0, .agg oFar.cells] S.h10 k 0 (.d (.int .i64 271)) S.h10 := by
  have := h.why10 oFar (by decide) (lin0 rfl) k
  rw [eFar] at this; exact this
theorem ShOk.g4 (k : Nat) : SCd Tryz.prog shape_Shape_Good.f [.ptr 10 0, .agg (Dt.mk 0 4).cells] S.h10 k 0 (.d (.bool true)) S.h10 := by
  have := h.good10 (h.short hrow_ok') ⟨0, 4⟩ k
  rw [h.goodY (o := o4) (by kernel_rfl), show whyL hrow o4 = 0 by kernel_rfl] at this; exact this
theorem ShOk.g5 (k : Nat) : SCd Tryz.prog shape_Shape_Good.f [.ptr 10 0, .agg (Dt.mk 0 5).cells] S.h10 k 0 (.d (.bool false)) S.h10 := by
  have := h.good10 (h.short hrow_ok') ⟨0, 5⟩ k
  rw [h.goodN (by kernel_rfl)] at this; exact this
end
theorem s28 : spl (actO 5 8 2 2).cells 28 [.d (.sl 1 (hcm.flatMap Cm.ds))] = oSub.cells := rfl
theorem s12 : spl (atO (actO 5 4 2 2) 3 0).cells 12 (Dt.mk 0 3).cells = oFar.cells := rfl
theorem litC {P : Program} {env : List (Nat × SV)} {hp : Hp} {k d p : Nat} {r : List SI} {K : St → List (Bool × List Nat) → Prop} (ha : env.lookup p = some (.agg ((Dt.mk 0 3).cells ++ (Dt.mk 0 4).cells)))
    (h : RW P r ⟨(d, .d (.sl 1 (hcm.flatMap Cm.ds))) :: env, hp, k⟩ fun st' ts => K st' ((false, []) :: ts)) : RW P (⟨some d, .bsl 74 4 1 [SV.d (.int .u8 0), SV.d (.int .u32 0), SV.d (.int .u8 0), SV.d (.int .u32 0)] [(0, 4, .t p)], none⟩ :: r) ⟨env, hp, k⟩ K := by
  refine RW.cons (e := ⟨.d (.sl 1 (hcm.flatMap Cm.ds)), [], [], 0, ((4 = 4 ∧ 0 + 4 ≤ 4 ∧ True))⟩) (fun crs => ⟨.frz :: crs, runOp_some (.inl rfl) ?_⟩) (by show 4 = 4 ∧ 0 + 4 ≤ 4 ∧ True; decide) ?_
  · have h1 : evp (fun t => env.lookup t) [(0, 4, X.t p)] = some [(0, 4, .agg ((Dt.mk 0 3).cells ++ (Dt.mk 0 4).cells))] := by
      simp only [evp, ev, ha]
    have h2 : bldS [SV.d (.int .u8 0), SV.d (.int .u32 0), SV.d (.int .u8 0), SV.d (.int .u32 0)] [(0, 4, .agg ((Dt.mk 0 3).cells ++ (Dt.mk 0 4).cells))] = some ((Dt.mk 0 3).cells ++ (Dt.mk 0 4).cells, ((4 = 4 ∧ 0 + 4 ≤ 4 ∧ True))) := rfl
    have h3 : datas ((Dt.mk 0 3).cells ++ (Dt.mk 0 4).cells) = some (hcm.flatMap Cm.ds) := rfl
    have h4 : ((Dt.mk 0 3).cells ++ (Dt.mk 0 4).cells).all SV.isOne = true := rfl
    simp only [goOp, sop, h1, h2, h3, h4, if_true, Bool.false_or]
    rfl
  · exact h
attribute [local irreducible] SW RW SCd SC CallP Pruned
set_option maxHeartbeats 8000000 in
theorem head17_ok : Go.Sl.Pure Tryz.prog law17_head.f [] (bl true) := by
  refine law17_head.enter (by first | rfl | simp [SV.ok, SV.oks]) (by first | rfl | simp [Hp.ok, Ob.ok, SV.ok, SV.oks, Vec.cells_ok]) (by simp) ?_
  dsimp only [law17_head.s, Co.M, Co.G, Co.J, Co.H, Co.N, Co.F, Co.C, Co.Z, Co.B, Co.b8, Co.b32, Co.b64, Co.i6, Co.z8, Co.z29]
  refine SW.seq ?_
  refine SW.g0 [0, 1, 2, 3, 7] mixed bq_tt ?_
  refine SW.seq (SW.ofN ?_)
  refine SWn.callD bq_tt (hrow_at _) (h := ?_)
  refine SWn.callC (snew_0 hrow (by decide) (fun o ho => ⟨(hrow_ok' o ho).1, (hrow_ok' o ho).2.1⟩)) (HSub.nil _) (h := ?_)
  rintro _ _ ⟨S, h, rfl, rfl⟩
  simp only [hmrg, hsets, hdels, hset, hrep, hdel, lk, List.lookup, Nat.reduceBEq, BEq.rfl, beq_self_eq_true, if_true, if_false, reduceIte, Nat.reduceEqDiff, Bool.false_eq_true, Option.isSome_some, Option.isSome_none, Nat.reduceAdd]
  (repeat (first | refine SWn.op bq_tt (h := ?_) | refine SWn.opN bq_tt (h := ?_) | refine SWn.skip (h := ?_)))
  refine SWn.nil ?_
  refine SW.seq ?_
  refine SW.seq ?_
  (refine SW.regL [0, 1, 2, 3, 7] mixed ?_; (repeat (first | refine RW.ro bq_tt (h := ?_) | refine RW.skip (h := ?_) | refine RW.op bq_tt (h := ?_) | refine RW.opN bq_tt (h := ?_) | refine RW.skip0 (h := ?_) | (refine RW.callC (h := ?_); (first | refine CallP.mk bq_tt (hc := a5822 _) (h := ?_) | refine CallP.mk bq_tt (hc := a5422 _) (h := ?_) | refine CallP.mk bq_tt (hc := t5422_30 _) (h := ?_) | refine CallP.mk bq_tt (hc := a5611 _) (h := ?_) | refine CallP.mk bq_tt (hc := a5622 _) (h := ?_) | refine CallP.mk bq_tt (hc := a5211 _) (h := ?_) | refine CallP.mk bq_tt (hc := a5412 _) (h := ?_) | refine CallP.mk bq_tt (hc := t5611_34 _) (h := ?_) | refine CallP.mk bq_tt (hc := t5611_32 _) (h := ?_) | refine CallP.mk bq_tt (hc := t5622_34 _) (h := ?_) | refine CallP.mk bq_tt (hc := t5211_20 _) (h := ?_) | refine CallP.mk bq_tt (hc := t5211_10 _) (h := ?_) | refine CallP.mk bq_tt (hc := t5412_30 _) (h := ?_) | refine CallP.mk bq_tt (hc := h.w5611_34 _) (h := ?_) | refine CallP.mk bq_tt (hc := h.w5611_32 _) (h := ?_) | refine CallP.mk bq_tt (hc := h.w5622_34 _) (h := ?_) | refine CallP.mk bq_tt (hc := h.w5211_20 _) (h := ?_) | refine CallP.mk bq_tt (hc := h.w5211_10 _) (h := ?_) | refine CallP.mk bq_tt (hc := h.w5412_30 _) (h := ?_) | refine CallP.mk bq_tt (hc := h.wSub _) (h := ?_) | refine CallP.mk bq_tt (hc := h.wFar _) (h := ?_) | refine CallP.mk bq_tt (hc := h.g4 _) (h := ?_) | refine CallP.mk bq_tt (hc := h.g5 _) (h := ?_) | refine CallP.mk bq_tt (hc := hneeds_at _) (h := ?_))))); refine RW.nil ⟨by kernel_rfl, Pruned.mk (h := ?_)⟩)
  refine SW.condF rfl (SW.skip ?_)
  refine SW.seq ?_
  (refine SW.regL [0, 1, 2, 3, 7] mixed ?_; (repeat (first | refine RW.ro bq_tt (h := ?_) | refine RW.skip (h := ?_) | refine RW.op bq_tt (h := ?_) | refine RW.opN bq_tt (h := ?_) | refine RW.skip0 (h := ?_) | (refine RW.callC (h := ?_); (first | refine CallP.mk bq_tt (hc := a5822 _) (h := ?_) | refine CallP.mk bq_tt (hc := a5422 _) (h := ?_) | refine CallP.mk bq_tt (hc := t5422_30 _) (h := ?_) | refine CallP.mk bq_tt (hc := a5611 _) (h := ?_) | refine CallP.mk bq_tt (hc := a5622 _) (h := ?_) | refine CallP.mk bq_tt (hc := a5211 _) (h := ?_) | refine CallP.mk bq_tt (hc := a5412 _) (h := ?_) | refine CallP.mk bq_tt (hc := t5611_34 _) (h := ?_) | refine CallP.mk bq_tt (hc := t5611_32 _) (h := ?_) | refine CallP.mk bq_tt (hc := t5622_34 _) (h := ?_) | refine CallP.mk bq_tt (hc := t5211_20 _) (h := ?_) | refine CallP.mk bq_tt (hc := t5211_10 _) (h := ?_) | refine CallP.mk bq_tt (hc := t5412_30 _) (h := ?_) | refine CallP.mk bq_tt (hc := h.w5611_34 _) (h := ?_) | refine CallP.mk bq_tt (hc := h.w5611_32 _) (h := ?_) | refine CallP.mk bq_tt (hc := h.w5622_34 _) (h := ?_) | refine CallP.mk bq_tt (hc := h.w5211_20 _) (h := ?_) | refine CallP.mk bq_tt (hc := h.w5211_10 _) (h := ?_) | refine CallP.mk bq_tt (hc := h.w5412_30 _) (h := ?_) | refine CallP.mk bq_tt (hc := h.wSub _) (h := ?_) | refine CallP.mk bq_tt (hc := h.wFar _) (h := ?_) | refine CallP.mk bq_tt (hc := h.g4 _) (h := ?_) | refine CallP.mk bq_tt (hc := h.g5 _) (h := ?_) | refine CallP.mk bq_tt (hc := hneeds_at _) (h := ?_))))); refine RW.nil ⟨by kernel_rfl, Pruned.mk (h := ?_)⟩)
  refine SW.seq ?_
  (have fx := (And.intro (d3) (And.intro (d4) (s28))); refine SW.regL [0, 1, 2, 3, 7] mixed ?_; (repeat (first | refine RW.ro fx (h := ?_) | refine RW.skip (h := ?_) | refine RW.op fx (h := ?_) | refine RW.opN fx (h := ?_) | refine RW.skip0 (h := ?_) | refine litC rfl (h := ?_) | (refine RW.callC (h := ?_); (first | refine CallP.mk fx (hc := a5822 _) (h := ?_) | refine CallP.mk fx (hc := a5422 _) (h := ?_) | refine CallP.mk fx (hc := t5422_30 _) (h := ?_) | refine CallP.mk fx (hc := a5611 _) (h := ?_) | refine CallP.mk fx (hc := a5622 _) (h := ?_) | refine CallP.mk fx (hc := a5211 _) (h := ?_) | refine CallP.mk fx (hc := a5412 _) (h := ?_) | refine CallP.mk fx (hc := t5611_34 _) (h := ?_) | refine CallP.mk fx (hc := t5611_32 _) (h := ?_) | refine CallP.mk fx (hc := t5622_34 _) (h := ?_) | refine CallP.mk fx (hc := t5211_20 _) (h := ?_) | refine CallP.mk fx (hc := t5211_10 _) (h := ?_) | refine CallP.mk fx (hc := t5412_30 _) (h := ?_) | refine CallP.mk fx (hc := h.w5611_34 _) (h := ?_) | refine CallP.mk fx (hc := h.w5611_32 _) (h := ?_) | refine CallP.mk fx (hc := h.w5622_34 _) (h := ?_) | refine CallP.mk fx (hc := h.w5211_20 _) (h := ?_) | refine CallP.mk fx (hc := h.w5211_10 _) (h := ?_) | refine CallP.mk fx (hc := h.w5412_30 _) (h := ?_) | refine CallP.mk fx (hc := h.wSub _) (h := ?_) | refine CallP.mk fx (hc := h.wFar _) (h := ?_) | refine CallP.mk fx (hc := h.g4 _) (h := ?_) | refine CallP.mk fx (hc := h.g5 _) (h := ?_) | refine CallP.mk fx (hc := hneeds_at _) (h := ?_))))); refine RW.nil ⟨by kernel_rfl, Pruned.mk (h := ?_)⟩)
  refine SW.seq ?_
  (refine SW.regL [0, 1, 2, 3, 7] mixed ?_; (repeat (first | refine RW.ro (And.intro (d3) (s12)) (h := ?_) | refine RW.skip (h := ?_) | refine RW.op (And.intro (d3) (s12)) (h := ?_) | refine RW.opN (And.intro (d3) (s12)) (h := ?_) | refine RW.skip0 (h := ?_) | (refine RW.callC (h := ?_); (first | refine CallP.mk (And.intro (d3) (s12)) (hc := a5822 _) (h := ?_) | refine CallP.mk (And.intro (d3) (s12)) (hc := a5422 _) (h := ?_) | refine CallP.mk (And.intro (d3) (s12)) (hc := t5422_30 _) (h := ?_) | refine CallP.mk (And.intro (d3) (s12)) (hc := a5611 _) (h := ?_) | refine CallP.mk (And.intro (d3) (s12)) (hc := a5622 _) (h := ?_) | refine CallP.mk (And.intro (d3) (s12)) (hc := a5211 _) (h := ?_) | refine CallP.mk (And.intro (d3) (s12)) (hc := a5412 _) (h := ?_) | refine CallP.mk (And.intro (d3) (s12)) (hc := t5611_34 _) (h := ?_) | refine CallP.mk (And.intro (d3) (s12)) (hc := t5611_32 _) (h := ?_) | refine CallP.mk (And.intro (d3) (s12)) (hc := t5622_34 _) (h := ?_) | refine CallP.mk (And.intro (d3) (s12)) (hc := t5211_20 _) (h := ?_) | refine CallP.mk (And.intro (d3) (s12)) (hc := t5211_10 _) (h := ?_) | refine CallP.mk (And.intro (d3) (s12)) (hc := t5412_30 _) (h := ?_) | refine CallP.mk (And.intro (d3) (s12)) (hc := h.w5611_34 _) (h := ?_) | refine CallP.mk (And.intro (d3) (s12)) (hc := h.w5611_32 _) (h := ?_) | refine CallP.mk (And.intro (d3) (s12)) (hc := h.w5622_34 _) (h := ?_) | refine CallP.mk (And.intro (d3) (s12)) (hc := h.w5211_20 _) (h := ?_) | refine CallP.mk (And.intro (d3) (s12)) (hc := h.w5211_10 _) (h := ?_) | refine CallP.mk (And.intro (d3) (s12)) (hc := h.w5412_30 _) (h := ?_) | refine CallP.mk (And.intro (d3) (s12)) (hc := h.wSub _) (h := ?_) | refine CallP.mk (And.intro (d3) (s12)) (hc := h.wFar _) (h := ?_) | refine CallP.mk (And.intro (d3) (s12)) (hc := h.g4 _) (h := ?_) | refine CallP.mk (And.intro (d3) (s12)) (hc := h.g5 _) (h := ?_) | refine CallP.mk (And.intro (d3) (s12)) (hc := hneeds_at _) (h := ?_))))); refine RW.nil ⟨by kernel_rfl, Pruned.mk (h := ?_)⟩)
  refine SW.seq ?_
  (refine SW.regL [0, 1, 2, 3, 7] mixed ?_; (repeat (first | refine RW.ro (And.intro (d4) (d5)) (h := ?_) | refine RW.skip (h := ?_) | refine RW.op (And.intro (d4) (d5)) (h := ?_) | refine RW.opN (And.intro (d4) (d5)) (h := ?_) | refine RW.skip0 (h := ?_) | (refine RW.callC (h := ?_); (first | refine CallP.mk (And.intro (d4) (d5)) (hc := a5822 _) (h := ?_) | refine CallP.mk (And.intro (d4) (d5)) (hc := a5422 _) (h := ?_) | refine CallP.mk (And.intro (d4) (d5)) (hc := t5422_30 _) (h := ?_) | refine CallP.mk (And.intro (d4) (d5)) (hc := a5611 _) (h := ?_) | refine CallP.mk (And.intro (d4) (d5)) (hc := a5622 _) (h := ?_) | refine CallP.mk (And.intro (d4) (d5)) (hc := a5211 _) (h := ?_) | refine CallP.mk (And.intro (d4) (d5)) (hc := a5412 _) (h := ?_) | refine CallP.mk (And.intro (d4) (d5)) (hc := t5611_34 _) (h := ?_) | refine CallP.mk (And.intro (d4) (d5)) (hc := t5611_32 _) (h := ?_) | refine CallP.mk (And.intro (d4) (d5)) (hc := t5622_34 _) (h := ?_) | refine CallP.mk (And.intro (d4) (d5)) (hc := t5211_20 _) (h := ?_) | refine CallP.mk (And.intro (d4) (d5)) (hc := t5211_10 _) (h := ?_) | refine CallP.mk (And.intro (d4) (d5)) (hc := t5412_30 _) (h := ?_) | refine CallP.mk (And.intro (d4) (d5)) (hc := h.w5611_34 _) (h := ?_) | refine CallP.mk (And.intro (d4) (d5)) (hc := h.w5611_32 _) (h := ?_) | refine CallP.mk (And.intro (d4) (d5)) (hc := h.w5622_34 _) (h := ?_) | refine CallP.mk (And.intro (d4) (d5)) (hc := h.w5211_20 _) (h := ?_) | refine CallP.mk (And.intro (d4) (d5)) (hc := h.w5211_10 _) (h := ?_) | refine CallP.mk (And.intro (d4) (d5)) (hc := h.w5412_30 _) (h := ?_) | refine CallP.mk (And.intro (d4) (d5)) (hc := h.wSub _) (h := ?_) | refine CallP.mk (And.intro (d4) (d5)) (hc := h.wFar _) (h := ?_) | refine CallP.mk (And.intro (d4) (d5)) (hc := h.g4 _) (h := ?_) | refine CallP.mk (And.intro (d4) (d5)) (hc := h.g5 _) (h := ?_) | refine CallP.mk (And.intro (d4) (d5)) (hc := hneeds_at _) (h := ?_))))); refine RW.nil ⟨by kernel_rfl, Pruned.mk (h := ?_)⟩)
  refine SW.ret ?_
  exact End.mk [] (h4 := ⟨rfl, rfl⟩)
theorem head17_at (k : Nat) : SCd Tryz.prog law17_head.f [] [] k 0 (.d (.bool true)) [] := head17_ok.sc rfl k
end Go.Proofs.YtlgfknfdfnaedaaGreat
