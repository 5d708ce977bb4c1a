/-
  Shapes: what a shape holds; which operation is before another one, carts, credentials.
-/
import Derived.Test.YtlgfknfdfnaedaaGreatU6
import Derived.Test.YtlgfknfdfnaedaaGreatUV
import Derived.Test.YtlgfknfdfnaedaaGreatUC
import Derived.Test.YtlgfknfdfnaedaaGreatUD
set_option linter.unusedSectionVars false
set_option linter.unusedVariables false
set_option linter.unusedSimpArgs false
namespace Go.Proofs.YtlgfknfdfnaedaaGreat
open Go.Sl Go.Proofs
def dv (d : Dt) : SV := .agg d.cells
theorem look_dv (L : MM Dt Dt) (a : Dt) : lookS (mapE Dt.cells dv L) (.agg (⟨0, 0⟩ : Dt).cells) (MM.idx L a) = .agg ((MM.get L a).getD ⟨0, 0⟩).cells := look_mapE (vs := dv) ⟨0, 0⟩ L a
theorem mset_dv (L : MM Dt Dt) (c : Nat) (a v : Dt) : msetS (mapE Dt.cells dv L) c (.agg a.cells) (.agg v.cells) (MM.idx L a) = .map (mapE Dt.cells dv (MM.put L c a v)) (MM.clk L c a) := mset_mapE (vs := dv) L c a v
theorem mset_ov (L : MM Dt OpD) (c : Nat) (a : Dt) (v : OpD) : msetS (mapE Dt.cells ov L) c (.agg a.cells) (.agg v.cells) (MM.idx L a) = .map (mapE Dt.cells ov (MM.put L c a v)) (MM.clk L c a) := mset_mapE (vs := ov) L c a v
theorem dvmap_ren (ρ : Nat → Nat) (L : MM Dt Dt) : (mapE Dt.cells dv L).map (fun e => (e.1, e.2.1.ren ρ, e.2.2.ren ρ)) = mapE Dt.cells dv L := mapE_ren ρ L (fun a => Dt.cells_ren a ρ) (fun v => by simp [dv, SV.ren, Dt.cells_ren])
theorem dvmap_ok (q : Nat → Bool) (L : MM Dt Dt) : ((mapE Dt.cells dv L).all fun e => e.2.1.ok q && e.2.2.ok q) = true := mapE_ok q L (fun a => Dt.cells_ok a q) (fun v => by simp [dv, SV.ok, Dt.cells_ok])
structure Sh where
  ops : MM Dt OpD
  co : Nat
  adds : MM Dt Int
  ca : Nat
  lns : MM Dt Dt
  cl : Nat
  tr : MM Dt Cr
  ct : Nat
  md : MM Dt OpD
  cm : Nat
abbrev Sh.h0 (S : Sh) : Hp := [(0, .box 81 [.ptr 4 0, .mp 1, .mp 2, .mp 3]), (1, .map (mapE Dt.cells ov S.ops) S.co), (2, .map (mapE Dt.cells iv S.adds) S.ca), (3, .map (mapE Dt.cells dv S.lns) S.cl),
  (4, .box 120 [.mp 5, .mp 6]), (5, .map (mapE Dt.cells cv S.tr) S.ct), (6, .map (mapE Dt.cells ov S.md) S.cm)]
abbrev Sh.T (S : Sh) : Tr := ⟨4, 5, 6, S.tr, S.ct, S.md, S.cm⟩
theorem Sh.Tsep (S : Sh) : S.T.sep := ⟨by show (5 : Nat) ≠ 4; decide, by show (6 : Nat) ≠ 4; decide, by show (5 : Nat) ≠ 6; decide⟩
theorem Sh.ok (S : Sh) {k : Nat} (h : 7 ≤ k) : S.h0.ok (fun n => decide (n < k)) = true := by
  have a := omap_ok (fun n => decide (n < k)) S.ops
  have b := dmap_ok (fun n => decide (n < k)) S.adds
  have c := dvmap_ok (fun n => decide (n < k)) S.lns
  have d := cmap_ok (fun n => decide (n < k)) S.tr
  have e := omap_ok (fun n => decide (n < k)) S.md
  simp only [Hp.ok, List.all_cons, List.all_nil, Ob.ok, SV.oks, SV.ok, a, b, c, d, e, Bool.and_true, Bool.true_and, Bool.and_eq_true, decide_eq_true_eq]
  omega
def Sh.op (S : Sh) (d : Dt) : OpD := (MM.get S.ops d).getD OpD.zero
def Sh.cr (S : Sh) (d : Dt) : Cr := (MM.get S.tr d).getD Cr.zero
def Sh.bef (S : Sh) (d : Dt) (o : OpD) : Bool := MM.has S.ops d && (S.op d).before o
def Sh.cart (S : Sh) (o : OpD) : Bool := if o.kind = 0 then decide (o.cart = o.dot) else MM.has S.ops o.cart && (decide ((S.op o.cart).kind = 0) && (decide ((S.op o.cart).cart = (S.op o.cart).dot) && (S.op o.cart).before o))
def Sh.crd (S : Sh) (d : Dt) (o : OpD) : Bool := MM.has S.tr d && (decide ((S.cr d).cart = o.cart) && S.bef d o)
def Sh.line (S : Sh) (d : Dt) (o : OpD) : Bool := decide (0 < (MM.get S.adds d).getD 0) && (decide ((S.op d).cart = o.cart) && S.bef d o)
def Sh.clm (S : Sh) (c : Cm) (o : OpD) : Bool := S.line c.line o && (decide (c.ver = c.line) || (MM.has S.lns c.ver && (decide ((MM.get S.lns c.ver).getD ⟨0, 0⟩ = c.line) && S.bef c.ver o)))
section
attribute [local irreducible] SW RW SCd SC CallP Pruned
set_option maxHeartbeats 4000000 in
theorem sbef_sb (S : Sh) (d : Dt) (o : OpD) : SB Tryz.prog shape_Shape_before.f [.ptr 0 0, .agg d.cells, .agg o.cells] S.h0 7 0 fun r F => r = bl (S.bef d o) ∧ F = S.h0 := by
  refine shape_Shape_before.enter (by simp [SV.oks, SV.ok]) (S.ok (Nat.le_refl 7)) (by simp) ?_
  dsimp only [shape_Shape_before.s, Co.M, Co.G, Co.J, Co.H, Co.N, Co.F, Co.C, Co.Z, Co.B, Co.b8, Co.b32, Co.b64, Co.i6, Co.z8, Co.z29]
  obtain ⟨a, ha⟩ : ∃ a, (MM.get S.ops d).getD OpD.zero = a := ⟨_, rfl⟩
  have hb := before_at a o
  refine SW.seq ?_
  refine SW.g0 [0, 1, 2, 4, 5, 6, 7, 8] mixed bq_tt ?_
  refine SW.seq ?_
  rcases h : MM.has S.ops d with _ | _
  · refine SW.g0 [0, 1, 2, 4, 5, 6, 7, 8] mixed (And.intro (h) (ha)) ?_
    refine SW.seq ?_
    refine SW.g0 [0, 1, 2, 4, 5, 6, 7, 8] mixed bq_tt ?_
    refine SW.ret ?_
    exact End.mk S.h0 (h4 := ⟨by simp [retV, Sh.bef, h], rfl⟩) (h6 := S.ok (Nat.le_refl 7))
  · refine SW.g0 [0, 1, 2, 4, 5, 6, 7, 8] mixed (And.intro (h) (ha)) ?_
    refine SW.seq ?_
    refine SW.g1 [0, 1, 2, 4, 5, 6, 7, 8] mixed bq_tt hb ?_
    refine SW.ret ?_
    exact End.mk S.h0 (h4 := ⟨by simp [retV, Sh.bef, h, Sh.op, ha], rfl⟩) (h6 := S.ok (Nat.le_refl 7))
end
end Go.Proofs.YtlgfknfdfnaedaaGreat
namespace Go.Proofs.YtlgfknfdfnaedaaGreat
open Go.Sl Go.Proofs
structure Sn where
  b : Nat
  o : Nat
  a : Nat
  l : Nat
  t : Nat
  x : Nat
  y : Nat
abbrev Sn.nl (n : Sn) : List Nat := [n.b, n.o, n.a, n.l, n.t, n.x, n.y]
abbrev Sn.ok (n : Sn) : Prop := n.nl.Nodup
def Sh.hp (S : Sh) (n : Sn) : Hp := [(n.b, .box 81 [.ptr n.t 0, .mp n.o, .mp n.a, .mp n.l]), (n.o, .map (mapE Dt.cells ov S.ops) S.co), (n.a, .map (mapE Dt.cells iv S.adds) S.ca), (n.l, .map (mapE Dt.cells dv S.lns) S.cl),
  (n.t, .box 120 [.mp n.x, .mp n.y]), (n.x, .map (mapE Dt.cells cv S.tr) S.ct), (n.y, .map (mapE Dt.cells ov S.md) S.cm)]
theorem Sh.hp_ren (S : Sh) (n : Sn) (k : Nat) : Hp.ren (atN n.nl k) S.h0 = S.hp n := by
  simp only [Hp.ren, List.map_cons, List.map_nil, Ob.ren, SV.rens, SV.ren, cmap_ren, omap_ren, dvmap_ren, dmap_ren, Sh.hp]
  rfl
theorem Sh.h0_ne (S : Sh) : ∀ i, i < 7 → lk S.h0 i ≠ none := fun i hi => by
  rcases (show i = 0 ∨ i = 1 ∨ i = 2 ∨ i = 3 ∨ i = 4 ∨ i = 5 ∨ i = 6 by omega) with rfl | rfl | rfl | rfl | rfl | rfl | rfl <;> simp [lk_cons]
theorem Sh.at_ (S : Sh) {f : FuncId} {args : List SV} {r : SV} (h : SB Tryz.prog f (.ptr 0 0 :: args) S.h0 7 0 fun x F => x = r ∧ F = S.h0) (ha : ∀ ρ, SV.rens ρ args = args) (hr : ∀ ρ, r.ren ρ = r) (n : Sn) (hn : n.ok) (k : Nat) :
    SCd Tryz.prog f (.ptr n.b 0 :: args) (S.hp n) k 0 r (S.hp n) := by
  have := SB.atL n.nl h hn S.h0_ne k
  rw [S.hp_ren, hr] at this
  simp only [SV.rens, SV.ren, ha] at this
  exact this
abbrev n0 : Sn := ⟨0, 1, 2, 3, 4, 5, 6⟩
theorem n0_ok : n0.ok := by decide
theorem sbef_at (S : Sh) (d : Dt) (o : OpD) (n : Sn) (hn : n.ok) (k : Nat) : SCd Tryz.prog shape_Shape_before.f [.ptr n.b 0, .agg d.cells, .agg o.cells] (S.hp n) k 0 (bl (S.bef d o)) (S.hp n) := S.at_ (sbef_sb S d o) (fun ρ => by simp [SV.rens, SV.ren, Dt.cells_ren, OpD.cells_ren]) (fun _ => rfl) n hn k
theorem sbef_0 (S : Sh) (d : Dt) (o : OpD) (k : Nat) : SCd Tryz.prog shape_Shape_before.f [.ptr 0 0, .agg d.cells, .agg o.cells] S.h0 k 0 (bl (S.bef d o)) S.h0 := sbef_at S d o n0 n0_ok k
abbrev Sh.h4 (S : Sh) : Hp := [(4, .box 120 [.mp 5, .mp 6]), (5, .map (mapE Dt.cells cv S.tr) S.ct), (6, .map (mapE Dt.cells ov S.md) S.cm)]
theorem sget_0 (S : Sh) (d : Dt) (k : Nat) : SCd Tryz.prog tree_Tree_Get.f [.ptr 4 0, .agg d.cells] S.h4 k 3 (.tup [.agg (S.cr d).cells, i64 (if MM.has S.tr d then 0 else 7)]) S.h4 := get_at S.Tsep d k
section
attribute [local irreducible] SW RW SCd SC CallP Pruned
set_option maxHeartbeats 4000000 in
theorem scart_sb (S : Sh) (o : OpD) : SB Tryz.prog shape_Shape_cart.f [.ptr 0 0, .agg o.cells] S.h0 7 0 fun r F => r = bl (S.cart o) ∧ F = S.h0 := by
  refine shape_Shape_cart.enter (by simp [SV.oks, SV.ok]) (S.ok (Nat.le_refl 7)) (by simp) ?_
  dsimp only [shape_Shape_cart.s, Co.M, Co.G, Co.J, Co.H, Co.N, Co.F, Co.C, Co.Z, Co.B, Co.b8, Co.b32, Co.b64, Co.i6, Co.z8, Co.z29]
  obtain ⟨g, hg⟩ : ∃ g, (MM.get S.ops o.cart).getD OpD.zero = g := ⟨_, rfl⟩
  have hS : S.cart o = if o.kind = 0 then decide (o.cart = o.dot) else MM.has S.ops o.cart && (decide (g.kind = 0) && (decide (g.cart = g.dot) && g.before o)) := by unfold Sh.cart Sh.op; rw [hg]
  have hb := before_at g o
  refine SW.seq ?_
  refine SW.g0 [0, 1, 3, 4, 5, 6, 19] mixed bq_tt ?_
  refine SW.seq ?_
  refine SW.g0 [0, 1, 3, 4, 5, 6, 19] mixed (hg) ?_
  refine SW.seq (SW.seq ?_)
  by_cases hk : o.kind = 0
  · have k1 : (((o.kind : Nat) : Int) == 0) = true := by rw [hk]; rfl
    refine SW.g0 [0, 1, 3, 4, 5, 6, 19] mixed (k1) ?_
    refine SW.condT rfl (SW.seq ?_)
    rw [if_pos hk] at hS
    rcases h : decide (o.cart = o.dot) with _ | _
    · refine SW.g0 [0, 1, 3, 4, 5, 6, 19] mixed (h) ?_
      refine SW.ret ?_
      exact End.mk S.h0 (h4 := ⟨by rw [hS, h]; rfl, rfl⟩) (h6 := S.ok (Nat.le_refl 7))
    · refine SW.g0 [0, 1, 3, 4, 5, 6, 19] mixed (h) ?_
      refine SW.ret ?_
      exact End.mk S.h0 (h4 := ⟨by rw [hS, h]; rfl, rfl⟩) (h6 := S.ok (Nat.le_refl 7))
  have k1 : (((o.kind : Nat) : Int) == 0) = false := by simp; omega
  rw [if_neg hk] at hS
  refine SW.g0 [0, 1, 3, 4, 5, 6, 19] mixed (k1) ?_
  refine SW.condF rfl (SW.skip ?_)
  refine SW.seq ?_
  rcases h1 : MM.has S.ops o.cart with _ | _
  · refine SW.g0 [0, 1, 3, 4, 5, 6, 19] mixed (h1) ?_
    refine SW.ret ?_
    exact End.mk S.h0 (h4 := ⟨by rw [hS, h1]; rfl, rfl⟩) (h6 := S.ok (Nat.le_refl 7))
  rcases h2 : (((g.kind : Nat) : Int) == 0) with _ | _
  · have e2 : decide (g.kind = 0) = false := by simp at h2 ⊢; omega
    refine SW.g0 [0, 1, 3, 4, 5, 6, 19] mixed (And.intro (h1) (h2)) ?_
    refine SW.ret ?_
    exact End.mk S.h0 (h4 := ⟨by rw [hS, h1, e2]; rfl, rfl⟩) (h6 := S.ok (Nat.le_refl 7))
  have e2 : decide (g.kind = 0) = true := by simp at h2 ⊢; omega
  rcases h3 : decide (g.cart = g.dot) with _ | _
  · refine SW.g0 [0, 1, 3, 4, 5, 6, 19] mixed (And.intro (h1) (And.intro (h2) (h3))) ?_
    refine SW.ret ?_
    exact End.mk S.h0 (h4 := ⟨by rw [hS, h1, e2, h3]; rfl, rfl⟩) (h6 := S.ok (Nat.le_refl 7))
  · refine SW.g1 [0, 1, 3, 4, 5, 6, 19] mixed (And.intro (h1) (And.intro (h2) (h3))) hb ?_
    refine SW.ret ?_
    exact End.mk S.h0 (h4 := ⟨by rw [hS, h1, e2, h3]; simp [retV], rfl⟩) (h6 := S.ok (Nat.le_refl 7))
set_option maxHeartbeats 4000000 in
theorem scred_sb (S : Sh) (d : Dt) (o : OpD) : SB Tryz.prog shape_Shape_cred.f [.ptr 0 0, .agg d.cells, .agg o.cells] S.h0 7 0 fun r F => r = .tup [.agg (S.cr d).cells, bl (S.crd d o)] ∧ F = S.h0 := by
  refine shape_Shape_cred.enter (by simp [SV.oks, SV.ok]) (S.ok (Nat.le_refl 7)) (by simp) ?_
  dsimp only [shape_Shape_cred.s, Co.M, Co.G, Co.J, Co.H, Co.N, Co.F, Co.C, Co.Z, Co.B, Co.b8, Co.b32, Co.b64, Co.i6, Co.z8, Co.z29]
  have hc := sget_0 S d
  have hb := sbef_0 S d o
  obtain ⟨c, hcc⟩ : ∃ c, S.cr d = c := ⟨_, rfl⟩
  have hS : S.crd d o = (MM.has S.tr d && (decide (c.cart = o.cart) && S.bef d o)) := by unfold Sh.crd; rw [hcc]
  rw [hcc] at hc ⊢
  refine SW.seq ?_
  refine SW.g0 [0, 1, 2, 4, 5, 6, 7, 8, 9] mixed bq_tt ?_
  refine SW.seq ?_
  rcases h1 : MM.has S.tr d with _ | _
  · simp only [h1, Bool.false_eq_true, if_false] at hc
    refine SW.g1 [0, 1, 2, 4, 5, 6, 7, 8, 9] mixed bq_tt hc ?_
    refine SW.seq ?_
    refine SW.g0 [0, 1, 2, 4, 5, 6, 7, 8, 9] mixed bq_tt ?_
    refine SW.ret ?_
    exact End.mk S.h0 (h4 := ⟨by rw [hS, h1]; rfl, rfl⟩) (h6 := S.ok (Nat.le_refl 7))
  simp only [h1, if_true] at hc
  refine SW.g1 [0, 1, 2, 4, 5, 6, 7, 8, 9] mixed bq_tt hc ?_
  refine SW.seq ?_
  rcases h2 : decide (c.cart = o.cart) with _ | _
  · refine SW.g0 [0, 1, 2, 4, 5, 6, 7, 8, 9] mixed (h2) ?_
    refine SW.ret ?_
    exact End.mk S.h0 (h4 := ⟨by rw [hS, h1, h2]; rfl, rfl⟩) (h6 := S.ok (Nat.le_refl 7))
  · refine SW.g1 [0, 1, 2, 4, 5, 6, 7, 8, 9] mixed (h2) hb ?_
    refine SW.ret ?_
    exact End.mk S.h0 (h4 := ⟨by rw [hS, h1, h2]; simp [retV], rfl⟩) (h6 := S.ok (Nat.le_refl 7))
end
end Go.Proofs.YtlgfknfdfnaedaaGreat
namespace Go.Proofs.YtlgfknfdfnaedaaGreat
open Go.Sl Go.Proofs
def _root_.Go.Sl.Cm.sv (c : Cm) : List SV := c.line.cells ++ c.ver.cells
section
variable (c : Cm)
theorem _root_.Go.Sl.Cm.s0 : List.take 2 c.sv = c.line.cells := rfl
theorem _root_.Go.Sl.Cm.s2 : List.take 2 (List.drop 2 c.sv) = c.ver.cells := rfl
theorem _root_.Go.Sl.Cm.s_len : c.sv.length = 4 := rfl
theorem _root_.Go.Sl.Cm.s_one : c.sv.all SV.isOne = true := rfl
@[simp] theorem _root_.Go.Sl.Cm.s_ok (q : Nat → Bool) : SV.oks q c.sv = true := rfl
@[simp] theorem _root_.Go.Sl.Cm.s_ren (ρ : Nat → Nat) : SV.rens ρ c.sv = c.sv := rfl
theorem _root_.Go.Sl.Cm.s_app (a b : Dt) : a.cells ++ b.cells = (⟨a, b⟩ : Cm).sv := rfl
end
def needsV (k : Nat) : Nat := ([0, 1, 1, 2, 2, 2, 4, 4, 2] : List Nat).getD k 0
section
attribute [local irreducible] SW RW SCd SC CallP Pruned Cm.sv
set_option maxHeartbeats 4000000 in
theorem sline_sb (S : Sh) (d : Dt) (o : OpD) : SB Tryz.prog shape_Shape_line.f [.ptr 0 0, .agg d.cells, .agg o.cells] S.h0 7 0 fun r F => r = bl (S.line d o) ∧ F = S.h0 := by
  refine shape_Shape_line.enter (by simp [SV.oks, SV.ok]) (S.ok (Nat.le_refl 7)) (by simp) ?_
  dsimp only [shape_Shape_line.s, Co.M, Co.G, Co.J, Co.H, Co.N, Co.F, Co.C, Co.Z, Co.B, Co.b8, Co.b32, Co.b64, Co.i6, Co.z8, Co.z29]
  obtain ⟨g, hg⟩ : ∃ g, (MM.get S.ops d).getD OpD.zero = g := ⟨_, rfl⟩
  have hS : S.line d o = (decide (0 < (MM.get S.adds d).getD 0) && (decide (g.cart = o.cart) && S.bef d o)) := by unfold Sh.line Sh.op; rw [hg]
  have hb := sbef_0 S d o
  refine SW.seq ?_
  refine SW.g0 [0, 1, 2, 4, 5, 6] mixed bq_tt ?_
  refine SW.seq ?_
  rcases h1 : decide (0 < (MM.get S.adds d).getD 0) with _ | _
  · have g1 : decide ((MM.get S.adds d).getD 0 > 0) = false := h1
    refine SW.g0 [0, 1, 2, 4, 5, 6] mixed (g1) ?_
    refine SW.ret ?_
    exact End.mk S.h0 (h4 := ⟨by rw [hS, h1]; rfl, rfl⟩) (h6 := S.ok (Nat.le_refl 7))
  have g1 : decide ((MM.get S.adds d).getD 0 > 0) = true := h1
  rcases h2 : decide (g.cart = o.cart) with _ | _
  · refine SW.g0 [0, 1, 2, 4, 5, 6] mixed (And.intro (g1) (And.intro (hg) (h2))) ?_
    refine SW.ret ?_
    exact End.mk S.h0 (h4 := ⟨by rw [hS, h1, h2]; rfl, rfl⟩) (h6 := S.ok (Nat.le_refl 7))
  · refine SW.g1 [0, 1, 2, 4, 5, 6] mixed (And.intro (g1) (And.intro (hg) (h2))) hb ?_
    refine SW.ret ?_
    exact End.mk S.h0 (h4 := ⟨by rw [hS, h1, h2]; simp [retV], rfl⟩) (h6 := S.ok (Nat.le_refl 7))
theorem sline_0 (S : Sh) (d : Dt) (o : OpD) (k : Nat) : SCd Tryz.prog shape_Shape_line.f [.ptr 0 0, .agg d.cells, .agg o.cells] S.h0 k 0 (bl (S.line d o)) S.h0 :=
  S.at_ (sline_sb S d o) (fun ρ => by simp [SV.rens, SV.ren, Dt.cells_ren, OpD.cells_ren]) (fun _ => rfl) n0 n0_ok k
set_option maxHeartbeats 4000000 in
theorem sclm_sb (S : Sh) (c : Cm) (o : OpD) : SB Tryz.prog shape_Shape_claim.f [.ptr 0 0, .agg c.sv, .agg o.cells] S.h0 7 0 fun r F => r = bl (S.clm c o) ∧ F = S.h0 := by
  refine shape_Shape_claim.enter (by simp [SV.oks, SV.ok]) (S.ok (Nat.le_refl 7)) (by simp) ?_
  dsimp only [shape_Shape_claim.s, Co.M, Co.G, Co.J, Co.H, Co.N, Co.F, Co.C, Co.Z, Co.B, Co.b8, Co.b32, Co.b64, Co.i6, Co.z8, Co.z29]
  have c0 := c.s0
  have c2 := c.s2
  have cl := c.s_len
  have c1 := c.s_one
  obtain ⟨v, hv⟩ : ∃ v, (MM.get S.lns c.ver).getD ⟨0, 0⟩ = v := ⟨_, rfl⟩
  have hS : S.clm c o = (S.line c.line o && (decide (c.ver = c.line) || (MM.has S.lns c.ver && (decide (v = c.line) && S.bef c.ver o)))) := by unfold Sh.clm; rw [hv]
  have hl := sline_0 S c.line o
  have hb := sbef_0 S c.ver o
  have lkd := look_dv S.lns c.ver
  refine SW.seq ?_
  refine SW.g0 [0, 1, 2, 4, 5, 6, 7, 8] mixed (c1) ?_
  refine SW.seq ?_
  refine SW.g0 [0, 1, 2, 4, 5, 6, 7, 8] mixed (And.intro (c0) (And.intro (c2) (And.intro (cl) (And.intro (lkd) (hv))))) ?_
  refine SW.seq ?_
  rcases h1 : S.line c.line o with _ | _
  · rw [h1] at hl
    refine SW.g2 [0, 1, 2, 4, 5, 6, 7, 8] mixed (And.intro (c0) (And.intro (c2) (cl))) hl hb ?_
    refine SW.ret ?_
    exact End.mk S.h0 (h4 := ⟨by rw [hS, h1]; rfl, rfl⟩) (h6 := S.ok (Nat.le_refl 7))
  rw [h1] at hl
  rcases h2 : decide (c.ver = c.line) with _ | _
  rotate_left
  · refine SW.g2 [0, 1, 2, 4, 5, 6, 7, 8] mixed (And.intro (c0) (And.intro (c2) (And.intro (cl) (h2)))) hl hb ?_
    refine SW.ret ?_
    exact End.mk S.h0 (h4 := ⟨by rw [hS, h1, h2]; rfl, rfl⟩) (h6 := S.ok (Nat.le_refl 7))
  rcases h3 : MM.has S.lns c.ver with _ | _
  · refine SW.g2 [0, 1, 2, 4, 5, 6, 7, 8] mixed (And.intro (c0) (And.intro (c2) (And.intro (cl) (And.intro (h2) (h3))))) hl hb ?_
    refine SW.ret ?_
    exact End.mk S.h0 (h4 := ⟨by rw [hS, h1, h2, h3]; rfl, rfl⟩) (h6 := S.ok (Nat.le_refl 7))
  rcases h4 : decide (v = c.line) with _ | _
  · refine SW.g2 [0, 1, 2, 4, 5, 6, 7, 8] mixed (And.intro (c0) (And.intro (c2) (And.intro (cl) (And.intro (h2) (And.intro (h3) (h4)))))) hl hb ?_
    refine SW.ret ?_
    exact End.mk S.h0 (h4 := ⟨by rw [hS, h1, h2, h3, h4]; rfl, rfl⟩) (h6 := S.ok (Nat.le_refl 7))
  · refine SW.g2 [0, 1, 2, 4, 5, 6, 7, 8] mixed (And.intro (c0) (And.intro (c2) (And.intro (cl) (And.intro (h2) (And.intro (h3) (h4)))))) hl hb ?_
    refine SW.ret ?_
    exact End.mk S.h0 (h4 := ⟨by rw [hS, h1, h2, h3, h4]; simp [retV], rfl⟩) (h6 := S.ok (Nat.le_refl 7))
theorem sclm_0 (S : Sh) (c : Cm) (o : OpD) (k : Nat) : SCd Tryz.prog shape_Shape_claim.f [.ptr 0 0, .agg c.sv, .agg o.cells] S.h0 k 0 (bl (S.clm c o)) S.h0 :=
  S.at_ (sclm_sb S c o) (fun ρ => by simp [SV.rens, SV.ren, OpD.cells_ren]) (fun _ => rfl) n0 n0_ok k
theorem needs_ok (k : Nat) (hk : k < 256) : Go.Sl.Pure Tryz.prog shape_Needs.f [u8 k] (.d (.int .u8 (needsV k))) := by
  refine shape_Needs.enter (by first | rfl | simp [SV.ok, SV.oks]) (by first | rfl | simp [Hp.ok, Ob.ok, SV.ok, SV.oks, Vec.cells_ok]) (by simp) ?_
  dsimp only [shape_Needs.s, Co.M, Co.G, Co.J, Co.H, Co.N, Co.F, Co.C, Co.Z, Co.B, Co.b8, Co.b32, Co.b64, Co.i6, Co.z8, Co.z29]
  refine SW.seq ?_
  refine SW.g0 [0, 2, 3, 7] mixed bq_tt ?_
  refine SW.seq ?_
  have hb : spl (spl (spl (spl (spl (spl (spl (spl [SV.d (.int .u8 0), .d (.int .u8 0), .d (.int .u8 0), .d (.int .u8 0), .d (.int .u8 0), .d (.int .u8 0), .d (.int .u8 0), .d (.int .u8 0), .d (.int .u8 0)] 1 [.d (.int .u8 1)]) 2 [.d (.int .u8 1)]) 3 [.d (.int .u8 2)]) 4 [.d (.int .u8 2)]) 5 [.d (.int .u8 2)]) 6 [.d (.int .u8 4)]) 7 [.d (.int .u8 4)]) 8 [.d (.int .u8 2)] = [.d (.int .u8 0), .d (.int .u8 1), .d (.int .u8 1), .d (.int .u8 2), .d (.int .u8 2), .d (.int .u8 2), .d (.int .u8 4), .d (.int .u8 4), .d (.int .u8 2)] := rfl
  have hb2 : ∀ z : List SV, z.length = 9 → spl z 0 [SV.d (.int .u8 0), .d (.int .u8 1), .d (.int .u8 1), .d (.int .u8 2), .d (.int .u8 2), .d (.int .u8 2), .d (.int .u8 4), .d (.int .u8 4), .d (.int .u8 2)] = [.d (.int .u8 0), .d (.int .u8 1), .d (.int .u8 1), .d (.int .u8 2), .d (.int .u8 2), .d (.int .u8 2), .d (.int .u8 4), .d (.int .u8 4), .d (.int .u8 2)] := fun z hz => by
    match z, hz with
    | [_, _, _, _, _, _, _, _, _], _ => rfl
  have hb3 := hb2 [SV.d (.int .u8 0), .d (.int .u8 0), .d (.int .u8 0), .d (.int .u8 0), .d (.int .u8 0), .d (.int .u8 0), .d (.int .u8 0), .d (.int .u8 0), .d (.int .u8 0)] rfl
  refine SW.g0 [0, 2, 3, 7] mixed (And.intro (hb) (hb3)) ?_
  have e8 : IntKind.i64.wrap (k : Int) = (k : Int) := wrap_i64 _ (by omega)
  refine SW.seq (SW.seq ?_)
  by_cases h : k < 9
  · have h1 : decide ((k : Int) ≥ 9) = false := by simp only [decide_eq_false_iff_not]; omega
    refine SW.g0 [0, 2, 3, 7] mixed (And.intro (e8) (h1)) ?_
    refine SW.condF rfl (SW.skip ?_)
    refine SW.seq ?_
    have hg : ([SV.d (.int .u8 0), .d (.int .u8 1), .d (.int .u8 1), .d (.int .u8 2), .d (.int .u8 2), .d (.int .u8 2), .d (.int .u8 4), .d (.int .u8 4), .d (.int .u8 2)] : List SV)[k]? = some (.d (.int .u8 (needsV k))) := by
      match k, h with
      | 0, _ | 1, _ | 2, _ | 3, _ | 4, _ | 5, _ | 6, _ | 7, _ | 8, _ => rfl
    refine SW.g0 [0, 2, 3, 7] mixed (hg) ?_
    refine SW.ret ?_
    exact End.mk [] (h4 := ⟨rfl, rfl⟩)
  · have h1 : decide ((k : Int) ≥ 9) = true := by simp only [decide_eq_true_eq]; omega
    have e : needsV k = 0 := by unfold needsV; simp [List.getD]; rw [List.getElem?_eq_none (by simp; omega)]; rfl
    rw [e]
    refine SW.g0 [0, 2, 3, 7] mixed (And.intro (e8) (h1)) ?_
    refine SW.condT rfl (SW.seq ?_)
    refine SW.g0 [0, 2, 3, 7] mixed bq_tt ?_
    refine SW.ret ?_
    exact End.mk [] (h4 := ⟨rfl, rfl⟩)
theorem needs_at (k : Nat) (hk : k < 256) (j : Nat) : SCd Tryz.prog shape_Needs.f [u8 k] [] j 0 (.d (.int .u8 (needsV k))) [] := (needs_ok k hk).sc rfl j
end
end Go.Proofs.YtlgfknfdfnaedaaGreat
namespace Go.Proofs.YtlgfknfdfnaedaaGreat
open Go.Sl Go.Proofs
theorem cm_load {l : List Cm} {i : Nat} {x : Cm} (h : l[i]? = some x) : List.take 4 (List.drop (i * 4) (List.map SV.d (l.flatMap Cm.ds))) = x.sv := by
  rw [← List.map_drop, ← List.map_take, flat_take Cm.ds 4 (fun _ => rfl) l i x h]
  rfl
theorem cm_room17 {l : List Cm} {i : Nat} {x : Cm} (h : l[i]? = some x) : (i * 4 + 4 ≤ (List.map SV.d (l.flatMap Cm.ds)).length) = True := eq_true (by
  rw [List.length_map, cms_len]
  have := (List.getElem?_eq_some_iff.1 h).1
  omega)
def idxC (p : Cm → Bool) (l : List Cm) : Int := match l.findIdx? p with
  | some i => i
  | none => -1
theorem idxC_hit {p : Cm → Bool} : ∀ {l : List Cm} {i : Nat} {x : Cm}, (∀ y, y ∈ l.take i → p y = false) → l[i]? = some x → p x = true → idxC p l = i := by
  intro l i x h1 h2 h3
  have : l.findIdx? p = some i := by
    rw [List.findIdx?_eq_some_iff_getElem]
    obtain ⟨hi, e⟩ := List.getElem?_eq_some_iff.1 h2
    refine ⟨hi, by rw [e]; exact h3, fun j hj => ?_⟩
    have := h1 l[j] (List.mem_take_iff_getElem.2 ⟨j, by omega, rfl⟩)
    simp [this]
  unfold idxC; rw [this]
theorem idxC_none {p : Cm → Bool} {l : List Cm} (h : ∀ y, y ∈ l → p y = false) : idxC p l = -1 := by
  have : l.findIdx? p = none := by rw [List.findIdx?_eq_none_iff]; exact h
  unfold idxC; rw [this]
theorem idxC_any (p : Cm → Bool) (l : List Cm) : decide (idxC p l ≥ 0) = l.any p := by
  unfold idxC
  cases h : l.findIdx? p with
  | none =>
    have h1 := List.findIdx?_eq_none_iff.1 h
    have : l.any p = false := by rw [List.any_eq_false]; intro x hx; rw [h1 x hx]; simp
    rw [this]; rfl
  | some i =>
    obtain ⟨hi, h2, _⟩ := List.findIdx?_eq_some_iff_getElem.1 h
    have : l.any p = true := by rw [List.any_eq_true]; exact ⟨_, List.getElem_mem hi, h2⟩
    rw [this]; simp
abbrev Sh.ht (S : Sh) (o : OpD) : Hp := (8, .box 31 o.cells) :: (7, .box 34 [.ptr 0 0]) :: S.h0
theorem Sh.ht_ok (S : Sh) (o : OpD) {k : Nat} (h : 9 ≤ k) : (S.ht o).ok (fun n => decide (n < k)) = true := by
  have := S.ok (k := k) (by omega)
  simp only [Sh.ht, Hp.ok, List.all_cons, Ob.ok, OpD.cells_ok, SV.oks, SV.ok, Bool.and_true, Bool.and_eq_true, decide_eq_true_eq] at this ⊢
  exact ⟨by omega, ⟨by omega, by omega⟩, this⟩
theorem Sh.ht_ren (S : Sh) (o : OpD) (k : Nat) : Hp.ren (atN [0, 1, 2, 3, 4, 5, 6, 7, 8] k) (S.ht o) = S.ht o := by
  simp only [Hp.ren, List.map_cons, List.map_nil, Ob.ren, SV.rens, SV.ren, cmap_ren, omap_ren, dvmap_ren, dmap_ren, OpD.cells_ren]
  rfl
theorem Sh.ht_ne (S : Sh) (o : OpD) : ∀ i, i < 9 → lk (S.ht o) i ≠ none := fun i hi => by
  rcases (show i = 0 ∨ i = 1 ∨ i = 2 ∨ i = 3 ∨ i = 4 ∨ i = 5 ∨ i = 6 ∨ i = 7 ∨ i = 8 by omega) with rfl | rfl | rfl | rfl | rfl | rfl | rfl | rfl | rfl <;> simp [lk_cons]
theorem Sh.htC (S : Sh) (o : OpD) {f : FuncId} {args : List SV} {r : SV} (h : SB Tryz.prog f args (S.ht o) 9 0 fun x F => x = r ∧ F = S.ht o) (k : Nat) (ha : SV.rens (atN [0, 1, 2, 3, 4, 5, 6, 7, 8] k) args = args) (hr : ∀ ρ, r.ren ρ = r) :
    SCd Tryz.prog f args (S.ht o) k 0 r (S.ht o) := by
  have := SB.atL [0, 1, 2, 3, 4, 5, 6, 7, 8] h (by decide) (S.ht_ne o) k
  rw [S.ht_ren, ha, hr] at this
  exact this
def Sh.tgt (S : Sh) (o : OpD) (ab : Bool) : Bool :=
  if o.kind = 2 then S.crd o.at_ o && ab else if o.kind = 4 ∨ o.kind = 5 then S.line o.at_ o else if o.kind = 6 ∨ o.kind = 7 then S.clm ⟨o.at_, o.ver⟩ o else if o.kind = 8 then !(o.cl.any fun c => !S.clm c o) else true
section
attribute [local irreducible] SW RW SCd SC CallP Pruned Cm.sv
set_option maxHeartbeats 4000000 in
theorem tgt1_sb (S : Sh) (o : OpD) (c : Cm) : SB Tryz.prog shape_Shape_target_1.f [.agg c.sv, .ptr 7 0, .ptr 8 0] (S.ht o) 9 0 fun r F => r = bl (!S.clm c o) ∧ F = S.ht o := by
  refine shape_Shape_target_1.enter (by simp [SV.oks, SV.ok]) (S.ht_ok o (Nat.le_refl 9)) (by simp) ?_
  dsimp only [shape_Shape_target_1.s, Co.M, Co.G, Co.J, Co.H, Co.N, Co.F, Co.C, Co.Z, Co.B, Co.b8, Co.b32, Co.b64, Co.i6, Co.z8, Co.z29]
  have c1 := c.s_one
  have cl := c.s_len
  have c4 : List.take 4 c.sv = c.sv := by rw [← cl]; exact List.take_length
  have hc := sclm_0 S c o
  refine SW.seq ?_
  refine SW.g0 [0, 1, 2, 3, 4] mixed (c1) ?_
  refine SW.seq ?_
  rcases h : S.clm c o with _ | _ <;> rw [h] at hc
  · refine SW.g1 [0, 1, 2, 3, 4] mixed (And.intro (cl) (c4)) hc ?_
    refine SW.ret ?_
    exact End.mk (S.ht o) (h4 := ⟨rfl, rfl⟩) (h6 := S.ht_ok o (Nat.le_refl 9))
  · refine SW.g1 [0, 1, 2, 3, 4] mixed (And.intro (cl) (c4)) hc ?_
    refine SW.ret ?_
    exact End.mk (S.ht o) (h4 := ⟨rfl, rfl⟩) (h6 := S.ht_ok o (Nat.le_refl 9))
theorem tgt1_at (S : Sh) (o : OpD) (c : Cm) (k : Nat) : SCd Tryz.prog shape_Shape_target_1.f [.agg c.sv, .ptr 7 0, .ptr 8 0] (S.ht o) k 0 (bl (!S.clm c o)) (S.ht o) :=
  S.htC o (tgt1_sb S o c) k (by simp only [SV.rens, SV.ren, Cm.s_ren]; rfl) (fun _ => rfl)
set_option maxHeartbeats 4000000 in
theorem idxf_sb (S : Sh) (o : OpD) (l : List Cm) (hl : l.length ≤ 9223372036854775807) : SB Tryz.prog slices_IndexFunc_Lapi_Claim_api_Claim.f [.d (.sl l.length (l.flatMap Cm.ds)), .fn (.func shape_Shape_target_1.f) [] [.ptr 7 0, .ptr 8 0]] (S.ht o) 9 0 fun r F => r = .d (.int .i64 (idxC (fun c => !S.clm c o) l)) ∧ F = S.ht o := by
  refine slices_IndexFunc_Lapi_Claim_api_Claim.enter (by simp [SV.oks, SV.ok]) (S.ht_ok o (Nat.le_refl 9)) (by simp) ?_
  dsimp only [slices_IndexFunc_Lapi_Claim_api_Claim.s, Co.M, Co.G, Co.J, Co.H, Co.N, Co.F, Co.C, Co.Z, Co.B, Co.b8, Co.b32, Co.b64, Co.i6, Co.z8, Co.z29]
  refine SW.seq ?_
  refine SW.g0 [0, 1, 4, 5, 7, 8, 9, 16] mixed bq_tt ?_
  refine SW.seq (SW.seq ?_)
  refine SW.g0 [0, 1, 4, 5, 7, 8, 9, 16] mixed bq_tt ?_
  have nd : ((S.ht o).map (·.1)).Nodup := by simp
  refine SW.block (SW.loop (α := {i : Nat // i ≤ l.length ∧ ∀ y, y ∈ l.take i → (!S.clm y o) = false}) (fun i => ⟨[(8, i64 i.1), (7, i64 l.length), (0, .d (.sl l.length (l.flatMap Cm.ds))), (1, .fn (.func shape_Shape_target_1.f) [] [.ptr 7 0, .ptr 8 0]), (4, .d (.int .i64 0))], S.ht o, 9⟩) (fun i => l.length - i.1) ⟨0, by omega, by simp⟩ id ?_ ?_)
  · exact Weak.same (by simp) (by simp [EnvW, List.lookup, SV.ren, SV.rens, SV.ok, SV.oks]) (S.ht_ok o (Nat.le_refl 9)) (lk_of_nodup nd)
  rintro ⟨i, hi, hall⟩
  dsimp only
  by_cases h : i < l.length
  · have h1 : decide ((i : Int) < l.length) = true := by simp only [decide_eq_true_eq]; omega
    obtain ⟨x, hx⟩ := get_of_lt h
    have e2 : IntKind.i64.wrap ((i : Int) + 1) = ((i + 1 : Nat) : Int) := wrap_i64 _ (by omega)
    have hc := tgt1_at S o x
    refine SW.seq ?_
    refine SW.g0 [0, 1, 4, 5, 7, 8, 9, 16] mixed (h1) ?_
    refine SW.seq (SW.condT rfl (SW.skip ?_))
    refine SW.seq (SW.block (SW.seq ?_))
    refine SW.g0 [0, 1, 4, 5, 7, 8, 9, 16] mixed bq_tt ?_
    refine SW.seq ?_
    rcases h2 : S.clm x o with _ | _ <;> rw [h2] at hc
    · refine SW.g1 [0, 1, 4, 5, 7, 8, 9, 16] mixed (And.intro (cm_load hx) (cm_room17 hx)) hc ?_
      refine SW.condT rfl (SW.seq ?_)
      refine SW.g0 [0, 1, 4, 5, 7, 8, 9, 16] mixed bq_tt ?_
      refine SW.ret ?_
      exact End.mk (S.ht o) (h4 := ⟨by rw [idxC_hit hall hx (by rw [h2]; rfl)]; rfl, rfl⟩) (h6 := S.ht_ok o (Nat.le_refl 9))
    · 
      refine SW.g1 [0, 1, 4, 5, 7, 8, 9, 16] mixed (And.intro (cm_load hx) (cm_room17 hx)) hc ?_
      refine SW.condF rfl (SW.skip ?_)
      refine SW.g0 [0, 1, 4, 5, 7, 8, 9, 16] mixed (e2) ?_
      exact ⟨⟨i + 1, by omega, fun y hy => by rw [take_snoc hx, List.mem_append, List.mem_singleton] at hy; exact hy.elim (hall y) fun e => by rw [e, h2]; rfl⟩, id, by simp; omega, Weak.same (by simp) (by simp [EnvW, List.lookup, SV.ren, SV.rens, SV.ok, SV.oks]) (S.ht_ok o (Nat.le_refl 9)) (lk_of_nodup nd)⟩
  · have h1 : decide ((i : Int) < l.length) = false := by simp only [decide_eq_false_iff_not]; omega
    have hi2 : i = l.length := by omega
    subst hi2
    rw [List.take_length] at hall
    refine SW.seq ?_
    refine SW.g0 [0, 1, 4, 5, 7, 8, 9, 16] mixed (h1) ?_
    refine SW.seq (SW.condF rfl (SW.exit ?_))
    refine (?_ : Sl.SW _ _ _ _ _ _)
    refine SW.seq ?_
    refine SW.g0 [0, 1, 4, 5, 7, 8, 9, 16] mixed bq_tt ?_
    refine SW.ret ?_
    exact End.mk (S.ht o) (h4 := ⟨by rw [idxC_none hall]; rfl, rfl⟩) (h6 := S.ht_ok o (Nat.le_refl 9))
end
end Go.Proofs.YtlgfknfdfnaedaaGreat
namespace Go.Proofs.YtlgfknfdfnaedaaGreat
open Go.Sl Go.Proofs
section
attribute [local irreducible] SW RW SCd SC CallP Pruned Cm.sv
theorem idxf_at (S : Sh) (o : OpD) (l : List Cm) (hl : l.length ≤ 9223372036854775807) (k : Nat) : SCd Tryz.prog slices_IndexFunc_Lapi_Claim_api_Claim.f [.d (.sl l.length (l.flatMap Cm.ds)), .fn (.func 102) [] [.ptr 7 0, .ptr 8 0]] (S.ht o) k 0 (.d (.int .i64 (idxC (fun c => !S.clm c o) l))) (S.ht o) :=
  S.htC o (idxf_sb S o l hl) k rfl (fun _ => rfl)
set_option maxHeartbeats 4000000 in
theorem contf_sb (S : Sh) (o : OpD) (l : List Cm) (hl : l.length ≤ 9223372036854775807) : SB Tryz.prog slices_ContainsFunc_Lapi_Claim_api_Claim.f [.d (.sl l.length (l.flatMap Cm.ds)), .fn (.func 102) [] [.ptr 7 0, .ptr 8 0]] (S.ht o) 9 0 fun r F => r = bl (l.any fun c => !S.clm c o) ∧ F = S.ht o := by
  refine slices_ContainsFunc_Lapi_Claim_api_Claim.enter (by simp [SV.oks, SV.ok]) (S.ht_ok o (Nat.le_refl 9)) (by simp) ?_
  dsimp only [slices_ContainsFunc_Lapi_Claim_api_Claim.s, Co.M, Co.G, Co.J, Co.H, Co.N, Co.F, Co.C, Co.Z, Co.B, Co.b8, Co.b32, Co.b64, Co.i6, Co.z8, Co.z29]
  have hc := idxf_at S o l hl
  have ha := idxC_any (fun c => !S.clm c o) l
  obtain ⟨z, hz⟩ : ∃ z, idxC (fun c => !S.clm c o) l = z := ⟨_, rfl⟩
  obtain ⟨b, hb⟩ : ∃ b, (l.any fun c => !S.clm c o) = b := ⟨_, rfl⟩
  rw [hz, hb] at ha
  rw [hz] at hc
  rw [hb]
  refine SW.seq ?_
  refine SW.g0 [0, 1, 4] mixed bq_tt ?_
  refine SW.seq ?_
  refine SW.g1 [0, 1, 4] mixed (ha) hc ?_
  refine SW.ret ?_
  exact End.mk (S.ht o) (h4 := ⟨rfl, rfl⟩) (h6 := S.ht_ok o (Nat.le_refl 9))
theorem contf_at (S : Sh) (o : OpD) (l : List Cm) (hl : l.length ≤ 9223372036854775807) (k : Nat) : SCd Tryz.prog slices_ContainsFunc_Lapi_Claim_api_Claim.f [.d (.sl l.length (l.flatMap Cm.ds)), .fn (.func 102) [] [.ptr 7 0, .ptr 8 0]] (S.ht o) k 0 (bl (l.any fun c => !S.clm c o)) (S.ht o) :=
  S.htC o (contf_sb S o l hl) k rfl (fun _ => rfl)
theorem scred_0 (S : Sh) (d : Dt) (o : OpD) (k : Nat) : SCd Tryz.prog shape_Shape_cred.f [.ptr 0 0, .agg d.cells, .agg o.cells] S.h0 k 0 (.tup [.agg (S.cr d).cells, bl (S.crd d o)]) S.h0 :=
  S.at_ (scred_sb S d o) (fun ρ => by simp [SV.rens, SV.ren, Dt.cells_ren, OpD.cells_ren]) (fun ρ => by simp [SV.rens, SV.ren, Cr.cells_ren]) n0 n0_ok k
set_option maxHeartbeats 8000000 in
theorem stgt_sb (S : Sh) (o : OpD) (hk : o.kind < 256) (hlin : o.lin) (ab : Bool) (m : Nat) (hab : ∀ k, SCd Tryz.prog tree_Tree_Above.f [.ptr 4 0, .agg o.cred.cells, .agg o.at_.cells] S.h4 k m (bl ab) S.h4) :
    SB Tryz.prog shape_Shape_target.f [.ptr 0 0, .agg o.cells] S.h0 7 0 fun r F => r = bl (S.tgt o ab) ∧ F = S.h0 := by
  refine shape_Shape_target.enter (by simp [SV.oks, SV.ok]) (S.ok (Nat.le_refl 7)) (by simp) ?_
  dsimp only [shape_Shape_target.s, Co.M, Co.G, Co.J, Co.H, Co.N, Co.F, Co.C, Co.Z, Co.B, Co.b8, Co.b32, Co.b64, Co.i6, Co.z8, Co.z29]
  have h6 := S.ok (Nat.le_refl 7)
  refine SW.seq ?_
  refine SW.g0 [0, 1, 2, 3, 4, 6, 8, 9, 31, 39, 50] mixed bq_tt ?_
  refine SW.seq (SW.seq ?_)
  refine SW.g0 [0, 1, 2, 3, 4, 6, 8, 9, 31, 39, 50] mixed bq_tt ?_
  refine SW.block (SW.seq ?_)
  by_cases k2 : o.kind = 2
  · have q2 : (((o.kind : Nat) : Int) == 2) = true := by rw [k2]; rfl
    have e : S.tgt o ab = (S.crd o.at_ o && ab) := by unfold Sh.tgt; rw [if_pos k2]
    rw [e]
    have hc := scred_0 S o.at_ o
    obtain ⟨c, hcc⟩ : ∃ c, S.cr o.at_ = c := ⟨_, rfl⟩
    rw [hcc] at hc
    refine SW.g0 [0, 1, 2, 3, 4, 6, 8, 9, 31, 39, 50] mixed (q2) ?_
    refine SW.condT rfl (SW.seq ?_)
    refine SW.g1 [0, 1, 2, 3, 4, 6, 8, 9, 31, 39, 50] mixed bq_tt hc ?_
    refine SW.seq ?_
    rcases h : S.crd o.at_ o with _ | _
    · refine SW.g1 [0, 1, 2, 3, 4, 6, 8, 9, 31, 39, 50] mixed bq_tt hab ?_
      refine SW.ret ?_
      exact End.mk S.h0 (h4 := ⟨rfl, rfl⟩) (h6 := h6)
    · refine SW.g1 [0, 1, 2, 3, 4, 6, 8, 9, 31, 39, 50] mixed bq_tt hab ?_
      refine SW.ret ?_
      exact End.mk S.h0 (h4 := ⟨rfl, rfl⟩) (h6 := h6) (h7 := by show 7 + 0 ≤ 10 + m; omega)
  have q2 : (((o.kind : Nat) : Int) == 2) = false := by simp; omega
  refine SW.g0 [0, 1, 2, 3, 4, 6, 8, 9, 31, 39, 50] mixed (q2) ?_
  refine SW.condF rfl (SW.seq (SW.seq ?_))
  by_cases k45 : o.kind = 4 ∨ o.kind = 5
  · have e : S.tgt o ab = S.line o.at_ o := by unfold Sh.tgt; rw [if_neg k2, if_pos k45]
    rw [e]
    have hl := sline_0 S o.at_ o
    rcases k45 with k4 | k5
    · have q4 : (((o.kind : Nat) : Int) == 4) = true := by rw [k4]; rfl
      refine SW.g0 [0, 1, 2, 3, 4, 6, 8, 9, 31, 39, 50] mixed (q4) ?_
      refine SW.condT rfl (SW.skip ?_)
      refine SW.condT rfl (SW.seq ?_)
      refine SW.g1 [0, 1, 2, 3, 4, 6, 8, 9, 31, 39, 50] mixed bq_tt hl ?_
      refine SW.ret ?_
      exact End.mk S.h0 (h4 := ⟨rfl, rfl⟩) (h6 := h6)
    · have q4 : (((o.kind : Nat) : Int) == 4) = false := by simp; omega
      have q5 : (((o.kind : Nat) : Int) == 5) = true := by rw [k5]; rfl
      refine SW.g0 [0, 1, 2, 3, 4, 6, 8, 9, 31, 39, 50] mixed (q4) ?_
      refine SW.condF rfl ?_
      refine SW.g0 [0, 1, 2, 3, 4, 6, 8, 9, 31, 39, 50] mixed (q5) ?_
      refine SW.condT rfl (SW.seq ?_)
      refine SW.g1 [0, 1, 2, 3, 4, 6, 8, 9, 31, 39, 50] mixed bq_tt hl ?_
      refine SW.ret ?_
      exact End.mk S.h0 (h4 := ⟨rfl, rfl⟩) (h6 := h6)
  have q4 : (((o.kind : Nat) : Int) == 4) = false := by simp; omega
  have q5 : (((o.kind : Nat) : Int) == 5) = false := by simp; omega
  refine SW.g0 [0, 1, 2, 3, 4, 6, 8, 9, 31, 39, 50] mixed (q4) ?_
  refine SW.condF rfl ?_
  refine SW.g0 [0, 1, 2, 3, 4, 6, 8, 9, 31, 39, 50] mixed (q5) ?_
  refine SW.condF rfl (SW.seq (SW.seq ?_))
  by_cases k67 : o.kind = 6 ∨ o.kind = 7
  · have e : S.tgt o ab = S.clm ⟨o.at_, o.ver⟩ o := by unfold Sh.tgt; rw [if_neg k2, if_neg k45, if_pos k67]
    rw [e]
    have hl := sclm_0 S ⟨o.at_, o.ver⟩ o
    have hb := Cm.s_app o.at_ o.ver
    rcases k67 with k6 | k7
    · have q6 : (((o.kind : Nat) : Int) == 6) = true := by rw [k6]; rfl
      refine SW.g0 [0, 1, 2, 3, 4, 6, 8, 9, 31, 39, 50] mixed (q6) ?_
      refine SW.condT rfl (SW.skip ?_)
      refine SW.condT rfl (SW.seq ?_)
      refine SW.g1 [0, 1, 2, 3, 4, 6, 8, 9, 31, 39, 50] mixed (hb) hl ?_
      refine SW.ret ?_
      exact End.mk S.h0 (h4 := ⟨rfl, rfl⟩) (h6 := h6)
    · have q6 : (((o.kind : Nat) : Int) == 6) = false := by simp; omega
      have q7 : (((o.kind : Nat) : Int) == 7) = true := by rw [k7]; rfl
      refine SW.g0 [0, 1, 2, 3, 4, 6, 8, 9, 31, 39, 50] mixed (q6) ?_
      refine SW.condF rfl ?_
      refine SW.g0 [0, 1, 2, 3, 4, 6, 8, 9, 31, 39, 50] mixed (q7) ?_
      refine SW.condT rfl (SW.seq ?_)
      refine SW.g1 [0, 1, 2, 3, 4, 6, 8, 9, 31, 39, 50] mixed (hb) hl ?_
      refine SW.ret ?_
      exact End.mk S.h0 (h4 := ⟨rfl, rfl⟩) (h6 := h6)
  have q6 : (((o.kind : Nat) : Int) == 6) = false := by simp; omega
  have q7 : (((o.kind : Nat) : Int) == 7) = false := by simp; omega
  refine SW.g0 [0, 1, 2, 3, 4, 6, 8, 9, 31, 39, 50] mixed (q6) ?_
  refine SW.condF rfl ?_
  refine SW.g0 [0, 1, 2, 3, 4, 6, 8, 9, 31, 39, 50] mixed (q7) ?_
  refine SW.condF rfl (SW.seq ?_)
  by_cases k8 : o.kind = 8
  · have e : S.tgt o ab = !(o.cl.any fun c => !S.clm c o) := by unfold Sh.tgt; rw [if_neg k2, if_neg k45, if_neg k67, if_pos k8]
    rw [e]
    have q8 : (((o.kind : Nat) : Int) == 8) = true := by rw [k8]; rfl
    have hcf := contf_at S o o.cl hlin.le
    have hle := hlin.eq
    obtain ⟨b, hb⟩ : ∃ b, (o.cl.any fun c => !S.clm c o) = b := ⟨_, rfl⟩
    rw [hb] at hcf ⊢
    refine SW.g0 [0, 1, 2, 3, 4, 6, 8, 9, 31, 39, 50] mixed (q8) ?_
    refine SW.condT rfl (SW.seq ?_)
    rcases b with _ | _
    · refine SW.g1 [0, 1, 2, 3, 4, 6, 8, 9, 31, 39, 50] mixed (hle) hcf ?_
      refine SW.ret ?_
      exact End.mk S.h0 (h4 := ⟨rfl, rfl⟩) (h6 := h6)
    · refine SW.g1 [0, 1, 2, 3, 4, 6, 8, 9, 31, 39, 50] mixed (hle) hcf ?_
      refine SW.ret ?_
      exact End.mk S.h0 (h4 := ⟨rfl, rfl⟩) (h6 := h6)
  have q8 : (((o.kind : Nat) : Int) == 8) = false := by simp; omega
  have e : S.tgt o ab = true := by unfold Sh.tgt; rw [if_neg k2, if_neg k45, if_neg k67, if_neg k8]
  rw [e]
  refine SW.g0 [0, 1, 2, 3, 4, 6, 8, 9, 31, 39, 50] mixed (q8) ?_
  refine SW.condF rfl (SW.skip ?_)
  refine SW.seq ?_
  refine SW.g0 [0, 1, 2, 3, 4, 6, 8, 9, 31, 39, 50] mixed bq_tt ?_
  refine SW.ret ?_
  exact End.mk S.h0 (h4 := ⟨rfl, rfl⟩) (h6 := h6)
theorem stgt_0 (S : Sh) (o : OpD) (hk : o.kind < 256) (hlin : o.lin) (ab : Bool) (m : Nat) (hab : ∀ k, SCd Tryz.prog tree_Tree_Above.f [.ptr 4 0, .agg o.cred.cells, .agg o.at_.cells] S.h4 k m (bl ab) S.h4) (k : Nat) :
    SCd Tryz.prog shape_Shape_target.f [.ptr 0 0, .agg o.cells] S.h0 k 0 (bl (S.tgt o ab)) S.h0 :=
  S.at_ (stgt_sb S o hk hlin ab m hab) (fun ρ => by simp [SV.rens, SV.ren, OpD.cells_ren]) (fun _ => rfl) n0 n0_ok k
end
end Go.Proofs.YtlgfknfdfnaedaaGreat
namespace Go.Proofs.YtlgfknfdfnaedaaGreat
open Go.Sl Go.Proofs
def roleB (c : Cr) (kind : Nat) : Bool := bits .and .u8 (c.roles : Int) (needsV kind : Int) != (needsV kind : Int)
theorem h3_ren (a : Cr) (o : OpD) (g : Bool) (k : Nat) : Hp.ren (atN [11, 9, 8] k) [(0, .box 4 [bl g]), (1, .box 83 a.cells), (2, .box 31 o.cells)] = [(11, .box 4 [bl g]), (9, .box 83 a.cells), (8, .box 31 o.cells)] := by
  simp only [Hp.ren, List.map_cons, List.map_nil, Ob.ren, SV.rens, SV.ren, OpD.cells_ren, Cr.cells_ren]; rfl
theorem h2_ren (a : Cr) (o : OpD) (k : Nat) : Hp.ren (atN [9, 8] k) [(0, .box 83 a.cells), (1, .box 31 o.cells)] = [(9, .box 83 a.cells), (8, .box 31 o.cells)] := by
  simp only [Hp.ren, List.map_cons, List.map_nil, Ob.ren, SV.rens, SV.ren, OpD.cells_ren, Cr.cells_ren]; rfl
section
attribute [local irreducible] SW RW SCd SC CallP Pruned needsV
theorem why71_sb (o : OpD) : SB Tryz.prog shape_Shape_Why_1.f [.ptr 0 0] [(0, .box 31 o.cells)] 1 0 fun r F => r = bl (decide ((o.kind : Int) > 8)) ∧ F = [(0, .box 31 o.cells)] := by
  refine shape_Shape_Why_1.enter (by first | rfl | simp [SV.ok, SV.oks]) (by first | rfl | simp [Hp.ok, Ob.ok, SV.ok, SV.oks, Vec.cells_ok]) (by simp) ?_
  dsimp only [shape_Shape_Why_1.s, Co.M, Co.G, Co.J, Co.H, Co.N, Co.F, Co.C, Co.Z, Co.B, Co.b8, Co.b32, Co.b64, Co.i6, Co.z8, Co.z29]
  refine SW.seq ?_
  refine SW.g0 [0, 1] mixed bq_tt ?_
  refine SW.seq ?_
  refine SW.g0 [0, 1] mixed bq_tt ?_
  refine SW.ret ?_
  exact End.mk [(0, .box 31 o.cells)] (h4 := ⟨rfl, rfl⟩)
theorem why71_at (o : OpD) (k : Nat) : SCd Tryz.prog shape_Shape_Why_1.f [.ptr 8 0] [(8, .box 31 o.cells)] k 0 (bl (decide ((o.kind : Int) > 8))) [(8, .box 31 o.cells)] := by
  have := SB.atL [8] (why71_sb o) (by decide) (fun i hi => by rw [show i = 0 by simp at hi; omega]; simp [lk_cons]) k
  simp only [Hp.ren, List.map_cons, List.map_nil, Ob.ren, SV.rens, SV.ren, OpD.cells_ren] at this
  exact this
theorem why72_sb (S : Sh) (o : OpD) : SB Tryz.prog shape_Shape_Why_2.f [.ptr 7 0, .ptr 8 0] (S.ht o) 9 0 fun r F => r = bl (!S.cart o) ∧ F = S.ht o := by
  refine shape_Shape_Why_2.enter (by simp [SV.oks, SV.ok]) (S.ht_ok o (Nat.le_refl 9)) (by simp) ?_
  dsimp only [shape_Shape_Why_2.s, Co.M, Co.G, Co.J, Co.H, Co.N, Co.F, Co.C, Co.Z, Co.B, Co.b8, Co.b32, Co.b64, Co.i6, Co.z8, Co.z29]
  have hc : ∀ k, SCd Tryz.prog shape_Shape_cart.f [.ptr 0 0, .agg o.cells] S.h0 k 0 (bl (S.cart o)) S.h0 := S.at_ (scart_sb S o) (fun ρ => by simp [SV.rens, SV.ren, OpD.cells_ren]) (fun _ => rfl) n0 n0_ok
  refine SW.seq ?_
  refine SW.g0 [0, 1, 2] mixed bq_tt ?_
  refine SW.seq ?_
  refine SW.g1 [0, 1, 2] mixed bq_tt hc ?_
  refine SW.ret ?_
  exact End.mk (S.ht o) (h4 := ⟨rfl, rfl⟩) (h6 := S.ht_ok o (Nat.le_refl 9))
theorem why72_at (S : Sh) (o : OpD) (k : Nat) : SCd Tryz.prog shape_Shape_Why_2.f [.ptr 7 0, .ptr 8 0] (S.ht o) k 0 (bl (!S.cart o)) (S.ht o) := S.htC o (why72_sb S o) k rfl (fun _ => rfl)
theorem why73_sb (g h : Bool) : SB Tryz.prog shape_Shape_Why_3.f [.ptr 0 0, .ptr 1 0] [(0, .box 4 [bl g]), (1, .box 4 [bl h])] 2 0 fun r F => r = bl (!g && !h) ∧ F = [(0, .box 4 [bl g]), (1, .box 4 [bl h])] := by
  refine shape_Shape_Why_3.enter (by first | rfl | simp [SV.ok, SV.oks]) (by first | rfl | simp [Hp.ok, Ob.ok, SV.ok, SV.oks, Vec.cells_ok]) (by simp) ?_
  dsimp only [shape_Shape_Why_3.s, Co.M, Co.G, Co.J, Co.H, Co.N, Co.F, Co.C, Co.Z, Co.B, Co.b8, Co.b32, Co.b64, Co.i6, Co.z8, Co.z29]
  refine SW.seq ?_
  refine SW.g0 [0, 1, 2] mixed bq_tt ?_
  refine SW.seq ?_
  rcases g with _ | _
  · refine SW.g0 [0, 1, 2] mixed bq_tt ?_
    refine SW.ret ?_
    exact End.mk _ (h3 := fun _ _ h => h) (h4 := ⟨by simp [retV], rfl⟩)
  · refine SW.g0 [0, 1, 2] mixed bq_tt ?_
    refine SW.ret ?_
    exact End.mk _ (h3 := fun _ _ h => h) (h4 := ⟨rfl, rfl⟩)
theorem why73_at (g h : Bool) (k : Nat) : SCd Tryz.prog shape_Shape_Why_3.f [.ptr 11 0, .ptr 10 0] [(11, .box 4 [bl g]), (10, .box 4 [bl h])] k 0 (bl (!g && !h)) [(11, .box 4 [bl g]), (10, .box 4 [bl h])] := by
  have := SB.atL [11, 10] (why73_sb g h) (by decide) (fun i hi => by rcases (show i = 0 ∨ i = 1 by simp at hi; omega) with rfl | rfl <;> simp [lk_cons]) k
  exact this
theorem why74_sb (g : Bool) (c : Cr) (o : OpD) : SB Tryz.prog shape_Shape_Why_4.f [.ptr 0 0, .ptr 1 0, .ptr 2 0] [(0, .box 4 [bl g]), (1, .box 83 c.cells), (2, .box 31 o.cells)] 3 0 fun r F => r = bl (!g && ((c.hold : Int) != (o.who : Int))) ∧ F = [(0, .box 4 [bl g]), (1, .box 83 c.cells), (2, .box 31 o.cells)] := by
  refine shape_Shape_Why_4.enter (by first | rfl | simp [SV.ok, SV.oks]) (by first | rfl | simp [Hp.ok, Ob.ok, SV.ok, SV.oks, Vec.cells_ok]) (by simp) ?_
  dsimp only [shape_Shape_Why_4.s, Co.M, Co.G, Co.J, Co.H, Co.N, Co.F, Co.C, Co.Z, Co.B, Co.b8, Co.b32, Co.b64, Co.i6, Co.z8, Co.z29]
  refine SW.seq ?_
  refine SW.g0 [0, 1, 2, 3] mixed bq_tt ?_
  refine SW.seq ?_
  rcases g with _ | _
  · refine SW.g0 [0, 1, 2, 3] mixed bq_tt ?_
    refine SW.ret ?_
    exact End.mk _ (h3 := fun _ _ h => h) (h4 := ⟨by simp [retV], rfl⟩)
  · refine SW.g0 [0, 1, 2, 3] mixed bq_tt ?_
    refine SW.ret ?_
    exact End.mk _ (h3 := fun _ _ h => h) (h4 := ⟨rfl, rfl⟩)
theorem why74_at (g : Bool) (c : Cr) (o : OpD) (k : Nat) : SCd Tryz.prog shape_Shape_Why_4.f [.ptr 11 0, .ptr 9 0, .ptr 8 0] [(11, .box 4 [bl g]), (9, .box 83 c.cells), (8, .box 31 o.cells)] k 0 (bl (!g && ((c.hold : Int) != (o.who : Int)))) [(11, .box 4 [bl g]), (9, .box 83 c.cells), (8, .box 31 o.cells)] := by
  have := SB.atL [11, 9, 8] (why74_sb g c o) (by decide) (fun i hi => by rcases (show i = 0 ∨ i = 1 ∨ i = 2 by simp at hi; omega) with rfl | rfl | rfl <;> simp [lk_cons]) k
  rw [h3_ren] at this
  exact this
theorem why75_sb (c : Cr) (o : OpD) (hk : o.kind < 256) : SB Tryz.prog shape_Shape_Why_5.f [.ptr 0 0, .ptr 1 0] [(0, .box 83 c.cells), (1, .box 31 o.cells)] 2 0 fun r F => r = bl (roleB c o.kind) ∧ F = [(0, .box 83 c.cells), (1, .box 31 o.cells)] := by
  refine shape_Shape_Why_5.enter (by first | rfl | simp [SV.ok, SV.oks]) (by first | rfl | simp [Hp.ok, Ob.ok, SV.ok, SV.oks, Vec.cells_ok]) (by simp) ?_
  dsimp only [shape_Shape_Why_5.s, Co.M, Co.G, Co.J, Co.H, Co.N, Co.F, Co.C, Co.Z, Co.B, Co.b8, Co.b32, Co.b64, Co.i6, Co.z8, Co.z29]
  have hn := needs_at o.kind hk
  refine SW.seq ?_
  refine SW.g0 [0, 1, 2] mixed bq_tt ?_
  refine SW.seq ?_
  refine SW.g1 [0, 1, 2] mixed bq_tt hn ?_
  refine SW.ret ?_
  exact End.mk _ (h3 := fun _ _ h => h) (h4 := ⟨rfl, rfl⟩)
theorem why75_at (c : Cr) (o : OpD) (hk : o.kind < 256) (k : Nat) : SCd Tryz.prog shape_Shape_Why_5.f [.ptr 9 0, .ptr 8 0] [(9, .box 83 c.cells), (8, .box 31 o.cells)] k 0 (bl (roleB c o.kind)) [(9, .box 83 c.cells), (8, .box 31 o.cells)] := by
  have := SB.atL [9, 8] (why75_sb c o hk) (by decide) (fun i hi => by rcases (show i = 0 ∨ i = 1 by simp at hi; omega) with rfl | rfl <;> simp [lk_cons]) k
  rw [h2_ren] at this
  exact this
theorem swhy_0 (S : Sh) (o : OpD) (k : Nat) : SCd Tryz.prog tree_Tree_Why.f [.ptr 4 0, .agg o.cells] S.h4 k 4 (i64 (S.T.why o)) S.h4 := why_at S.Tsep o k
theorem why76_sb (S : Sh) (o : OpD) : SB Tryz.prog shape_Shape_Why_6.f [.ptr 8 0, .ptr 7 0] (S.ht o) 9 0 fun r F => r = bl (decide (o.kind = 1) && decide (S.T.why o ≠ 0)) ∧ F = S.ht o := by
  refine shape_Shape_Why_6.enter (by simp [SV.oks, SV.ok]) (S.ht_ok o (Nat.le_refl 9)) (by simp) ?_
  dsimp only [shape_Shape_Why_6.s, Co.M, Co.G, Co.J, Co.H, Co.N, Co.F, Co.C, Co.Z, Co.B, Co.b8, Co.b32, Co.b64, Co.i6, Co.z8, Co.z29]
  have hw := swhy_0 S o
  obtain ⟨w, hww⟩ : ∃ w, S.T.why o = w := ⟨_, rfl⟩
  rw [hww] at hw ⊢
  refine SW.seq ?_
  refine SW.g0 [0, 1, 2] mixed bq_tt ?_
  refine SW.seq ?_
  by_cases h : o.kind = 1
  · have q : (((o.kind : Nat) : Int) == 1) = true := by rw [h]; rfl
    have hz : (((w : Nat) : Int) != 0) = decide (w ≠ 0) := by rw [Bool.eq_iff_iff]; simp
    refine SW.g1 [0, 1, 2] mixed (And.intro (q) (hz)) hw ?_
    refine SW.ret ?_
    exact End.mk (S.ht o) (h4 := ⟨by simp [retV, h], rfl⟩) (h6 := S.ht_ok o (Nat.le_refl 9))
  · have q : (((o.kind : Nat) : Int) == 1) = false := by simp; omega
    refine SW.g1 [0, 1, 2] mixed (q) hw ?_
    refine SW.ret ?_
    exact End.mk (S.ht o) (h4 := ⟨by simp [retV, h], rfl⟩) (h6 := S.ht_ok o (Nat.le_refl 9))
theorem why76_at (S : Sh) (o : OpD) (k : Nat) : SCd Tryz.prog shape_Shape_Why_6.f [.ptr 8 0, .ptr 7 0] (S.ht o) k 0 (bl (decide (o.kind = 1) && decide (S.T.why o ≠ 0))) (S.ht o) := S.htC o (why76_sb S o) k rfl (fun _ => rfl)
theorem why77_sb (S : Sh) (o : OpD) (b : Bool) (hc : ∀ k, SCd Tryz.prog shape_Shape_target.f [.ptr 0 0, .agg o.cells] S.h0 k 0 (bl b) S.h0) : SB Tryz.prog shape_Shape_Why_7.f [.ptr 7 0, .ptr 8 0] (S.ht o) 9 0 fun r F => r = bl (!b) ∧ F = S.ht o := by
  refine shape_Shape_Why_7.enter (by simp [SV.oks, SV.ok]) (S.ht_ok o (Nat.le_refl 9)) (by simp) ?_
  dsimp only [shape_Shape_Why_7.s, Co.M, Co.G, Co.J, Co.H, Co.N, Co.F, Co.C, Co.Z, Co.B, Co.b8, Co.b32, Co.b64, Co.i6, Co.z8, Co.z29]
  refine SW.seq ?_
  refine SW.g0 [0, 1, 2] mixed bq_tt ?_
  refine SW.seq ?_
  refine SW.g1 [0, 1, 2] mixed bq_tt hc ?_
  refine SW.ret ?_
  exact End.mk (S.ht o) (h4 := ⟨rfl, rfl⟩) (h6 := S.ht_ok o (Nat.le_refl 9))
theorem why77_at (S : Sh) (o : OpD) (b : Bool) (hc : ∀ k, SCd Tryz.prog shape_Shape_target.f [.ptr 0 0, .agg o.cells] S.h0 k 0 (bl b) S.h0) (k : Nat) : SCd Tryz.prog shape_Shape_Why_7.f [.ptr 7 0, .ptr 8 0] (S.ht o) k 0 (bl (!b)) (S.ht o) := S.htC o (why77_sb S o b hc) k rfl (fun _ => rfl)
theorem snone_sb (S : Sh) : SB Tryz.prog shape_Shape_none.f [.ptr 0 0] S.h0 7 0 fun r F => r = bl false ∧ F = S.h0 := by
  refine shape_Shape_none.enter (by simp [SV.oks, SV.ok]) (S.ok (Nat.le_refl 7)) (by simp) ?_
  dsimp only [shape_Shape_none.s, Co.M, Co.G, Co.J, Co.H, Co.N, Co.F, Co.C, Co.Z, Co.B, Co.b8, Co.b32, Co.b64, Co.i6, Co.z8, Co.z29]
  (repeat (first | refine SW.seq ?_ | refine SW.block ?_ | refine SW.g0 [0, 2] mixed bq_tt ?_ | refine SW.skip ?_ | refine SW.exit ?_ | refine SW.ret ?_ | refine SW.condT rfl ?_ | refine SW.condF rfl ?_))
  exact End.mk S.h0 (h4 := ⟨rfl, rfl⟩) (h6 := S.ok (Nat.le_refl 7))
theorem snone_0 (S : Sh) (k : Nat) : SCd Tryz.prog shape_Shape_none.f [.ptr 0 0] S.h0 k 0 (bl false) S.h0 := S.at_ (snone_sb S) (fun _ => rfl) (fun _ => rfl) n0 n0_ok k
end
end Go.Proofs.YtlgfknfdfnaedaaGreat
namespace Go.Proofs.YtlgfknfdfnaedaaGreat
open Go.Sl Go.Proofs
def whyS : List SV := [.d (.int .i64 2), .fn (.func 46) [] [.ptr 8 0], .d (.int .i64 271), .fn (.func 47) [] [.ptr 7 0, .ptr 8 0], .d (.int .i64 272), .fn (.func 49) [] [.ptr 11 0, .ptr 10 0], .d (.int .i64 273), .fn (.func 50) [] [.ptr 11 0, .ptr 9 0, .ptr 8 0], .d (.int .i64 274), .fn (.func 51) [] [.ptr 9 0, .ptr 8 0], .d (.int .i64 275), .fn (.func 52) [] [.ptr 8 0, .ptr 7 0], .d (.int .i64 276), .fn (.func 54) [] [.ptr 7 0, .ptr 8 0]]
theorem whyS_0 : List.take 2 whyS = [.d (.int .i64 2), .fn (.func 46) [] [.ptr 8 0]] := rfl
theorem whyS_1 : List.take 2 (List.drop 2 whyS) = [.d (.int .i64 271), .fn (.func 47) [] [.ptr 7 0, .ptr 8 0]] := rfl
theorem whyS_2 : List.take 2 (List.drop 4 whyS) = [.d (.int .i64 272), .fn (.func 49) [] [.ptr 11 0, .ptr 10 0]] := rfl
theorem whyS_3 : List.take 2 (List.drop 6 whyS) = [.d (.int .i64 273), .fn (.func 50) [] [.ptr 11 0, .ptr 9 0, .ptr 8 0]] := rfl
theorem whyS_4 : List.take 2 (List.drop 8 whyS) = [.d (.int .i64 274), .fn (.func 51) [] [.ptr 9 0, .ptr 8 0]] := rfl
theorem whyS_5 : List.take 2 (List.drop 10 whyS) = [.d (.int .i64 275), .fn (.func 52) [] [.ptr 8 0, .ptr 7 0]] := rfl
theorem whyS_6 : List.take 2 (List.drop 12 whyS) = [.d (.int .i64 276), .fn (.func 54) [] [.ptr 7 0, .ptr 8 0]] := rfl
theorem spl14 : ∀ (x0 x1 x2 x3 x4 x5 x6 x7 x8 x9 x10 x11 x12 x13 a0 b0 a1 b1 a2 b2 a3 b3 a4 b4 a5 b5 a6 b6 : SV), (spl (spl (spl (spl (spl (spl (spl ([x0, x1, x2, x3, x4, x5, x6, x7, x8, x9, x10, x11, x12, x13]) 0 [a0, b0]) 2 [a1, b1]) 4 [a2, b2]) 6 [a3, b3]) 8 [a4, b4]) 10 [a5, b5]) 12 [a6, b6]) = [a0, b0, a1, b1, a2, b2, a3, b3, a4, b4, a5, b5, a6, b6] := fun _ _ _ _ _ _ _ _ _ _ _ _ _ _ _ _ _ _ _ _ _ _ _ _ _ _ _ _ => rfl
@[simp] theorem whyS_len : whyS.length = 14 := rfl
theorem whyS_ok : SV.oks (fun n => decide (n < 12)) whyS = true := rfl
def Sh.rea (S : Sh) (o : OpD) (ab : Bool) : Nat → Bool
  | 0 => decide ((o.kind : Int) > 8)
  | 1 => !S.cart o
  | 2 => !((o.kind : Int) == 0) && !S.crd o.cred o
  | 3 => !((o.kind : Int) == 0) && (((S.cr o.cred).hold : Int) != (o.who : Int))
  | 4 => roleB (S.cr o.cred) o.kind
  | 5 => decide (o.kind = 1) && decide (S.T.why o ≠ 0)
  | _ => !S.tgt o ab
def Sh.why (S : Sh) (o : OpD) (ab : Bool) : Nat :=
  if S.rea o ab 0 then 2 else if S.rea o ab 1 then 271 else if S.rea o ab 2 then 272 else if S.rea o ab 3 then 273 else if S.rea o ab 4 then 274 else if S.rea o ab 5 then 275 else if S.rea o ab 6 then 276 else 0
abbrev Sh.hw (S : Sh) (o : OpD) (c : Cr) (g h : Bool) : Hp := (11, .box 4 [bl g]) :: (10, .box 4 [bl h]) :: (9, .box 83 c.cells) :: S.ht o
theorem Sh.hw_ok (S : Sh) (o : OpD) (c : Cr) (g h : Bool) {k : Nat} (hk : 12 ≤ k) : (S.hw o c g h).ok (fun n => decide (n < k)) = true := by
  have := S.ht_ok o (k := k) (by omega)
  simp only [Sh.hw, Hp.ok, List.all_cons, Ob.ok, Cr.cells_ok, SV.oks, SV.ok, Bool.and_true, Bool.and_eq_true, decide_eq_true_eq] at this ⊢
  exact ⟨by omega, by omega, by omega, this⟩
section
attribute [local irreducible] SW RW SCd SC CallP Pruned needsV Sh.tgt Sh.cart Sh.crd roleB whyS
set_option maxHeartbeats 8000000 in
theorem swhy_sb (S : Sh) (o : OpD) (hk : o.kind < 256) (ab : Bool) (hT : ∀ k, SCd Tryz.prog shape_Shape_target.f [.ptr 0 0, .agg o.cells] S.h0 k 0 (bl (S.tgt o ab)) S.h0) :
    SB Tryz.prog shape_Shape_Why.f [.ptr 0 0, .agg o.cells] S.h0 7 0 fun r F => r = i64 (S.why o ab) ∧ F = S.h0 := by
  refine shape_Shape_Why.enter (by simp [SV.oks, SV.ok]) (S.ok (Nat.le_refl 7)) (by simp) ?_
  dsimp only [shape_Shape_Why.s, Co.M, Co.G, Co.J, Co.H, Co.N, Co.F, Co.C, Co.Z, Co.B, Co.b8, Co.b32, Co.b64, Co.i6, Co.z8, Co.z29]
  have h6 := S.ok (Nat.le_refl 7)
  have hn := snone_0 S
  refine SW.seq ?_
  refine SW.g0 [0, 1, 2, 3, 4, 5, 6, 7, 9, 11, 37, 38, 39, 43] mixed bq_tt ?_
  refine SW.seq (SW.seq ?_)
  refine SW.g1 [0, 1, 2, 3, 4, 5, 6, 7, 9, 11, 37, 38, 39, 43] mixed bq_tt hn ?_
  refine SW.condF rfl (SW.skip ?_)
  have hc := scred_0 S o.cred o
  obtain ⟨c, hcc⟩ : ∃ c, S.cr o.cred = c := ⟨_, rfl⟩
  obtain ⟨h, hh⟩ : ∃ h, S.crd o.cred o = h := ⟨_, rfl⟩
  obtain ⟨g, hg⟩ : ∃ g, ((o.kind : Int) == 0) = g := ⟨_, rfl⟩
  have e2 : S.rea o ab 2 = (!g && !h) := by show (!((o.kind : Int) == 0) && !S.crd o.cred o) = _; rw [hg, hh]
  have e3 : S.rea o ab 3 = (!g && ((c.hold : Int) != (o.who : Int))) := by show (!((o.kind : Int) == 0) && (((S.cr o.cred).hold : Int) != (o.who : Int))) = _; rw [hg, hcc]
  have e4 : S.rea o ab 4 = roleB c o.kind := by show roleB (S.cr o.cred) o.kind = _; rw [hcc]
  rw [hcc, hh] at hc
  refine SW.seq ?_
  refine SW.g1 [0, 1, 2, 3, 4, 5, 6, 7, 9, 11, 37, 38, 39, 43] mixed bq_tt hc ?_
  refine SW.seq ?_
  refine SW.g0 [0, 1, 2, 3, 4, 5, 6, 7, 9, 11, 37, 38, 39, 43] mixed (hg) ?_
  refine SW.seq (SW.seq ?_)
  have eR : ([.d (.int .i64 2), .fn (.func 46) [] [.ptr 8 0], .d (.int .i64 271), .fn (.func 47) [] [.ptr 7 0, .ptr 8 0], .d (.int .i64 272), .fn (.func 49) [] [.ptr 11 0, .ptr 10 0], .d (.int .i64 273), .fn (.func 50) [] [.ptr 11 0, .ptr 9 0, .ptr 8 0], .d (.int .i64 274), .fn (.func 51) [] [.ptr 9 0, .ptr 8 0], .d (.int .i64 275), .fn (.func 52) [] [.ptr 8 0, .ptr 7 0], .d (.int .i64 276), .fn (.func 54) [] [.ptr 7 0, .ptr 8 0]] : List SV) = whyS := by unfold whyS; rfl
  refine SW.g0 [0, 1, 2, 3, 4, 5, 6, 7, 9, 11, 37, 38, 39, 43] mixed (And.intro (spl2) (And.intro (spl14) (eR))) ?_
  refine SW.block ?_
  have nd : ((S.hw o c g h).map (·.1)).Nodup := by simp
  have hH := S.hw_ok o c g h (Nat.le_refl 12)
  have c0 : ∀ k, SCd Tryz.prog 46 [.ptr 8 0] [(8, .box 31 o.cells)] k 0 (bl (S.rea o ab 0)) [(8, .box 31 o.cells)] := fun k => why71_at o k
  have c1 : ∀ k, SCd Tryz.prog 47 [.ptr 7 0, .ptr 8 0] (S.ht o) k 0 (bl (S.rea o ab 1)) (S.ht o) := fun k => why72_at S o k
  have c2 : ∀ k, SCd Tryz.prog 49 [.ptr 11 0, .ptr 10 0] [(11, .box 4 [bl g]), (10, .box 4 [bl h])] k 0 (bl (S.rea o ab 2)) [(11, .box 4 [bl g]), (10, .box 4 [bl h])] := fun k => by rw [e2]; exact why73_at g h k
  have c3 : ∀ k, SCd Tryz.prog 50 [.ptr 11 0, .ptr 9 0, .ptr 8 0] [(11, .box 4 [bl g]), (9, .box 83 c.cells), (8, .box 31 o.cells)] k 0 (bl (S.rea o ab 3)) [(11, .box 4 [bl g]), (9, .box 83 c.cells), (8, .box 31 o.cells)] := fun k => by rw [e3]; exact why74_at g c o k
  have c4 : ∀ k, SCd Tryz.prog 51 [.ptr 9 0, .ptr 8 0] [(9, .box 83 c.cells), (8, .box 31 o.cells)] k 0 (bl (S.rea o ab 4)) [(9, .box 83 c.cells), (8, .box 31 o.cells)] := fun k => by rw [e4]; exact why75_at c o hk k
  have c5 : ∀ k, SCd Tryz.prog 52 [.ptr 8 0, .ptr 7 0] (S.ht o) k 0 (bl (S.rea o ab 5)) (S.ht o) := fun k => why76_at S o k
  have c6 : ∀ k, SCd Tryz.prog 54 [.ptr 7 0, .ptr 8 0] (S.ht o) k 0 (bl (S.rea o ab 6)) (S.ht o) := fun k => why77_at S o _ hT k
  have hw : S.why o ab = if S.rea o ab 0 then 2 else if S.rea o ab 1 then 271 else if S.rea o ab 2 then 272 else if S.rea o ab 3 then 273 else if S.rea o ab 4 then 274 else if S.rea o ab 5 then 275 else if S.rea o ab 6 then 276 else 0 := rfl
  generalize S.rea o ab = rb at c0 c1 c2 c3 c4 c5 c6 hw
  rw [hw]
  clear hw e2 e3 e4 hc hn
  refine SW.loop (α := {i : Nat // i ≤ 7 ∧ ∀ j, j < i → rb j = false}) (fun i => ⟨[(38, i64 i.1), (37, .agg whyS)], S.hw o c g h, 12⟩) (fun i => 7 - i.1) ⟨0, by omega, fun j hj => absurd hj (by omega)⟩ id ?_ ?_
  · exact Weak.same (by simp) (by simp [EnvW, List.lookup, SV.ren, SV.rens_id, SV.ok, whyS_ok]) hH (lk_of_nodup nd)
  rintro ⟨i, hi, hz⟩
  have hdrop : ∀ (o2 : Ob) (x : Nat × Ob), x ∈ S.hw o c g h → lk ((12, o2) :: S.hw o c g h) x.1 = some x.2 := fun o2 x hx => by
    have hl := lk_of_nodup nd x hx
    rw [lk_cons, if_neg ?_]
    · exact hl
    · intro e
      have := (Hp.ok_lk hH hl).1
      simp at this
      omega
  match i, hi, hz with
  | 0, _, hz =>
    rcases (Bool.eq_false_or_eq_true (rb 0)).symm with h0 | h0
    · rw [h0] at c0
      (repeat (first | refine SW.seq ?_ | refine SW.block ?_ | refine SW.g1 [0, 1, 2, 3, 4, 5, 6, 7, 9, 11, 37, 38, 39, 43] mixed (And.intro (whyS_0) (spl22)) c0 ?_ | refine SW.skip ?_ | refine SW.exit ?_ | refine SW.ret ?_ | refine SW.condT rfl ?_ | refine SW.condF rfl ?_))
      exact ⟨⟨1, by omega, fun j hj => by
        rcases Nat.lt_succ_iff_lt_or_eq.1 hj with hj | rfl
        · exact hz j hj
        · exact h0⟩, id, by dsimp only; omega, Weak.same (by simp) (by simp [EnvW, List.lookup, SV.ren, SV.rens_id, SV.ok, whyS_ok]) hH (fun x hx => hdrop _ x hx)⟩
    · rw [h0] at c0
      (repeat (first | refine SW.seq ?_ | refine SW.block ?_ | refine SW.g1 [0, 1, 2, 3, 4, 5, 6, 7, 9, 11, 37, 38, 39, 43] mixed (And.intro (whyS_0) (spl22)) c0 ?_ | refine SW.skip ?_ | refine SW.exit ?_ | refine SW.ret ?_ | refine SW.condT rfl ?_ | refine SW.condF rfl ?_))
      exact End.mk S.h0 (h4 := ⟨by  rw [if_pos h0]; rfl, rfl⟩) (h6 := h6)
  | 1, _, hz =>
    have z0 : rb 0 = false := hz 0 (by omega)
    rcases (Bool.eq_false_or_eq_true (rb 1)).symm with h0 | h0
    · rw [h0] at c1
      (repeat (first | refine SW.seq ?_ | refine SW.block ?_ | refine SW.g1 [0, 1, 2, 3, 4, 5, 6, 7, 9, 11, 37, 38, 39, 43] mixed (And.intro (whyS_1) (spl22)) c1 ?_ | refine SW.skip ?_ | refine SW.exit ?_ | refine SW.ret ?_ | refine SW.condT rfl ?_ | refine SW.condF rfl ?_))
      exact ⟨⟨2, by omega, fun j hj => by
        rcases Nat.lt_succ_iff_lt_or_eq.1 hj with hj | rfl
        · exact hz j hj
        · exact h0⟩, id, by dsimp only; omega, Weak.same (by simp) (by simp [EnvW, List.lookup, SV.ren, SV.rens_id, SV.ok, whyS_ok]) hH (fun x hx => hdrop _ x hx)⟩
    · rw [h0] at c1
      (repeat (first | refine SW.seq ?_ | refine SW.block ?_ | refine SW.g1 [0, 1, 2, 3, 4, 5, 6, 7, 9, 11, 37, 38, 39, 43] mixed (And.intro (whyS_1) (spl22)) c1 ?_ | refine SW.skip ?_ | refine SW.exit ?_ | refine SW.ret ?_ | refine SW.condT rfl ?_ | refine SW.condF rfl ?_))
      exact End.mk S.h0 (h4 := ⟨by rw [if_neg (by rw [z0]; simp)]; rw [if_pos h0]; rfl, rfl⟩) (h6 := h6)
  | 2, _, hz =>
    have z0 : rb 0 = false := hz 0 (by omega)
    have z1 : rb 1 = false := hz 1 (by omega)
    rcases (Bool.eq_false_or_eq_true (rb 2)).symm with h0 | h0
    · rw [h0] at c2
      (repeat (first | refine SW.seq ?_ | refine SW.block ?_ | refine SW.g1 [0, 1, 2, 3, 4, 5, 6, 7, 9, 11, 37, 38, 39, 43] mixed (And.intro (whyS_2) (spl22)) c2 ?_ | refine SW.skip ?_ | refine SW.exit ?_ | refine SW.ret ?_ | refine SW.condT rfl ?_ | refine SW.condF rfl ?_))
      exact ⟨⟨3, by omega, fun j hj => by
        rcases Nat.lt_succ_iff_lt_or_eq.1 hj with hj | rfl
        · exact hz j hj
        · exact h0⟩, id, by dsimp only; omega, Weak.same (by simp) (by simp [EnvW, List.lookup, SV.ren, SV.rens_id, SV.ok, whyS_ok]) hH (fun x hx => hdrop _ x hx)⟩
    · rw [h0] at c2
      (repeat (first | refine SW.seq ?_ | refine SW.block ?_ | refine SW.g1 [0, 1, 2, 3, 4, 5, 6, 7, 9, 11, 37, 38, 39, 43] mixed (And.intro (whyS_2) (spl22)) c2 ?_ | refine SW.skip ?_ | refine SW.exit ?_ | refine SW.ret ?_ | refine SW.condT rfl ?_ | refine SW.condF rfl ?_))
      exact End.mk S.h0 (h4 := ⟨by rw [if_neg (by rw [z0]; simp)]; rw [if_neg (by rw [z1]; simp)]; rw [if_pos h0]; rfl, rfl⟩) (h6 := h6)
  | 3, _, hz =>
    have z0 : rb 0 = false := hz 0 (by omega)
    have z1 : rb 1 = false := hz 1 (by omega)
    have z2 : rb 2 = false := hz 2 (by omega)
    rcases (Bool.eq_false_or_eq_true (rb 3)).symm with h0 | h0
    · rw [h0] at c3
      (repeat (first | refine SW.seq ?_ | refine SW.block ?_ | refine SW.g1 [0, 1, 2, 3, 4, 5, 6, 7, 9, 11, 37, 38, 39, 43] mixed (And.intro (whyS_3) (spl22)) c3 ?_ | refine SW.skip ?_ | refine SW.exit ?_ | refine SW.ret ?_ | refine SW.condT rfl ?_ | refine SW.condF rfl ?_))
      exact ⟨⟨4, by omega, fun j hj => by
        rcases Nat.lt_succ_iff_lt_or_eq.1 hj with hj | rfl
        · exact hz j hj
        · exact h0⟩, id, by dsimp only; omega, Weak.same (by simp) (by simp [EnvW, List.lookup, SV.ren, SV.rens_id, SV.ok, whyS_ok]) hH (fun x hx => hdrop _ x hx)⟩
    · rw [h0] at c3
      (repeat (first | refine SW.seq ?_ | refine SW.block ?_ | refine SW.g1 [0, 1, 2, 3, 4, 5, 6, 7, 9, 11, 37, 38, 39, 43] mixed (And.intro (whyS_3) (spl22)) c3 ?_ | refine SW.skip ?_ | refine SW.exit ?_ | refine SW.ret ?_ | refine SW.condT rfl ?_ | refine SW.condF rfl ?_))
      exact End.mk S.h0 (h4 := ⟨by rw [if_neg (by rw [z0]; simp)]; rw [if_neg (by rw [z1]; simp)]; rw [if_neg (by rw [z2]; simp)]; rw [if_pos h0]; rfl, rfl⟩) (h6 := h6)
  | 4, _, hz =>
    have z0 : rb 0 = false := hz 0 (by omega)
    have z1 : rb 1 = false := hz 1 (by omega)
    have z2 : rb 2 = false := hz 2 (by omega)
    have z3 : rb 3 = false := hz 3 (by omega)
    rcases (Bool.eq_false_or_eq_true (rb 4)).symm with h0 | h0
    · rw [h0] at c4
      (repeat (first | refine SW.seq ?_ | refine SW.block ?_ | refine SW.g1 [0, 1, 2, 3, 4, 5, 6, 7, 9, 11, 37, 38, 39, 43] mixed (And.intro (whyS_4) (spl22)) c4 ?_ | refine SW.skip ?_ | refine SW.exit ?_ | refine SW.ret ?_ | refine SW.condT rfl ?_ | refine SW.condF rfl ?_))
      exact ⟨⟨5, by omega, fun j hj => by
        rcases Nat.lt_succ_iff_lt_or_eq.1 hj with hj | rfl
        · exact hz j hj
        · exact h0⟩, id, by dsimp only; omega, Weak.same (by simp) (by simp [EnvW, List.lookup, SV.ren, SV.rens_id, SV.ok, whyS_ok]) hH (fun x hx => hdrop _ x hx)⟩
    · rw [h0] at c4
      (repeat (first | refine SW.seq ?_ | refine SW.block ?_ | refine SW.g1 [0, 1, 2, 3, 4, 5, 6, 7, 9, 11, 37, 38, 39, 43] mixed (And.intro (whyS_4) (spl22)) c4 ?_ | refine SW.skip ?_ | refine SW.exit ?_ | refine SW.ret ?_ | refine SW.condT rfl ?_ | refine SW.condF rfl ?_))
      exact End.mk S.h0 (h4 := ⟨by rw [if_neg (by rw [z0]; simp)]; rw [if_neg (by rw [z1]; simp)]; rw [if_neg (by rw [z2]; simp)]; rw [if_neg (by rw [z3]; simp)]; rw [if_pos h0]; rfl, rfl⟩) (h6 := h6)
  | 5, _, hz =>
    have z0 : rb 0 = false := hz 0 (by omega)
    have z1 : rb 1 = false := hz 1 (by omega)
    have z2 : rb 2 = false := hz 2 (by omega)
    have z3 : rb 3 = false := hz 3 (by omega)
    have z4 : rb 4 = false := hz 4 (by omega)
    rcases (Bool.eq_false_or_eq_true (rb 5)).symm with h0 | h0
    · rw [h0] at c5
      (repeat (first | refine SW.seq ?_ | refine SW.block ?_ | refine SW.g1 [0, 1, 2, 3, 4, 5, 6, 7, 9, 11, 37, 38, 39, 43] mixed (And.intro (whyS_5) (spl22)) c5 ?_ | refine SW.skip ?_ | refine SW.exit ?_ | refine SW.ret ?_ | refine SW.condT rfl ?_ | refine SW.condF rfl ?_))
      exact ⟨⟨6, by omega, fun j hj => by
        rcases Nat.lt_succ_iff_lt_or_eq.1 hj with hj | rfl
        · exact hz j hj
        · exact h0⟩, id, by dsimp only; omega, Weak.same (by simp) (by simp [EnvW, List.lookup, SV.ren, SV.rens_id, SV.ok, whyS_ok]) hH (fun x hx => hdrop _ x hx)⟩
    · rw [h0] at c5
      (repeat (first | refine SW.seq ?_ | refine SW.block ?_ | refine SW.g1 [0, 1, 2, 3, 4, 5, 6, 7, 9, 11, 37, 38, 39, 43] mixed (And.intro (whyS_5) (spl22)) c5 ?_ | refine SW.skip ?_ | refine SW.exit ?_ | refine SW.ret ?_ | refine SW.condT rfl ?_ | refine SW.condF rfl ?_))
      exact End.mk S.h0 (h4 := ⟨by rw [if_neg (by rw [z0]; simp)]; rw [if_neg (by rw [z1]; simp)]; rw [if_neg (by rw [z2]; simp)]; rw [if_neg (by rw [z3]; simp)]; rw [if_neg (by rw [z4]; simp)]; rw [if_pos h0]; rfl, rfl⟩) (h6 := h6)
  | 6, _, hz =>
    have z0 : rb 0 = false := hz 0 (by omega)
    have z1 : rb 1 = false := hz 1 (by omega)
    have z2 : rb 2 = false := hz 2 (by omega)
    have z3 : rb 3 = false := hz 3 (by omega)
    have z4 : rb 4 = false := hz 4 (by omega)
    have z5 : rb 5 = false := hz 5 (by omega)
    rcases (Bool.eq_false_or_eq_true (rb 6)).symm with h0 | h0
    · rw [h0] at c6
      (repeat (first | refine SW.seq ?_ | refine SW.block ?_ | refine SW.g1 [0, 1, 2, 3, 4, 5, 6, 7, 9, 11, 37, 38, 39, 43] mixed (And.intro (whyS_6) (spl22)) c6 ?_ | refine SW.skip ?_ | refine SW.exit ?_ | refine SW.ret ?_ | refine SW.condT rfl ?_ | refine SW.condF rfl ?_))
      exact ⟨⟨7, by omega, fun j hj => by
        rcases Nat.lt_succ_iff_lt_or_eq.1 hj with hj | rfl
        · exact hz j hj
        · exact h0⟩, id, by dsimp only; omega, Weak.same (by simp) (by simp [EnvW, List.lookup, SV.ren, SV.rens_id, SV.ok, whyS_ok]) hH (fun x hx => hdrop _ x hx)⟩
    · rw [h0] at c6
      (repeat (first | refine SW.seq ?_ | refine SW.block ?_ | refine SW.g1 [0, 1, 2, 3, 4, 5, 6, 7, 9, 11, 37, 38, 39, 43] mixed (And.intro (whyS_6) (spl22)) c6 ?_ | refine SW.skip ?_ | refine SW.exit ?_ | refine SW.ret ?_ | refine SW.condT rfl ?_ | refine SW.condF rfl ?_))
      exact End.mk S.h0 (h4 := ⟨by rw [if_neg (by rw [z0]; simp)]; rw [if_neg (by rw [z1]; simp)]; rw [if_neg (by rw [z2]; simp)]; rw [if_neg (by rw [z3]; simp)]; rw [if_neg (by rw [z4]; simp)]; rw [if_neg (by rw [z5]; simp)]; rw [if_pos h0]; rfl, rfl⟩) (h6 := h6)
  | 7, _, hz =>
    have z0 : rb 0 = false := hz 0 (by omega)
    have z1 : rb 1 = false := hz 1 (by omega)
    have z2 : rb 2 = false := hz 2 (by omega)
    have z3 : rb 3 = false := hz 3 (by omega)
    have z4 : rb 4 = false := hz 4 (by omega)
    have z5 : rb 5 = false := hz 5 (by omega)
    have z6 : rb 6 = false := hz 6 (by omega)
    (repeat (first | refine SW.seq ?_ | refine SW.block ?_ | refine SW.g0 [0, 1, 2, 3, 4, 5, 6, 7, 9, 11, 37, 38, 39, 43] mixed bq_tt ?_ | refine SW.skip ?_ | refine SW.exit ?_ | refine SW.ret ?_ | refine SW.condT rfl ?_ | refine SW.condF rfl ?_))
    exact End.mk S.h0 (h4 := ⟨by rw [if_neg (by rw [z0]; simp)]; rw [if_neg (by rw [z1]; simp)]; rw [if_neg (by rw [z2]; simp)]; rw [if_neg (by rw [z3]; simp)]; rw [if_neg (by rw [z4]; simp)]; rw [if_neg (by rw [z5]; simp)]; rw [if_neg (by rw [z6]; simp)]; rfl, rfl⟩) (h6 := h6)
theorem swhy_at (S : Sh) (o : OpD) (hk : o.kind < 256) (ab : Bool) (hT : ∀ k, SCd Tryz.prog shape_Shape_target.f [.ptr 0 0, .agg o.cells] S.h0 k 0 (bl (S.tgt o ab)) S.h0) (n : Sn) (hn : n.ok) (k : Nat) :
    SCd Tryz.prog shape_Shape_Why.f [.ptr n.b 0, .agg o.cells] (S.hp n) k 0 (i64 (S.why o ab)) (S.hp n) :=
  S.at_ (swhy_sb S o hk ab hT) (fun ρ => by simp [SV.rens, SV.ren, OpD.cells_ren]) (fun _ => rfl) n hn k
end
end Go.Proofs.YtlgfknfdfnaedaaGreat
