/-
  Shapes: the head's operations and its row.
-/
import Derived.Test.YtlgfknfdfnaedaaGreatU6
import Derived.Test.YtlgfknfdfnaedaaGreatUJ
import Derived.Test.YtlgfknfdfnaedaaGreatU5
set_option linter.unusedSectionVars false
set_option linter.unusedVariables false
set_option linter.unusedSimpArgs false
namespace Go.Proofs.YtlgfknfdfnaedaaGreat
open Go.Sl Go.Proofs
attribute [local irreducible] SW RW SCd SC CallP Pruned
def actN (n kind who cred : Nat) : OpD := ⟨⟨0, n⟩, vec1 (n - 1), n, who, ⟨0, 1⟩, kind, ⟨0, cred⟩, 0, 0, 0, 0, ⟨0, 0⟩, ⟨0, 0⟩, 0, 0, 0, .nils⟩
def actO (n kind who cred : Nat) : OpD := (actN n kind who cred).nz
theorem SC.resd7 {P : Program} {f : FuncId} {args : List SV} {F F' : Hp} {k nk : Nat} {r r' : SV} (h : SCd P f args F k nk r F') (hr : ∀ (p : Nat → Prop) μ M u, Rp p μ M r u → Rp p μ M r' u) : SCd P f args F k nk r' F' := by
  unfold SCd SC at h ⊢
  refine ⟨h.1, fun p μ M w vals h1 h2 h3 => (h.2 p μ M w vals h1 h2 h3).mono ?_⟩
  rintro e w' ⟨r0, F0, μ', M', u, a, ⟨rfl, rfl⟩, b, c⟩
  exact ⟨r', F0, μ', M', u, a, ⟨rfl, rfl⟩, hr _ _ _ _ b, c⟩
end Go.Proofs.YtlgfknfdfnaedaaGreat
namespace Go.Proofs.YtlgfknfdfnaedaaGreat
open Go.Sl Go.Proofs
abbrev nK (k : Nat) : Sn := ⟨10 + k, 7 + k, 8 + k, 9 + k, 2 + k, 0 + k, 1 + k⟩
theorem Sh.h10_ren (S : Sh) (k : Nat) : Hp.ren (· + k) S.h10 = S.hp (nK k) := by
  simp only [Hp.ren, List.map_cons, List.map_nil, Ob.ren, SV.rens, SV.ren, cmap_ren, omap_ren, dvmap_ren, dmap_ren, Sh.hp]
theorem snew_at (l : List OpD) (hl : l.length < 1000000000) (hd : ∀ o, o ∈ l → o.kind < 256 ∧ o.lin) (k : Nat) : SC Tryz.prog shape_New.f [ops l] [] k 11 fun r F => ∃ S, ShOk l S ∧ r = .ptr (10 + k) 0 ∧ F = S.hp (nK k) := by
  have := SB.at (snew_sb l hl hd) (· + k) k (fun n m h => absurd h (Nat.not_lt_zero n)) (fun n h => absurd h (Nat.not_lt_zero n)) (fun i _ => by show 0 + i + k = k + i; omega)
  refine SC.mono (show SC Tryz.prog shape_New.f [ops l] [] k 11 _ from this) ?_
  rintro r F ⟨r0, F0, ⟨S, hS, rfl, rfl⟩, rfl, rfl⟩
  exact ⟨S, hS, rfl, S.h10_ren k⟩
theorem snew_0 (l : List OpD) (hl : l.length < 1000000000) (hd : ∀ o, o ∈ l → o.kind < 256 ∧ o.lin) : SC Tryz.prog shape_New.f [ops l] [] 0 11 fun r F => ∃ S, ShOk l S ∧ r = .ptr 10 0 ∧ F = S.h10 := snew_at l hl hd 0
section
variable {l : List OpD} {S : Sh} (h : ShOk l S)
include h
theorem ShOk.short (hd : ∀ o, o ∈ l → o.kind < 256 ∧ o.lin ∧ o.cl.length ≤ 1048576) : Short S := fun d o ho => by
  rw [h.base.ops.get] at ho
  exact hd o (findO_some ho).1
end
def o1 : OpD := actO 1 0 1 0
def o2 : OpD := { actO 2 1 1 1 with to := 2, roles := 2, cap := 9 }
def o3 : OpD := { actO 3 3 2 2 with qty := 1 }
def o4 : OpD := { actO 4 4 2 2 with at_ := ⟨0, 3⟩, qty := 2 }
def hrow : List OpD := [o1, o2, o3, o4]
theorem r21 : spl (actO 4 4 2 2).cells 21 (Dt.mk 0 3).cells = ({ actO 4 4 2 2 with at_ := ⟨0, 3⟩ } : OpD).cells := rfl
theorem d3 : spl (Dt.mk 0 0).cells 1 [.d (.int .u32 3)] = (Dt.mk 0 3).cells := rfl
theorem d4 : spl (Dt.mk 0 0).cells 1 [.d (.int .u32 4)] = (Dt.mk 0 4).cells := rfl
attribute [local irreducible] SW RW SCd SC CallP Pruned
end Go.Proofs.YtlgfknfdfnaedaaGreat
namespace Go.Proofs.YtlgfknfdfnaedaaGreat
open Go.Sl Go.Proofs
def hc1 : Cr := ⟨⟨0, 1⟩, ⟨0, 1⟩, ⟨0, 0⟩, 1, 7, 8, 1099511627776, 0⟩
def hc2 : Cr := ⟨⟨0, 2⟩, ⟨0, 1⟩, ⟨0, 1⟩, 2, 2, 0, 9, 1⟩
theorem whyL_of {l : List OpD} {o : OpD} {L : List Cr} {n : Nat} (hL : Ups (newTr l).at_ (MM.get (newTr l).at_ o.at_) L) (h : whyP l (newTr l).at_ (newTr l).made o (aboveR (newTr l).at_ o.cred o.at_ L) = n) : whyL l o = n := by
  unfold whyL
  rw [upsL_eq hL]; exact h
def hcm : List Cm := [⟨⟨0, 3⟩, ⟨0, 4⟩⟩]
def oSub : OpD := { actO 5 8 2 2 with lines := .sl 1 (hcm.flatMap Cm.ds) }
theorem lin0 {o : OpD} (h : o.lines = .sl 0 []) : o.lin := (OpD.lin.of (l := []) h (by simp)).1
section
variable {S : Sh} (h : ShOk hrow S)
include h
end
theorem s28 : spl (actO 5 8 2 2).cells 28 [.d (.sl 1 (hcm.flatMap Cm.ds))] = oSub.cells := rfl
attribute [local irreducible] SW RW SCd SC CallP Pruned
end Go.Proofs.YtlgfknfdfnaedaaGreat
