/-
  Short rows of operations, with their kinds.
-/
import Derived.Test.YtemghnbbmahaaaaDoorUJ
set_option linter.unusedSectionVars false
set_option linter.unusedVariables false
set_option linter.unusedSimpArgs false
namespace Go.Proofs.YtemghnbbmahaaaaDoor
open Go.Sl Go.Proofs
set_option maxRecDepth 100000 in
theorem ops_small2 {d : Nat} {ds : List DV} (h : Fit Tryd.prog (d + 6) T_L_api_Op ds) (hs : smallR reachBytes ds) : ∃ x l, ds = [x] ∧ (RowR l ∧ ∀ o, o ∈ l → o.kind < 256) ∧
    ∀ (p : Nat → Prop) (μ : Nat → Nm) (M : Mem) (r r' : List SV) (hr : ∀ vs, Rps p μ M r' vs → Rps p μ M r vs) (vs : List Value), Rps p μ M (.d x :: r') vs → Rps p μ M (ops l :: r) vs := by
  rcases ops_fit h with rfl | ⟨l, hl, hn, rfl⟩
  · exact ⟨.nils, [], rfl, ⟨⟨by simp, by simp⟩, by simp⟩, fun p μ M r r' hr vs hv => rps_nil_row hr vs hv⟩
  · simp only [smallR, DV.small, and_true, reachBytes] at hs
    obtain ⟨h1, h2⟩ := hs
    rw [smallR_iff] at h2
    refine ⟨_, l.map OpD.nz, rfl, ⟨⟨by simpa using h1, fun o ho => ?_⟩, fun o ho => ?_⟩, fun p μ M r r' hr vs hv => ?_⟩
    · obtain ⟨q, hq, rfl⟩ := List.mem_map.1 ho
      have hk := (hl q hq).nz.1
      rcases (hl q hq).lines with e | ⟨cl, e, hcl, hcw⟩
      · have := OpD.lin.of (o := q.nz) (l := []) (by show Go.Sl.nz q.lines = _; rw [e]; rfl) (by simp)
        exact ⟨opR_of hk this.1 (by rw [this.2]; simp), by rw [this.2]; simp⟩
      · have hz := OpD.lin.of (o := q.nz) (l := cl) (by show Go.Sl.nz q.lines = _; rw [e]; rfl) hcl
        have hm := h2 _ (flat_memN hq (line_memN q))
        rw [e] at hm
        simp only [DV.small] at hm
        exact ⟨opR_of hk hz.1 (by rw [hz.2]; exact hcw), by rw [hz.2]; exact hm.1⟩
    · obtain ⟨q, hq, rfl⟩ := List.mem_map.1 ho
      exact (hl q hq).nz.1.kind
    · have := rps_nzr hr vs hv
      rw [← ops_nz] at this
      simpa [ops] using this
end Go.Proofs.YtemghnbbmahaaaaDoor
