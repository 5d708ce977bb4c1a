/-
  What the statements' arguments read as: operations with their lines, and rows of them.
-/
import Derived.Test.YtlgfknfdfnaedaaUV
import Derived.Test.YtlgfknfdfnaedaaU5
set_option linter.unusedSectionVars false
set_option linter.unusedVariables false
set_option linter.unusedSimpArgs false
namespace Go.Proofs.Ytlgfknfdfnaedaa
open Go.Sl Go.Proofs
theorem argSV_agg {P : Program} {t : TypeId} {n : Nat} {ds : List DV} (h : tySz P t = some (some n)) : argSV P t ds = .agg (ds.map .d) := by simp [argSV, h]
set_option maxRecDepth 100000 in
theorem dot_fit {d : Nat} {ds : List DV} (h : Fit Try.prog (d + 2) T_api_Dot ds) : ∃ x : Dt, x.wf ∧ ds = x.ds :=
  fit_dot (P := Try.prog) (t := T_api_Dot) Try.underlying31 rfl rfl rfl rfl Try.underlying5 Try.underlying29 (by kernel_rfl) (by kernel_rfl) (by kernel_rfl) h
theorem own : ownKnob Try.prog.godebug = none := by kernel_rfl
def i64ok (n : Int) : Prop := -9223372036854775808 ≤ n ∧ n ≤ 9223372036854775807
theorem fit_i64 {P : Program} {d : Nat} {t : TypeId} {ds : List DV} (hu : P.underlying t = some (.int .i64)) (h : Fit P (d + 1) t ds) : ∃ n : Int, i64ok n ∧ ds = [.int .i64 n] := by
  simp only [Fit] at h
  rw [hu] at h
  obtain ⟨n, rfl, hw⟩ := h
  refine ⟨n, ?_, rfl⟩
  simp only [Lit.wf, IntKind.min, IntKind.max, Bool.and_eq_true, decide_eq_true_eq] at hw
  unfold i64ok
  revert hw
  simp [IntKind.bits, IntKind.signed]
theorem globOk_nil (M : Mem) : GlobOk M := fun g cs hg => by simp [globs, rawGlobs] at hg
end Go.Proofs.Ytlgfknfdfnaedaa
