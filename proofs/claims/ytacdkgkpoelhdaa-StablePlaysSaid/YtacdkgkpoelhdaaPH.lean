/-
  What the statements' arguments read as: operations with their lines, and rows of them.
-/
import Derived.Test.YtacdkgkpoelhdaaPV
import Derived.Test.YtacdkgkpoelhdaaP5
import Derived.Test.YtacdkgkpoelhdaaRows
import Derived.JoinedCond
set_option linter.unusedSectionVars false
set_option linter.unusedVariables false
set_option linter.unusedSimpArgs false
namespace Go.Proofs.Ytacdkgkpoelhdaa
open Go.Sl Go.Proofs
theorem argSV_one {P : Program} {t : TypeId} {ds : List DV} (h : tySz P t = some none) : argSV P t ds = .d (ds.headD .nilp) := by simp [argSV, h]
set_option maxRecDepth 100000 in
theorem vec_fit {d : Nat} {ds : List DV} (h : Fit Try.prog (d + 2) T_api_Vector ds) : ∃ v : Vec, v.wf ∧ ds = v.ds :=
  fit_vec (P := Try.prog) (t := T_api_Vector) (e := T_uint32) Try.underlying25 Try.underlying23 (by kernel_rfl) (by kernel_rfl) h
theorem own : ownKnob Try.prog.godebug = none := by kernel_rfl
theorem one_arg {t : TypeId} (x : DV) (h : tySz Try.prog t = some none) : argSV Try.prog t [x] = .d x := by rw [argSV_one h]; rfl
def i64ok (n : Int) : Prop := -9223372036854775808 ≤ n ∧ n ≤ 9223372036854775807
theorem fit_i64 {P : Program} {d : Nat} {t : TypeId} {ds : List DV} (hu : P.underlying t = some (.int .i64)) (h : Fit P (d + 1) t ds) : ∃ n : Int, i64ok n ∧ ds = [.int .i64 n] := by
  simp only [Fit] at h
  rw [hu] at h
  obtain ⟨n, rfl, hw⟩ := h
  refine ⟨n, ?_, rfl⟩
  simp only [Lit.wf, IntKind.min, IntKind.max, Bool.and_eq_true, decide_eq_true_eq] at hw
  unfold i64ok
  revert hw
  simp [IntKind.bits, IntKind.signed]
theorem globOk_nil (M : Mem) : GlobOk M := fun g cs hg => by simp [globs, rawGlobs] at hg
theorem fitAll3 {P : Program} {d : Nat} {t1 t2 t3 : TypeId} {dss : List (List DV)} (h : FitAll P d [t1, t2, t3] dss) : ∃ x0 x1 x2, dss = [x0, x1, x2] ∧ Fit P d t1 x0 ∧ Fit P d t2 x1 ∧ Fit P d t3 x2 := by
  match dss, h with
  | [x0, x1, x2], h =>
    simp only [FitAll] at h
    exact ⟨x0, x1, x2, rfl, h.1, h.2.1, h.2.2.1⟩
end Go.Proofs.Ytacdkgkpoelhdaa
namespace Go.Proofs.Ytacdkgkpoelhdaa
open Go.Sl Go.Proofs
theorem bulk_pos {H : Type} (x : DataW H) : 1 ≤ Rows.uptoBulk x := by
  unfold Rows.uptoBulk
  split <;> omega
theorem bulk_mem {H : Type} : ∀ (es : List (DataW H)) (x : DataW H), x ∈ es → Rows.uptoBulk x ≤ Rows.uptoBulkAll es
  | y :: es, x, h => by
    rw [Rows.uptoBulkAll]
    rcases List.mem_cons.1 h with rfl | h
    · omega
    · have := bulk_mem es x h; omega
theorem bulk_len {H : Type} : ∀ (es : List (DataW H)), es.length ≤ Rows.uptoBulkAll es
  | [] => by simp [Rows.uptoBulkAll]
  | y :: es => by
    have h1 := bulk_len es
    have h2 := bulk_pos y
    rw [Rows.uptoBulkAll, List.length_cons]; omega
theorem bulk {H : Type} : Bulk (H := H) Rows.uptoBulk := by
  refine ⟨fun es sp x hx => ?_, fun es sp => ?_, fun xs x hx => ?_⟩
  · have := bulk_mem es x hx
    rw [Rows.uptoBulk]; omega
  · have := bulk_len es
    rw [Rows.uptoBulk]; omega
  · have := bulk_mem xs x hx
    rw [Rows.uptoBulk]; omega
end Go.Proofs.Ytacdkgkpoelhdaa
