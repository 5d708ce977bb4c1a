/-
  For every operation the law of shapes that are none answers true: the statement.
-/
import Derived.Test.YtlgfknfdfnaedaaUH
import Derived.Test.YtlgfknfdfnaedaaUN
set_option linter.unusedSectionVars false
set_option linter.unusedVariables false
set_option linter.unusedSimpArgs false
namespace Go.Proofs.Ytlgfknfdfnaedaa
open Go.Sl Go.Proofs
set_option maxRecDepth 100000 in
theorem op_arg (o : OpD) : argSV Try.prog T_api_Op o.ds = .agg o.cells := by rw [argSV_agg (n := 29) (by kernel_rfl)]; rfl
set_option maxRecDepth 100000 in
theorem shapeNone_fit : ∀ dss, FitAll Try.prog 7 Try.f4.params.toList dss → SB Try.prog 4 (argSVs Try.prog Try.f4.params.toList dss) [] 0 0 fun r F => r = bl true := by
  intro dss h
  have hp : Try.f4.params.toList = [T_api_Op] := by kernel_rfl
  rw [hp] at h ⊢
  obtain ⟨x0, rfl, h0⟩ := fitAll1 h
  obtain ⟨o, _, rfl⟩ := op_fit (d := 2) h0
  simp only [argSVs, op_arg]
  exact law_none o
open Go.ChangeShapes Go.WideShapes Go.ChangeAt Go.RowKit in
set_option maxRecDepth 100000 in
theorem shapeNone_step (os : Os) (started : os.Started) (H : Type) (enc : TypeId × Value → H) :
    ReturnsInHanded {} Try.checked os 4 .any (Rows.shapeNoneSpec.pre6 enc Try.prog Try.f4 Rows.shapeNoneRow.domain false) (Rows.shapeNoneSpec.post enc Try.prog Try.f4 false true false false) := by
  refine returnsInHanded_of_change (C := Try.checked) own started (by kernel_rfl) Try.func4
    (ChangeSpec.witness6 (enc := enc) (C := Try.checked) false ⟨#[], #[.agg #[.int .u8 0, .int .u32 0, .int .u32 0, .int .u32 0, .int .u32 0, .int .u32 0, .int .u32 0, .int .u32 0, .int .u32 0, .int .u32 0, .int .u64 0, .int .u32 0, .int .u8 0, .int .u32 0, .int .u8 0, .int .u8 0, .int .u32 0, .int .u32 0, .int .u8 0, .int .u8 0, .int .u64 0, .int .u8 0, .int .u32 0, .int .u8 0, .int .u32 0, .int .u32 0, .int .u32 0, .int .u32 0, .slice none 0 0]], []⟩ 8 (by kernel_rfl) (by kernel_rfl) (by kernel_rfl) (by kernel_rfl)) ?_
  intro W base args ds gs before hval hW hcnd _
  refine law_calls (f := 4) (fn := Try.f4) (spec := Rows.shapeNoneSpec) (tb := T_bool) 7 (by kernel_rfl) (by kernel_rfl) rfl (by kernel_rfl) rfl (fun ds hl => ?_) Rows.uptoBulk (Rows.uptoBulkAll ds) bulk (fun dss hf _ => ?_) W base args ds gs before hval hW (globOk_nil _) (bulk_mem ds)
  · rw [show Try.f4.params.toList.length = 1 from by kernel_rfl] at hl
    match ds, hl with
    | [d0], _ => exact ⟨rfl, rfl, rfl⟩
  · exact shapeNone_fit dss hf
theorem shapeNone_holds : Rows.ShapeNoneSaid :=
  OpenClaim.holds_of_wide 4 Try.f4 rfl rfl rfl rfl rfl rfl rfl ⟨rfl, rfl, rfl, rfl, rfl⟩ rfl rfl rfl rfl rfl (by kernel_rfl) Try.func4 (by kernel_rfl)
    (of_decide_eq_true (by kernel_rfl)) (by unfold Func.isWrapper; first | (rw [if_pos (by decide +kernel)]; kernel_rfl) | (rw [if_neg (by decide +kernel)]; exact ⟨rfl, rfl⟩))
    (fun os started H enc _ => shapeNone_step os started H enc)
end Go.Proofs.Ytlgfknfdfnaedaa
