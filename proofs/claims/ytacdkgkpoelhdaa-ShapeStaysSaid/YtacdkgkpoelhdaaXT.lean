/-
  For every row of operations the law that a history says the same as its beginnings answers true: the statement.
-/
import Derived.Test.YtacdkgkpoelhdaaTH
import Derived.Test.YtacdkgkpoelhdaaTK
set_option linter.unusedSectionVars false
set_option linter.unusedVariables false
set_option linter.unusedSimpArgs false
namespace Go.Proofs.Ytacdkgkpoelhdaa
open Go.Sl Go.Proofs
set_option maxRecDepth 100000 in
theorem shapeStays_fit : ∀ dss, FitAll Try.prog 7 Try.f7.params.toList dss → SB Try.prog 7 (argSVs Try.prog Try.f7.params.toList dss) [] 0 0 fun r F => r = bl true := by
  intro dss h
  have hp : Try.f7.params.toList = [T_L_api_Op, T_int, T_uint8] := by kernel_rfl
  rw [hp] at h ⊢
  obtain ⟨x0, x1, x2, rfl, h0, h1, h2⟩ := fitAll3 h
  obtain ⟨y, l, rfl, hl, ho, hw⟩ := ops_weak (d := 1) h0
  obtain ⟨n, _, rfl⟩ := fit_i64 (P := Try.prog) (d := 6) Try.underlying3 h1
  obtain ⟨q, hq, rfl⟩ := fit_u8 (P := Try.prog) (d := 6) Try.underlying5 h2
  simp only [argSVs, ops_arg, one_arg (t := T_int) _ (by kernel_rfl), one_arg (t := T_uint8) _ (by kernel_rfl)]
  exact SB.mono (SB.args (law_stays l n q hq (fun o h => ⟨(ho o h).1.dot, (ho o h).1.kind, (ho o h).2⟩) hl) rfl (fun p μ M vs hv => hw p μ M _ _ (fun _ h => h) vs hv)) fun r F h => h
open Go.ChangeShapes Go.WideShapes Go.ChangeAt Go.RowKit in
set_option maxRecDepth 100000 in
theorem shapeStays_step (os : Os) (started : os.Started) (H : Type) (enc : TypeId × Value → H) :
    ReturnsInHanded {} Try.checked os 7 .any (Rows.shapeStaysSpec.pre6 enc Try.prog Try.f7 Rows.shapeStaysRow.domain false) (Rows.shapeStaysSpec.post enc Try.prog Try.f7 false true false false) := by
  refine returnsInHanded_of_change (C := Try.checked) own started (by kernel_rfl) Try.func7
    (ChangeSpec.witness6 (enc := enc) (C := Try.checked) false ⟨#[], #[.slice none 0 0, .int .i64 0, .int .u8 0], []⟩ 8 (by kernel_rfl) (by kernel_rfl) (by kernel_rfl) (by kernel_rfl)) ?_
  intro W base args ds gs before hval hW hcnd _
  refine law_calls (f := 7) (fn := Try.f7) (spec := Rows.shapeStaysSpec) (tb := T_bool) 7 (by kernel_rfl) (by kernel_rfl) rfl (by kernel_rfl) rfl (fun ds hl => ?_) Rows.uptoBulk (Rows.uptoBulkAll ds) bulk (fun dss hf _ => ?_) W base args ds gs before hval hW (globOk_nil _) (bulk_mem ds)
  · rw [show Try.f7.params.toList.length = 3 from by kernel_rfl] at hl
    match ds, hl with
    | [d0, d1, d2], _ => exact ⟨rfl, rfl, rfl⟩
  · exact shapeStays_fit dss hf
theorem shapeStays_holds : Rows.ShapeStaysSaid :=
  OpenClaim.holds_of_wide 7 Try.f7 rfl rfl rfl rfl rfl rfl rfl ⟨rfl, rfl, rfl, rfl, rfl⟩ rfl rfl rfl rfl rfl (by kernel_rfl) Try.func7 (by kernel_rfl)
    (of_decide_eq_true (by kernel_rfl)) (by unfold Func.isWrapper; first | (rw [if_pos (by decide +kernel)]; kernel_rfl) | (rw [if_neg (by decide +kernel)]; exact ⟨rfl, rfl⟩))
    (fun os started H enc _ => shapeStays_step os started H enc)
end Go.Proofs.Ytacdkgkpoelhdaa
