/-
  For every row of operations the law that operations of other carts do not count answers true: the statement.
-/
import Derived.Test.YtacdkgkpoelhdaaTH
import Derived.Test.YtacdkgkpoelhdaaTK
set_option linter.unusedSectionVars false
set_option linter.unusedVariables false
set_option linter.unusedSimpArgs false
namespace Go.Proofs.Ytacdkgkpoelhdaa
open Go.Sl Go.Proofs
set_option maxRecDepth 100000 in
theorem shapeCarts_fit : ∀ dss, FitAll Try.prog 7 Try.f8.params.toList dss → SB Try.prog 8 (argSVs Try.prog Try.f8.params.toList dss) [] 0 0 fun r F => r = bl true := by
  intro dss h
  have hp : Try.f8.params.toList = [T_L_api_Op, T_int] := by kernel_rfl
  rw [hp] at h ⊢
  obtain ⟨x0, x1, rfl, h0, h1⟩ := fitAll2 h
  obtain ⟨y, l, rfl, hl, ho, hw⟩ := ops_weak (d := 1) h0
  obtain ⟨n, _, rfl⟩ := fit_i64 (P := Try.prog) (d := 6) Try.underlying3 h1
  simp only [argSVs, ops_arg, one_arg (t := T_int) _ (by kernel_rfl)]
  exact SB.mono (SB.args (law_carts l n (fun o h => ⟨(ho o h).1.dot, (ho o h).1.kind, (ho o h).2⟩) hl) rfl (fun p μ M vs hv => hw p μ M _ _ (fun _ h => h) vs hv)) fun r F h => h
open Go.ChangeShapes Go.WideShapes Go.ChangeAt Go.RowKit in
set_option maxRecDepth 100000 in
theorem shapeCarts_step (os : Os) (started : os.Started) (H : Type) (enc : TypeId × Value → H) :
    ReturnsInHanded {} Try.checked os 8 .any (Rows.shapeCartsSpec.pre6 enc Try.prog Try.f8 Rows.shapeCartsRow.domain false) (Rows.shapeCartsSpec.post enc Try.prog Try.f8 false true false false) := by
  refine returnsInHanded_of_change (C := Try.checked) own started (by kernel_rfl) Try.func8
    (ChangeSpec.witness6 (enc := enc) (C := Try.checked) false ⟨#[], #[.slice none 0 0, .int .i64 0], []⟩ 8 (by kernel_rfl) (by kernel_rfl) (by kernel_rfl) (by kernel_rfl)) ?_
  intro W base args ds gs before hval hW hcnd _
  refine law_calls (f := 8) (fn := Try.f8) (spec := Rows.shapeCartsSpec) (tb := T_bool) 7 (by kernel_rfl) (by kernel_rfl) rfl (by kernel_rfl) rfl (fun ds hl => ?_) Rows.uptoBulk (Rows.uptoBulkAll ds) bulk (fun dss hf _ => ?_) W base args ds gs before hval hW (globOk_nil _) (bulk_mem ds)
  · rw [show Try.f8.params.toList.length = 2 from by kernel_rfl] at hl
    match ds, hl with
    | [d0, d1], _ => exact ⟨rfl, rfl, rfl⟩
  · exact shapeCarts_fit dss hf
theorem shapeCarts_holds : Rows.ShapeCartsSaid :=
  OpenClaim.holds_of_wide 8 Try.f8 rfl rfl rfl rfl rfl rfl rfl ⟨rfl, rfl, rfl, rfl, rfl⟩ rfl rfl rfl rfl rfl (by kernel_rfl) Try.func8 (by kernel_rfl)
    (of_decide_eq_true (by kernel_rfl)) (by unfold Func.isWrapper; first | (rw [if_pos (by decide +kernel)]; kernel_rfl) | (rw [if_neg (by decide +kernel)]; exact ⟨rfl, rfl⟩))
    (fun os started H enc _ => shapeCarts_step os started H enc)
end Go.Proofs.Ytacdkgkpoelhdaa
