/-
  For every row of operations and acks the law that what is stable was known answers true: the statement.
-/
import Derived.Test.YtacdkgkpoelhdaaJH
set_option linter.unusedSectionVars false
set_option linter.unusedVariables false
set_option linter.unusedSimpArgs false
namespace Go.Proofs.Ytacdkgkpoelhdaa
open Go.Sl Go.Proofs
theorem bytes_map : ∀ b : List Nat, (b.flatMap fun (x : Nat) => [DV.int .u8 (x : Int)]) = b.map fun (x : Nat) => DV.int .u8 (x : Int)
  | [] => rfl
  | x :: b => by rw [List.flatMap_cons, bytes_map b]; rfl
set_option maxRecDepth 100000 in
theorem bytes_fit {d : Nat} {ds : List DV} (h : Fit Try.prog (d + 2) T_L_uint8 ds) : ds = [.nils] ∨ ∃ l : List Nat, (∀ x ∈ l, x < 256) ∧ l.length ≤ 9223372036854775807 ∧ ds = [.sl l.length (l.flatMap fun (x : Nat) => [DV.int .u8 (x : Int)])] :=
  fit_slice (fun (x : Nat) => [DV.int .u8 (x : Int)]) (fun x => x < 256) (P := Try.prog) (t := T_L_uint8) (e := T_uint8) Try.underlying26 (fun _ h => fit_u8 (P := Try.prog) Try.underlying5 h) h
set_option maxRecDepth 100000 in
theorem stableSafe_fit : ∀ dss, FitAll Try.prog 7 Try.f3.params.toList dss → SB Try.prog 3 (argSVs Try.prog Try.f3.params.toList dss) [] 0 0 fun r F => r = bl true := by
  intro dss h
  have hp : Try.f3.params.toList = [T_L_api_Op, T_api_Vector, T_L_uint8] := by kernel_rfl
  rw [hp] at h ⊢
  obtain ⟨x0, x1, x2, rfl, h0, h1, h2⟩ := fitAll3 h
  obtain ⟨y, l, rfl, hl, ho, hw⟩ := ops_weak (d := 1) h0
  obtain ⟨v, hv, rfl⟩ := vec_fit (d := 5) h1
  rcases bytes_fit (d := 5) h2 with rfl | ⟨b, hb, hbl, rfl⟩
  · simp only [argSVs, ops_arg, vec_arg, one_arg (t := T_L_uint8) _ (by kernel_rfl)]
    exact SB.mono (SB.args (safe_body l v [] (by simp) (by simp) (fun o h => ⟨(ho o h).1.dot, (ho o h).1.kind, (ho o h).2⟩) hl) rfl (fun p μ M vs hv => hw p μ M _ _ (fun _ h => rps_keep (fun _ h => rps_nil_row (fun _ h => h) _ h) _ h) vs hv)) fun r F h => h.1
  · rw [bytes_map]
    simp only [argSVs, ops_arg, vec_arg, one_arg (t := T_L_uint8) _ (by kernel_rfl)]
    exact SB.mono (SB.args (safe_body l v b hb hbl (fun o h => ⟨(ho o h).1.dot, (ho o h).1.kind, (ho o h).2⟩) hl) rfl (fun p μ M vs hv => hw p μ M _ _ (fun _ h => h) vs hv)) fun r F h => h.1
open Go.ChangeShapes Go.WideShapes Go.ChangeAt Go.RowKit in
set_option maxRecDepth 100000 in
theorem stableSafe_step (os : Os) (started : os.Started) (H : Type) (enc : TypeId × Value → H) :
    ReturnsInHanded {} Try.checked os 3 .any (Rows.stableSafeSpec.pre6 enc Try.prog Try.f3 Rows.stableSafeRow.domain false) (Rows.stableSafeSpec.post enc Try.prog Try.f3 false true false false) := by
  refine returnsInHanded_of_change (C := Try.checked) own started (by kernel_rfl) Try.func3
    (ChangeSpec.witness6 (enc := enc) (C := Try.checked) false ⟨#[], #[.slice none 0 0, .agg #[.int .u32 0, .int .u32 0, .int .u32 0, .int .u32 0, .int .u32 0, .int .u32 0, .int .u32 0, .int .u32 0], .slice none 0 0], []⟩ 8 (by kernel_rfl) (by kernel_rfl) (by kernel_rfl) (by kernel_rfl)) ?_
  intro W base args ds gs before hval hW hcnd _
  refine law_calls (f := 3) (fn := Try.f3) (spec := Rows.stableSafeSpec) (tb := T_bool) 7 (by kernel_rfl) (by kernel_rfl) rfl (by kernel_rfl) rfl (fun ds hl => ?_) Rows.uptoBulk (Rows.uptoBulkAll ds) bulk (fun dss hf _ => ?_) W base args ds gs before hval hW (globOk_nil _) (bulk_mem ds)
  · rw [show Try.f3.params.toList.length = 3 from by kernel_rfl] at hl
    match ds, hl with
    | [d0, d1, d2], _ => exact ⟨rfl, rfl, rfl⟩
  · exact stableSafe_fit dss hf
theorem stableSafe_holds : Rows.StableSafeSaid :=
  OpenClaim.holds_of_wide 3 Try.f3 rfl rfl rfl rfl rfl rfl rfl ⟨rfl, rfl, rfl, rfl, rfl⟩ rfl rfl rfl rfl rfl (by kernel_rfl) Try.func3 (by kernel_rfl)
    (of_decide_eq_true (by kernel_rfl)) (by unfold Func.isWrapper; first | (rw [if_pos (by decide +kernel)]; kernel_rfl) | (rw [if_neg (by decide +kernel)]; exact ⟨rfl, rfl⟩))
    (fun os started H enc _ => stableSafe_step os started H enc)
end Go.Proofs.Ytacdkgkpoelhdaa
