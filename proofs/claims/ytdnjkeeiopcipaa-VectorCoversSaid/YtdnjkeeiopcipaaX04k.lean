/-
  For every input the laws of vectors answer true: the statements.
-/
import Derived.Test.YtdnjkeeiopcipaaRows
import Derived.Test.YtdnjkeeiopcipaaX04j
import Derived.JoinedCond
set_option linter.unusedSectionVars false
set_option linter.unusedVariables false
set_option linter.unusedSimpArgs false
namespace Go.Proofs.Ytdnjkeeiopcipaa
open Go.Sl Go.Proofs

theorem own : ownKnob Try.prog.godebug = none := by kernel_rfl
theorem argSV_agg {P : Program} {t : TypeId} {n : Nat} {ds : List DV} (h : tySz P t = some (some n)) : argSV P t ds = .agg (ds.map .d) := by simp [argSV, h]
theorem argSV_one {P : Program} {t : TypeId} {ds : List DV} (h : tySz P t = some none) : argSV P t ds = .d (ds.headD .nilp) := by simp [argSV, h]
set_option maxRecDepth 100000 in
theorem vec_fit {d : Nat} {ds : List DV} (h : Fit Try.prog (d + 2) T_api_Vector ds) : ∃ v : Vec, v.wf ∧ ds = v.ds :=
  fit_vec (P := Try.prog) (t := T_api_Vector) (e := T_uint32) Try.underlying25 Try.underlying23 (by kernel_rfl) (by kernel_rfl) h
set_option maxRecDepth 100000 in
theorem dot_fit {d : Nat} {ds : List DV} (h : Fit Try.prog (d + 2) T_api_Dot ds) : ∃ v : Dt, v.wf ∧ ds = v.ds :=
  fit_dot (P := Try.prog) (t := T_api_Dot) Try.underlying44 rfl rfl rfl rfl (by kernel_rfl) (by kernel_rfl) (by kernel_rfl) (by kernel_rfl) (by kernel_rfl) h
theorem vec_arg (v : Vec) : argSV Try.prog T_api_Vector v.ds = .agg v.cells := by rw [argSV_agg (n := 8) (by kernel_rfl), Vec.map_ds]
theorem dot_arg (v : Dt) : argSV Try.prog T_api_Dot v.ds = .agg v.cells := by rw [argSV_agg (n := 2) (by kernel_rfl), Dt.map_ds]

set_option maxRecDepth 100000 in
theorem covers_fit : ∀ dss, FitAll Try.prog 6 Try.f7.params.toList dss → SB Try.prog 7 (argSVs Try.prog Try.f7.params.toList dss) [] 0 0 fun r F => r = bl true := by
  intro dss h
  rw [show Try.f7.params.toList = [T_api_Vector, T_api_Vector, T_api_Dot] from by kernel_rfl] at h ⊢
  match dss, h with
  | [x, y, z], h =>
    simp only [FitAll] at h
    obtain ⟨h1, h2, h3, _⟩ := h
    obtain ⟨a, ha, rfl⟩ := vec_fit h1
    obtain ⟨b, hb, rfl⟩ := vec_fit h2
    obtain ⟨d, hd, rfl⟩ := dot_fit h3
    simp only [argSVs, vec_arg, dot_arg]
    exact SB.mono (law_covers a b d ha hb hd) fun r F h => h.1
open Go.ChangeShapes Go.WideShapes Go.ChangeAt Go.RowKit in
set_option maxRecDepth 100000 in
theorem vectorCovers_step (os : Os) (started : os.Started) (H : Type) (enc : TypeId × Value → H) :
    ReturnsInHanded {} Try.checked os 7 .any (Rows.vectorCoversSpec.pre6 enc Try.prog Try.f7 Rows.vectorCoversRow.domain false) (Rows.vectorCoversSpec.post enc Try.prog Try.f7 false true false false) := by
  refine returnsInHanded_of_change (C := Try.checked) own started (by kernel_rfl) Try.func7
    (ChangeSpec.witness6 (enc := enc) (C := Try.checked) false ⟨#[], #[.agg #[.int .u32 0, .int .u32 0, .int .u32 0, .int .u32 0, .int .u32 0, .int .u32 0, .int .u32 0, .int .u32 0], .agg #[.int .u32 0, .int .u32 0, .int .u32 0, .int .u32 0, .int .u32 0, .int .u32 0, .int .u32 0, .int .u32 0], .agg #[.int .u8 0, .int .u32 0]], []⟩ 8 (by kernel_rfl) (by kernel_rfl) (by kernel_rfl) (by kernel_rfl)) ?_
  intro W base args ds gs before hval hW hcnd _
  refine law_calls (f := 7) (fn := Try.f7) (spec := Rows.vectorCoversSpec) (tb := T_bool) 6 (by kernel_rfl) (by kernel_rfl) rfl (by kernel_rfl) rfl (fun ds hl => ?_) (fun dss hf => ?_) W base args ds gs before hval hW
  · rw [show Try.f7.params.toList.length = 3 from by kernel_rfl] at hl
    match ds, hl with
    | [d0, d1, d2], _ => exact ⟨rfl, rfl, rfl⟩
  · exact covers_fit dss hf
theorem vectorCovers_holds : Rows.VectorCoversSaid :=
  OpenClaim.holds_of_wide 7 Try.f7 rfl rfl rfl rfl rfl rfl rfl ⟨rfl, rfl, rfl, rfl, rfl⟩ rfl rfl rfl rfl rfl (by kernel_rfl) Try.func7 (by kernel_rfl)
    (of_decide_eq_true (by kernel_rfl)) (by unfold Func.isWrapper; first | (rw [if_pos (by decide +kernel)]; kernel_rfl) | (rw [if_neg (by decide +kernel)]; exact ⟨rfl, rfl⟩))
    (fun os started H enc _ => vectorCovers_step os started H enc)
end Go.Proofs.Ytdnjkeeiopcipaa
