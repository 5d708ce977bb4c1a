/-
  For every input the laws of dots answer true: the statements.
-/
import Derived.Test.YtkklgckpaajoeaaRows
import Derived.Test.YtkklgckpaajoeaaM03e
import Derived.JoinedCond
set_option linter.unusedSectionVars false
set_option linter.unusedVariables false
set_option linter.unusedSimpArgs false
namespace Go.Proofs.Ytkklgckpaajoeaa
open Go.Sl Go.Proofs

theorem own : ownKnob Try.prog.godebug = none := by kernel_rfl
theorem argSV_agg {P : Program} {t : TypeId} {n : Nat} {ds : List DV} (h : tySz P t = some (some n)) : argSV P t ds = .agg (ds.map .d) := by simp [argSV, h]
theorem argSV_one {P : Program} {t : TypeId} {ds : List DV} (h : tySz P t = some none) : argSV P t ds = .d (ds.headD .nilp) := by simp [argSV, h]
set_option maxRecDepth 100000 in
theorem dot_fit {d : Nat} {ds : List DV} (h : Fit Try.prog (d + 2) T_api_Dot ds) : ∃ v : Dt, v.wf ∧ ds = v.ds :=
  fit_dot (P := Try.prog) (t := T_api_Dot) Try.underlying24 rfl rfl rfl rfl (by kernel_rfl) (by kernel_rfl) (by kernel_rfl) (by kernel_rfl) (by kernel_rfl) h
theorem dot_arg (v : Dt) : argSV Try.prog T_api_Dot v.ds = .agg v.cells := by rw [argSV_agg (n := 2) (by kernel_rfl), Dt.map_ds]
theorem rps_nils {p : Nat → Prop} {μ : Nat → Nm} {M : Mem} {r r' : List SV} (hr : ∀ vs, Rps p μ M r' vs → Rps p μ M r vs) (vs : List Value) (h : Rps p μ M (.d .nils :: r') vs) : Rps p μ M (.d (.sl 0 []) :: r) vs := by
  obtain ⟨u, us, rfl, h1, h2⟩ := Rps.cons_iff.1 h
  exact Rps.cons_iff.2 ⟨u, us, rfl, nils_sl p μ M u h1, hr us h2⟩
theorem rps_more {p : Nat → Prop} {μ : Nat → Nm} {M : Mem} {x : SV} {r r' : List SV} (hr : ∀ vs, Rps p μ M r' vs → Rps p μ M r vs) (vs : List Value) (h : Rps p μ M (x :: r') vs) : Rps p μ M (x :: r) vs := by
  obtain ⟨u, us, rfl, h1, h2⟩ := Rps.cons_iff.1 h
  exact Rps.cons_iff.2 ⟨u, us, rfl, h1, hr us h2⟩
set_option maxRecDepth 100000 in
theorem dots_fit {d : Nat} {ds : List DV} (h : Fit Try.prog (d + 3) T_L_api_Dot ds) : ds = [.nils] ∨ ∃ l : List Dt, (∀ x ∈ l, x.wf) ∧ l.length ≤ 9223372036854775807 ∧ ds = [.sl l.length (l.flatMap Dt.ds)] :=
  fit_slice Dt.ds Dt.wf (P := Try.prog) (t := T_L_api_Dot) (e := T_api_Dot) Try.underlying39 (fun _ h => dot_fit h) h
theorem row_arg (x : DV) : argSV Try.prog T_L_api_Dot [x] = .d x := by rw [argSV_one (by kernel_rfl)]; rfl
theorem u8_arg (x : DV) : argSV Try.prog T_uint8 [x] = .d x := by rw [argSV_one (by kernel_rfl)]; rfl
theorem u32_arg (x : DV) : argSV Try.prog T_uint32 [x] = .d x := by rw [argSV_one (by kernel_rfl)]; rfl
theorem u64_arg (x : DV) : argSV Try.prog T_uint64 [x] = .d x := by rw [argSV_one (by kernel_rfl)]; rfl

set_option maxRecDepth 100000 in
theorem dotKeys_fit : ∀ dss, FitAll Try.prog 6 Try.f3.params.toList dss → SB Try.prog 3 (argSVs Try.prog Try.f3.params.toList dss) [] 0 0 fun r F => r = bl true := by
  intro dss h
  rw [show Try.f3.params.toList = [T_api_Dot, T_api_Dot, T_uint64] from by kernel_rfl] at h ⊢
  match dss, h with
  | [x0, x1, x2], h =>
    simp only [FitAll] at h
    obtain ⟨h0, h1, h2, _⟩ := h
    obtain ⟨a0, w0, rfl⟩ := dot_fit h0
    obtain ⟨a1, w1, rfl⟩ := dot_fit h1
    obtain ⟨a2, w2, rfl⟩ := fit_u64 Try.underlying25 h2
    simp only [argSVs, dot_arg, u64_arg]
    exact SB.mono (law_keys a0 a1 a2 w0 w1 w2) fun r F h => h.1
open Go.ChangeShapes Go.WideShapes Go.ChangeAt Go.RowKit in
set_option maxRecDepth 100000 in
theorem dotKeys_step (os : Os) (started : os.Started) (H : Type) (enc : TypeId × Value → H) :
    ReturnsInHanded {} Try.checked os 3 .any (Rows.dotKeysSpec.pre6 enc Try.prog Try.f3 Rows.dotKeysRow.domain false) (Rows.dotKeysSpec.post enc Try.prog Try.f3 false true false false) := by
  refine returnsInHanded_of_change (C := Try.checked) own started (by kernel_rfl) Try.func3
    (ChangeSpec.witness6 (enc := enc) (C := Try.checked) false ⟨#[], #[.agg #[.int .u8 0, .int .u32 0], .agg #[.int .u8 0, .int .u32 0], .int .u64 0], []⟩ 8 (by kernel_rfl) (by kernel_rfl) (by kernel_rfl) (by kernel_rfl)) ?_
  intro W base args ds gs before hval hW hcnd _
  refine law_calls (f := 3) (fn := Try.f3) (spec := Rows.dotKeysSpec) (tb := T_bool) 6 (by kernel_rfl) (by kernel_rfl) rfl (by kernel_rfl) rfl (fun ds hl => ?_) (fun dss hf => ?_) W base args ds gs before hval hW
  · rw [show Try.f3.params.toList.length = 3 from by kernel_rfl] at hl
    match ds, hl with
    | [d0, d1, d2], _ => exact ⟨rfl, rfl, rfl⟩
  · exact dotKeys_fit dss hf
theorem dotKeys_holds : Rows.DotKeysSaid :=
  OpenClaim.holds_of_wide 3 Try.f3 rfl rfl rfl rfl rfl rfl rfl ⟨rfl, rfl, rfl, rfl, rfl⟩ rfl rfl rfl rfl rfl (by kernel_rfl) Try.func3 (by kernel_rfl)
    (of_decide_eq_true (by kernel_rfl)) (by unfold Func.isWrapper; first | (rw [if_pos (by decide +kernel)]; kernel_rfl) | (rw [if_neg (by decide +kernel)]; exact ⟨rfl, rfl⟩))
    (fun os started H enc _ => dotKeys_step os started H enc)
set_option maxRecDepth 100000 in
theorem dotRange_fit : ∀ dss, FitAll Try.prog 6 Try.f4.params.toList dss → SB Try.prog 4 (argSVs Try.prog Try.f4.params.toList dss) [] 0 0 fun r F => r = bl true := by
  intro dss h
  rw [show Try.f4.params.toList = [T_uint8, T_uint32, T_uint32] from by kernel_rfl] at h ⊢
  match dss, h with
  | [x0, x1, x2], h =>
    simp only [FitAll] at h
    obtain ⟨h0, h1, h2, _⟩ := h
    obtain ⟨a0, w0, rfl⟩ := fit_u8 Try.underlying5 h0
    obtain ⟨a1, w1, rfl⟩ := fit_u32 Try.underlying22 h1
    obtain ⟨a2, w2, rfl⟩ := fit_u32 Try.underlying22 h2
    simp only [argSVs, u8_arg, u32_arg]
    exact SB.mono (law_range a0 a1 a2 w0 w1 w2) fun r F h => h.1
open Go.ChangeShapes Go.WideShapes Go.ChangeAt Go.RowKit in
set_option maxRecDepth 100000 in
theorem dotRange_step (os : Os) (started : os.Started) (H : Type) (enc : TypeId × Value → H) :
    ReturnsInHanded {} Try.checked os 4 .any (Rows.dotRangeSpec.pre6 enc Try.prog Try.f4 Rows.dotRangeRow.domain false) (Rows.dotRangeSpec.post enc Try.prog Try.f4 false true false false) := by
  refine returnsInHanded_of_change (C := Try.checked) own started (by kernel_rfl) Try.func4
    (ChangeSpec.witness6 (enc := enc) (C := Try.checked) false ⟨#[], #[.int .u8 0, .int .u32 0, .int .u32 0], []⟩ 8 (by kernel_rfl) (by kernel_rfl) (by kernel_rfl) (by kernel_rfl)) ?_
  intro W base args ds gs before hval hW hcnd _
  refine law_calls (f := 4) (fn := Try.f4) (spec := Rows.dotRangeSpec) (tb := T_bool) 6 (by kernel_rfl) (by kernel_rfl) rfl (by kernel_rfl) rfl (fun ds hl => ?_) (fun dss hf => ?_) W base args ds gs before hval hW
  · rw [show Try.f4.params.toList.length = 3 from by kernel_rfl] at hl
    match ds, hl with
    | [d0, d1, d2], _ => exact ⟨rfl, rfl, rfl⟩
  · exact dotRange_fit dss hf
theorem dotRange_holds : Rows.DotRangeSaid :=
  OpenClaim.holds_of_wide 4 Try.f4 rfl rfl rfl rfl rfl rfl rfl ⟨rfl, rfl, rfl, rfl, rfl⟩ rfl rfl rfl rfl rfl (by kernel_rfl) Try.func4 (by kernel_rfl)
    (of_decide_eq_true (by kernel_rfl)) (by unfold Func.isWrapper; first | (rw [if_pos (by decide +kernel)]; kernel_rfl) | (rw [if_neg (by decide +kernel)]; exact ⟨rfl, rfl⟩))
    (fun os started H enc _ => dotRange_step os started H enc)
set_option maxRecDepth 100000 in
theorem dotOrder_fit : ∀ dss, FitAll Try.prog 6 Try.f5.params.toList dss → SB Try.prog 5 (argSVs Try.prog Try.f5.params.toList dss) [] 0 0 fun r F => r = bl true := by
  intro dss h
  rw [show Try.f5.params.toList = [T_api_Dot, T_api_Dot, T_api_Dot] from by kernel_rfl] at h ⊢
  match dss, h with
  | [x0, x1, x2], h =>
    simp only [FitAll] at h
    obtain ⟨h0, h1, h2, _⟩ := h
    obtain ⟨a0, w0, rfl⟩ := dot_fit h0
    obtain ⟨a1, w1, rfl⟩ := dot_fit h1
    obtain ⟨a2, w2, rfl⟩ := dot_fit h2
    simp only [argSVs, dot_arg]
    exact SB.mono (law_order a0 a1 a2 w0 w1) fun r F h => h.1
open Go.ChangeShapes Go.WideShapes Go.ChangeAt Go.RowKit in
set_option maxRecDepth 100000 in
theorem dotOrder_step (os : Os) (started : os.Started) (H : Type) (enc : TypeId × Value → H) :
    ReturnsInHanded {} Try.checked os 5 .any (Rows.dotOrderSpec.pre6 enc Try.prog Try.f5 Rows.dotOrderRow.domain false) (Rows.dotOrderSpec.post enc Try.prog Try.f5 false true false false) := by
  refine returnsInHanded_of_change (C := Try.checked) own started (by kernel_rfl) Try.func5
    (ChangeSpec.witness6 (enc := enc) (C := Try.checked) false ⟨#[], #[.agg #[.int .u8 0, .int .u32 0], .agg #[.int .u8 0, .int .u32 0], .agg #[.int .u8 0, .int .u32 0]], []⟩ 8 (by kernel_rfl) (by kernel_rfl) (by kernel_rfl) (by kernel_rfl)) ?_
  intro W base args ds gs before hval hW hcnd _
  refine law_calls (f := 5) (fn := Try.f5) (spec := Rows.dotOrderSpec) (tb := T_bool) 6 (by kernel_rfl) (by kernel_rfl) rfl (by kernel_rfl) rfl (fun ds hl => ?_) (fun dss hf => ?_) W base args ds gs before hval hW
  · rw [show Try.f5.params.toList.length = 3 from by kernel_rfl] at hl
    match ds, hl with
    | [d0, d1, d2], _ => exact ⟨rfl, rfl, rfl⟩
  · exact dotOrder_fit dss hf
theorem dotOrder_holds : Rows.DotOrderSaid :=
  OpenClaim.holds_of_wide 5 Try.f5 rfl rfl rfl rfl rfl rfl rfl ⟨rfl, rfl, rfl, rfl, rfl⟩ rfl rfl rfl rfl rfl (by kernel_rfl) Try.func5 (by kernel_rfl)
    (of_decide_eq_true (by kernel_rfl)) (by unfold Func.isWrapper; first | (rw [if_pos (by decide +kernel)]; kernel_rfl) | (rw [if_neg (by decide +kernel)]; exact ⟨rfl, rfl⟩))
    (fun os started H enc _ => dotOrder_step os started H enc)
set_option maxRecDepth 100000 in
theorem dotSets_fit : ∀ dss, FitAll Try.prog 6 Try.f6.params.toList dss → SB Try.prog 6 (argSVs Try.prog Try.f6.params.toList dss) [] 0 0 fun r F => r = bl true := by
  intro dss h
  rw [show Try.f6.params.toList = [T_L_api_Dot, T_L_api_Dot] from by kernel_rfl] at h ⊢
  match dss, h with
  | [x0, x1], h =>
    simp only [FitAll] at h
    obtain ⟨h0, h1, _⟩ := h
    rcases dots_fit h0 with rfl | ⟨a0, w0, n0, rfl⟩ <;> rcases dots_fit h1 with rfl | ⟨a1, w1, n1, rfl⟩ <;> simp only [argSVs, row_arg]
    · exact SB.mono (SB.args (law_sets [] [] (by simp) (by simp)) rfl (fun p μ M vs => rps_nils (fun _ h => rps_nils (fun _ h => h) _ h) vs)) fun r F h => h.1
    · exact SB.mono (SB.args (law_sets [] a1 (by simp) w1) rfl (fun p μ M vs => rps_nils (fun _ h => h) vs)) fun r F h => h.1
    · exact SB.mono (SB.args (law_sets a0 [] w0 (by simp)) rfl (fun p μ M vs => rps_more (fun _ h => rps_nils (fun _ h => h) _ h) vs)) fun r F h => h.1
    · exact SB.mono (law_sets a0 a1 w0 w1) fun r F h => h.1
open Go.ChangeShapes Go.WideShapes Go.ChangeAt Go.RowKit in
set_option maxRecDepth 100000 in
theorem dotSets_step (os : Os) (started : os.Started) (H : Type) (enc : TypeId × Value → H) :
    ReturnsInHanded {} Try.checked os 6 .any (Rows.dotSetsSpec.pre6 enc Try.prog Try.f6 Rows.dotSetsRow.domain false) (Rows.dotSetsSpec.post enc Try.prog Try.f6 false true false false) := by
  refine returnsInHanded_of_change (C := Try.checked) own started (by kernel_rfl) Try.func6
    (ChangeSpec.witness6 (enc := enc) (C := Try.checked) false ⟨#[], #[.slice none 0 0, .slice none 0 0], []⟩ 8 (by kernel_rfl) (by kernel_rfl) (by kernel_rfl) (by kernel_rfl)) ?_
  intro W base args ds gs before hval hW hcnd _
  refine law_calls (f := 6) (fn := Try.f6) (spec := Rows.dotSetsSpec) (tb := T_bool) 6 (by kernel_rfl) (by kernel_rfl) rfl (by kernel_rfl) rfl (fun ds hl => ?_) (fun dss hf => ?_) W base args ds gs before hval hW
  · rw [show Try.f6.params.toList.length = 2 from by kernel_rfl] at hl
    match ds, hl with
    | [d0, d1], _ => exact ⟨rfl, rfl, rfl⟩
  · exact dotSets_fit dss hf
theorem dotSets_holds : Rows.DotSetsSaid :=
  OpenClaim.holds_of_wide 6 Try.f6 rfl rfl rfl rfl rfl rfl rfl ⟨rfl, rfl, rfl, rfl, rfl⟩ rfl rfl rfl rfl rfl (by kernel_rfl) Try.func6 (by kernel_rfl)
    (of_decide_eq_true (by kernel_rfl)) (by unfold Func.isWrapper; first | (rw [if_pos (by decide +kernel)]; kernel_rfl) | (rw [if_neg (by decide +kernel)]; exact ⟨rfl, rfl⟩))
    (fun os started H enc _ => dotSets_step os started H enc)
set_option maxRecDepth 100000 in
theorem dotSums_fit : ∀ dss, FitAll Try.prog 6 Try.f7.params.toList dss → SB Try.prog 7 (argSVs Try.prog Try.f7.params.toList dss) [] 0 0 fun r F => r = bl true := by
  intro dss h
  rw [show Try.f7.params.toList = [T_L_api_Dot, T_L_api_Dot] from by kernel_rfl] at h ⊢
  match dss, h with
  | [x0, x1], h =>
    simp only [FitAll] at h
    obtain ⟨h0, h1, _⟩ := h
    rcases dots_fit h0 with rfl | ⟨a0, w0, n0, rfl⟩ <;> rcases dots_fit h1 with rfl | ⟨a1, w1, n1, rfl⟩ <;> simp only [argSVs, row_arg]
    · exact SB.mono (SB.args (law_sums [] []) rfl (fun p μ M vs => rps_nils (fun _ h => rps_nils (fun _ h => h) _ h) vs)) fun r F h => h.1
    · exact SB.mono (SB.args (law_sums [] a1) rfl (fun p μ M vs => rps_nils (fun _ h => h) vs)) fun r F h => h.1
    · exact SB.mono (SB.args (law_sums a0 []) rfl (fun p μ M vs => rps_more (fun _ h => rps_nils (fun _ h => h) _ h) vs)) fun r F h => h.1
    · exact SB.mono (law_sums a0 a1) fun r F h => h.1
open Go.ChangeShapes Go.WideShapes Go.ChangeAt Go.RowKit in
set_option maxRecDepth 100000 in
theorem dotSums_step (os : Os) (started : os.Started) (H : Type) (enc : TypeId × Value → H) :
    ReturnsInHanded {} Try.checked os 7 .any (Rows.dotSumsSpec.pre6 enc Try.prog Try.f7 Rows.dotSumsRow.domain false) (Rows.dotSumsSpec.post enc Try.prog Try.f7 false true false false) := by
  refine returnsInHanded_of_change (C := Try.checked) own started (by kernel_rfl) Try.func7
    (ChangeSpec.witness6 (enc := enc) (C := Try.checked) false ⟨#[], #[.slice none 0 0, .slice none 0 0], []⟩ 8 (by kernel_rfl) (by kernel_rfl) (by kernel_rfl) (by kernel_rfl)) ?_
  intro W base args ds gs before hval hW hcnd _
  refine law_calls (f := 7) (fn := Try.f7) (spec := Rows.dotSumsSpec) (tb := T_bool) 6 (by kernel_rfl) (by kernel_rfl) rfl (by kernel_rfl) rfl (fun ds hl => ?_) (fun dss hf => ?_) W base args ds gs before hval hW
  · rw [show Try.f7.params.toList.length = 2 from by kernel_rfl] at hl
    match ds, hl with
    | [d0, d1], _ => exact ⟨rfl, rfl, rfl⟩
  · exact dotSums_fit dss hf
theorem dotSums_holds : Rows.DotSumsSaid :=
  OpenClaim.holds_of_wide 7 Try.f7 rfl rfl rfl rfl rfl rfl rfl ⟨rfl, rfl, rfl, rfl, rfl⟩ rfl rfl rfl rfl rfl (by kernel_rfl) Try.func7 (by kernel_rfl)
    (of_decide_eq_true (by kernel_rfl)) (by unfold Func.isWrapper; first | (rw [if_pos (by decide +kernel)]; kernel_rfl) | (rw [if_neg (by decide +kernel)]; exact ⟨rfl, rfl⟩))
    (fun os started H enc _ => dotSums_step os started H enc)
end Go.Proofs.Ytkklgckpaajoeaa
