/-
  For every row of operations that is not vast the law of what the well-formed names answers true: the statement.
-/
import Derived.Test.YtlgfknfdfnaedaaUH
import Derived.Test.YtlgfknfdfnaedaaUL
set_option linter.unusedSectionVars false
set_option linter.unusedVariables false
set_option linter.unusedSimpArgs false
namespace Go.Proofs.Ytlgfknfdfnaedaa
open Go.Sl Go.Proofs
theorem flat_memN {l : List OpD} {o : OpD} (h : o ∈ l) {x : DV} (hx : x ∈ o.ds) : x ∈ l.flatMap OpD.ds := List.mem_flatMap.2 ⟨o, h, hx⟩
theorem line_memN (o : OpD) : o.lines ∈ o.ds := by simp [OpD.ds]
set_option maxRecDepth 100000 in
theorem ops_small {d : Nat} {ds : List DV} (h : Fit Try.prog (d + 6) T_L_api_Op ds) (hs : smallR 1048576 ds) : ∃ x l, ds = [x] ∧ l.length ≤ 1048576 ∧ (∀ o, o ∈ l → o.kind < 256 ∧ o.lin ∧ o.cl.length ≤ 1048576) ∧
    ∀ (p : Nat → Prop) (μ : Nat → Nm) (M : Mem) (r r' : List SV) (hr : ∀ vs, Rps p μ M r' vs → Rps p μ M r vs) (vs : List Value), Rps p μ M (.d x :: r') vs → Rps p μ M (ops l :: r) vs := by
  rcases ops_fit h with rfl | ⟨l, hl, hn, rfl⟩
  · exact ⟨.nils, [], rfl, by simp, by simp, fun p μ M r r' hr vs hv => rps_nil_row hr vs hv⟩
  · simp only [smallR, DV.small, and_true] at hs
    obtain ⟨h1, h2⟩ := hs
    rw [smallR_iff] at h2
    refine ⟨_, l.map OpD.nz, rfl, by simpa using h1, fun o ho => ?_, fun p μ M r r' hr vs hv => ?_⟩
    · obtain ⟨q, hq, rfl⟩ := List.mem_map.1 ho
      have hk : q.nz.kind < 256 := (hl q hq).nz.1.kind
      rcases (hl q hq).lines with e | ⟨cl, e, hcl⟩
      · have := OpD.lin.of (o := q.nz) (l := []) (by show Go.Sl.nz q.lines = _; rw [e]; rfl) (by simp)
        exact ⟨hk, this.1, by rw [this.2]; simp⟩
      · have hz := OpD.lin.of (o := q.nz) (l := cl) (by show Go.Sl.nz q.lines = _; rw [e]; rfl) hcl
        have hm := h2 _ (flat_memN hq (line_memN q))
        rw [e] at hm
        simp only [DV.small] at hm
        exact ⟨hk, hz.1, by rw [hz.2]; exact hm.1⟩
    · have := rps_nzr hr vs hv
      rw [← ops_nz] at this
      simpa [ops] using this
set_option maxRecDepth 100000 in
theorem shapeNames_fit : ∀ dss, FitAll Try.prog 7 Try.f3.params.toList dss → (∀ ds, ds ∈ dss → smallR 1048576 ds) → SB Try.prog 3 (argSVs Try.prog Try.f3.params.toList dss) [] 0 0 fun r F => r = bl true := by
  intro dss h hs
  have hp : Try.f3.params.toList = [T_L_api_Op] := by kernel_rfl
  rw [hp] at h ⊢
  obtain ⟨x0, rfl, h0⟩ := fitAll1 h
  obtain ⟨y, l, rfl, hl, ho, hw⟩ := ops_small (d := 1) h0 (hs _ (by simp))
  simp only [argSVs, ops_arg]
  exact SB.mono (SB.args (law_names l ho (by omega)) rfl (fun p μ M vs hv => hw p μ M _ _ (fun _ h => h) vs hv)) fun r F h => h
open Go.ChangeShapes Go.WideShapes Go.ChangeAt Go.RowKit in
set_option maxRecDepth 100000 in
theorem shapeNames_step (os : Os) (started : os.Started) (H : Type) (enc : TypeId × Value → H) (F : Stop.Interp) :
    ReturnsInHanded {} Try.checked os 3 .any ((Rows.OpenSpec.upto Rows.shapeNamesSpec).pre6 enc Try.prog Try.f3 Rows.shapeNamesUptoRow.domain false) (((Rows.OpenSpec.upto Rows.shapeNamesSpec).at F).post enc Try.prog Try.f3 false true false false) := by
  refine returnsInHanded_of_cond (C := Try.checked) (s := Rows.OpenSpec.upto Rows.shapeNamesSpec) (k := Rows.uptoSmall) rfl own started (by kernel_rfl) Try.func3
    (OpenSpec.witness (enc := enc) (C := Try.checked) (s := Rows.OpenSpec.upto Rows.shapeNamesSpec) (k := Rows.uptoSmall) rfl false ⟨#[], #[.slice none 0 0], []⟩ 8 (by kernel_rfl) (by kernel_rfl) (by kernel_rfl)
      (x := ([.nil], [], [])) (by kernel_rfl) rfl (by kernel_rfl)) ?_
  intro W base args ds gs before hval hW _ hk _
  have hk2 : Rows.uptoBulkAll (ds ++ gs) ≤ 1048576 := of_decide_eq_true hk
  refine law_calls (f := 3) (fn := Try.f3) (spec := Rows.shapeNamesSpec) (tb := T_bool) 7 (by kernel_rfl) (by kernel_rfl) rfl (by kernel_rfl) rfl (fun ds hl => ?_) Rows.uptoBulk 1048576 bulk (fun dss hf hs => ?_) W base args ds gs before hval hW (globOk_nil _) (fun x hx => Nat.le_trans (bulk_mem (ds ++ gs) x (List.mem_append.2 (.inl hx))) hk2)
  · rw [show Try.f3.params.toList.length = 1 from by kernel_rfl] at hl
    match ds, hl with
    | [d0], _ => exact ⟨rfl, rfl, rfl⟩
  · exact shapeNames_fit dss hf hs
theorem shapeNames_holds : Rows.ShapeNamesUptoSaid :=
  OpenClaim.holds_of_cond 3 Try.f3 rfl rfl rfl rfl rfl rfl rfl ⟨rfl, rfl, rfl, rfl, rfl⟩ rfl rfl rfl rfl rfl (by kernel_rfl) Try.func3 (by kernel_rfl)
    (of_decide_eq_true (by kernel_rfl)) (by unfold Func.isWrapper; first | (rw [if_pos (by decide +kernel)]; kernel_rfl) | (rw [if_neg (by decide +kernel)]; exact ⟨rfl, rfl⟩))
    (fun os started H enc _ F => shapeNames_step os started H enc F)
end Go.Proofs.Ytlgfknfdfnaedaa
