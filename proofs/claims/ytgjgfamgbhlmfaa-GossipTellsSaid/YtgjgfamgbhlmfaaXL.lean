/-
  For every row of operations, every vector and all ends the law that what is lacked, digests and deltas are the document's answers true: the statement.
-/
import Derived.Test.YtgjgfamgbhlmfaaUQ
import Derived.Test.YtgjgfamgbhlmfaaUE
set_option linter.unusedSectionVars false
set_option linter.unusedVariables false
set_option linter.unusedSimpArgs false
namespace Go.Proofs.Ytgjgfamgbhlmfaa
open Go.Sl Go.Proofs

theorem ends_arg (fr to : Nat) (most : Int) : argSV Try.prog T_tranterlaw14_Ends [.int .u8 fr, .int .u8 to, .int .i64 most] = .agg (endsC fr to most) := by rw [argSV_agg (n := 3) (by kernel_rfl)]; rfl
set_option maxRecDepth 100000 in
theorem gossipTells_fit : ∀ dss, FitAll Try.prog 6 Try.f3.params.toList dss → (∀ ds, ds ∈ dss → smallR reachBytes ds) → SB Try.prog 3 (argSVs Try.prog Try.f3.params.toList dss) [] 0 0 fun r F => r = bl true := by
  intro dss h hs
  have hp : Try.f3.params.toList = [T_L_api_Op, T_api_Vector, T_tranterlaw14_Ends] := by kernel_rfl
  rw [hp] at h ⊢
  obtain ⟨x0, x1, x2, rfl, h0, h1, h2⟩ := fitAll3 h
  obtain ⟨x, l, rfl, hl, hw⟩ := ops_reach (d := 0) h0 (hs _ (by simp))
  obtain ⟨v, wv, rfl⟩ := vec_fit (d := 4) h1
  obtain ⟨fr, to, most, rfl⟩ := ends_fit (d := 4) h2
  simp only [argSVs, ops_arg, vec_arg, ends_arg]
  exact SB.mono (SB.args (tells_law l v fr to most hl) (by simp [SV.ok, SV.oks, Vec.cells_ok, endsC]) (fun p μ M vs hv => hw p μ M _ _ (fun _ h => h) vs hv)) fun r F h => h.1
open Go.ChangeShapes Go.WideShapes Go.ChangeAt Go.RowKit in
set_option maxRecDepth 100000 in
theorem gossipTells_step (os : Os) (started : os.Started) (H : Type) (enc : TypeId × Value → H) :
    ReturnsInHanded {} Try.checked os 3 .any (Rows.gossipTellsSpec.pre6 enc Try.prog Try.f3 Rows.gossipTellsRow.domain false) (Rows.gossipTellsSpec.post enc Try.prog Try.f3 false true false false) := by
  refine returnsInHanded_of_change_sized (C := Try.checked) own started (by kernel_rfl) Try.func3
    (ChangeSpec.witness6 (enc := enc) (C := Try.checked) false ⟨#[], #[.slice none 0 0, .agg #[.int .u32 0, .int .u32 0, .int .u32 0, .int .u32 0, .int .u32 0, .int .u32 0, .int .u32 0, .int .u32 0], .agg #[.int .u8 0, .int .u8 0, .int .i64 0]], []⟩ 8 (by kernel_rfl) (by kernel_rfl) (by kernel_rfl) (by kernel_rfl)) ?_
  intro W base args ds gs before hval hW hcnd hsz _
  refine law_calls (f := 3) (fn := Try.f3) (spec := Rows.gossipTellsSpec) (tb := T_bool) 6 (by kernel_rfl) (by kernel_rfl) rfl (by kernel_rfl) rfl (fun ds hl => ?_) reachBytes (fun dss hf hs => ?_) W base args ds gs before hval hW (globOk_nil _) (fun n hn => by simpa using List.all_eq_true.1 hsz n (weightsEach_more hn))
  · rw [show Try.f3.params.toList.length = 3 from by kernel_rfl] at hl
    match ds, hl with
    | [d0, d1, d2], _ => exact ⟨rfl, rfl, rfl⟩
  · exact gossipTells_fit dss hf hs
theorem gossipTells_holds : Rows.GossipTellsSaid :=
  OpenClaim.holds_of_wide 3 Try.f3 rfl rfl rfl rfl rfl rfl rfl ⟨rfl, rfl, rfl, rfl, rfl⟩ rfl rfl rfl rfl rfl (by kernel_rfl) Try.func3 (by kernel_rfl)
    (of_decide_eq_true (by kernel_rfl)) (by unfold Func.isWrapper; first | (rw [if_pos (by decide +kernel)]; kernel_rfl) | (rw [if_neg (by decide +kernel)]; exact ⟨rfl, rfl⟩))
    (fun os started H enc _ => gossipTells_step os started H enc)
end Go.Proofs.Ytgjgfamgbhlmfaa
