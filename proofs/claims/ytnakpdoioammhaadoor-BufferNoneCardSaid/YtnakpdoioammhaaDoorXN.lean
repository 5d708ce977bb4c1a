/-
  Buffers: no buffer: for every input the law answers true, the table of kinds read as the text of the program lays it (tied to that text by the given tie).
-/
import Derived.Test.YtnakpdoioammhaaDoorUJ
import Derived.Test.YtnakpdoioammhaaDoorUN
set_option linter.unusedSectionVars false
set_option linter.unusedVariables false
set_option linter.unusedSimpArgs false
namespace Go.Proofs.YtnakpdoioammhaaDoor
open Go.Sl Go.Proofs
theorem fitAll1 {P : Program} {d : Nat} {t1 : TypeId} {dss : List (List DV)} (h : FitAll P d [t1] dss) : ∃ x0, dss = [x0] ∧ Fit P d t1 x0 := by
  match dss, h with
  | [x0], h =>
    simp only [FitAll] at h
    exact ⟨x0, rfl, h.1⟩
theorem op_arg (o : OpD) : argSV Tryd.prog T_api_Op o.ds = .agg o.cells := by rw [argSV_agg (n := 29) (by kernel_rfl), OpD.map_ds]
set_option maxRecDepth 100000 in
theorem bufferNone_fit : ∀ dss, FitAll Tryd.prog 7 Tryd.f6.params.toList dss → (∀ ds, ds ∈ dss → smallR reachBytes ds) → SB Tryd.prog 6 (argSVs Tryd.prog Tryd.f6.params.toList dss) [] 0 0 fun r F => r = bl true := by
  intro dss h hs
  have hp : Tryd.f6.params.toList = [T_api_Op] := by kernel_rfl
  rw [hp] at h ⊢
  obtain ⟨x0, rfl, h0⟩ := fitAll1 h
  obtain ⟨o0, ho0, rfl⟩ := op_fit (d := 2) h0
  simp only [argSVs, op_arg]
  exact SB.mono (SB.args (law_none11 o0) rfl (fun p μ M vs hv => (rps_keep (fun _ h => h)) vs hv)) fun r F h => h.1
open Go.ChangeShapes Go.WideShapes Go.ChangeAt Go.RowKit
theorem bufferNone_reads (os : Os) {H : Type} (enc : TypeId × Value → H) : ∃ places, DataW.whole enc Tryd.prog ((laidWorld os).forCall (fun _ _ => 0) ⟨#[], #[.agg #[.int .u8 0, .int .u32 0, .int .u32 0, .int .u32 0, .int .u32 0, .int .u32 0, .int .u32 0, .int .u32 0, .int .u32 0, .int .u32 0, .int .u64 0, .int .u32 0, .int .u8 0, .int .u32 0, .int .u8 0, .int .u8 0, .int .u32 0, .int .u32 0, .int .u8 0, .int .u8 0, .int .u64 0, .int .u8 0, .int .u32 0, .int .u8 0, .int .u32 0, .int .u32 0, .int .u32 0, .int .u32 0, .slice none 0 0]], []⟩).memory Tryd.f6.params.toList Rows.bufferNoneSpec.vars false (#[.agg #[.int .u8 0, .int .u32 0, .int .u32 0, .int .u32 0, .int .u32 0, .int .u32 0, .int .u32 0, .int .u32 0, .int .u32 0, .int .u32 0, .int .u64 0, .int .u32 0, .int .u8 0, .int .u32 0, .int .u8 0, .int .u8 0, .int .u32 0, .int .u32 0, .int .u8 0, .int .u8 0, .int .u64 0, .int .u8 0, .int .u32 0, .int .u8 0, .int .u32 0, .int .u32 0, .int .u32 0, .int .u32 0, .slice none 0 0]] : Array Value).toList 8 = some ([.agg [.agg [.lit (.int .u8 0), .lit (.int .u32 0)], .agg [.lit (.int .u32 0), .lit (.int .u32 0), .lit (.int .u32 0), .lit (.int .u32 0), .lit (.int .u32 0), .lit (.int .u32 0), .lit (.int .u32 0), .lit (.int .u32 0)], .lit (.int .u64 0), .lit (.int .u32 0), .agg [.lit (.int .u8 0), .lit (.int .u32 0)], .lit (.int .u8 0), .agg [.lit (.int .u8 0), .lit (.int .u32 0)], .lit (.int .u32 0), .lit (.int .u8 0), .lit (.int .u8 0), .lit (.int .u64 0), .agg [.lit (.int .u8 0), .lit (.int .u32 0)], .agg [.lit (.int .u8 0), .lit (.int .u32 0)], .lit (.int .u32 0), .lit (.int .u32 0), .lit (.int .u32 0), .nil]], [], places) :=
  ⟨[], by kernel_rfl⟩
theorem bufferNone_laid (os : Os) : laidMet Tryd.prog Rows.bufferNoneRow.laid ((laidWorld os).forCall (fun _ _ => 0) ⟨#[], #[.agg #[.int .u8 0, .int .u32 0, .int .u32 0, .int .u32 0, .int .u32 0, .int .u32 0, .int .u32 0, .int .u32 0, .int .u32 0, .int .u32 0, .int .u64 0, .int .u32 0, .int .u8 0, .int .u32 0, .int .u8 0, .int .u8 0, .int .u32 0, .int .u32 0, .int .u8 0, .int .u8 0, .int .u64 0, .int .u8 0, .int .u32 0, .int .u8 0, .int .u32 0, .int .u32 0, .int .u32 0, .int .u32 0, .slice none 0 0]], []⟩).memory :=
  laidMet_of_run' 8 (by kernel_rfl) (by kernel_rfl)
set_option maxRecDepth 100000 in
theorem bufferNone_lifted (os : Os) (started : os.Started) (H : Type) (enc : TypeId × Value → H) (F : Stop.Interp) :
    ReturnsInHanded {} Tryd.checked os 6 .any ((OpenSpec.ofChange Rows.bufferNoneSpec).preRow enc Tryd.prog Tryd.f6 Rows.bufferNoneRow.domain false Rows.bufferNoneRow.laid) (((OpenSpec.ofChange Rows.bufferNoneSpec).at F).post enc Tryd.prog Tryd.f6 false true false false) := by
  obtain ⟨places, hx⟩ := bufferNone_reads os enc
  refine returnsInHanded_of_row (C := Tryd.checked) (s := OpenSpec.ofChange Rows.bufferNoneSpec) own started (by kernel_rfl) Tryd.func6
    (witness_row_at (enc := enc) (C := Tryd.checked) false (laidWorld os) #[.agg #[.int .u8 0, .int .u32 0, .int .u32 0, .int .u32 0, .int .u32 0, .int .u32 0, .int .u32 0, .int .u32 0, .int .u32 0, .int .u32 0, .int .u64 0, .int .u32 0, .int .u8 0, .int .u32 0, .int .u8 0, .int .u8 0, .int .u32 0, .int .u32 0, .int .u8 0, .int .u8 0, .int .u64 0, .int .u8 0, .int .u32 0, .int .u8 0, .int .u32 0, .int .u32 0, .int .u32 0, .int .u32 0, .slice none 0 0]] rfl (by kernel_rfl) (by kernel_rfl) (by kernel_rfl)
      (OpenSpec.preRow_of_cond 8 hx (by kernel_rfl) (fun k hk => by cases hk) (by kernel_rfl) (bufferNone_laid os))) ?_
  intro W base args ds gs before hval hW _ _ hsz hL _ _
  refine law_calls (f := 6) (fn := Tryd.f6) (spec := Rows.bufferNoneSpec) (tb := T_bool) 7 (by kernel_rfl) (by kernel_rfl) rfl (by kernel_rfl) rfl (fun ds hl => ?_) reachBytes (fun dss hf hs => ?_) W base args ds gs before hval hW (glob_ok hL) (fun n hn => by simpa using List.all_eq_true.1 hsz n (weightsEach_more hn))
  · rw [show Tryd.f6.params.toList.length = 1 from by kernel_rfl] at hl
    match ds, hl with
    | [d0], _ => exact ⟨rfl, rfl, rfl⟩
  · exact bufferNone_fit dss hf hs
theorem bufferNone_said : Rows.BufferNoneSaid :=
  OpenClaim.holds_of_cond 6 Tryd.f6 rfl rfl rfl rfl rfl rfl rfl ⟨rfl, rfl, rfl, rfl, rfl⟩ rfl rfl rfl rfl rfl (by kernel_rfl) Tryd.func6 (by kernel_rfl)
    (of_decide_eq_true (by kernel_rfl)) (by unfold Func.isWrapper; first | (rw [if_pos (by decide +kernel)]; kernel_rfl) | (rw [if_neg (by decide +kernel)]; exact ⟨rfl, rfl⟩))
    (fun os started H enc _ F => by rw [OpenClaim.pre_eq_preRow]; exact bufferNone_lifted os started H enc F)
theorem bufferNone_plain (f : FuncId) (fn : Func) (hf : Tryd.pinned.checked.prog.funcNamed "tranter/tranterlaw11.BufferNone" = some f) (hfn : Tryd.pinned.checked.prog.funcs[f]? = some fn) :
    true = Tryd.pinned.checked.prog.looks [] ∧ ∀ (j : Nat) t, fn.params[j]? = some t → Tryd.pinned.checked.prog.wantsStandIn t = false := by
  obtain rfl : f = 6 := Option.some.inj ((show Tryd.prog.funcNamed "tranter/tranterlaw11.BufferNone" = some 6 by kernel_rfl).symm.trans hf) |>.symm
  obtain rfl : fn = Tryd.f6 := (Option.some.inj (Tryd.func6.symm.trans hfn)).symm
  refine ⟨by kernel_rfl, fun j t ht => ?_⟩
  rw [Tryd.params6] at ht
  have h : t = 37 := by simpa using Array.mem_of_getElem? ht
  rcases h with rfl
  · exact (show Tryd.prog.wantsStandIn 37 = false by kernel_rfl)
theorem bufferNone_holds : Rows.BufferNoneCardSaid :=
  Claim7.holds_tied_plain_at .later [] _ _ _ _ bufferNone_said (fun _ h => by cases h) (by kernel_rfl) (fun _ h => by cases h) bufferNone_row_tie rfl ⟨rfl, rfl⟩ (by kernel_rfl) rfl bufferNone_plain (by kernel_rfl)
end Go.Proofs.YtnakpdoioammhaaDoor
