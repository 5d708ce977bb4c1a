/-
  Buffers: in any order, any times: for every input the law answers true, the table of kinds read as the text of the program lays it (tied to that text by the given tie).
-/
import Derived.Test.YtnakpdoioammhaaDoorUJ
import Derived.Test.YtnakpdoioammhaaDoorUO
set_option linter.unusedSectionVars false
set_option linter.unusedVariables false
set_option linter.unusedSimpArgs false
namespace Go.Proofs.YtnakpdoioammhaaDoor
open Go.Sl Go.Proofs
set_option maxRecDepth 100000 in
theorem bufferOrders_fit : ∀ dss, FitAll Tryd.prog 7 Tryd.f4.params.toList dss → (∀ ds, ds ∈ dss → smallR reachBytes ds) → SB Tryd.prog 4 (argSVs Tryd.prog Tryd.f4.params.toList dss) [] 0 0 fun r F => r = bl true := by
  intro dss h hs
  have hp : Tryd.f4.params.toList = [T_int, T_L_api_Op, T_uint8] := by kernel_rfl
  rw [hp] at h ⊢
  obtain ⟨x0, x1, x2, rfl, h0, h1, h2⟩ := fitAll3 h
  obtain ⟨n0, hn0, rfl⟩ := fit_i64 (d := 6) Tryd.underlying3 h0
  obtain ⟨y, l, rfl, hl, hw⟩ := ops_small (d := 1) h1 (hs _ (by simp))
  obtain ⟨n2, hn2, rfl⟩ := fit_u8 (d := 6) Tryd.underlying5 h2
  simp only [argSVs, ops_arg, int_arg, byte_arg]
  exact SB.mono (SB.args (law_orders11 n0 hn0.1 hn0.2 l hl n2 hn2) rfl (fun p μ M vs hv => (rps_keep (hw p μ M _ _ (rps_keep (fun _ h => h)))) vs hv)) fun r F h => h.1
open Go.ChangeShapes Go.WideShapes Go.ChangeAt Go.RowKit
theorem bufferOrders_reads (os : Os) {H : Type} (enc : TypeId × Value → H) : ∃ places, DataW.whole enc Tryd.prog ((laidWorld os).forCall (fun _ _ => 0) ⟨#[], #[.int .i64 0, .slice none 0 0, .int .u8 0], []⟩).memory Tryd.f4.params.toList Rows.bufferOrdersSpec.vars false (#[.int .i64 0, .slice none 0 0, .int .u8 0] : Array Value).toList 8 = some ([.lit (.int .i64 0), .nil, .lit (.int .u8 0)], [], places) :=
  ⟨[], by kernel_rfl⟩
theorem bufferOrders_laid (os : Os) : laidMet Tryd.prog Rows.bufferOrdersRow.laid ((laidWorld os).forCall (fun _ _ => 0) ⟨#[], #[.int .i64 0, .slice none 0 0, .int .u8 0], []⟩).memory :=
  laidMet_of_run' 8 (by kernel_rfl) (by kernel_rfl)
set_option maxRecDepth 100000 in
theorem bufferOrders_lifted (os : Os) (started : os.Started) (H : Type) (enc : TypeId × Value → H) (F : Stop.Interp) :
    ReturnsInHanded {} Tryd.checked os 4 .any ((OpenSpec.ofChange Rows.bufferOrdersSpec).preRow enc Tryd.prog Tryd.f4 Rows.bufferOrdersRow.domain false Rows.bufferOrdersRow.laid) (((OpenSpec.ofChange Rows.bufferOrdersSpec).at F).post enc Tryd.prog Tryd.f4 false true false false) := by
  obtain ⟨places, hx⟩ := bufferOrders_reads os enc
  refine returnsInHanded_of_row (C := Tryd.checked) (s := OpenSpec.ofChange Rows.bufferOrdersSpec) own started (by kernel_rfl) Tryd.func4
    (witness_row_at (enc := enc) (C := Tryd.checked) false (laidWorld os) #[.int .i64 0, .slice none 0 0, .int .u8 0] rfl (by kernel_rfl) (by kernel_rfl) (by kernel_rfl)
      (OpenSpec.preRow_of_cond 8 hx (by kernel_rfl) (fun k hk => by cases hk) (by kernel_rfl) (bufferOrders_laid os))) ?_
  intro W base args ds gs before hval hW _ _ hsz hL _ _
  refine law_calls (f := 4) (fn := Tryd.f4) (spec := Rows.bufferOrdersSpec) (tb := T_bool) 7 (by kernel_rfl) (by kernel_rfl) rfl (by kernel_rfl) rfl (fun ds hl => ?_) reachBytes (fun dss hf hs => ?_) W base args ds gs before hval hW (glob_ok hL) (fun n hn => by simpa using List.all_eq_true.1 hsz n (weightsEach_more hn))
  · rw [show Tryd.f4.params.toList.length = 3 from by kernel_rfl] at hl
    match ds, hl with
    | [d0, d1, d2], _ => exact ⟨rfl, rfl, rfl⟩
  · exact bufferOrders_fit dss hf hs
theorem bufferOrders_said : Rows.BufferOrdersSaid :=
  OpenClaim.holds_of_cond 4 Tryd.f4 rfl rfl rfl rfl rfl rfl rfl ⟨rfl, rfl, rfl, rfl, rfl⟩ rfl rfl rfl rfl rfl (by kernel_rfl) Tryd.func4 (by kernel_rfl)
    (of_decide_eq_true (by kernel_rfl)) (by unfold Func.isWrapper; first | (rw [if_pos (by decide +kernel)]; kernel_rfl) | (rw [if_neg (by decide +kernel)]; exact ⟨rfl, rfl⟩))
    (fun os started H enc _ F => by rw [OpenClaim.pre_eq_preRow]; exact bufferOrders_lifted os started H enc F)
theorem bufferOrders_plain (f : FuncId) (fn : Func) (hf : Tryd.pinned.checked.prog.funcNamed "tranter/tranterlaw11.BufferOrders" = some f) (hfn : Tryd.pinned.checked.prog.funcs[f]? = some fn) :
    true = Tryd.pinned.checked.prog.looks [] ∧ ∀ (j : Nat) t, fn.params[j]? = some t → Tryd.pinned.checked.prog.wantsStandIn t = false := by
  obtain rfl : f = 4 := Option.some.inj ((show Tryd.prog.funcNamed "tranter/tranterlaw11.BufferOrders" = some 4 by kernel_rfl).symm.trans hf) |>.symm
  obtain rfl : fn = Tryd.f4 := (Option.some.inj (Tryd.func4.symm.trans hfn)).symm
  refine ⟨by kernel_rfl, fun j t ht => ?_⟩
  rw [Tryd.params4] at ht
  have h : t = 3 ∨ t = 22 ∨ t = 5 := by simpa using Array.mem_of_getElem? ht
  rcases h with rfl | rfl | rfl
  · exact (show Tryd.prog.wantsStandIn 3 = false by kernel_rfl)
  · exact (show Tryd.prog.wantsStandIn 22 = false by kernel_rfl)
  · exact (show Tryd.prog.wantsStandIn 5 = false by kernel_rfl)
theorem bufferOrders_holds : Rows.BufferOrdersCardSaid :=
  Claim7.holds_tied_plain_at .later [] _ _ _ _ bufferOrders_said (fun _ h => by cases h) (by kernel_rfl) (fun _ h => by cases h) bufferOrders_row_tie rfl ⟨rfl, rfl⟩ (by kernel_rfl) rfl bufferOrders_plain (by kernel_rfl)
end Go.Proofs.YtnakpdoioammhaaDoor
