/-
  Buffers: whatever is put: for every input the law answers true, the table of kinds read as the text of the program lays it (tied to that text by the given tie).
-/
import Derived.Test.YtnakpdoioammhaaDoorUJ
set_option linter.unusedSectionVars false
set_option linter.unusedVariables false
set_option linter.unusedSimpArgs false
namespace Go.Proofs.YtnakpdoioammhaaDoor
open Go.Sl Go.Proofs
set_option maxRecDepth 100000 in
theorem bufferPlays_fit : ∀ dss, FitAll Tryd.prog 7 Tryd.f5.params.toList dss → (∀ ds, ds ∈ dss → smallR reachBytes ds) → SB Tryd.prog 5 (argSVs Tryd.prog Tryd.f5.params.toList dss) [] 0 0 fun r F => r = bl true := by
  intro dss h hs
  have hp : Tryd.f5.params.toList = [T_int, T_L_api_Op, T_L_uint8] := by kernel_rfl
  rw [hp] at h ⊢
  obtain ⟨x0, x1, x2, rfl, h0, h1, h2⟩ := fitAll3 h
  obtain ⟨n0, hn0, rfl⟩ := fit_i64 (d := 6) Tryd.underlying3 h0
  obtain ⟨y, l, rfl, ⟨hl, hkd⟩, hw⟩ := ops_small2 (d := 1) h1 (hs _ (by simp))
  obtain ⟨z, b, rfl, ⟨hb0, hbl⟩, hwb⟩ := bys_fit (d := 5) h2
  simp only [argSVs, ops_arg, int_arg, bys_arg]
  exact SB.mono (SB.args (law_plays11 n0 hn0.1 hn0.2 l hl hkd b hb0 hbl) rfl (fun p μ M vs hv => (rps_keep (hw p μ M _ _ (hwb p μ M _ _ (fun _ h => h)))) vs hv)) fun r F h => h.1
open Go.ChangeShapes Go.WideShapes Go.ChangeAt Go.RowKit
theorem bufferPlays_reads (os : Os) {H : Type} (enc : TypeId × Value → H) : ∃ places, DataW.whole enc Tryd.prog ((laidWorld os).forCall (fun _ _ => 0) ⟨#[], #[.int .i64 0, .slice none 0 0, .slice none 0 0], []⟩).memory Tryd.f5.params.toList Rows.bufferPlaysSpec.vars false (#[.int .i64 0, .slice none 0 0, .slice none 0 0] : Array Value).toList 8 = some ([.lit (.int .i64 0), .nil, .nil], [], places) :=
  ⟨[], by kernel_rfl⟩
theorem bufferPlays_laid (os : Os) : laidMet Tryd.prog Rows.bufferPlaysRow.laid ((laidWorld os).forCall (fun _ _ => 0) ⟨#[], #[.int .i64 0, .slice none 0 0, .slice none 0 0], []⟩).memory :=
  laidMet_of_run' 8 (by kernel_rfl) (by kernel_rfl)
set_option maxRecDepth 100000 in
theorem bufferPlays_lifted (os : Os) (started : os.Started) (H : Type) (enc : TypeId × Value → H) (F : Stop.Interp) :
    ReturnsInHanded {} Tryd.checked os 5 .any ((OpenSpec.ofChange Rows.bufferPlaysSpec).preRow enc Tryd.prog Tryd.f5 Rows.bufferPlaysRow.domain false Rows.bufferPlaysRow.laid) (((OpenSpec.ofChange Rows.bufferPlaysSpec).at F).post enc Tryd.prog Tryd.f5 false true false false) := by
  obtain ⟨places, hx⟩ := bufferPlays_reads os enc
  refine returnsInHanded_of_row (C := Tryd.checked) (s := OpenSpec.ofChange Rows.bufferPlaysSpec) own started (by kernel_rfl) Tryd.func5
    (witness_row_at (enc := enc) (C := Tryd.checked) false (laidWorld os) #[.int .i64 0, .slice none 0 0, .slice none 0 0] rfl (by kernel_rfl) (by kernel_rfl) (by kernel_rfl)
      (OpenSpec.preRow_of_cond 8 hx (by kernel_rfl) (fun k hk => by cases hk) (by kernel_rfl) (bufferPlays_laid os))) ?_
  intro W base args ds gs before hval hW _ _ hsz hL _ _
  refine law_calls (f := 5) (fn := Tryd.f5) (spec := Rows.bufferPlaysSpec) (tb := T_bool) 7 (by kernel_rfl) (by kernel_rfl) rfl (by kernel_rfl) rfl (fun ds hl => ?_) reachBytes (fun dss hf hs => ?_) W base args ds gs before hval hW (glob_ok hL) (fun n hn => by simpa using List.all_eq_true.1 hsz n (weightsEach_more hn))
  · rw [show Tryd.f5.params.toList.length = 3 from by kernel_rfl] at hl
    match ds, hl with
    | [d0, d1, d2], _ => exact ⟨rfl, rfl, rfl⟩
  · exact bufferPlays_fit dss hf hs
theorem bufferPlays_said : Rows.BufferPlaysSaid :=
  OpenClaim.holds_of_cond 5 Tryd.f5 rfl rfl rfl rfl rfl rfl rfl ⟨rfl, rfl, rfl, rfl, rfl⟩ rfl rfl rfl rfl rfl (by kernel_rfl) Tryd.func5 (by kernel_rfl)
    (of_decide_eq_true (by kernel_rfl)) (by unfold Func.isWrapper; first | (rw [if_pos (by decide +kernel)]; kernel_rfl) | (rw [if_neg (by decide +kernel)]; exact ⟨rfl, rfl⟩))
    (fun os started H enc _ F => by rw [OpenClaim.pre_eq_preRow]; exact bufferPlays_lifted os started H enc F)
theorem bufferPlays_plain (f : FuncId) (fn : Func) (hf : Tryd.pinned.checked.prog.funcNamed "tranter/tranterlaw11.BufferPlays" = some f) (hfn : Tryd.pinned.checked.prog.funcs[f]? = some fn) :
    true = Tryd.pinned.checked.prog.looks [] ∧ ∀ (j : Nat) t, fn.params[j]? = some t → Tryd.pinned.checked.prog.wantsStandIn t = false := by
  obtain rfl : f = 5 := Option.some.inj ((show Tryd.prog.funcNamed "tranter/tranterlaw11.BufferPlays" = some 5 by kernel_rfl).symm.trans hf) |>.symm
  obtain rfl : fn = Tryd.f5 := (Option.some.inj (Tryd.func5.symm.trans hfn)).symm
  refine ⟨by kernel_rfl, fun j t ht => ?_⟩
  rw [Tryd.params5] at ht
  have h : t = 3 ∨ t = 22 ∨ t = 46 := by simpa using Array.mem_of_getElem? ht
  rcases h with rfl | rfl | rfl
  · exact (show Tryd.prog.wantsStandIn 3 = false by kernel_rfl)
  · exact (show Tryd.prog.wantsStandIn 22 = false by kernel_rfl)
  · exact (show Tryd.prog.wantsStandIn 46 = false by kernel_rfl)
theorem bufferPlays_holds : Rows.BufferPlaysCardSaid :=
  Claim7.holds_tied_plain_at .later [] _ _ _ _ bufferPlays_said (fun _ h => by cases h) (by kernel_rfl) (fun _ h => by cases h) bufferPlays_row_tie rfl ⟨rfl, rfl⟩ (by kernel_rfl) rfl bufferPlays_plain (by kernel_rfl)
end Go.Proofs.YtnakpdoioammhaaDoor
