/-
  For every row of operations and whatever is asked the law that the tree is the document's answers true: the statement.
-/
import Derived.Test.YtmmonbnlleeloaaRows
import Derived.Test.YtmmonbnlleeloaaTF
import Derived.Test.YtmmonbnlleeloaaT6
import Derived.JoinedCond
set_option linter.unusedSectionVars false
set_option linter.unusedVariables false
set_option linter.unusedSimpArgs false
namespace Go.Proofs.Ytmmonbnlleeloaa
open Go.Sl Go.Proofs
set_option maxRecDepth 100000 in
theorem ask_fit {d : Nat} {ds : List DV} (h : Fit Try.prog (d + 4) T_tranterlaw16_Ask ds) : ∃ x : Ak, (x.a.wf ∧ x.b.wf ∧ x.who < 4294967296 ∧ x.o.good) ∧ ds = x.ds := by
  have f0 := fit_field (P := Try.prog) (t := T_tranterlaw16_Ask) Try.underlying58 h 0 _ rfl
  have f1 := fit_field (P := Try.prog) (t := T_tranterlaw16_Ask) Try.underlying58 h 1 _ rfl
  have f2 := fit_field (P := Try.prog) (t := T_tranterlaw16_Ask) Try.underlying58 h 2 _ rfl
  have f3 := fit_field (P := Try.prog) (t := T_tranterlaw16_Ask) Try.underlying58 h 3 _ rfl
  have hl := fit_len (P := Try.prog) (t := T_tranterlaw16_Ask) Try.underlying58 h
  rw [show Try.prog.cellsOf T_tranterlaw16_Ask = 34 from by kernel_rfl] at hl
  obtain ⟨x0, w0, e0⟩ := dot_fit (d := d + 1) f0
  obtain ⟨x1, w1, e1⟩ := dot_fit (d := d + 1) f1
  obtain ⟨x2, w2, e2⟩ := fit_u32 (P := Try.prog) Try.underlying31 f2
  obtain ⟨x3, w3, e3⟩ := op_fit (d := d) f3
  refine ⟨⟨x0, x1, x2, x3⟩, ⟨w0, w1, w2, w3⟩, ?_⟩
  have g0 : ds.drop 0 = x0.ds ++ ds.drop 2 := cutR (n := 2) e0 rfl
  have g1 : ds.drop 2 = x1.ds ++ ds.drop 4 := cutR (n := 2) e1 rfl
  have g2 : ds.drop 4 = [.int .u32 x2] ++ ds.drop 5 := cutR (n := 1) e2 rfl
  have g3 : ds.drop 5 = x3.ds ++ ds.drop 34 := cutR (n := 29) e3 rfl
  have g : ds.drop 34 = [] := List.drop_of_length_le (by omega)
  have g' : ds = ds.drop 0 := rfl
  rw [g', g0, g1, g2, g3, g]
  show _ = x0.ds ++ (x1.ds ++ (.int .u32 x2 :: x3.ds))
  simp
theorem ask_arg (ds : List DV) : argSV Try.prog T_tranterlaw16_Ask ds = .agg (ds.map .d) := argSV_agg (n := 34) (by kernel_rfl)
def Ak.nz (x : Ak) : Ak := { x with o := x.o.nz }
theorem nz_dt (d : Dt) : d.ds.map nz = d.ds := rfl
theorem Ak.nz_ds (x : Ak) : x.nz.ds = x.ds.map Go.Sl.nz := by
  show x.a.ds ++ (x.b.ds ++ (.int .u32 x.who :: x.o.nz.ds)) = _
  rw [OpD.nz_ds]; rfl

set_option maxRecDepth 100000 in
theorem treeTells_fit : ∀ dss, FitAll Try.prog 6 Try.f7.params.toList dss → SB Try.prog 7 (argSVs Try.prog Try.f7.params.toList dss) [] 0 0 fun r F => r = bl true := by
  intro dss h
  rw [show Try.f7.params.toList = [T_L_api_Op, T_tranterlaw16_Ask] from by kernel_rfl] at h ⊢
  have hl := fitAll_len h
  match dss, hl, h with
  | [x0, x1], _, h =>
    simp only [FitAll] at h
    obtain ⟨h0, h1, _⟩ := h
    obtain ⟨y, l, rfl, hl, hn, hw⟩ := ops_weak (d := 2) h0
    obtain ⟨x, hx, rfl⟩ := ask_fit (d := 2) h1
    simp only [argSVs, ops_arg, ask_arg]
    refine SB.mono (SB.args (law_tells l x.nz (fun o ho => (hl o ho).1.roles) (fun o ho => (hl o ho).1.dot) (fun o ho => (hl o ho).2) hn hx.2.2.2.roles) rfl (fun p μ M vs hv => hw p μ M _ _ (fun vs hv => ?_) vs hv)) fun r F h => h
    have := rps_nza (fun _ h => h) vs hv
    rw [← Ak.nz_ds] at this
    exact this
open Go.ChangeShapes Go.WideShapes Go.ChangeAt Go.RowKit in
set_option maxRecDepth 100000 in
theorem treeTells_step (os : Os) (started : os.Started) (H : Type) (enc : TypeId × Value → H) :
    ReturnsInHanded {} Try.checked os 7 .any (Rows.treeTellsSpec.pre6 enc Try.prog Try.f7 Rows.treeTellsRow.domain false) (Rows.treeTellsSpec.post enc Try.prog Try.f7 false true false false) := by
  refine returnsInHanded_of_change (C := Try.checked) own started (by kernel_rfl) Try.func7
    (ChangeSpec.witness6 (enc := enc) (C := Try.checked) false ⟨#[], #[.slice none 0 0, .agg #[.int .u8 0, .int .u32 0, .int .u8 0, .int .u32 0, .int .u32 0, .int .u8 0, .int .u32 0, .int .u32 0, .int .u32 0, .int .u32 0, .int .u32 0, .int .u32 0, .int .u32 0, .int .u32 0, .int .u32 0, .int .u64 0, .int .u32 0, .int .u8 0, .int .u32 0, .int .u8 0, .int .u8 0, .int .u32 0, .int .u32 0, .int .u8 0, .int .u8 0, .int .u64 0, .int .u8 0, .int .u32 0, .int .u8 0, .int .u32 0, .int .u32 0, .int .u32 0, .int .u32 0, .slice none 0 0]], []⟩ 8 (by kernel_rfl) (by kernel_rfl) (by kernel_rfl) (by kernel_rfl)) ?_
  intro W base args ds gs before hval hW hcnd _
  refine law_calls (f := 7) (fn := Try.f7) (spec := Rows.treeTellsSpec) (tb := T_bool) 6 (by kernel_rfl) (by kernel_rfl) rfl (by kernel_rfl) rfl (fun ds hl => ?_) (fun dss hf => ?_) W base args ds gs before hval hW
  · rw [show Try.f7.params.toList.length = 2 from by kernel_rfl] at hl
    match ds, hl with
    | [d0, d1], _ => exact ⟨rfl, rfl, rfl⟩
  · exact treeTells_fit dss hf
theorem treeTells_j0 : (Rows.treeTellsRow.wf (OpenSpec.ofChange Rows.treeTellsSpec)) = true := by kernel_rfl
theorem treeTells_j3 : (Try.f7.params.all (Try.pinned.checked.prog.readableRec ·)) = true := by kernel_rfl
theorem treeTells_j4 : (namedTie Try.pinned.checked.prog Rows.treeTellsRow.named Rows.treeTellsSpec.vars) = true := by kernel_rfl
theorem treeTells_j5 : ((Rows.treeTellsRow.stops == [])) = true := by kernel_rfl
theorem treeTells_j7 : ((Rows.treeTellsRow.knobs == [])) = true := by kernel_rfl
theorem treeTells_j9 : ((Rows.treeTellsRow.inPlace == Try.pinned.checked.prog.inPlace 7)) = true := by kernel_rfl
theorem treeTells_j10 : ((Rows.treeTellsRow.unfollowed == Try.pinned.checked.prog.unfollowed 7)) = true := by kernel_rfl
theorem treeTells_j11 : ((Rows.treeTellsRow.recurses == Try.pinned.checked.prog.recurses 7)) = true := by kernel_rfl
theorem treeTells_j12 : ((Rows.treeTellsRow.named == Try.pinned.checked.prog.varsNamed 7)) = true := by kernel_rfl
theorem treeTells_j13 : ((Rows.treeTellsRow.maps == (Try.f7.params.toList ++ Rows.treeTellsSpec.plain.varTypes Try.pinned.checked.prog).any (Try.pinned.checked.prog.mapsRec ·))) = true := by kernel_rfl
theorem treeTells_j14 : ((Rows.treeTellsRow.ifaces == (Try.f7.params.toList ++ Rows.treeTellsSpec.plain.varTypes Try.pinned.checked.prog).any (Try.pinned.checked.prog.ifacesRec ·))) = true := by kernel_rfl
theorem treeTells_j15 : ((Rows.treeTellsRow.mapsOut == Try.pinned.checked.prog.mapsAmong Try.f7.resultTypes.toList)) = true := by kernel_rfl
theorem treeTells_j16 : ((Rows.treeTellsRow.loops == (Try.f7.params.toList ++ Rows.treeTellsSpec.plain.varTypes Try.pinned.checked.prog).any (Try.pinned.checked.prog.loopsFrom ·))) = true := by kernel_rfl
theorem treeTells_j17 : ((Rows.treeTellsRow.wideKeys == (Try.f7.params.toList ++ Rows.treeTellsSpec.plain.varTypes Try.pinned.checked.prog ++ Try.f7.resultTypes.toList).any (Try.pinned.checked.prog.wideKeysFrom ·))) = true := by kernel_rfl
theorem treeTells_j18 : (Rows.treeTellsSpec.vars.all (Try.pinned.checked.prog.varReadable ·)) = true := by kernel_rfl
theorem treeTells_j19 : (Try.f7.resultTypes.all (fun t => Try.pinned.checked.prog.readableRec t && decide (t < Try.pinned.checked.prog.types.size))) = true := by kernel_rfl
theorem treeTells_j20 : ((Rows.treeTellsRow.ifacesOut == Try.f7.resultTypes.toList.any (Try.pinned.checked.prog.ifacesRec ·))) = true := by kernel_rfl
theorem treeTells_j21 : ((Rows.treeTellsRow.loopsOut == Try.f7.resultTypes.toList.any (Try.pinned.checked.prog.loopsFrom ·))) = true := by kernel_rfl
theorem treeTells_j22 : ((Rows.treeTellsRow.plainKeys == Try.pinned.checked.prog.plainKeys)) = true := by kernel_rfl
theorem treeTells_j23 : (Rows.treeTellsRow.shortTexts.isNone) = true := by kernel_rfl
theorem treeTells_j26 : ((Rows.treeTellsRow.lifted == Try.pinned.checked.prog.liftsFinal)) = true := by kernel_rfl
theorem treeTells_j27 : ((Try.pinned.checked.prog.make == some Rows.treeTellsRow.make)) = true := by kernel_rfl
theorem treeTells_j28 : ((Rows.treeTellsRow.kinds == (if Rows.treeTellsRow.domain.isEmpty then [] else Try.f7.params.toList.map fun t => match Try.pinned.checked.prog.underlying t with | some (.int k) => some k | _ => none))) = true := by kernel_rfl
theorem treeTells_j29 : ((Rows.treeTellsRow.pinned == Rows.treeTellsRow.pinnedBy)) = true := by kernel_rfl
theorem treeTells_j30 : ((Rows.treeTellsRow.veiled == (Try.f7.params.toList ++ Rows.treeTellsSpec.plain.varTypes Try.pinned.checked.prog ++ Try.f7.resultTypes.toList).any (Try.pinned.checked.prog.veiledRec ·))) = true := by kernel_rfl
theorem treeTells_j31 : (Rows.treeTellsRow.veiledFits Try.pinned.checked.prog Try.f7.params.toList (Try.f7.params.toList ++ Rows.treeTellsSpec.plain.varTypes Try.pinned.checked.prog ++ Try.f7.resultTypes.toList)) = true := by kernel_rfl
set_option maxRecDepth 100000 in
theorem treeTells_closed : joinedFacts Try.pinned.checked.prog 7 Try.f7 Rows.treeTellsSpec Rows.treeTellsRow = true := (and_tt (and_tt (and_tt (and_tt (and_tt (and_tt (and_tt (and_tt (and_tt (and_tt (and_tt (and_tt (and_tt (and_tt (and_tt (and_tt (and_tt (and_tt (and_tt (and_tt (and_tt (and_tt (and_tt (and_tt (and_tt (and_tt (and_tt (and_tt (and_tt (and_tt (and_tt treeTells_j0 jg0) jg1) treeTells_j3) treeTells_j4) treeTells_j5) jg2) treeTells_j7) jg3) treeTells_j9) treeTells_j10) treeTells_j11) treeTells_j12) treeTells_j13) treeTells_j14) treeTells_j15) treeTells_j16) treeTells_j17) treeTells_j18) treeTells_j19) treeTells_j20) treeTells_j21) treeTells_j22) treeTells_j23) jg4) jg5) treeTells_j26) treeTells_j27) treeTells_j28) treeTells_j29) treeTells_j30) treeTells_j31)
theorem treeTells_holds : Rows.TreeTellsSaid :=
  OpenClaim.holds_of_wide 7 Try.f7 rfl rfl rfl rfl rfl rfl rfl ⟨rfl, rfl, rfl, rfl, rfl⟩ rfl rfl rfl rfl rfl (by kernel_rfl) Try.func7 treeTells_closed
    (of_decide_eq_true (by kernel_rfl)) (by unfold Func.isWrapper; first | (rw [if_pos (by decide +kernel)]; kernel_rfl) | (rw [if_neg (by decide +kernel)]; exact ⟨rfl, rfl⟩))
    (fun os started H enc _ => treeTells_step os started H enc)
end Go.Proofs.Ytmmonbnlleeloaa
