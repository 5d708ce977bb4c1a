/-
  What the statements' arguments read as: operations, and rows of them.
-/
import Derived.Test.YtmmonbnlleeloaaKV
import Derived.Test.YtmmonbnlleeloaaK5
import Derived.Test.YtmmonbnlleeloaaRows
import Derived.JoinedCond
import Derived.Test.YtmmonbnlleeloaaK4
set_option linter.unusedSectionVars false
set_option linter.unusedVariables false
set_option linter.unusedSimpArgs false
namespace Go.Proofs.Ytmmonbnlleeloaa
open Go.Sl Go.Proofs
theorem own : ownKnob Try.prog.godebug = none := by kernel_rfl
theorem argSV_agg {P : Program} {t : TypeId} {n : Nat} {ds : List DV} (h : tySz P t = some (some n)) : argSV P t ds = .agg (ds.map .d) := by simp [argSV, h]
theorem argSV_one {P : Program} {t : TypeId} {ds : List DV} (h : tySz P t = some none) : argSV P t ds = .d (ds.headD .nilp) := by simp [argSV, h]
set_option maxRecDepth 100000 in
theorem vec_fit {d : Nat} {ds : List DV} (h : Fit Try.prog (d + 2) T_api_Vector ds) : ∃ v : Vec, v.wf ∧ ds = v.ds :=
  fit_vec (P := Try.prog) (t := T_api_Vector) (e := T_uint32) Try.underlying35 Try.underlying31 (by kernel_rfl) (by kernel_rfl) h
set_option maxRecDepth 100000 in
theorem dot_fit {d : Nat} {ds : List DV} (h : Fit Try.prog (d + 2) T_api_Dot ds) : ∃ x : Dt, x.wf ∧ ds = x.ds :=
  fit_dot (P := Try.prog) (t := T_api_Dot) Try.underlying33 rfl rfl rfl rfl Try.underlying5 Try.underlying31 (by kernel_rfl) (by kernel_rfl) (by kernel_rfl) h
theorem fit_raw {P : Program} {d : Nat} {t e : TypeId} {ds : List DV} (ht : P.underlying t = some (.slice e)) (h : Fit P (d + 1) t ds) : ds = [.nils] ∨ ∃ n cs, ds = [.sl n cs] ∧ n ≤ 9223372036854775807 := by
  rw [Fit, ht] at h
  dsimp only at h
  rcases h with h | ⟨n, cs, h1, h2, _⟩
  · exact .inl h
  · exact .inr ⟨n, cs, h1, h2⟩
theorem fitAll_len {P : Program} {d : Nat} : ∀ {ts : List TypeId} {dss : List (List DV)}, FitAll P d ts dss → dss.length = ts.length
  | [], [], _ => rfl
  | [], _ :: _, h => by simp [FitAll] at h
  | _ :: _, [], h => by simp [FitAll] at h
  | t :: ts, x :: dss, h => by
    simp only [FitAll] at h
    simp [fitAll_len h.2]
theorem ops_arg (x : DV) : argSV Try.prog T_L_api_Op [x] = .d x := by rw [argSV_one (by kernel_rfl)]; rfl
set_option maxRecDepth 100000 in
set_option maxHeartbeats 2000000 in
theorem op_fit {d : Nat} {ds : List DV} (h : Fit Try.prog (d + 3) T_api_Op ds) : ∃ o : OpD, o.good ∧ ds = o.ds := by
  have f0 := fit_field (P := Try.prog) (t := T_api_Op) Try.underlying39 h 0 _ rfl
  have f1 := fit_field (P := Try.prog) (t := T_api_Op) Try.underlying39 h 1 _ rfl
  have f2 := fit_field (P := Try.prog) (t := T_api_Op) Try.underlying39 h 2 _ rfl
  have f3 := fit_field (P := Try.prog) (t := T_api_Op) Try.underlying39 h 3 _ rfl
  have f4 := fit_field (P := Try.prog) (t := T_api_Op) Try.underlying39 h 4 _ rfl
  have f5 := fit_field (P := Try.prog) (t := T_api_Op) Try.underlying39 h 5 _ rfl
  have f6 := fit_field (P := Try.prog) (t := T_api_Op) Try.underlying39 h 6 _ rfl
  have f7 := fit_field (P := Try.prog) (t := T_api_Op) Try.underlying39 h 7 _ rfl
  have f8 := fit_field (P := Try.prog) (t := T_api_Op) Try.underlying39 h 8 _ rfl
  have f9 := fit_field (P := Try.prog) (t := T_api_Op) Try.underlying39 h 9 _ rfl
  have f10 := fit_field (P := Try.prog) (t := T_api_Op) Try.underlying39 h 10 _ rfl
  have f11 := fit_field (P := Try.prog) (t := T_api_Op) Try.underlying39 h 11 _ rfl
  have f12 := fit_field (P := Try.prog) (t := T_api_Op) Try.underlying39 h 12 _ rfl
  have f13 := fit_field (P := Try.prog) (t := T_api_Op) Try.underlying39 h 13 _ rfl
  have f14 := fit_field (P := Try.prog) (t := T_api_Op) Try.underlying39 h 14 _ rfl
  have f15 := fit_field (P := Try.prog) (t := T_api_Op) Try.underlying39 h 15 _ rfl
  have f16 := fit_field (P := Try.prog) (t := T_api_Op) Try.underlying39 h 16 _ rfl
  have hl := fit_len (P := Try.prog) (t := T_api_Op) Try.underlying39 h
  rw [show Try.prog.cellsOf T_api_Op = 29 from by kernel_rfl] at hl
  obtain ⟨x0, w0, e0⟩ := dot_fit (d := d) f0
  obtain ⟨x1, w1, e1⟩ := vec_fit (d := d) f1
  obtain ⟨x2, w2, e2⟩ := fit_u64 (P := Try.prog) Try.underlying36 f2
  obtain ⟨x3, w3, e3⟩ := fit_u32 (P := Try.prog) Try.underlying31 f3
  obtain ⟨x4, w4, e4⟩ := dot_fit (d := d) f4
  obtain ⟨x5, w5, e5⟩ := fit_u8 (P := Try.prog) Try.underlying5 f5
  obtain ⟨x6, w6, e6⟩ := dot_fit (d := d) f6
  obtain ⟨x7, w7, e7⟩ := fit_u32 (P := Try.prog) Try.underlying31 f7
  obtain ⟨x8, w8, e8⟩ := fit_u8 (P := Try.prog) Try.underlying5 f8
  obtain ⟨x9, w9, e9⟩ := fit_u8 (P := Try.prog) Try.underlying5 f9
  obtain ⟨x10, w10, e10⟩ := fit_u64 (P := Try.prog) Try.underlying36 f10
  obtain ⟨x11, w11, e11⟩ := dot_fit (d := d) f11
  obtain ⟨x12, w12, e12⟩ := dot_fit (d := d) f12
  obtain ⟨x13, w13, e13⟩ := fit_u32 (P := Try.prog) Try.underlying31 f13
  obtain ⟨x14, w14, e14⟩ := fit_u32 (P := Try.prog) Try.underlying31 f14
  obtain ⟨x15, w15, e15⟩ := fit_u32 (P := Try.prog) Try.underlying31 f15
  have e16 : ∃ y, (ds.drop 28).take 1 = [y] ∧ (y = .nils ∨ ∃ n cs, y = .sl n cs ∧ n ≤ 9223372036854775807) := by
    rcases fit_raw (P := Try.prog) Try.underlying37 f16 with e | ⟨n, cs, e, hn⟩
    · exact ⟨.nils, e, .inl rfl⟩
    · exact ⟨.sl n cs, e, .inr ⟨n, cs, rfl, hn⟩⟩
  obtain ⟨x16, e16, w16⟩ := e16
  refine ⟨⟨x0, x1, x2, x3, x4, x5, x6, x7, x8, x9, x10, x11, x12, x13, x14, x15, x16⟩, ⟨w0, w1, w2, w3, w4, w5, w6, w7, w8, w9, w10, w11, w12, w13, w14, w15, w16⟩, ?_⟩
  have g0 : ds.drop 0 = x0.ds ++ ds.drop 2 := cutR (n := 2) e0 rfl
  have g1 : ds.drop 2 = x1.ds ++ ds.drop 10 := cutR (n := 8) e1 rfl
  have g2 : ds.drop 10 = [.int .u64 x2] ++ ds.drop 11 := cutR (n := 1) e2 rfl
  have g3 : ds.drop 11 = [.int .u32 x3] ++ ds.drop 12 := cutR (n := 1) e3 rfl
  have g4 : ds.drop 12 = x4.ds ++ ds.drop 14 := cutR (n := 2) e4 rfl
  have g5 : ds.drop 14 = [.int .u8 x5] ++ ds.drop 15 := cutR (n := 1) e5 rfl
  have g6 : ds.drop 15 = x6.ds ++ ds.drop 17 := cutR (n := 2) e6 rfl
  have g7 : ds.drop 17 = [.int .u32 x7] ++ ds.drop 18 := cutR (n := 1) e7 rfl
  have g8 : ds.drop 18 = [.int .u8 x8] ++ ds.drop 19 := cutR (n := 1) e8 rfl
  have g9 : ds.drop 19 = [.int .u8 x9] ++ ds.drop 20 := cutR (n := 1) e9 rfl
  have g10 : ds.drop 20 = [.int .u64 x10] ++ ds.drop 21 := cutR (n := 1) e10 rfl
  have g11 : ds.drop 21 = x11.ds ++ ds.drop 23 := cutR (n := 2) e11 rfl
  have g12 : ds.drop 23 = x12.ds ++ ds.drop 25 := cutR (n := 2) e12 rfl
  have g13 : ds.drop 25 = [.int .u32 x13] ++ ds.drop 26 := cutR (n := 1) e13 rfl
  have g14 : ds.drop 26 = [.int .u32 x14] ++ ds.drop 27 := cutR (n := 1) e14 rfl
  have g15 : ds.drop 27 = [.int .u32 x15] ++ ds.drop 28 := cutR (n := 1) e15 rfl
  have g16 : ds.drop 28 = [x16] ++ ds.drop 29 := cutR (n := 1) e16 rfl
  have g : ds.drop 29 = [] := List.drop_of_length_le (by omega)
  have g' : ds = ds.drop 0 := rfl
  rw [g', g0, g1, g2, g3, g4, g5, g6, g7, g8, g9, g10, g11, g12, g13, g14, g15, g16, g]
  rfl
set_option maxRecDepth 100000 in
theorem ops_fit {d : Nat} {ds : List DV} (h : Fit Try.prog (d + 4) T_L_api_Op ds) : ds = [.nils] ∨ ∃ l : List OpD, (∀ x ∈ l, x.good) ∧ l.length ≤ 9223372036854775807 ∧ ds = [.sl l.length (l.flatMap OpD.ds)] :=
  fit_slice OpD.ds OpD.good (P := Try.prog) (t := T_L_api_Op) (e := T_api_Op) Try.underlying22 (fun _ h => op_fit h) h
set_option maxRecDepth 100000 in
theorem ops_weak {d : Nat} {ds : List DV} (h : Fit Try.prog (d + 4) T_L_api_Op ds) : ∃ x l, ds = [x] ∧ (∀ o, o ∈ l → o.good ∧ ∃ n cs, o.lines = .sl n cs ∧ n ≤ 9223372036854775807) ∧ l.length ≤ 9223372036854775807 ∧
    ∀ (p : Nat → Prop) (μ : Nat → Nm) (M : Mem) (r r' : List SV) (hr : ∀ vs, Rps p μ M r' vs → Rps p μ M r vs) (vs : List Value), Rps p μ M (.d x :: r') vs → Rps p μ M (ops l :: r) vs := by
  rcases ops_fit h with rfl | ⟨l, hl, hn, rfl⟩
  · exact ⟨.nils, [], rfl, by simp, by simp, fun p μ M r r' hr vs hv => rps_nil_row hr vs hv⟩
  · refine ⟨_, l.map OpD.nz, rfl, fun o ho => ?_, by simpa using hn, fun p μ M r r' hr vs hv => ?_⟩
    · obtain ⟨q, hq, rfl⟩ := List.mem_map.1 ho
      exact ⟨(hl q hq).nz, (hl q hq).row⟩
    · have := rps_nzr hr vs hv
      rw [← ops_nz] at this
      simpa [ops] using this
end Go.Proofs.Ytmmonbnlleeloaa
namespace Go.Proofs.Ytmmonbnlleeloaa
open Go.Proofs
theorem and_tt {a b : Bool} (h : a = true) (k : b = true) : (a && b) = true := by rw [h, k]; rfl
theorem jg0 : (laidOutB Try.pinned.checked.prog) = true := by kernel_rfl
theorem jg1 : (mapsRowed Try.pinned.checked.prog) = true := by kernel_rfl
theorem jg2 : ((Try.pinned.checked.prog.stops == [])) = true := by kernel_rfl
theorem jg3 : ((Try.pinned.checked.prog.stopKnobs == [])) = true := by kernel_rfl
theorem jg4 : (Try.pinned.checked.prog.stopsHeard) = true := by kernel_rfl
theorem jg5 : (Try.pinned.checked.prog.mayEnter) = true := by kernel_rfl
end Go.Proofs.Ytmmonbnlleeloaa
namespace Go.Proofs.Ytmmonbnlleeloaa
open Go.Sl Go.Proofs
structure SpG (x : Sp) : Prop where
  d : x.d.wf
  n : x.n < 18446744073709551616
set_option maxRecDepth 100000 in
theorem spend_fit {d : Nat} {ds : List DV} (h : Fit Try.prog (d + 3) T_api_Spend ds) : ∃ x : Sp, SpG x ∧ ds = x.ds := by
  have f0 := fit_field (P := Try.prog) (t := T_api_Spend) Try.underlying80 h 0 _ rfl
  have f1 := fit_field (P := Try.prog) (t := T_api_Spend) Try.underlying80 h 1 _ rfl
  have hl := fit_len (P := Try.prog) (t := T_api_Spend) Try.underlying80 h
  rw [show Try.prog.cellsOf T_api_Spend = 3 from by kernel_rfl] at hl
  obtain ⟨x0, w0, e0⟩ := dot_fit (d := d) f0
  obtain ⟨x1, w1, e1⟩ := fit_u64 (P := Try.prog) Try.underlying36 f1
  refine ⟨⟨x0, x1⟩, ⟨w0, w1⟩, ?_⟩
  have g0 : ds.drop 0 = x0.ds ++ ds.drop 2 := cutR (n := 2) e0 rfl
  have g1 : ds.drop 2 = [.int .u64 x1] ++ ds.drop 3 := cutR (n := 1) e1 rfl
  have g : ds.drop 3 = [] := List.drop_of_length_le (by omega)
  have g' : ds = ds.drop 0 := rfl
  rw [g', g0, g1, g]
  rfl
set_option maxRecDepth 100000 in
theorem spends_fit {d : Nat} {ds : List DV} (h : Fit Try.prog (d + 4) T_L_api_Spend ds) : ds = [.nils] ∨ ∃ l : List Sp, (∀ x ∈ l, SpG x) ∧ l.length ≤ 9223372036854775807 ∧ ds = [.sl l.length (l.flatMap Sp.ds)] :=
  fit_slice Sp.ds SpG (P := Try.prog) (t := T_L_api_Spend) (e := T_api_Spend) Try.underlying78 (fun _ h => spend_fit h) h
set_option maxRecDepth 100000 in
theorem spends_weak {d : Nat} {ds : List DV} (h : Fit Try.prog (d + 4) T_L_api_Spend ds) : ∃ x l, ds = [x] ∧ (∀ y, y ∈ l → SpG y) ∧ l.length ≤ 9223372036854775807 ∧
    ∀ (p : Nat → Prop) (μ : Nat → Nm) (M : Mem) (r r' : List SV) (hr : ∀ vs, Rps p μ M r' vs → Rps p μ M r vs) (vs : List Value), Rps p μ M (.d x :: r') vs → Rps p μ M (sps l :: r) vs := by
  rcases spends_fit h with rfl | ⟨l, hl, hn, rfl⟩
  · exact ⟨.nils, [], rfl, by simp, by simp, fun p μ M r r' hr vs hv => rps_nil_row hr vs hv⟩
  · exact ⟨_, l, rfl, hl, hn, fun p μ M r r' hr vs hv => rps_keep hr vs hv⟩
set_option maxRecDepth 100000 in
theorem two_fit {d : Nat} {ds : List DV} (h : Fit Try.prog (d + 4) T_A2_api_Spend ds) : ∃ x y : Sp, SpG x ∧ SpG y ∧ ds = x.ds ++ y.ds := by
  rw [Fit, Try.underlying81] at h
  dsimp only at h
  obtain ⟨hl, hi⟩ := h
  rw [show Try.prog.cellsOf T_A2_api_Spend = 6 from by kernel_rfl] at hl
  rw [show Try.prog.cellsOf T_api_Spend = 3 from by kernel_rfl] at hi
  obtain ⟨x, wx, ex⟩ := spend_fit (hi 0 (by omega))
  obtain ⟨y, wy, ey⟩ := spend_fit (hi 1 (by omega))
  refine ⟨x, y, wx, wy, ?_⟩
  have g0 : ds.drop 0 = x.ds ++ ds.drop 3 := cutR (n := 3) (by simpa using ex) rfl
  have g1 : ds.drop 3 = y.ds ++ ds.drop 6 := cutR (n := 3) (by simpa using ey) rfl
  have g : ds.drop 6 = [] := List.drop_of_length_le (by omega)
  have g' : ds = ds.drop 0 := rfl
  rw [g', g0, g1, g, List.append_nil]
theorem spend_arg (ds : List DV) : argSV Try.prog T_api_Spend ds = .agg (ds.map .d) := argSV_agg (n := 3) (by kernel_rfl)
theorem two_arg (ds : List DV) : argSV Try.prog T_A2_api_Spend ds = .agg (ds.map .d) := argSV_agg (n := 6) (by kernel_rfl)
theorem spends_arg (x : DV) : argSV Try.prog T_L_api_Spend [x] = .d x := by rw [argSV_one (by kernel_rfl)]; rfl
end Go.Proofs.Ytmmonbnlleeloaa
