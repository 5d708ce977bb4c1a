/-
  Trackers: the law that what is stable was known.
-/
import Derived.Test.YtacdkgkpoelhdaaJG
import Derived.Test.YtacdkgkpoelhdaaJD
import Derived.Test.YtacdkgkpoelhdaaJ5
import Derived.Test.YtacdkgkpoelhdaaJV
import Derived.Test.YtacdkgkpoelhdaaRows
import Derived.JoinedCond
import Derived.Test.YtacdkgkpoelhdaaJA
set_option linter.unusedSectionVars false
set_option linter.unusedVariables false
set_option linter.unusedSimpArgs false
namespace Go.Proofs.Ytacdkgkpoelhdaa
open Go.Sl Go.Proofs
theorem head12_at (k : Nat) : SCd Try.prog law12_head.f [] [] k 0 (bl true) [] := head12_ok.sc rfl k
def Ack (l : List OpD) (r : Nat) (v : Vec) : Prop := ∃ o, o ∈ l ∧ o.dot.r = r ∧ v = o.dep.set r o.dot.n
theorem zmin_le {q : Nat} (hq : q < 8) : ∀ (l : List Vec) (x : Vec), (l.foldl (Vec.zip min) x).get q ≤ x.get q ∧ ∀ v, v ∈ l → (l.foldl (Vec.zip min) x).get q ≤ v.get q
  | [], x => ⟨Nat.le_refl _, fun v h => by cases h⟩
  | y :: l, x => by
    obtain ⟨h1, h2⟩ := zmin_le hq l (Vec.zip min x y)
    rw [Vec.zip_get _ _ _ hq] at h1
    refine ⟨by show (l.foldl (Vec.zip min) (Vec.zip min x y)).get q ≤ _; omega, fun v hv => ?_⟩
    show (l.foldl (Vec.zip min) (Vec.zip min x y)).get q ≤ _
    rcases List.mem_cons.1 hv with rfl | hv
    · omega
    · exact h2 v hv
theorem all_min_le {q : Nat} (hq : q < 8) {l : List Vec} {v : Vec} (hv : v ∈ l) : (Vec.all min l).get q ≤ v.get q := by
  cases l with
  | nil => cases hv
  | cons x l => rw [Vec.all_min]; exact (zmin_le hq (x :: l) x).2 v hv
theorem stab_le {T : Tk} (hn : T.n ≤ 8) {r q : Nat} (hr : r < T.n) (hq : q < 8) : T.stab.get q ≤ (T.cnt r).get q := by
  unfold Tk.stab
  exact all_min_le hq (List.mem_map.2 ⟨r, by simpa using hr, rfl⟩)
theorem safe_law {l : List OpD} (h : Hist 8 l) {T : Tk} {H : Vec} {S : Nat → Vec → Prop} (hT : T.Is H S) (hn : T.n = 8) (ho : T.own = 0) (hS : ∀ r v, S r v → Ack l r v) (hk : (knownV l).get 0 = H.get 0) {o : OpD} (hol : o ∈ l) (hc : H.covers o.dot = false) : o.dep.above T.stab = true := by
  have hf : Go.Sl.Form 8 o := h.form o hol
  have hr := hf.r
  have hpos := hf.pos
  have hown := hf.own
  have hlt : H.get o.dot.r < o.dot.n := by
    unfold Vec.covers Dt.may at hc
    simp at hc
    omega
  have hr0 : o.dot.r ≠ 0 := fun e => by
    have := knownV_ge hol hr
    rw [e, hk] at this
    rw [e] at hlt; omega
  refine Vec.above_iff.2 fun q hq => Nat.le_trans (stab_le (r := o.dot.r) (by omega) (by omega) hq) ?_
  refine (hT.cle o.dot.r (by omega) (by omega) q hq _).2 fun v hv hle => ?_
  obtain ⟨p, hp, hpr, rfl⟩ := hS _ _ hv
  rw [Vec.set_get _ _ _ hr, if_pos rfl] at hle
  have hpf : Go.Sl.Form 8 p := h.form p hp
  have hpn : p.dot.n ≤ o.dep.get o.dot.r := by omega
  have hb : p.before o = true := by
    unfold OpD.before Vec.covers Dt.may
    have := hpf.pos
    rw [hpr]
    simp
    omega
  have hab := Vec.above_iff.1 ((h.one o hol).bef p hp hb).2 q hq
  rw [Vec.set_get _ _ _ hq]
  split
  · rename_i e; rw [e]; exact hpn
  · exact hab
end Go.Proofs.Ytacdkgkpoelhdaa
namespace Go.Proofs.Ytacdkgkpoelhdaa
open Go.Sl Go.Proofs
theorem argSV_agg {P : Program} {t : TypeId} {n : Nat} {ds : List DV} (h : tySz P t = some (some n)) : argSV P t ds = .agg (ds.map .d) := by simp [argSV, h]
theorem argSV_one {P : Program} {t : TypeId} {ds : List DV} (h : tySz P t = some none) : argSV P t ds = .d (ds.headD .nilp) := by simp [argSV, h]
set_option maxRecDepth 100000 in
theorem vec_fit {d : Nat} {ds : List DV} (h : Fit Try.prog (d + 2) T_api_Vector ds) : ∃ v : Vec, v.wf ∧ ds = v.ds :=
  fit_vec (P := Try.prog) (t := T_api_Vector) (e := T_uint32) Try.underlying25 Try.underlying23 (by kernel_rfl) (by kernel_rfl) h
set_option maxRecDepth 100000 in
theorem dot_fit {d : Nat} {ds : List DV} (h : Fit Try.prog (d + 2) T_api_Dot ds) : ∃ x : Dt, x.wf ∧ ds = x.ds :=
  fit_dot (P := Try.prog) (t := T_api_Dot) Try.underlying37 rfl rfl rfl rfl Try.underlying5 Try.underlying23 (by kernel_rfl) (by kernel_rfl) (by kernel_rfl) h
set_option maxRecDepth 100000 in
theorem claim_fit {d : Nat} {ds : List DV} (h : Fit Try.prog (d + 3) T_api_Claim ds) : ∃ x : Cm, x.wf ∧ ds = x.ds := by
  have f0 := fit_field (P := Try.prog) (t := T_api_Claim) Try.underlying120 h 0 _ rfl
  have f1 := fit_field (P := Try.prog) (t := T_api_Claim) Try.underlying120 h 1 _ rfl
  have hl := fit_len (P := Try.prog) (t := T_api_Claim) Try.underlying120 h
  rw [show Try.prog.cellsOf T_api_Claim = 4 from by kernel_rfl] at hl
  obtain ⟨x0, w0, e0⟩ := dot_fit (d := d) f0
  obtain ⟨x1, w1, e1⟩ := dot_fit (d := d) f1
  refine ⟨⟨x0, x1⟩, ⟨w0, w1⟩, ?_⟩
  have g0 : ds.drop 0 = x0.ds ++ ds.drop 2 := cutR (n := 2) e0 rfl
  have g1 : ds.drop 2 = x1.ds ++ ds.drop 4 := cutR (n := 2) e1 rfl
  have g : ds.drop 4 = [] := List.drop_of_length_le (by omega)
  have g' : ds = ds.drop 0 := rfl
  rw [g', g0, g1, g]
  rfl
set_option maxRecDepth 100000 in
theorem lines_fit {d : Nat} {ds : List DV} (h : Fit Try.prog (d + 4) T_L_api_Claim ds) : ds = [.nils] ∨ ∃ l : List Cm, (∀ x ∈ l, x.wf) ∧ l.length ≤ 9223372036854775807 ∧ ds = [.sl l.length (l.flatMap Cm.ds)] :=
  fit_slice Cm.ds Cm.wf (P := Try.prog) (t := T_L_api_Claim) (e := T_api_Claim) Try.underlying39 (fun _ h => claim_fit h) h
structure OpF (o : OpD) : Prop where
  dot : o.dot.wf
  dep : o.dep.wf
  time : o.time < 18446744073709551616
  who : o.who < 4294967296
  cart : o.cart.wf
  kind : o.kind < 256
  cred : o.cred.wf
  to : o.to < 4294967296
  roles : o.roles < 256
  depth : o.depth < 256
  cap : o.cap < 18446744073709551616
  at_ : o.at_.wf
  ver : o.ver.wf
  item : o.item < 4294967296
  qty : o.qty < 4294967296
  price : o.price < 4294967296
  lines : o.lines = .nils ∨ ∃ cl : List Cm, o.lines = .sl cl.length (cl.flatMap Cm.ds) ∧ cl.length ≤ 9223372036854775807
set_option maxRecDepth 100000 in
set_option maxHeartbeats 2000000 in
theorem op_fit {d : Nat} {ds : List DV} (h : Fit Try.prog (d + 5) T_api_Op ds) : ∃ o : OpD, OpF o ∧ ds = o.ds := by
  have f0 := fit_field (P := Try.prog) (t := T_api_Op) Try.underlying41 h 0 _ rfl
  have f1 := fit_field (P := Try.prog) (t := T_api_Op) Try.underlying41 h 1 _ rfl
  have f2 := fit_field (P := Try.prog) (t := T_api_Op) Try.underlying41 h 2 _ rfl
  have f3 := fit_field (P := Try.prog) (t := T_api_Op) Try.underlying41 h 3 _ rfl
  have f4 := fit_field (P := Try.prog) (t := T_api_Op) Try.underlying41 h 4 _ rfl
  have f5 := fit_field (P := Try.prog) (t := T_api_Op) Try.underlying41 h 5 _ rfl
  have f6 := fit_field (P := Try.prog) (t := T_api_Op) Try.underlying41 h 6 _ rfl
  have f7 := fit_field (P := Try.prog) (t := T_api_Op) Try.underlying41 h 7 _ rfl
  have f8 := fit_field (P := Try.prog) (t := T_api_Op) Try.underlying41 h 8 _ rfl
  have f9 := fit_field (P := Try.prog) (t := T_api_Op) Try.underlying41 h 9 _ rfl
  have f10 := fit_field (P := Try.prog) (t := T_api_Op) Try.underlying41 h 10 _ rfl
  have f11 := fit_field (P := Try.prog) (t := T_api_Op) Try.underlying41 h 11 _ rfl
  have f12 := fit_field (P := Try.prog) (t := T_api_Op) Try.underlying41 h 12 _ rfl
  have f13 := fit_field (P := Try.prog) (t := T_api_Op) Try.underlying41 h 13 _ rfl
  have f14 := fit_field (P := Try.prog) (t := T_api_Op) Try.underlying41 h 14 _ rfl
  have f15 := fit_field (P := Try.prog) (t := T_api_Op) Try.underlying41 h 15 _ rfl
  have f16 := fit_field (P := Try.prog) (t := T_api_Op) Try.underlying41 h 16 _ rfl
  have hl := fit_len (P := Try.prog) (t := T_api_Op) Try.underlying41 h
  rw [show Try.prog.cellsOf T_api_Op = 29 from by kernel_rfl] at hl
  obtain ⟨x0, w0, e0⟩ := dot_fit (d := d + 2) f0
  obtain ⟨x1, w1, e1⟩ := vec_fit (d := d + 2) f1
  obtain ⟨x2, w2, e2⟩ := fit_u64 (P := Try.prog) Try.underlying38 f2
  obtain ⟨x3, w3, e3⟩ := fit_u32 (P := Try.prog) Try.underlying23 f3
  obtain ⟨x4, w4, e4⟩ := dot_fit (d := d + 2) f4
  obtain ⟨x5, w5, e5⟩ := fit_u8 (P := Try.prog) Try.underlying5 f5
  obtain ⟨x6, w6, e6⟩ := dot_fit (d := d + 2) f6
  obtain ⟨x7, w7, e7⟩ := fit_u32 (P := Try.prog) Try.underlying23 f7
  obtain ⟨x8, w8, e8⟩ := fit_u8 (P := Try.prog) Try.underlying5 f8
  obtain ⟨x9, w9, e9⟩ := fit_u8 (P := Try.prog) Try.underlying5 f9
  obtain ⟨x10, w10, e10⟩ := fit_u64 (P := Try.prog) Try.underlying38 f10
  obtain ⟨x11, w11, e11⟩ := dot_fit (d := d + 2) f11
  obtain ⟨x12, w12, e12⟩ := dot_fit (d := d + 2) f12
  obtain ⟨x13, w13, e13⟩ := fit_u32 (P := Try.prog) Try.underlying23 f13
  obtain ⟨x14, w14, e14⟩ := fit_u32 (P := Try.prog) Try.underlying23 f14
  obtain ⟨x15, w15, e15⟩ := fit_u32 (P := Try.prog) Try.underlying23 f15
  have e16 : ∃ y, (ds.drop 28).take 1 = [y] ∧ (y = .nils ∨ ∃ cl : List Cm, y = .sl cl.length (cl.flatMap Cm.ds) ∧ cl.length ≤ 9223372036854775807) := by
    rcases lines_fit (d := d) f16 with e | ⟨cl, _, hn, e⟩
    · exact ⟨.nils, e, .inl rfl⟩
    · exact ⟨_, e, .inr ⟨cl, rfl, hn⟩⟩
  obtain ⟨x16, e16, w16⟩ := e16
  refine ⟨⟨x0, x1, x2, x3, x4, x5, x6, x7, x8, x9, x10, x11, x12, x13, x14, x15, x16⟩, ⟨w0, w1, w2, w3, w4, w5, w6, w7, w8, w9, w10, w11, w12, w13, w14, w15, w16⟩, ?_⟩
  have g0 : ds.drop 0 = x0.ds ++ ds.drop 2 := cutR (n := 2) e0 rfl
  have g1 : ds.drop 2 = x1.ds ++ ds.drop 10 := cutR (n := 8) e1 rfl
  have g2 : ds.drop 10 = [.int .u64 x2] ++ ds.drop 11 := cutR (n := 1) e2 rfl
  have g3 : ds.drop 11 = [.int .u32 x3] ++ ds.drop 12 := cutR (n := 1) e3 rfl
  have g4 : ds.drop 12 = x4.ds ++ ds.drop 14 := cutR (n := 2) e4 rfl
  have g5 : ds.drop 14 = [.int .u8 x5] ++ ds.drop 15 := cutR (n := 1) e5 rfl
  have g6 : ds.drop 15 = x6.ds ++ ds.drop 17 := cutR (n := 2) e6 rfl
  have g7 : ds.drop 17 = [.int .u32 x7] ++ ds.drop 18 := cutR (n := 1) e7 rfl
  have g8 : ds.drop 18 = [.int .u8 x8] ++ ds.drop 19 := cutR (n := 1) e8 rfl
  have g9 : ds.drop 19 = [.int .u8 x9] ++ ds.drop 20 := cutR (n := 1) e9 rfl
  have g10 : ds.drop 20 = [.int .u64 x10] ++ ds.drop 21 := cutR (n := 1) e10 rfl
  have g11 : ds.drop 21 = x11.ds ++ ds.drop 23 := cutR (n := 2) e11 rfl
  have g12 : ds.drop 23 = x12.ds ++ ds.drop 25 := cutR (n := 2) e12 rfl
  have g13 : ds.drop 25 = [.int .u32 x13] ++ ds.drop 26 := cutR (n := 1) e13 rfl
  have g14 : ds.drop 26 = [.int .u32 x14] ++ ds.drop 27 := cutR (n := 1) e14 rfl
  have g15 : ds.drop 27 = [.int .u32 x15] ++ ds.drop 28 := cutR (n := 1) e15 rfl
  have g16 : ds.drop 28 = [x16] ++ ds.drop 29 := cutR (n := 1) e16 rfl
  have g : ds.drop 29 = [] := List.drop_of_length_le (by omega)
  have g' : ds = ds.drop 0 := rfl
  rw [g', g0, g1, g2, g3, g4, g5, g6, g7, g8, g9, g10, g11, g12, g13, g14, g15, g16, g]
  rfl
set_option maxRecDepth 100000 in
theorem ops_fit {d : Nat} {ds : List DV} (h : Fit Try.prog (d + 6) T_L_api_Op ds) : ds = [.nils] ∨ ∃ l : List OpD, (∀ x ∈ l, OpF x) ∧ l.length ≤ 9223372036854775807 ∧ ds = [.sl l.length (l.flatMap OpD.ds)] :=
  fit_slice OpD.ds OpF (P := Try.prog) (t := T_L_api_Op) (e := T_api_Op) Try.underlying22 (fun _ h => op_fit h) h
theorem ops_arg (x : DV) : argSV Try.prog T_L_api_Op [x] = .d x := by rw [argSV_one (by kernel_rfl)]; rfl
theorem vec_arg (v : Vec) : argSV Try.prog T_api_Vector v.ds = .agg v.cells := by rw [argSV_agg (n := 8) (by kernel_rfl), Vec.map_ds]
theorem OpF.nz {q : OpD} (h : OpF q) : OpF q.nz ∧ q.nz.lin := by
  have hl : q.nz.lin ∧ (q.nz.lines = .nils ∨ ∃ cl : List Cm, q.nz.lines = .sl cl.length (cl.flatMap Cm.ds) ∧ cl.length ≤ 9223372036854775807) := by
    rcases h.lines with e | ⟨cl, e, hcl⟩
    · have e' : q.nz.lines = .sl ([] : List Cm).length (([] : List Cm).flatMap Cm.ds) := by show Go.Sl.nz q.lines = _; rw [e]; rfl
      exact ⟨(OpD.lin.of e' (by simp)).1, .inr ⟨[], e', by simp⟩⟩
    · have e' : q.nz.lines = .sl cl.length (cl.flatMap Cm.ds) := by show Go.Sl.nz q.lines = _; rw [e]; rfl
      exact ⟨(OpD.lin.of e' hcl).1, .inr ⟨cl, e', hcl⟩⟩
  exact ⟨⟨h.dot, h.dep, h.time, h.who, h.cart, h.kind, h.cred, h.to, h.roles, h.depth, h.cap, h.at_, h.ver, h.item, h.qty, h.price, hl.2⟩, hl.1⟩
set_option maxRecDepth 100000 in
theorem ops_weak {d : Nat} {ds : List DV} (h : Fit Try.prog (d + 6) T_L_api_Op ds) : ∃ x l, ds = [x] ∧ l.length ≤ 9223372036854775807 ∧ (∀ o, o ∈ l → OpF o ∧ o.lin) ∧
    ∀ (p : Nat → Prop) (μ : Nat → Nm) (M : Mem) (r r' : List SV) (hr : ∀ vs, Rps p μ M r' vs → Rps p μ M r vs) (vs : List Value), Rps p μ M (.d x :: r') vs → Rps p μ M (ops l :: r) vs := by
  rcases ops_fit h with rfl | ⟨l, hl, hn, rfl⟩
  · exact ⟨.nils, [], rfl, by simp, by simp, fun p μ M r r' hr vs hv => rps_nil_row hr vs hv⟩
  · refine ⟨_, l.map OpD.nz, rfl, by simpa using hn, fun o ho => ?_, fun p μ M r r' hr vs hv => ?_⟩
    · obtain ⟨q, hq, rfl⟩ := List.mem_map.1 ho
      exact (hl q hq).nz
    · have := rps_nzr hr vs hv
      rw [← ops_nz] at this
      simpa [ops] using this
theorem own : ownKnob Try.prog.godebug = none := by kernel_rfl
theorem one_arg {t : TypeId} (x : DV) (h : tySz Try.prog t = some none) : argSV Try.prog t [x] = .d x := by rw [argSV_one h]; rfl
def i64ok (n : Int) : Prop := -9223372036854775808 ≤ n ∧ n ≤ 9223372036854775807
theorem fit_i64 {P : Program} {d : Nat} {t : TypeId} {ds : List DV} (hu : P.underlying t = some (.int .i64)) (h : Fit P (d + 1) t ds) : ∃ n : Int, i64ok n ∧ ds = [.int .i64 n] := by
  simp only [Fit] at h
  rw [hu] at h
  obtain ⟨n, rfl, hw⟩ := h
  refine ⟨n, ?_, rfl⟩
  simp only [Lit.wf, IntKind.min, IntKind.max, Bool.and_eq_true, decide_eq_true_eq] at hw
  unfold i64ok
  revert hw
  simp [IntKind.bits, IntKind.signed]
theorem globOk_nil (M : Mem) : GlobOk M := fun g cs hg => by simp [globs, rawGlobs] at hg
theorem fitAll3 {P : Program} {d : Nat} {t1 t2 t3 : TypeId} {dss : List (List DV)} (h : FitAll P d [t1, t2, t3] dss) : ∃ x0 x1 x2, dss = [x0, x1, x2] ∧ Fit P d t1 x0 ∧ Fit P d t2 x1 ∧ Fit P d t3 x2 := by
  match dss, h with
  | [x0, x1, x2], h =>
    simp only [FitAll] at h
    exact ⟨x0, x1, x2, rfl, h.1, h.2.1, h.2.2.1⟩
end Go.Proofs.Ytacdkgkpoelhdaa
namespace Go.Proofs.Ytacdkgkpoelhdaa
open Go.Sl Go.Proofs
theorem bulk_pos {H : Type} (x : DataW H) : 1 ≤ Rows.uptoBulk x := by
  unfold Rows.uptoBulk
  split <;> omega
theorem bulk_mem {H : Type} : ∀ (es : List (DataW H)) (x : DataW H), x ∈ es → Rows.uptoBulk x ≤ Rows.uptoBulkAll es
  | y :: es, x, h => by
    rw [Rows.uptoBulkAll]
    rcases List.mem_cons.1 h with rfl | h
    · omega
    · have := bulk_mem es x h; omega
theorem bulk_len {H : Type} : ∀ (es : List (DataW H)), es.length ≤ Rows.uptoBulkAll es
  | [] => by simp [Rows.uptoBulkAll]
  | y :: es => by
    have h1 := bulk_len es
    have h2 := bulk_pos y
    rw [Rows.uptoBulkAll, List.length_cons]; omega
theorem bulk {H : Type} : Bulk (H := H) Rows.uptoBulk := by
  refine ⟨fun es sp x hx => ?_, fun es sp => ?_, fun xs x hx => ?_⟩
  · have := bulk_mem es x hx
    rw [Rows.uptoBulk]; omega
  · have := bulk_len es
    rw [Rows.uptoBulk]; omega
  · have := bulk_mem xs x hx
    rw [Rows.uptoBulk]; omega
end Go.Proofs.Ytacdkgkpoelhdaa
namespace Go.Proofs.Ytacdkgkpoelhdaa
open Go.Sl Go.Proofs
abbrev bytes (l : List Nat) : SV := .d (.sl l.length (l.map fun (x : Nat) => DV.int .u8 (x : Int)))
theorem byte_at {l : List Nat} {i x : Nat} (h : l[i]? = some x) : (List.map SV.d (l.map fun (x : Nat) => DV.int .u8 (x : Int)))[i]? = some (u8 x) := by simp [h]
theorem two_lk {k : Nat} {a b : Ob} {H : Hp} (y : Nat × Ob) (hy : y ∈ ([(k + 1, a), (0, b)] : Hp)) : lk ((k + 1, a) :: (0, b) :: H) y.1 = some y.2 := by
  rcases List.mem_cons.1 hy with rfl | hy
  · rw [lk_cons, if_pos rfl]
  rcases List.mem_cons.1 hy with rfl | hy
  · rw [lk_cons, if_neg (by dsimp only; omega), lk_cons, if_pos rfl]
  · cases hy
section
attribute [local irreducible] SW RW SCd SC CallP Pruned Tk.hp Tk.cells newT Tk.hasV Tk.hearV Tk.stab
set_option maxHeartbeats 8000000 in
theorem safe_body (l : List OpD) (has : Vec) (acks : List Nat) (ha : ∀ x, x ∈ acks → x < 256) (hal : acks.length ≤ 9223372036854775807) (hd : ∀ o, o ∈ l → o.dot.wf ∧ o.kind < 256 ∧ o.lin) (hlen : l.length ≤ 9223372036854775807) :
    Go.Sl.Pure Try.prog law12_StableSafe.f [ops l, .agg has.cells, bytes acks] (bl true) := by
  refine law12_StableSafe.enter (by first | rfl | simp [SV.ok, SV.oks]) (by first | rfl | simp [Hp.ok, Ob.ok, SV.ok, SV.oks, Vec.cells_ok]) (by simp) ?_
  unfold law12_StableSafe.s
  obtain ⟨A, hA⟩ : ∃ A, newT 8 0 1 = A := ⟨_, rfl⟩
  have bA : A.bx = 1 := by rw [← hA]; unfold newT; rfl
  have gA : A.good 10 := by rw [← hA]; exact newT_good (by omega) (by omega) 1
  have zA : lk A.hp 0 = none := by rw [← hA]; exact newT_lk (.inl (by omega))
  have nA : A.n = 8 ∧ A.own = 0 := by rw [← hA]; unfold newT; exact ⟨rfl, rfl⟩
  have hc1 : SCd Try.prog stable_New.f [.d (.int .i64 8), .d (.int .u8 0)] [] 1 9 (.tup [.ptr 1 0, .d (.int .i64 0)]) A.hp := by rw [← hA]; exact new_at4 8 0 (by omega) (by omega) 1
  obtain ⟨X1, h1⟩ : ∃ X, hsets [(0, Ob.box 25 has.cells)] A.hp = X := ⟨_, rfl⟩
  have s1 : HSub A.hp X1 := by rw [← h1]; exact subX (H := [(0, Ob.box 25 has.cells)]) (F := []) (HSub.nil _)
  have o1 : lk X1 0 = some (.box 25 has.cells) := by rw [← h1]; exact (outX (H := [(0, Ob.box 25 has.cells)]) (F := []) (HSub.nil _) rfl zA).trans rfl
  refine SW.seq ?_
  (refine SW.regL [0, 1, 2, 4, 6, 7, 8, 9, 10, 11, 12, 13, 38, 49, 63, 97, 117] mixed ?_; (repeat (first | refine RW.ro bq_tt (h := ?_) | refine RW.skip (h := ?_) | refine RW.op bq_tt (h := ?_) | refine RW.opN bq_tt (h := ?_) | refine RW.skip0 (h := ?_))); refine RW.nil ⟨conf_of (by kernel_rfl), Pruned.mk (h := ?_)⟩)
  refine SW.seq ?_
  (refine SW.regL [0, 1, 2, 4, 6, 7, 8, 9, 10, 11, 12, 13, 38, 49, 63, 97, 117] mixed ?_; (repeat (first | refine RW.ro (h1) (h := ?_) | refine RW.skip (h := ?_) | refine RW.op (h1) (h := ?_) | refine RW.opN (h1) (h := ?_) | refine RW.skip0 (h := ?_) | (refine RW.callC (h := ?_); (first | refine CallP.mk (h1) (hc := hc1) (h := ?_))))); refine RW.nil ⟨conf_of (by kernel_rfl), Pruned.mk (h := ?_)⟩)
  refine SW.weak id (st1 := ⟨[(0, ops l), (2, bytes acks), (4, .ptr 0 0), (7, .ptr A.bx 0), (8, .d (.int .i64 0))], (0, .box 25 has.cells) :: A.hp, 10⟩) (Weak.same (by simp) (by simp [EnvW, List.lookup, SV.ren, SV.ok, bA]) (ok_vb (okg gA (show 10 ≤ 10 by omega)) (show 0 < 10 by omega)) (fun x hx => ?_)) ?_
  · rcases List.mem_cons.1 hx with rfl | hx
    · exact o1
    · exact s1 _ _ (lk_of_nodup (Tk.nodup gA.sep) x hx)
  have hH' := history_at l hlen 8 hd
  have hG' := great_at l (fun o ho => ⟨_, _, (hd o ho).2.2.eq, (hd o ho).2.2.le⟩) hlen
  have hcH := has_at (T := A) gA.sep gA.lt gA.n0 gA.n8 gA.own8 gA.ww has
  have n1' := A.hasV_bx has
  have sA0 : HSub A.hp ((0, Ob.box 25 has.cells) :: A.hp) := sub_cons zA fun _ _ h => h
  have h3 : hsets (hdels ((0, Ob.box 25 has.cells) :: A.hp) (A.hasV has).1.hp A.hp) (A.hasV has).1.hp = (0, Ob.box 25 has.cells) :: (A.hasV has).1.hp := mrg_tail (pre := [(0, vb has)]) (Tk.hp_same n1'.1 n1'.2) (nd_cons zA (Tk.nodup gA.sep))
  refine SW.seq (SW.seq ?_)
  (refine SW.regL [0, 1, 2, 4, 6, 7, 8, 9, 10, 11, 12, 13, 38, 49, 63, 97, 117] mixed ?_; (repeat (first | refine RW.skip (h := ?_) | refine RW.ro bq_tt (h := ?_) | refine RW.op bq_tt (h := ?_) | refine RW.opN bq_tt (h := ?_) | refine RW.skip0 (h := ?_) | (refine RW.callC (h := ?_); (first | refine CallP.mk bq_tt (hc := hH' _) (h := ?_) | refine CallP.mk bq_tt (hc := hG' _) (h := ?_) | refine CallP.mk bq_tt (hs := sA0) (hc := hcH) (h := ?_))))))
  rcases hH : (histV 8 l != 0) with _ | _
  rotate_left
  · ((repeat (first | refine RW.skip (h := ?_) | refine RW.ro bq_tt (h := ?_) | refine RW.op bq_tt (h := ?_) | refine RW.opN bq_tt (h := ?_) | refine RW.skip0 (h := ?_) | (refine RW.callC (h := ?_); (first | refine CallP.mk bq_tt (hc := hH' _) (h := ?_) | refine CallP.mk bq_tt (hc := hG' _) (h := ?_) | refine CallP.mk bq_tt (hs := sA0) (hc := hcH) (h := ?_))))); refine RW.nil ⟨conf_of (by kernel_rfl), Pruned.mk (h := ?_)⟩)
    refine SW.condT rfl (SW.seq ?_)
    refine SW.weak id (st1 := ⟨[(7, .ptr A.bx 0)], [], 10⟩) (Weak.same (by simp) (by simp [EnvW, List.lookup, SV.ren, SV.ok, bA]) rfl (fun x hx => by cases hx)) ?_
    (refine SW.regL [0, 1, 2, 4, 6, 7, 8, 9, 10, 11, 12, 13, 38, 49, 63, 97, 117] mixed ?_; (repeat (first | refine RW.ro bq_tt (h := ?_) | refine RW.skip (h := ?_) | refine RW.op bq_tt (h := ?_) | refine RW.opN bq_tt (h := ?_) | refine RW.skip0 (h := ?_) | (refine RW.callC (h := ?_); (first | refine CallP.mk bq_tt (hc := head12_at _) (h := ?_))))); refine RW.nil ⟨conf_of (by kernel_rfl), Pruned.mk (h := ?_)⟩)
    refine SW.ret ?_
    exact End.mk [] (h4 := ⟨rfl, rfl⟩)
  ((repeat (first | refine RW.skip (h := ?_) | refine RW.ro bq_tt (h := ?_) | refine RW.op bq_tt (h := ?_) | refine RW.opN bq_tt (h := ?_) | refine RW.skip0 (h := ?_) | (refine RW.callC (h := ?_); (first | refine CallP.mk bq_tt (hc := hH' _) (h := ?_) | refine CallP.mk bq_tt (hc := hG' _) (h := ?_) | refine CallP.mk bq_tt (hs := sA0) (hc := hcH) (h := ?_))))))
  rcases hG : greatV l with _ | _
  rotate_left
  · ((repeat (first | refine RW.skip (h := ?_) | refine RW.ro bq_tt (h := ?_) | refine RW.op bq_tt (h := ?_) | refine RW.opN bq_tt (h := ?_) | refine RW.skip0 (h := ?_) | (refine RW.callC (h := ?_); (first | refine CallP.mk bq_tt (hc := hH' _) (h := ?_) | refine CallP.mk bq_tt (hc := hG' _) (h := ?_) | refine CallP.mk bq_tt (hs := sA0) (hc := hcH) (h := ?_))))); refine RW.nil ⟨conf_of (by kernel_rfl), Pruned.mk (h := ?_)⟩)
    refine SW.condT rfl (SW.seq ?_)
    refine SW.weak id (st1 := ⟨[(7, .ptr A.bx 0)], [], 10⟩) (Weak.same (by simp) (by simp [EnvW, List.lookup, SV.ren, SV.ok, bA]) rfl (fun x hx => by cases hx)) ?_
    (refine SW.regL [0, 1, 2, 4, 6, 7, 8, 9, 10, 11, 12, 13, 38, 49, 63, 97, 117] mixed ?_; (repeat (first | refine RW.ro bq_tt (h := ?_) | refine RW.skip (h := ?_) | refine RW.op bq_tt (h := ?_) | refine RW.opN bq_tt (h := ?_) | refine RW.skip0 (h := ?_) | (refine RW.callC (h := ?_); (first | refine CallP.mk bq_tt (hc := head12_at _) (h := ?_))))); refine RW.nil ⟨conf_of (by kernel_rfl), Pruned.mk (h := ?_)⟩)
    refine SW.ret ?_
    exact End.mk [] (h4 := ⟨rfl, rfl⟩)
  rcases hv : ((((A.hasV has).2 : Nat) : Int) != 0) with _ | _
  rotate_left
  · ((repeat (first | refine RW.skip (h := ?_) | refine RW.ro (And.intro (h3) (hv)) (h := ?_) | refine RW.op (And.intro (h3) (hv)) (h := ?_) | refine RW.opN (And.intro (h3) (hv)) (h := ?_) | refine RW.skip0 (h := ?_) | (refine RW.callC (h := ?_); (first | refine CallP.mk (And.intro (h3) (hv)) (hc := hH' _) (h := ?_) | refine CallP.mk (And.intro (h3) (hv)) (hc := hG' _) (h := ?_) | refine CallP.mk (And.intro (h3) (hv)) (hs := sA0) (hc := hcH) (h := ?_))))); refine RW.nil ⟨conf_of (by kernel_rfl), Pruned.mk (h := ?_)⟩)
    refine SW.condT rfl (SW.seq ?_)
    refine SW.weak id (st1 := ⟨[(7, .ptr A.bx 0)], [], 10⟩) (Weak.same (by simp) (by simp [EnvW, List.lookup, SV.ren, SV.ok, bA]) rfl (fun x hx => by cases hx)) ?_
    (refine SW.regL [0, 1, 2, 4, 6, 7, 8, 9, 10, 11, 12, 13, 38, 49, 63, 97, 117] mixed ?_; (repeat (first | refine RW.ro bq_tt (h := ?_) | refine RW.skip (h := ?_) | refine RW.op bq_tt (h := ?_) | refine RW.opN bq_tt (h := ?_) | refine RW.skip0 (h := ?_) | (refine RW.callC (h := ?_); (first | refine CallP.mk bq_tt (hc := head12_at _) (h := ?_))))); refine RW.nil ⟨conf_of (by kernel_rfl), Pruned.mk (h := ?_)⟩)
    refine SW.ret ?_
    exact End.mk [] (h4 := ⟨rfl, rfl⟩)
  ((repeat (first | refine RW.skip (h := ?_) | refine RW.ro (And.intro (h3) (hv)) (h := ?_) | refine RW.op (And.intro (h3) (hv)) (h := ?_) | refine RW.opN (And.intro (h3) (hv)) (h := ?_) | refine RW.skip0 (h := ?_) | (refine RW.callC (h := ?_); (first | refine CallP.mk (And.intro (h3) (hv)) (hc := hH' _) (h := ?_) | refine CallP.mk (And.intro (h3) (hv)) (hc := hG' _) (h := ?_) | refine CallP.mk (And.intro (h3) (hv)) (hs := sA0) (hc := hcH) (h := ?_))))); refine RW.nil ⟨conf_of (by kernel_rfl), Pruned.mk (h := ?_)⟩)
  refine SW.condF rfl (SW.skip ?_)
  obtain ⟨A1, hA1⟩ : ∃ A1, (A.hasV has).1 = A1 := ⟨_, rfl⟩
  have hv0 : (A.hasV has).2 = 0 := by simpa using hv
  have hI1 : A1.Is has (fun _ _ => False) := by
    have := newT_is 8 0 1
    rw [hA] at this
    have := this.hasV gA.n8 gA.own hv0
    rw [hA1] at this; exact this
  have g1 : A1.good 10 := by rw [← hA1]; exact Tk.hasV_good gA has
  have z1 : lk A1.hp 0 = none := by rw [← hA1]; exact Tk.has_lk gA.sep has zA
  have n1 : A1.n = 8 ∧ A1.own = 0 := by rw [← hA1, (A.has_n has).1, (A.has_n has).2]; exact nA
  have b1 : A1.bx = 1 := by rw [← hA1, n1'.1, bA]
  rw [hA1] at h3 ⊢
  rw [← bA, ← n1'.1, hA1, b1]
  have hh : Hist 8 l := histV_zero.1 (by simpa using hH)
  have hl80 := great_len hG
  refine SW.weak id (st1 := ⟨[(0, ops l), (2, bytes acks), (4, .ptr 0 0), (7, .ptr 1 0)], (0, .box 25 has.cells) :: A1.hp, 15⟩) (Weak.same (by simp) (by simp [EnvW, List.lookup, SV.ren, SV.ok, bA]) (ok_vb (okg g1 (show 10 ≤ 15 by omega)) (show 0 < 15 by omega)) (fun x hx => lk_of_nodup (nd_cons z1 (Tk.nodup g1.sep)) x hx)) ?_
  clear h1 s1 o1 hc1 hcH sA0 hH' hG' h3
  refine SW.seq (SW.seq ?_)
  have e0 : (knownV l).cells[0]? = some (u32 ((knownV l).get 0)) := (knownV l).cells_get (by omega)
  have e00 : has.cells[0]? = some (u32 (has.get 0)) := has.cells_get (by omega)
  rcases hK : ((((knownV l).get 0 : Nat) : Int) != ((has.get 0 : Nat) : Int)) with _ | _
  rotate_left
  · (have fx := (And.intro (e0) (And.intro (e00) (hK))); refine SW.regL [0, 1, 2, 4, 6, 7, 8, 9, 10, 11, 12, 13, 38, 49, 63, 97, 117] mixed ?_; (repeat (first | refine RW.ro fx (h := ?_) | refine RW.skip (h := ?_) | refine RW.op fx (h := ?_) | refine RW.opN fx (h := ?_) | refine RW.skip0 (h := ?_) | (refine RW.callC (h := ?_); (first | refine CallP.mk fx (hc := known10_at l hlen _) (h := ?_))))); refine RW.nil ⟨conf_of (by kernel_rfl), Pruned.mk (h := ?_)⟩)
    refine SW.condT rfl (SW.seq ?_)
    refine SW.weak id (st1 := ⟨[], [], 15⟩) (Weak.same (by simp) (by simp [EnvW]) rfl (fun x hx => by cases hx)) ?_
    (refine SW.regL [0, 1, 2, 4, 6, 7, 8, 9, 10, 11, 12, 13, 38, 49, 63, 97, 117] mixed ?_; (repeat (first | refine RW.ro bq_tt (h := ?_) | refine RW.skip (h := ?_) | refine RW.op bq_tt (h := ?_) | refine RW.opN bq_tt (h := ?_) | refine RW.skip0 (h := ?_) | (refine RW.callC (h := ?_); (first | refine CallP.mk bq_tt (hc := head12_at _) (h := ?_))))); refine RW.nil ⟨conf_of (by kernel_rfl), Pruned.mk (h := ?_)⟩)
    refine SW.ret ?_
    exact End.mk [] (h4 := ⟨rfl, rfl⟩)
  (have fx := (And.intro (e0) (And.intro (e00) (hK))); refine SW.regL [0, 1, 2, 4, 6, 7, 8, 9, 10, 11, 12, 13, 38, 49, 63, 97, 117] mixed ?_; (repeat (first | refine RW.ro fx (h := ?_) | refine RW.skip (h := ?_) | refine RW.op fx (h := ?_) | refine RW.opN fx (h := ?_) | refine RW.skip0 (h := ?_) | (refine RW.callC (h := ?_); (first | refine CallP.mk fx (hc := known10_at l hlen _) (h := ?_))))); refine RW.nil ⟨conf_of (by kernel_rfl), Pruned.mk (h := ?_)⟩)
  refine SW.condF rfl (SW.skip ?_)
  refine SW.seq (SW.seq ?_)
  (refine SW.regL [0, 1, 2, 4, 6, 7, 8, 9, 10, 11, 12, 13, 38, 49, 63, 97, 117] mixed ?_; (repeat (first | refine RW.ro bq_tt (h := ?_) | refine RW.skip (h := ?_) | refine RW.op bq_tt (h := ?_) | refine RW.opN bq_tt (h := ?_) | refine RW.skip0 (h := ?_) | (refine RW.callC (h := ?_); (first | refine CallP.mk bq_tt (hc := known10_at l hlen _) (h := ?_))))); refine RW.nil ⟨conf_of (by kernel_rfl), Pruned.mk (h := ?_)⟩)
  refine SW.block ?_
  let G : Tk → Nat → Prop := fun T k => T.good k ∧ T.n = 8 ∧ T.own = 0 ∧ lk T.hp 0 = none ∧ 0 < k ∧ ∃ S, T.Is has S ∧ ∀ r v, S r v → Ack l r v
  have okG : ∀ {T : Tk} {k : Nat}, G T k → Hp.ok (fun m => decide (m < k)) ((0, Ob.box 25 has.cells) :: T.hp) = true := fun hT => ok_vb (okg hT.1 (Nat.le_refl _)) hT.2.2.2.2.1
  have lkG : ∀ {T : Tk} {k : Nat}, G T k → ∀ x, x ∈ ((0, Ob.box 25 has.cells) :: T.hp : Hp) → lk ((0, Ob.box 25 has.cells) :: T.hp) x.1 = some x.2 := fun hT x hx => lk_of_nodup (nd_cons hT.2.2.2.1 (Tk.nodup hT.1.sep)) x hx
  have hG1 : G A1 15 := ⟨g1.mono (by omega), n1.1, n1.2, z1, by omega, _, hI1, fun r v h => h.elim⟩
  refine SW.loop (α := {x : Nat × Tk × Nat // x.1 ≤ acks.length ∧ G x.2.1 x.2.2}) (fun x => ⟨[(9, i64 x.1.1), (0, ops l), (2, bytes acks), (4, .ptr 0 0), (7, .ptr x.1.2.1.bx 0)], (0, .box 25 has.cells) :: x.1.2.1.hp, x.1.2.2⟩) (fun x => acks.length - x.1.1)
    ⟨(0, A1, 15), by show 0 ≤ _; omega, hG1⟩ id ?_ ?_
  · exact Weak.same (by simp) (by simp [EnvW, List.lookup, SV.ren, SV.ok, b1]) (okG hG1) (lkG hG1)
  rintro ⟨⟨i, T, k⟩, hi, hT⟩
  dsimp only at hi hT ⊢
  have hbx : T.bx < k := hT.1.lt.bx
  have hk0 : 0 < k := hT.2.2.2.2.1
  by_cases hc : i < acks.length ∧ i < 100 ∧ 0 < l.length
  · obtain ⟨c1, c2, c3⟩ := hc
    have q1 : decide ((i : Int) < acks.length) = true := by simp; exact c1
    have q2 : decide ((i : Int) < 100) = true := by simp; omega
    have q3 : decide ((l.length : Int) > 0) = true := by simp; omega
    obtain ⟨x, hx⟩ := get_of_lt c1
    have hx8 := ha x (List.mem_of_getElem? hx)
    have e1 : IntKind.i64.wrap (x : Int) = (x : Int) := wrap_i64 _ (by omega)
    have e2 : IntKind.i64.wrap ((i : Int) + 1) = ((i + 1 : Nat) : Int) := wrap_i64 _ (by omega)
    have e3 : (x : Int).tmod (l.length : Int) = ((x % l.length : Nat) : Int) := (Int.ofNat_tmod x _).symm
    obtain ⟨o, ho⟩ := get_of_lt (Nat.mod_lt x c3)
    have hol : o ∈ l := List.mem_of_getElem? ho
    have hof : Go.Sl.Form 8 o := hh.form o hol
    have hr8 : o.dot.r < 8 := hof.r
    obtain ⟨j, hj⟩ : ∃ j, x % l.length = j := ⟨_, rfl⟩
    rw [hj] at ho e3
    have hjl : j < l.length := lt_of_get ho
    refine SW.seq (SW.seq ?_)
    (have fx := (And.intro (q1) (And.intro (q2) (q3))); refine SW.regL [0, 1, 2, 4, 6, 7, 8, 9, 10, 11, 12, 13, 38, 49, 63, 97, 117] mixed ?_; (repeat (first | refine RW.ro fx (h := ?_) | refine RW.skip (h := ?_) | refine RW.op fx (h := ?_) | refine RW.opN fx (h := ?_) | refine RW.skip0 (h := ?_))); refine RW.nil ⟨conf_of (by kernel_rfl), Pruned.mk (h := ?_)⟩)
    refine SW.condT rfl (SW.skip ?_)
    refine SW.seq (SW.block ?_)
    have f0 := ne4 (show k ≠ 0 by omega)
    have f01 := ne4 (show k + 1 ≠ 0 by omega)
    have f1 := ne4 (show k ≠ k + 1 by omega)
    have f2 : List.lookup k T.hp = none := Tk.lkk hT.1.lt (Nat.le_refl k)
    have f3 : List.lookup (k + 1) T.hp = none := Tk.lkk hT.1.lt (by omega)
    refine SW.seq ?_
    (have fx := (And.intro (byte_at hx) (And.intro (e1) (And.intro (e3) (And.intro (op_at ho) (And.intro (op_room0 ho) (And.intro (f0) (f2))))))); refine SW.regL [0, 1, 2, 4, 6, 7, 8, 9, 10, 11, 12, 13, 38, 49, 63, 97, 117] mixed ?_; (repeat (first | refine RW.ro fx (h := ?_) | refine RW.skip (h := ?_) | refine RW.op fx (h := ?_) | refine RW.opN fx (h := ?_) | refine RW.skip0 (h := ?_))); refine RW.nil ⟨conf_of (by kernel_rfl), Pruned.mk (h := ?_)⟩)
    refine SW.seq ?_
    (have fx := (And.intro (f1) (And.intro (f0) (And.intro (f01) (And.intro (f2) (f3))))); refine SW.regL [0, 1, 2, 4, 6, 7, 8, 9, 10, 11, 12, 13, 38, 49, 63, 97, 117] mixed ?_; (repeat (first | refine RW.ro fx (h := ?_) | refine RW.skip (h := ?_) | refine RW.op fx (h := ?_) | refine RW.opN fx (h := ?_) | refine RW.skip0 (h := ?_))); refine RW.nil ⟨conf_of (by kernel_rfl), Pruned.mk (h := ?_)⟩)
    refine SW.seq ?_
    (have fx := (And.intro (f1) (And.intro (f0) (And.intro (f01) (And.intro (f2) (And.intro (f3) (And.intro (spl_one) (Vec.cells_set o.dep hr8))))))); refine SW.regL [0, 1, 2, 4, 6, 7, 8, 9, 10, 11, 12, 13, 38, 49, 63, 97, 117] mixed ?_; (repeat (first | refine RW.ro fx (h := ?_) | refine RW.skip (h := ?_) | refine RW.op fx (h := ?_) | refine RW.opN fx (h := ?_) | refine RW.skip0 (h := ?_))); refine RW.nil ⟨conf_of (by kernel_rfl), Pruned.mk (h := ?_)⟩)
    obtain ⟨v, hv'⟩ : ∃ v, o.dep.set o.dot.r o.dot.n = v := ⟨_, rfl⟩
    rw [hv']
    have gT := hT.1.mono (k' := k + 2) (by omega)
    have hcr := hear_at (T := T) (k := k + 2) gT.sep gT.lt gT.n0 gT.n8 gT.own8 gT.ww o.dot.r (by omega) v
    have hs : HSub T.hp ((k + 1, Ob.box 25 v.cells) :: (k, Ob.box 41 o.cells) :: (0, Ob.box 25 has.cells) :: T.hp) := sub_cons f3 (sub_cons f2 (sub_cons hT.2.2.2.1 fun _ _ h => h))
    obtain ⟨T1, hT1⟩ : ∃ T1, (T.hearV o.dot.r v (k + 2 + 2)).1 = T1 := ⟨_, rfl⟩
    have g1' : T1.good (k + 8) := by rw [← hT1]; exact (Tk.hearV_good (hT.1.mono (k' := k + 2 + 2) (by omega)) o.dot.r v).mono (by omega)
    have z1' : lk T1.hp 0 = none := by rw [← hT1]; exact Tk.hear_lk hT.1.sep _ _ _ hT.2.2.2.1 (by omega)
    have n1'' : T1.n = 8 ∧ T1.own = 0 := by rw [← hT1, (T.hear_n _ _ _).1, (T.hear_n _ _ _).2]; exact ⟨hT.2.1, hT.2.2.1⟩
    have eb : T1.bx = T.bx := by rw [← hT1]; exact (T.hear_nm o.dot.r (k + 2 + 2) v).1
    rw [hT1] at hcr
    obtain ⟨X, hX⟩ : ∃ X, hsets (hdels ((k + 1, Ob.box 25 v.cells) :: (k, Ob.box 41 o.cells) :: (0, Ob.box 25 has.cells) :: T.hp) T1.hp T.hp) T1.hp = X := ⟨_, rfl⟩
    have hGn : G T1 (k + 8) := ⟨g1', n1''.1, n1''.2, z1', by omega, by
      obtain ⟨S, hS1, hS2⟩ := hT.2.2.2.2.2
      refine ⟨_, by rw [← hT1]; exact hS1.hearV hT.1.n8 hT.1.own o.dot.r v (k + 2 + 2), fun r u hu => ?_⟩
      rcases hu with hu | ⟨rfl, rfl, _⟩
      · exact hS2 r u hu
      · exact ⟨o, hol, rfl, hv'.symm⟩⟩
    (have fx := (And.intro (hX) (And.intro (f1) (And.intro (f0) (f01)))); refine SW.regL [0, 1, 2, 4, 6, 7, 8, 9, 10, 11, 12, 13, 38, 49, 63, 97, 117] mixed ?_; (repeat (first | refine RW.ro fx (h := ?_) | refine RW.skip (h := ?_) | refine RW.op fx (h := ?_) | refine RW.opN fx (h := ?_) | refine RW.skip0 (h := ?_) | (refine RW.callC (h := ?_); (first | refine CallP.mk fx (hs := hs) (hc := hcr) (h := ?_))))); refine RW.nil ⟨conf_of (by kernel_rfl), Pruned.mk (h := ?_)⟩)
    refine SW.weak id (st1 := ⟨[(9, i64 i), (0, ops l), (2, bytes acks), (4, .ptr 0 0), (7, .ptr T1.bx 0)], (0, .box 25 has.cells) :: T1.hp, k + 8⟩) (Weak.same (by simp) (by simp [EnvW, List.lookup, SV.ren, SV.ok, eb]; omega) (okG hGn) (fun y hy => ?_)) ?_
    · rcases List.mem_cons.1 hy with rfl | hy
      · show lk X 0 = some (Ob.box 25 has.cells)
        rw [← hX, outX hs hT.2.2.2.1 z1', lk_cons, if_neg (by omega), lk_cons, if_neg (by omega), lk_cons, if_pos rfl]
      · rw [← hX]; exact subX hs _ _ (lk_of_nodup (Tk.nodup g1'.sep) y hy)
    (refine SW.regL [0, 1, 2, 4, 6, 7, 8, 9, 10, 11, 12, 13, 38, 49, 63, 97, 117] mixed ?_; (repeat (first | refine RW.ro (e2) (h := ?_) | refine RW.skip (h := ?_) | refine RW.op (e2) (h := ?_) | refine RW.opN (e2) (h := ?_) | refine RW.skip0 (h := ?_))); refine RW.nil ⟨conf_of (by kernel_rfl), Pruned.mk (h := ?_)⟩)
    exact ⟨⟨(i + 1, T1, k + 8), by show i + 1 ≤ _; omega, hGn⟩, id, by show acks.length - (i + 1) < acks.length - i; omega, Weak.same (by simp) (by simp [EnvW, List.lookup, SV.ren, SV.ok]; have := g1'.lt.bx; omega) (okG hGn) (lkG hGn)⟩
  · have h3 : decide ((i : Int) < acks.length) = false ∨ (decide ((i : Int) < acks.length) = true ∧ decide ((i : Int) < 100) = false) ∨ (decide ((i : Int) < acks.length) = true ∧ decide ((i : Int) < 100) = true ∧ decide ((l.length : Int) > 0) = false) := by
      simp only [decide_eq_false_iff_not, decide_eq_true_eq]; omega
    have hz := hT.2.2.2.1
    have hs0 : HSub T.hp ((0, Ob.box 25 has.cells) :: T.hp) := sub_cons hz fun _ _ h => h
    have hcs := stable_at (T := T) (k := k) hT.1.sep hT.1.lt hT.1.n0 hT.1.n8
    have hX := Tk.selfX hT.1.sep hs0
    have f01 := ne4 (show k + 1 ≠ 0 by omega)
    have f3 : List.lookup (k + 1) T.hp = none := Tk.lkk hT.1.lt (by omega)
    have hsafe : ∀ o, o ∈ l → has.covers o.dot = false → o.dep.above T.stab = true := fun o ho hc => by
      obtain ⟨S, hS1, hS2⟩ := hT.2.2.2.2.2
      exact safe_law hh hS1 hT.2.1 hT.2.2.1 hS2 (by simp at hK; omega) ho hc
    refine SW.seq (SW.seq ?_)
    rcases h3 with q | ⟨p, q⟩ | ⟨p, p', q⟩
    all_goals first | ((refine SW.regL [0, 1, 2, 4, 6, 7, 8, 9, 10, 11, 12, 13, 38, 49, 63, 97, 117] mixed ?_; (repeat (first | refine RW.ro (q) (h := ?_) | refine RW.skip (h := ?_) | refine RW.op (q) (h := ?_) | refine RW.opN (q) (h := ?_) | refine RW.skip0 (h := ?_))); refine RW.nil ⟨conf_of (by kernel_rfl), Pruned.mk (h := ?_)⟩); done) | ((refine SW.regL [0, 1, 2, 4, 6, 7, 8, 9, 10, 11, 12, 13, 38, 49, 63, 97, 117] mixed ?_; (repeat (first | refine RW.ro (q) (h := ?_) | refine RW.skip (h := ?_) | refine RW.op (q) (h := ?_) | refine RW.opN (q) (h := ?_) | refine RW.skip0 (h := ?_))); refine RW.nil ⟨conf_of (by kernel_rfl), Pruned.mk (h := ?_)⟩)) | ((refine SW.regL [0, 1, 2, 4, 6, 7, 8, 9, 10, 11, 12, 13, 38, 49, 63, 97, 117] mixed ?_; (repeat (first | refine RW.ro (And.intro (p) (q)) (h := ?_) | refine RW.skip (h := ?_) | refine RW.op (And.intro (p) (q)) (h := ?_) | refine RW.opN (And.intro (p) (q)) (h := ?_) | refine RW.skip0 (h := ?_))); refine RW.nil ⟨conf_of (by kernel_rfl), Pruned.mk (h := ?_)⟩)) | ((have fx := (And.intro (p) (And.intro (p') (q))); refine SW.regL [0, 1, 2, 4, 6, 7, 8, 9, 10, 11, 12, 13, 38, 49, 63, 97, 117] mixed ?_; (repeat (first | refine RW.ro fx (h := ?_) | refine RW.skip (h := ?_) | refine RW.op fx (h := ?_) | refine RW.opN fx (h := ?_) | refine RW.skip0 (h := ?_))); refine RW.nil ⟨conf_of (by kernel_rfl), Pruned.mk (h := ?_)⟩))
    all_goals refine SW.condF rfl (SW.exit ?_)
    all_goals refine SW.weak id (st1 := ⟨[(0, ops l), (4, .ptr 0 0), (7, .ptr T.bx 0)], (0, .box 25 has.cells) :: T.hp, k⟩) (Weak.same (by simp) (by simp [EnvW, List.lookup, SV.ren, SV.ok]; omega) (okG hT) (lkG hT)) ?_
    all_goals refine SW.seq ?_
    all_goals (have fx := (And.intro (hX) (And.intro (f01) (f3))); refine SW.regL [0, 1, 2, 4, 6, 7, 8, 9, 10, 11, 12, 13, 38, 49, 63, 97, 117] mixed ?_; (repeat (first | refine RW.ro fx (h := ?_) | refine RW.skip (h := ?_) | refine RW.op fx (h := ?_) | refine RW.opN fx (h := ?_) | refine RW.skip0 (h := ?_) | (refine RW.callC (h := ?_); (first | refine CallP.mk fx (hs := hs0) (hc := hcs) (h := ?_))))); refine RW.nil ⟨conf_of (by kernel_rfl), Pruned.mk (h := ?_)⟩)
    all_goals obtain ⟨v, hv'⟩ : ∃ v, T.stab = v := ⟨_, rfl⟩
    all_goals rw [hv'] at hsafe ⊢
    all_goals refine SW.weak id (st1 := ⟨[(0, ops l), (4, .ptr 0 0), (12, .ptr (k + 1) 0)], [(k + 1, .box 25 v.cells), (0, .box 25 has.cells)], k + 2⟩) (Weak.same (by simp) (by simp [EnvW, List.lookup, SV.ren, SV.ok]) (ok_vb (ok_vb (H := []) rfl (show 0 < k + 2 by omega)) (show k + 1 < k + 2 by omega)) (fun y hy => two_lk y hy)) ?_
    all_goals refine SW.seq (SW.seq ?_)
    all_goals (refine SW.regL [0, 1, 2, 4, 6, 7, 8, 9, 10, 11, 12, 13, 38, 49, 63, 97, 117] mixed ?_; (repeat (first | refine RW.ro bq_tt (h := ?_) | refine RW.skip (h := ?_) | refine RW.op bq_tt (h := ?_) | refine RW.opN bq_tt (h := ?_) | refine RW.skip0 (h := ?_))); refine RW.nil ⟨conf_of (by kernel_rfl), Pruned.mk (h := ?_)⟩)
    all_goals refine SW.block ?_
    all_goals
      have okV : Hp.ok (fun m => decide (m < k + 2)) ([(k + 1, .box 25 v.cells), (0, .box 25 has.cells)] : Hp) = true := ok_vb (ok_vb (H := []) rfl (show 0 < k + 2 by omega)) (show k + 1 < k + 2 by omega)
      refine SW.loop (α := {i : Nat // i ≤ l.length}) (fun i => ⟨[(13, i64 i.1), (0, ops l), (4, .ptr 0 0), (12, .ptr (k + 1) 0)], [(k + 1, .box 25 v.cells), (0, .box 25 has.cells)], k + 2⟩) (fun i => l.length - i.1) ⟨0, by omega⟩ id (Weak.same (by simp) (by simp [EnvW, List.lookup, SV.ren, SV.ok]) okV (fun y hy => two_lk y hy)) ?_
      rintro ⟨i, hi⟩
      dsimp only
      by_cases h : i < l.length
      · have h1 : decide ((i : Int) < l.length) = true := by simp only [decide_eq_true_eq]; omega
        have e2 : IntKind.i64.wrap ((i : Int) + 1) = ((i + 1 : Nat) : Int) := wrap_i64 _ (by omega)
        obtain ⟨o, ho⟩ := get_of_lt h
        have rc := rcovers_at has o.dot
        have ra := rabove_at o.dep v
        refine SW.seq (SW.seq ?_)
        (refine SW.regL [0, 1, 2, 4, 6, 7, 8, 9, 10, 11, 12, 13, 38, 49, 63, 97, 117] mixed ?_; (repeat (first | refine RW.ro (h1) (h := ?_) | refine RW.skip (h := ?_) | refine RW.op (h1) (h := ?_) | refine RW.opN (h1) (h := ?_) | refine RW.skip0 (h := ?_))); refine RW.nil ⟨conf_of (by kernel_rfl), Pruned.mk (h := ?_)⟩)
        refine SW.condT rfl (SW.skip ?_)
        refine SW.seq (SW.block (SW.seq ?_))
        rcases g1 : has.covers o.dot with _ | _ <;> rw [g1] at rc
        · rw [hsafe o (List.mem_of_getElem? ho) g1] at ra
          (have fx := (And.intro (op_load ho) (And.intro (op_roomd ho) (And.intro (op_dep ho) (And.intro (op_room8 ho) (f01))))); refine SW.regL [0, 1, 2, 4, 6, 7, 8, 9, 10, 11, 12, 13, 38, 49, 63, 97, 117] mixed ?_; (repeat (first | refine RW.ro fx (h := ?_) | refine RW.skip (h := ?_) | refine RW.op fx (h := ?_) | refine RW.opN fx (h := ?_) | refine RW.skip0 (h := ?_) | (refine RW.callC (h := ?_); (first | refine CallP.mk fx (hc := rc _) (h := ?_) | refine CallP.mk fx (hc := ra _) (h := ?_))))); refine RW.nil ⟨conf_of (by kernel_rfl), Pruned.mk (h := ?_)⟩)
          refine SW.condF rfl (SW.skip ?_)
          (refine SW.regL [0, 1, 2, 4, 6, 7, 8, 9, 10, 11, 12, 13, 38, 49, 63, 97, 117] mixed ?_; (repeat (first | refine RW.ro (e2) (h := ?_) | refine RW.skip (h := ?_) | refine RW.op (e2) (h := ?_) | refine RW.opN (e2) (h := ?_) | refine RW.skip0 (h := ?_))); refine RW.nil ⟨conf_of (by kernel_rfl), Pruned.mk (h := ?_)⟩)
          exact ⟨⟨i + 1, by omega⟩, id, by show l.length - (i + 1) < l.length - i; omega, (Weak.same (by simp) (by simp [EnvW, List.lookup, SV.ren, SV.ok]) okV (fun y hy => two_lk y hy))⟩
        · 
          (have fx := (And.intro (op_load ho) (And.intro (op_roomd ho) (f01))); refine SW.regL [0, 1, 2, 4, 6, 7, 8, 9, 10, 11, 12, 13, 38, 49, 63, 97, 117] mixed ?_; (repeat (first | refine RW.ro fx (h := ?_) | refine RW.skip (h := ?_) | refine RW.op fx (h := ?_) | refine RW.opN fx (h := ?_) | refine RW.skip0 (h := ?_) | (refine RW.callC (h := ?_); (first | refine CallP.mk fx (hc := rc _) (h := ?_) | refine CallP.mk fx (hc := ra _) (h := ?_))))); refine RW.nil ⟨conf_of (by kernel_rfl), Pruned.mk (h := ?_)⟩)
          refine SW.condF rfl (SW.skip ?_)
          (refine SW.regL [0, 1, 2, 4, 6, 7, 8, 9, 10, 11, 12, 13, 38, 49, 63, 97, 117] mixed ?_; (repeat (first | refine RW.ro (e2) (h := ?_) | refine RW.skip (h := ?_) | refine RW.op (e2) (h := ?_) | refine RW.opN (e2) (h := ?_) | refine RW.skip0 (h := ?_))); refine RW.nil ⟨conf_of (by kernel_rfl), Pruned.mk (h := ?_)⟩)
          exact ⟨⟨i + 1, by omega⟩, id, by show l.length - (i + 1) < l.length - i; omega, (Weak.same (by simp) (by simp [EnvW, List.lookup, SV.ren, SV.ok]) okV (fun y hy => two_lk y hy))⟩
      · have h1 : decide ((i : Int) < l.length) = false := by simp only [decide_eq_false_iff_not]; omega
        refine SW.seq (SW.seq ?_)
        (refine SW.regL [0, 1, 2, 4, 6, 7, 8, 9, 10, 11, 12, 13, 38, 49, 63, 97, 117] mixed ?_; (repeat (first | refine RW.ro (h1) (h := ?_) | refine RW.skip (h := ?_) | refine RW.op (h1) (h := ?_) | refine RW.opN (h1) (h := ?_) | refine RW.skip0 (h := ?_))); refine RW.nil ⟨conf_of (by kernel_rfl), Pruned.mk (h := ?_)⟩)
        refine SW.condF rfl (SW.exit ?_)
        refine SW.weak id (st1 := ⟨[], [], k + 2⟩) (Weak.same (by simp) (by simp [EnvW]) rfl (fun x hx => by cases hx)) ?_
        refine SW.seq ?_
        (refine SW.regL [0, 1, 2, 4, 6, 7, 8, 9, 10, 11, 12, 13, 38, 49, 63, 97, 117] mixed ?_; (repeat (first | refine RW.ro bq_tt (h := ?_) | refine RW.skip (h := ?_) | refine RW.op bq_tt (h := ?_) | refine RW.opN bq_tt (h := ?_) | refine RW.skip0 (h := ?_) | (refine RW.callC (h := ?_); (first | refine CallP.mk bq_tt (hc := head12_at _) (h := ?_))))); refine RW.nil ⟨conf_of (by kernel_rfl), Pruned.mk (h := ?_)⟩)
        refine SW.ret ?_
        exact End.mk [] (h4 := ⟨rfl, rfl⟩)
end
end Go.Proofs.Ytacdkgkpoelhdaa
