/-
  Order: places in a row, sorted by their operations.
-/
import Derived.Test.YtamokhfmnhpnlaaUA
import Derived.Test.YtamokhfmnhpnlaaUH
import Derived.Test.YtamokhfmnhpnlaaUI
import Derived.Test.YtamokhfmnhpnlaaUB
import Derived.Test.YtamokhfmnhpnlaaUG
set_option linter.unusedSectionVars false
set_option linter.unusedVariables false
set_option linter.unusedSimpArgs false
namespace Go.Proofs.Ytamokhfmnhpnlaa
open Go.Sl Go.Proofs
attribute [local irreducible] SW RW SCd SC CallP Pruned

theorem Rp.mp_p {p : Nat → Prop} {μ : Nat → Nm} {M : Mem} {n : Nat} {v : Value} (h : Rp p μ M (.mp n) v) : p n := Classical.byContradiction fun hn => by
  have h1 := h (fun m => if m = n then ⟨0, 0, true⟩ else μ m) (fun m hm => if_neg (fun (e : m = n) => hn (by rw [← e]; exact hm)))
  have h2 := h (fun m => if m = n then ⟨1, 0, true⟩ else μ m) (fun m hm => if_neg (fun (e : m = n) => hn (by rw [← e]; exact hm)))
  simp [Rep] at h1 h2
  rw [h1] at h2
  simp at h2
theorem icompare_at (l : List OpD) {i j : Nat} {a b : OpD} (ha : l[i]? = some a) (hb : l[j]? = some b) (q k : Nat) : SCd Try.prog order_index_compare.f [idxS l q, i64 i, i64 j] [] k 0 (i64 (ocmp a b)) [] := by
  have h := SB.at (icompare_sb l ha hb 0 1 (by omega)) (fun _ => q) k (fun n m h1 h2 _ => by omega) (fun n hn p μ M w vals hr hS => by
    obtain ⟨u, us, e, r1, r2⟩ := Rps.cons_iff.1 hr
    obtain ⟨vs, _, r3⟩ := Rp.agg_iff.1 r1
    obtain ⟨u1, us1, e1, r4, r5⟩ := Rps.cons_iff.1 r3
    obtain ⟨u2, us2, e2, r6, r7⟩ := Rps.cons_iff.1 r5
    exact Rp.mp_p r6) (fun i hi => by omega)
  unfold SCd
  refine SC.mono h ?_
  rintro r F ⟨r0, F0, ⟨rfl, rfl⟩, rfl, rfl⟩
  exact ⟨rfl, rfl⟩
/-- A row of places that grows: its places, its name. -/
structure RowI (y bx : Nat) where
  l : List Nat
  rn : Nat
  h1 : rn ≠ y
  h2 : rn ≠ bx
def rowI (y bx N : Nat) (ts ps : List Nat) (ca cb : Code) (s : RowI y bx) : Hp :=
  [(y, .rcd N ts [.ptr bx 0] ps ca cb .ready none), (bx, .box 60 [.gs s.rn s.l.length]), prow s.rn s.l.length s.l]
theorem pc_snoc (l : List Nat) (x : Nat) : pc (l ++ [x]) = pc l ++ [i64 (x : Int)] := by simp [pc]
set_option maxHeartbeats 1000000 in
theorem appendBodyI {y bx B : Nat} (hyb : y ≠ bx) (s0 : RowI y bx) (hB : s0.l.length + B < 2097152) {ca cb : Code} (hca : cK Try.prog 13 ca = some (.reg [⟨some 5, .mv (.t 7), none⟩] (fullB 1) false))
    (hcb : cK Try.prog 13 cb = some (.block 1 (.reg [⟨some 8, .load none (.t 2), none⟩, ⟨some 9, .mv (.t 5), none⟩, ⟨some 10, .bsl 3 1 1 [i64 0] [(0, 1, .t 9)], none⟩, ⟨some 11, .app 3 1 8 (.t 8) (.t 10), none⟩, ⟨none, .store 1 (.t 2) (.t 11), none⟩] (fullB 5) false))) :
    YieldOk Try.prog y (fun x : Nat => i64 (x : Int)) 1 (rowI y bx 13 [2] [7] ca cb) (fun s x s' => s'.l = s.l ++ [x]) (fun _ => true) s0 B := by
  refine ⟨fun s => by simp [rowI, lk_cons], fun s x hx => ?_, fun s xs x k hon hlt hok _ => ?_⟩
  · have f1 := ne4 hyb
    have f2 := ne4 s.h1
    have f3 := ne4 s.h2
    simp only [rowI, List.mem_cons, List.not_mem_nil, or_false] at hx
    rcases hx with rfl | rfl | rfl <;> simp [rowI, lk_cons, f1, f2, f3]
  · have hlen : s.l.length = s0.l.length + xs.length := by
      clear hlt hok
      induction hon with
      | nil => rfl
      | snoc _ h ih => rw [h]; simp [ih]; omega
    obtain ⟨l, rn, h1, h2⟩ := s
    simp only at hlen
    simp only [rowI, Hp.ok, List.all_cons, List.all_nil, Ob.ok, SV.oks, SV.ok, pc_ok, Bool.and_true, Bool.and_eq_true, decide_eq_true_eq] at hok
    obtain ⟨⟨k1, _⟩, ⟨k2, _⟩, k3⟩ := hok
    have f1 := ne4 hyb
    have f2 := ne4 h1
    have f3 := ne4 h2
    have g1 := ne4 (show k ≠ y by omega)
    have g2 := ne4 (show k ≠ bx by omega)
    have g3 := ne4 (show k ≠ rn by omega)
    have e1 := pc_snoc l x
    refine SYB.here (fun n => n == y || n == bx || n == rn) (SYB.of_code (cs := [.ptr bx 0]) (H := [(bx, .box 60 [.gs rn l.length]), prow rn l.length l]) hca hcb rfl rfl rfl (by simp) k1 (by simp [lk_cons, lk_nil, f1, f2]) (by simp [SV.oks, SV.ok]) (by simp [Hp.ok, Ob.ok, SV.oks, SV.ok, pc_ok]; omega) (by simp [SV.oks, SV.ok]; omega) ?_) ?_ (by simp [SV.oks, SV.ok]) (by simp [rowI, Hp.ok, Ob.ok, SV.oks, SV.ok, pc_ok]) ?_
    · skip
      show Go.Sl.SW _ _ _ _ ⟨[(7, i64 (x : Int)), (2, .ptr bx 0)], _, _⟩ _
      refine SW.g0 [2, 5, 7] mixed (And.intro (f1) (And.intro (f2) (And.intro (f3) (And.intro (g1) (And.intro (g2) (g3)))))) ?_
      refine ⟨rfl, SW.block ?_⟩
      have xs1 : ∀ a b : SV, spl [a] 0 [b] = [b] := fun _ _ => rfl
      refine SW.g0 [2, 5, 7] mixed (And.intro (f1) (And.intro (f2) (And.intro (f3) (And.intro (g1) (And.intro (g2) (And.intro (g3) (xs1))))))) ?_
      refine ⟨none, true, [(bx, .box 60 [.gs k (l ++ [x]).length]), prow k (l ++ [x]).length (l ++ [x])], ⟨rfl, rfl⟩, ?_, ?_, by simp, ⟨⟨l ++ [x], k, by omega, by omega⟩, rfl, rfl, rfl, ?_, ?_⟩⟩
      · refine HSub.cons ?_ (HSub.cons ?_ (HSub.nil _))
        · simp [lk_cons, f1, f2, f3, g1, g2, g3]
        · simp [lk_cons, e1]
      · simp [Hp.ok, Ob.ok, SV.oks, SV.ok, pc_ok]; omega
      · simp [rowI, Hp.ok, Ob.ok, SV.oks, SV.ok, pc_ok]; omega
      · intro n hn
        by_cases hy' : n = y
        · exact .inl (by simp [rowI, lk_cons, hy'])
        · by_cases hbx : n = bx
          · exact .inl (by simp [rowI, lk_cons, hbx, f1])
          · refine .inr ?_
            have : n = k := Classical.byContradiction fun hne => hn (by simp [rowI, lk_cons, lk_nil, hy', hbx, hne])
            omega
    · intro n hn
      simp only [Bool.or_eq_true, beq_iff_eq] at hn
      rcases hn with (rfl | rfl) | rfl <;> simp [rowI, lk_cons, f1, f2, f3]
    · rintro r F' ⟨s', hs', rfl, rfl, hok', hnm⟩ _ _
      obtain ⟨l', rn', h1', h2'⟩ := s'
      refine ⟨rfl, ?_⟩
      simp [rowI, Hp.ok, Ob.ok, SV.oks, SV.ok, pc_ok]
      have hh := hnm rn' (by simp [rowI, lk_cons, h1', h2'])
      rcases hh with hh | ⟨hh1, hh2⟩
      · have : rn' = rn := by
          refine Classical.byContradiction fun hne => hh ?_
          simp [rowI, lk_cons, lk_nil, h1', h2', hne]
        simp [this]
      · simp [hh1]; omega
theorem onBy_rowI {y bx : Nat} {s0 s : RowI y bx} {xs : List Nat} (h : OnBy (fun (s : RowI y bx) x s' => s'.l = s.l ++ [x]) s0 xs s) : s.l = s0.l ++ xs := by
  induction h with
  | nil => simp
  | snoc _ h ih => rw [h, ih]; simp
/-- The index's objects. -/
abbrev oX (l : List OpD) (M : MM Dt Int) (c b q : Nat) : Hp := [(b, .box 58 [ops l, .mp q]), (q, .map (mapE Dt.cells iv M) c)]
theorem imap_ok (q : Nat → Bool) (M : MM Dt Int) : ((mapE Dt.cells iv M).all fun e => e.2.1.ok q && e.2.2.ok q) = true := mapE_ok q M (fun _ => rfl) (fun _ => rfl)
theorem plc_len (l : List OpD) : (plc l).length ≤ l.length := by
  have := List.length_filter_le (fstAt l) (List.range l.length)
  simpa [plc, plcT] using this
set_option maxHeartbeats 2000000 in
theorem appseqI_ok {l : List OpD} {M : MM Dt Int} {c : Nat} (hl : l.length ≤ 1048576) (hM : AtO M l) :
    SB Try.prog slices_AppendSeq_Lint_int.f [.d .nils, .fn (.func order_index_once_1.f) [] [.ptr 0 0]] (oX l M c 0 1) 2 1
      fun r F => r = .gs 2 (plc l).length ∧ F = prow 2 (plc l).length (plc l) :: oX l M c 0 1 := by
  refine slices_AppendSeq_Lint_int.enter (by simp [SV.ok, SV.oks]) (by simp [Hp.ok, Ob.ok, SV.oks, SV.ok, imap_ok]) (by simp) ?_
  dsimp only [slices_AppendSeq_Lint_int.s, Co.M, Co.G, Co.J, Co.H, Co.N, Co.F, Co.C, Co.Z, Co.B, Co.b8, Co.b32, Co.b64, Co.i6, Co.z8, Co.z29]
  refine SW.nilrow 0 3 1 rfl ?_
  refine SW.seq ?_
  refine SW.g0 [0, 1, 2, 4, 5, 6, 7] mixed bq_tt ?_
  refine SW.seq (SW.seq ?_)
  refine SW.g0 [0, 1, 2, 4, 5, 6, 7] mixed bq_tt ?_
  refine SW.block (SW.rfun (nk := l.length * (1 + 1)) [2] [.ptr 3 0] rfl ⟨rfl, trivial⟩ fun ca cb hca hcb => ?_)
  have hLl := plc_len l
  let s0 : RowI 4 3 := ⟨[], 2, by decide, by decide⟩
  have hy := appendBodyI (y := 4) (bx := 3) (B := (plc l).length) (by decide) s0 (by simp [s0]; omega) hca hcb
  have hO : Own (oX l M c 0 1) (rowI 4 3 13 [2] [7] ca cb) s0 5 := by
    refine ⟨by simp, fun n hn => ?_, fun n hn => ?_, by simp [Hp.ok, Ob.ok, SV.oks, SV.ok, imap_ok], by simp [rowI, s0, Hp.ok, Ob.ok, SV.oks, SV.ok, pc]⟩
    · simp only [List.map_cons, List.map_nil, List.mem_cons, List.not_mem_nil, or_false] at hn; omega
    · simp only [List.map_cons, List.map_nil, List.mem_cons, List.not_mem_nil, or_false] at hn
      rcases hn with rfl | rfl <;> simp [rowI, s0, lk_cons, lk_nil]
  have hsb := once1_sb (y := 4) (b := 0) (q := 1) (k := 5) hl hM s0 hy rfl hO
  have hsubF : HSub ((0, .box 58 [ops l, .mp 1]) :: (1, .map (mapE Dt.cells iv M) c) :: rowI 4 3 13 [2] [7] ca cb s0) ((4, .rcd 13 [2] [.ptr 3 0] [7] ca cb .ready none) :: [(3, .box 60 [.gs 2 0]), (2, .arr 3 1 0 []), (0, .box 58 [ops l, .mp 1]), (1, .map (mapE Dt.cells iv M) c)]) := by
    intro n ob hn
    match n with
    | 0 | 1 | 2 | 3 | 4 => simpa [rowI, s0, lk_cons, pc] using hn
    | n + 5 => simp [rowI, s0, lk_cons, lk_nil] at hn
  have hsc := (hsb.here (fun n => decide (n < 5)) (fun n hn => ?_) (by simp [SV.oks, SV.ok]) (by simp [rowI, s0, Hp.ok, Ob.ok, SV.oks, SV.ok, imap_ok, pc]) ?_).frame hsubF
  · refine hsc.mono ?_
    rintro r F' ⟨F1, ⟨rfl, xs, s', hon, hpre, hall, ⟨hn0, hn1⟩, rfl⟩, rfl⟩
    have hl' := onBy_rowI hon
    have hxs := hall rfl
    obtain ⟨L, rn, hr1, hr2⟩ := s'
    have hL : L = plc l := by rw [show plc l = xs from hxs.symm]; simpa [s0] using hl'
    have hn0 : rn ≠ 0 := fun e => by simp [rowI, e, lk_cons] at hn0
    have hn1 : rn ≠ 1 := fun e => by simp [rowI, e, lk_cons] at hn1
    rw [← hL]
    have hlk := lk_hmrg (ro := false) (h := (4, .rcd 13 [2] [.ptr 3 0] [7] ca cb .ready none) :: [(3, .box 60 [.gs 2 0]), (2, .arr 3 1 0 []), (0, .box 58 [ops l, .mp 1]), (1, .map (mapE Dt.cells iv M) c)]) (F := (0, .box 58 [ops l, .mp 1]) :: (1, .map (mapE Dt.cells iv M) c) :: rowI 4 3 13 [2] [7] ca cb s0) (F' := (0, .box 58 [ops l, .mp 1]) :: (1, .map (mapE Dt.cells iv M) c) :: rowI 4 3 13 [2] [7] ca cb ⟨L, rn, hr1, hr2⟩) hsubF (fun h => by cases h)
    generalize hmrg false _ _ _ = G at hlk
    have hG : ∀ n ob, lk ((0, Ob.box 58 [ops l, .mp 1]) :: (1, .map (mapE Dt.cells iv M) c) :: rowI 4 3 13 [2] [7] ca cb ⟨L, rn, hr1, hr2⟩) n = some ob → lk G n = some ob := fun n ob h => by
      rw [hlk, mrg_in (.inr (by rw [h]; simp)), h]
    refine ⟨none, hG 4 _ (by simp [rowI, lk_cons, recSt]), ?_⟩
    refine SW.weak (fun n => if n = 2 then rn else n) (st1 := ⟨[(2, .ptr 3 0)], [(3, .box 60 [.gs 2 L.length]), (2, .arr 3 1 L.length (pc L)), (0, .box 58 [ops l, .mp 1]), (1, .map (mapE Dt.cells iv M) c)], 6⟩) ?_ ?_
    · have q3 := hG 3 (.box 60 [.gs rn L.length]) (by simp [rowI, lk_cons])
      have q2 := hG rn (.arr 3 1 L.length (pc L)) (by simp [rowI, lk_cons, hn0, hn1, hr1, hr2])
      have q0 := hG 0 (.box 58 [ops l, .mp 1]) (by simp [lk_cons])
      have q1 := hG 1 (.map (mapE Dt.cells iv M) c) (by simp [lk_cons])
      refine ⟨by show 2 ≤ 6; omega, fun n hn => if_neg (by omega), ?_, ?_, ?_⟩
      · simp [EnvW, List.lookup, SV.ren, SV.ok]
      · simp [HpW, lk_hdel, Ob.ren, SV.rens, SV.ren, SV.rens_d, SV.oks_d, Ob.ok, SV.oks, SV.ok, q3, q2, q0, q1, hr1, pc_ren, pc_ok, dmap_ren, imap_ok]
      · intro a ha b hb e
        simp only [List.map_cons, List.map_nil, List.mem_cons, List.not_mem_nil, or_false] at ha hb
        rcases ha with rfl | rfl | rfl | rfl <;> rcases hb with rfl | rfl | rfl | rfl <;> simp at e <;> first | rfl | omega
    · refine SW.seq ?_
      refine SW.g0 [0, 1, 2, 4, 5, 6, 7] mixed bq_tt ?_
      refine SW.ret ?_
      exact End.mk (prow 2 L.length L :: oX l M c 0 1) (h4 := ⟨rfl, rfl⟩) (h6 := by simp [Hp.ok, Ob.ok, SV.oks, SV.ok, pc_ok, imap_ok])
  · match n, hn with
    | 0, _ | 1, _ | 2, _ | 3, _ | 4, _ => simp [rowI, s0, lk_cons]
    | n + 5, h => have : n + 5 < 5 := by simpa using h
                  omega
  · rintro r F' _ h1 h2
    refine ⟨SV.ok_more (fun n hn => ?_) _ h1, Hp.ok_mono (fun n hn => ?_) h2⟩ <;> (simp at hn ⊢; omega)
end Go.Proofs.Ytamokhfmnhpnlaa

/-
  Order: places in the order.
-/
set_option linter.unusedSectionVars false
set_option linter.unusedVariables false
set_option linter.unusedSimpArgs false
namespace Go.Proofs.Ytamokhfmnhpnlaa
open Go.Sl Go.Proofs
attribute [local irreducible] SW RW SCd SC CallP Pruned

/-- What stands at a place. -/
def opPl (l : List OpD) (i : Nat) : OpD := l.getD i OpD.zero
theorem opPl_of {l : List OpD} {i : Nat} {x : OpD} (h : l[i]? = some x) : opPl l i = x := by simp [opPl, List.getD_eq_getElem?_getD, h]
theorem opPl_get {l : List OpD} {i : Nat} (h : i < l.length) : l[i]? = some (opPl l i) := by simp [opPl, List.getD_eq_getElem?_getD, List.getElem?_eq_getElem h]
/-- Where an operation stands first. -/
def plO (l : List OpD) (o : OpD) : Nat := ((ixO l o.dot).getD 0).toNat
/-- The places that count, in the order. -/
def srtP (l : List OpD) : List Nat := (osort l).map (plO l)
theorem mem_plc {l : List OpD} {i : Nat} : i ∈ plc l ↔ i < l.length ∧ fstAt l i = true := by
  unfold plc plcT
  rw [List.mem_filter, List.mem_range]
theorem fstAt_ix {l : List OpD} {i : Nat} (h : fstAt l i = true) : ixO l (opPl l i).dot = some (i : Int) := by
  unfold fstAt at h
  cases hx : l[i]? with
  | none => rw [hx] at h; cases h
  | some x =>
    rw [hx] at h
    rw [opPl_of hx]
    simpa using h
theorem plO_at {l : List OpD} {i : Nat} (h : fstAt l i = true) : plO l (opPl l i) = i := by
  unfold plO
  rw [fstAt_ix h]; simp
theorem ixO_eq {l : List OpD} {d : Dt} {i : Nat} : ixO l d = some (i : Int) ↔ l.findIdx? (fun o => decide (o.dot = d)) = some i := by
  unfold ixO
  cases l.findIdx? (fun o => decide (o.dot = d)) with
  | none => simp
  | some j => simp; omega
theorem fstAt_iff {l : List OpD} {i : Nat} {x : OpD} (h : l[i]? = some x) : fstAt l i = !(findO (l.take i) x.dot).isSome := by
  unfold fstAt
  rw [h]
  simp only
  have hi := lt_of_get h
  rw [Bool.eq_iff_iff, decide_eq_true_eq]
  rw [ixO_eq]
  unfold findO
  cases hf : (l.take i).find? (fun o => decide (o.dot = x.dot)) with
  | some o =>
    simp only [Option.isSome_some, Bool.not_true, Bool.false_eq_true, iff_false]
    intro hj
    obtain ⟨h1, h2, h3⟩ := List.findIdx?_eq_some_iff_getElem.1 hj
    have hm := List.mem_of_find?_eq_some hf
    have hp := List.find?_some hf
    obtain ⟨u, hu, he⟩ := List.mem_iff_getElem.1 hm
    have hu2 : u < i := by simp at hu; omega
    refine h3 u hu2 ?_
    rw [List.getElem_take] at he
    rw [he]; exact hp
  | none =>
    simp only [Option.isSome_none, Bool.not_false, iff_true]
    rw [List.find?_eq_none] at hf
    rw [List.findIdx?_eq_some_iff_getElem]
    have hx : l[i] = x := by rw [List.getElem?_eq_getElem hi] at h; injection h
    refine ⟨hi, by simp [hx], fun j hj => ?_⟩
    refine hf _ (List.mem_iff_getElem.2 ⟨j, by simp; omega, ?_⟩)
    rw [List.getElem_take]
theorem plcT_fst (l : List OpD) : ∀ i, i ≤ l.length → (plcT l i).map (opPl l) = fstO (l.take i)
  | 0, _ => by simp [plcT, fstO]
  | i + 1, h => by
    obtain ⟨x, hx⟩ := get_of_lt (show i < l.length by omega)
    rw [plcT_succ, take_snoc hx, fstO_snoc, fstAt_iff hx, ← plcT_fst l i (by omega)]
    cases (findO (l.take i) x.dot).isSome with
    | true => simp
    | false => simp [opPl_of hx]
theorem plc_fst (l : List OpD) : (plc l).map (opPl l) = fstO l := by
  have := plcT_fst l l.length (Nat.le_refl _)
  rwa [List.take_length] at this
theorem opPl_plO {l : List OpD} {o : OpD} (h : o ∈ fstO l) : opPl l (plO l o) = o ∧ plO l o ∈ plc l := by
  rw [← plc_fst] at h
  obtain ⟨i, hi, rfl⟩ := List.mem_map.1 h
  rw [plO_at (mem_plc.1 hi).2]
  exact ⟨rfl, hi⟩
theorem srtP_ops (l : List OpD) : (srtP l).map (opPl l) = osort l := by
  unfold srtP
  rw [List.map_map]
  have : ∀ o, o ∈ osort l → (opPl l ∘ plO l) o = o := fun o ho => (opPl_plO ((osort_perm l).mem_iff.1 ho)).1
  rw [List.map_congr_left this]
  simp
theorem srtP_perm (l : List OpD) : (srtP l).Perm (plc l) := by
  unfold srtP
  refine ((osort_perm l).map (plO l)).trans ?_
  rw [← plc_fst, List.map_map]
  have : ∀ i, i ∈ plc l → (plO l ∘ opPl l) i = i := fun i hi => plO_at (mem_plc.1 hi).2
  rw [List.map_congr_left this]
  simp
theorem srtP_len (l : List OpD) : (srtP l).length = (plc l).length := (srtP_perm l).length_eq
/-- Two places, by their operations. -/
def cpl (l : List OpD) (i j : Nat) : Int := ocmp (opPl l i) (opPl l j)
def DPl (l : List OpD) (i : Nat) : Prop := i < l.length ∧ fstAt l i = true
theorem plc_rw (l : List OpD) : Rw (DPl l) (plc l) := ⟨fun i hi => mem_plc.1 hi, List.Nodup.sublist List.filter_sublist List.nodup_range⟩
theorem cpl_tot (l : List OpD) : Tot (cpl l) (DPl l) where
  asym x y _ _ h1 h2 := by
    rw [cpl, ocmp_lt] at h1 h2
    have := OpD.lt_trans h1 h2
    rw [OpD.lt_irrefl] at this; cases this
  trans x y z _ _ _ h1 h2 := by
    rw [cpl, ocmp_lt] at *
    exact OpD.lt_trans h1 h2
  tot x y hx hy hne := by
    rw [cpl, cpl, ocmp_lt, ocmp_lt]
    refine OpD.lt_total fun e => hne ?_
    have h1 := fstAt_ix hx.2
    have h2 := fstAt_ix hy.2
    rw [e, h2] at h1
    injection h1 with h1
    omega
theorem srtP_srt (l : List OpD) : Srt (cpl l) (srtP l) 0 (srtP l).length := fun p q _ h2 h3 => by
  have hr := osort_rises l
  unfold Rises at hr
  rw [← srtP_ops, List.pairwise_map, List.pairwise_iff_getElem] at hr
  have := hr p q (by omega) h3 h2
  unfold Lt cpl
  rw [ge_of (List.getElem?_eq_getElem (show p < (srtP l).length by omega)), ge_of (List.getElem?_eq_getElem h3), ocmp_lt]
  exact this
theorem cpl_c (l : List OpD) (M : MM Dt Int) (c b q : Nat) (hbq : b ≠ q) : CmpC Try.prog order_index_compare.f [idxS l q] (oX l M c b q) (cpl l) (DPl l) where
  tot := cpl_tot l
  call x y k hx hy _ := icompare_at l (opPl_get hx.1) (opPl_get hy.1) q k
  fo := by simp [SV.oks, SV.ok, idxS, lk_cons, hbq.symm]
  nd := by simp [hbq]
  cl := by simp [Hp.ok, Ob.ok, SV.oks, SV.ok, lk_cons, hbq.symm, imap_ok]
theorem appseqI_at {l : List OpD} {M : MM Dt Int} {c : Nat} (hl : l.length ≤ 1048576) (hM : AtO M l) (b q : Nat) (hbq : b ≠ q) (k : Nat) :
    SCd Try.prog slices_AppendSeq_Lint_int.f [.d .nils, .fn (.func order_index_once_1.f) [] [.ptr b 0]] (oX l M c b q) k 1 (.gs k (plc l).length) (prow k (plc l).length (plc l) :: oX l M c b q) := by
  have h := SB.atL [b, q] (appseqI_ok (c := c) hl hM) (by simp [hbq]) (fun i hi => by
    match i, hi with
    | 0, _ | 1, _ => simp [lk_cons]) k
  simp only [Hp.ren, Ob.ren, SV.ren, SV.rens, List.map_cons, List.map_nil, pc_ren, dmap_ren] at h
  have e : atN [b, q] k 2 = k := by simp [atN]
  simpa [atN, e] using h
theorem collectI_ok {l : List OpD} {M : MM Dt Int} {c : Nat} (hl : l.length ≤ 1048576) (hM : AtO M l) :
    SB Try.prog slices_Collect_int.f [.fn (.func order_index_once_1.f) [] [.ptr 0 0]] (oX l M c 0 1) 2 1
      fun r F => r = .gs 2 (plc l).length ∧ F = prow 2 (plc l).length (plc l) :: oX l M c 0 1 := by
  refine slices_Collect_int.enter (by simp [SV.ok, SV.oks]) (by simp [Hp.ok, Ob.ok, SV.oks, SV.ok, imap_ok]) (by simp) ?_
  dsimp only [slices_Collect_int.s, Co.M, Co.G, Co.J, Co.H, Co.N, Co.F, Co.C, Co.Z, Co.B, Co.b8, Co.b32, Co.b64, Co.i6, Co.z8, Co.z29]
  refine SW.seq ?_
  refine SW.g1 [0, 2] mixed bq_tt (appseqI_at (c := c) hl hM 0 1 (by decide) 2) ?_
  refine SW.seq ?_
  refine SW.g1 [0, 2] mixed bq_tt (appseqI_at (c := c) hl hM 0 1 (by decide) 2) ?_
  refine SW.ret ?_
  exact End.mk (prow 2 (plc l).length (plc l) :: oX l M c 0 1) (h4 := ⟨rfl, rfl⟩) (h6 := by simp [Hp.ok, Ob.ok, SV.oks, SV.ok, pc_ok, imap_ok])
theorem collectI_at {l : List OpD} {M : MM Dt Int} {c : Nat} (hl : l.length ≤ 1048576) (hM : AtO M l) (b q : Nat) (hbq : b ≠ q) (k : Nat) :
    SCd Try.prog slices_Collect_int.f [.fn (.func order_index_once_1.f) [] [.ptr b 0]] (oX l M c b q) k 1 (.gs k (plc l).length) (prow k (plc l).length (plc l) :: oX l M c b q) := by
  have h := SB.atL [b, q] (collectI_ok (c := c) hl hM) (by simp [hbq]) (fun i hi => by
    match i, hi with
    | 0, _ | 1, _ => simp [lk_cons]) k
  simp only [Hp.ren, Ob.ren, SV.ren, SV.rens, List.map_cons, List.map_nil, pc_ren, dmap_ren] at h
  have e : atN [b, q] k 2 = k := by simp [atN]
  simpa [atN, e] using h
set_option maxHeartbeats 1000000 in
theorem sortedI_ok {l : List OpD} {M : MM Dt Int} {c : Nat} (h256 : l.length < 256) (hM : AtO M l) :
    SB Try.prog slices_SortedFunc_int.f [.fn (.func order_index_once_1.f) [] [.ptr 0 0], cfn order_index_compare.f [idxS l 1]] (oX l M c 0 1) 2 1
      fun r F => r = .gs 2 (plc l).length ∧ F = prow 2 (plc l).length (srtP l) :: oX l M c 0 1 := by
  refine slices_SortedFunc_int.enter (by simp [SV.ok, SV.oks, idxS]) (by simp [Hp.ok, Ob.ok, SV.oks, SV.ok, imap_ok]) (by simp) ?_
  have hl : l.length ≤ 1048576 := by omega
  dsimp only [slices_SortedFunc_int.s, Co.M, Co.G, Co.J, Co.H, Co.N, Co.F, Co.C, Co.Z, Co.B, Co.b8, Co.b32, Co.b64, Co.i6, Co.z8, Co.z29]
  have hc := cpl_c l M c 0 1 (by decide)
  have ha : At (oX l M c 0 1) 2 3 := ⟨by simp [lk_cons, lk_nil], by decide, by simp [Hp.ok, Ob.ok, SV.oks, SV.ok, imap_ok]⟩
  have hpl := plc_len l
  refine SW.seq ?_
  refine SW.g1 [0, 1, 4, 5] mixed bq_tt (collectI_at (c := c) hl hM 0 1 (by decide) 2) ?_
  refine SW.seq ?_
  refine SW.g1 [0, 1, 4, 5] mixed bq_tt (collectI_at (c := c) hl hM 0 1 (by decide) 2) ?_
  refine SW.seq (SW.ofN ?_)
  (repeat (first | refine SWn.op bq_tt (h := ?_) | refine SWn.opN bq_tt (h := ?_) | refine SWn.skip (h := ?_)))
  refine SWn.callC (isort_at hc ha (plc_rw l) rfl (by omega)) (fun _ _ h => h) (h := ?_)
  rintro _ _ ⟨rfl, R', hp, hsr, rfl⟩
  rw [pmrg hc ha]
  have hR : R' = srtP l := by
    refine Srt.uniq (cpl_tot l) ((plc_rw l).perm hp) (hp.trans (srtP_perm l).symm) ?_ (srtP_srt l)
    rw [hp.length_eq]; exact hsr
  subst hR
  refine SWn.nil ?_
  refine SW.seq ?_
  refine SW.g0 [0, 1, 4, 5] mixed bq_tt ?_
  refine SW.ret ?_
  exact End.mk (prow 2 (plc l).length (srtP l) :: oX l M c 0 1) (h4 := ⟨rfl, rfl⟩) (h6 := by simp [Hp.ok, Ob.ok, SV.oks, SV.ok, pc_ok, imap_ok])
theorem sortedI_at {l : List OpD} {M : MM Dt Int} {c : Nat} (hl : l.length < 256) (hM : AtO M l) (b q : Nat) (hbq : b ≠ q) (k : Nat) :
    SCd Try.prog slices_SortedFunc_int.f [.fn (.func order_index_once_1.f) [] [.ptr b 0], cfn order_index_compare.f [idxS l q]] (oX l M c b q) k 1 (.gs k (plc l).length) (prow k (plc l).length (srtP l) :: oX l M c b q) := by
  have h := SB.atL [b, q] (sortedI_ok (c := c) hl hM) (by simp [hbq]) (fun i hi => by
    match i, hi with
    | 0, _ | 1, _ => simp [lk_cons]) k
  simp only [idxS, Hp.ren, Ob.ren, SV.ren, SV.rens, List.map_cons, List.map_nil, pc_ren, dmap_ren] at h
  have e : atN [b, q] k 2 = k := by simp [atN]
  simpa [atN, e, idxS] using h
end Go.Proofs.Ytamokhfmnhpnlaa

/-
  Order: Sort.
-/
set_option linter.unusedSectionVars false
set_option linter.unusedVariables false
set_option linter.unusedSimpArgs false
namespace Go.Proofs.Ytamokhfmnhpnlaa
open Go.Sl Go.Proofs
attribute [local irreducible] SW RW SCd SC CallP Pruned

theorem once_sb (l : List OpD) : SB Try.prog order_index_once.f [idxS l 0] [] 1 1 fun r F => r = .fn (.func order_index_once_1.f) [] [.ptr 1 0] ∧ F = [(1, .box 58 [ops l, .mp 0])] := by
  refine order_index_once.enter (by simp [idxS, SV.ok, SV.oks]) (by simp [Hp.ok]) (by simp) ?_
  unfold idxS
  dsimp only [order_index_once.s, Co.M, Co.G, Co.J, Co.H, Co.N, Co.F, Co.C, Co.Z, Co.B, Co.b8, Co.b32, Co.b64, Co.i6, Co.z8, Co.z29]
  refine SW.seq ?_
  refine SW.g0 [0, 1, 2] mixed bq_tt ?_
  refine SW.seq ?_
  refine SW.g0 [0, 1, 2] mixed bq_tt ?_
  refine SW.ret ?_
  exact End.mk [(1, .box 58 [ops l, .mp 0])] (h4 := ⟨rfl, rfl⟩) (h5 := by simp [retV, SV.ok, SV.oks]) (h6 := by simp [Hp.ok, Ob.ok, SV.oks, SV.ok])
theorem once_at (l : List OpD) (q k : Nat) : SCd Try.prog order_index_once.f [.agg [ops l, .mp q]] [] k 1 (.fn (.func order_index_once_1.f) [] [.ptr k 0]) [(k, .box 58 [ops l, .mp q])] := by
  have h := SB.at (once_sb l) (fun n => if n = 0 then q else k) k (fun n m h1 h2 _ => by omega) (fun n hn p μ M w vals hr hS => by
    obtain ⟨u, us, e, r1, r2⟩ := Rps.cons_iff.1 hr
    obtain ⟨vs, _, r3⟩ := Rp.agg_iff.1 r1
    obtain ⟨u1, us1, e1, r4, r5⟩ := Rps.cons_iff.1 r3
    obtain ⟨u2, us2, e2, r6, r7⟩ := Rps.cons_iff.1 r5
    have := Rp.mp_p r6
    have hn0 : n = 0 := by omega
    subst hn0
    simpa using this) (fun i hi => by simp; omega)
  unfold SCd
  refine SC.mono h ?_
  rintro r F ⟨r0, F0, ⟨rfl, rfl⟩, rfl, rfl⟩
  exact ⟨by simp [SV.ren, SV.rens], by simp [Hp.ren, Ob.ren, SV.rens, SV.ren]⟩
theorem indexOf_at (l : List OpD) (hl : l.length < 4611686018427387904) : SC Try.prog order_indexOf.f [ops l] [] 0 3 fun r F => r = idxS l 1 ∧ ∃ M c, AtO M l ∧ F = [(1, .map (mapE Dt.cells iv M) c)] :=
  (indexOf_sb l hl).here (fun _ => false) (fun n hn => by cases hn) (by simp [SV.oks, SV.ok, SV.oks_d]) (by simp [Hp.ok]) (by
    rintro r F ⟨rfl, M, c, _, rfl⟩ _ _
    exact ⟨by simp [idxS, SV.ok, SV.oks], by simp [Hp.ok, Ob.ok, imap_ok]⟩)
set_option maxHeartbeats 4000000 in
theorem osort_ok (l : List OpD) (hl : l.length < 256) : Go.Sl.Pure Try.prog order_Sort.f [ops l] (ops (osort l)) := by
  refine order_Sort.enter (by first | rfl | simp [SV.ok, SV.oks]) (by first | rfl | simp [Hp.ok, Ob.ok, SV.ok, SV.oks, Vec.cells_ok]) (by simp) ?_
  dsimp only [order_Sort.s, Co.M, Co.G, Co.J, Co.H, Co.N, Co.F, Co.C, Co.Z, Co.B, Co.b8, Co.b32, Co.b64, Co.i6, Co.z8, Co.z29]
  refine SW.seq ?_
  (refine SW.regL [0, 2, 3, 4, 6, 13, 14, 15, 16] mixed ?_; (repeat (first | refine RW.ro bq_tt (h := ?_) | refine RW.skip (h := ?_) | refine RW.op bq_tt (h := ?_) | refine RW.opN bq_tt (h := ?_) | refine RW.skip0 (h := ?_) | refine lit1 rfl rfl (h := ?_))); refine RW.nil ⟨conf_of (by kernel_rfl), Pruned.mk (h := ?_)⟩)
  refine SW.seq (SW.ofN ?_)
  (repeat (first | refine SWn.op bq_tt (h := ?_) | refine SWn.opN bq_tt (h := ?_) | refine SWn.skip (h := ?_)))
  refine SWn.callC (indexOf_at l (by omega)) (HSub.nil _) (h := ?_)
  rintro _ _ ⟨rfl, M, c, hM, rfl⟩
  simp only [idxS]
  simp only [hmrg, hsets, hdels, hset, hrep, hdel, lk, List.lookup, Nat.reduceBEq, BEq.rfl, beq_self_eq_true, if_true, if_false, reduceIte, Nat.reduceEqDiff, Bool.false_eq_true, Option.isSome_some, Option.isSome_none, Nat.reduceAdd]
  have s1 : spl [SV.d .nils, SV.d .nilm] 0 [ops l, .mp 1] = [ops l, .mp 1] := rfl
  have s2 : spl (spl [SV.d .nils, SV.d .nilm] 0 [ops l]) 1 [SV.mp 1] = [ops l, .mp 1] := rfl
  (repeat (first | refine SWn.op (And.intro (s1) (s2)) (h := ?_) | refine SWn.opN (And.intro (s1) (s2)) (h := ?_) | refine SWn.skip (h := ?_)))
  refine SWn.nil ?_
  have hops := srtP_ops l
  have hmem : ∀ i, i ∈ srtP l → i < l.length := fun i hi => (mem_plc.1 ((srtP_perm l).mem_iff.1 hi)).1
  have hS := sortedI_at (c := c) hl hM 5 1 (by decide) 6
  have hLl := srtP_len l
  have hLb := plc_len l
  rw [← hLl] at hS hLb
  generalize srtP l = L at hS hops hmem hLb
  clear hLl
  refine SW.seq ?_
  (refine SW.regL [0, 2, 3, 4, 6, 13, 14, 15, 16] mixed ?_; (repeat (first | refine RW.ro bq_tt (h := ?_) | refine RW.skip (h := ?_) | refine RW.op bq_tt (h := ?_) | refine RW.opN bq_tt (h := ?_) | refine RW.skip0 (h := ?_) | refine lit1 rfl rfl (h := ?_))); refine RW.nil ⟨conf_of (by kernel_rfl), Pruned.mk (h := ?_)⟩)
  refine SW.nilrow 4 33 29 rfl ?_
  refine SW.seq (SW.seq ?_)
  (refine SW.regL [0, 2, 3, 4, 6, 13, 14, 15, 16] mixed ?_; (repeat (first | refine RW.ro bq_tt (h := ?_) | refine RW.skip (h := ?_) | refine RW.op bq_tt (h := ?_) | refine RW.opN bq_tt (h := ?_) | refine RW.skip0 (h := ?_) | refine lit1 rfl rfl (h := ?_) | (refine RW.callC (h := ?_); (first | refine CallP.mk bq_tt (hc := once_at l 1 5) (h := ?_) | refine CallP.mk bq_tt (hc := hS) (h := ?_))))); refine RW.nil ⟨conf_of (by kernel_rfl), Pruned.mk (h := ?_)⟩)
  refine SW.block ?_
  refine SW.loopA (α := {j : Nat // j ≤ L.length}) (fun j => ⟨[(15, i64 (j.1 : Nat)), (13, .gs 6 L.length), (14, i64 (L.length : Nat)), (4, .gs 4 (L.take j.1).length), (0, ops l)], [(4, .arr 33 29 (L.take j.1).length (opc ((L.take j.1).map (opPl l)))), (6, .arr 3 1 L.length (pc L))], 7⟩) (fun j => L.length - j.1) ⟨0, Nat.zero_le _⟩ id (And.intro (pc_ok (fun n => decide (n < 7)) L) (pc_ren id L)) (round := ?_)
  rintro ⟨j, hj⟩
  dsimp only
  by_cases h : j < L.length
  · have h1 : decide ((j : Int) < L.length) = true := by simp only [decide_eq_true_eq]; omega
    obtain ⟨i, hi⟩ : ∃ i, L[j]? = some i := ⟨L[j], List.getElem?_eq_getElem h⟩
    have hx := opPl_get (hmem i (List.mem_of_getElem? hi))
    have hil := hmem i (List.mem_of_getElem? hi)
    have e2 : IntKind.i64.wrap ((j : Int) + 1) = ((j + 1 : Nat) : Int) := wrap_i64 _ (by omega)
    have e1 : L.take (j + 1) = L.take j ++ [i] := by
      rw [List.take_add_one, hi]; rfl
    have hlen : (L.take j).length = j := by simp; omega
    generalize L.take j = T at e1 hlen ⊢
    generalize hxx : opPl l i = x at hx
    refine SW.seq ?_
    (refine SW.regL [0, 2, 3, 4, 6, 13, 14, 15, 16] mixed ?_; (repeat (first | refine RW.ro (h1) (h := ?_) | refine RW.skip (h := ?_) | refine RW.op (h1) (h := ?_) | refine RW.opN (h1) (h := ?_) | refine RW.skip0 (h := ?_) | refine lit1 rfl rfl (h := ?_))); refine RW.nil ⟨conf_of (by kernel_rfl), Pruned.mk (h := ?_)⟩)
    refine SW.seq (SW.condT rfl (SW.skip ?_))
    refine SW.seq (SW.block (SW.seq ?_))
    (refine SW.regL [0, 2, 3, 4, 6, 13, 14, 15, 16] mixed ?_; (repeat (first | refine RW.ro (pc_get hi) (h := ?_) | refine RW.skip (h := ?_) | refine RW.op (pc_get hi) (h := ?_) | refine RW.opN (pc_get hi) (h := ?_) | refine RW.skip0 (h := ?_) | refine lit1 rfl rfl (h := ?_))); refine RW.nil ⟨conf_of (by kernel_rfl), Pruned.mk (h := ?_)⟩)
    (refine SW.regL [0, 2, 3, 4, 6, 13, 14, 15, 16] mixed ?_; (repeat (first | refine RW.ro (And.intro (op_at hx) (op_room0 hx)) (h := ?_) | refine RW.skip (h := ?_) | refine RW.op (And.intro (op_at hx) (op_room0 hx)) (h := ?_) | refine RW.opN (And.intro (op_at hx) (op_room0 hx)) (h := ?_) | refine RW.skip0 (h := ?_) | refine lit1 rfl rfl (h := ?_))); refine RW.nil ⟨conf_of (by kernel_rfl), Pruned.mk (h := ?_)⟩)
    (refine SW.regL [0, 2, 3, 4, 6, 13, 14, 15, 16] mixed ?_; (repeat (first | refine RW.ro (e2) (h := ?_) | refine RW.skip (h := ?_) | refine RW.op (e2) (h := ?_) | refine RW.opN (e2) (h := ?_) | refine RW.skip0 (h := ?_) | refine lit1 rfl rfl (h := ?_))); refine RW.nil ⟨conf_of (by kernel_rfl), Pruned.mk (h := ?_)⟩)
    have e5 : (T ++ [i]).length = T.length + [x].length := by simp
    have e6 : opc ((T ++ [i]).map (opPl l)) = opc (T.map (opPl l)) ++ List.map SV.d ([x].flatMap OpD.ds) := by simp [hxx, opc]
    refine ⟨⟨j + 1, by omega⟩, fun n => if n = 4 then 7 else n, by show L.length - (j + 1) < _; omega, ?_⟩
    dsimp only
    rw [e1, e5, e6]
    exact Weak.mk (And.intro (pc_ok (fun n => decide (n < 7)) L) (pc_ren (fun n => if n = 4 then 7 else n) L))
  · have h1 : decide ((j : Int) < L.length) = false := by simp only [decide_eq_false_iff_not]; omega
    have hjl : j = L.length := by omega
    subst hjl
    rw [List.take_length, hops]
    refine SW.seq ?_
    (refine SW.regL [0, 2, 3, 4, 6, 13, 14, 15, 16] mixed ?_; (repeat (first | refine RW.ro (h1) (h := ?_) | refine RW.skip (h := ?_) | refine RW.op (h1) (h := ?_) | refine RW.opN (h1) (h := ?_) | refine RW.skip0 (h := ?_) | refine lit1 rfl rfl (h := ?_))); refine RW.nil ⟨conf_of (by kernel_rfl), Pruned.mk (h := ?_)⟩)
    refine SW.seq (SW.condF rfl (SW.exit ?_))
    refine SW.seq ?_
    (refine SW.regL [0, 2, 3, 4, 6, 13, 14, 15, 16] mixed ?_; (repeat (first | refine RW.ro bq_tt (h := ?_) | refine RW.skip (h := ?_) | refine RW.op bq_tt (h := ?_) | refine RW.opN bq_tt (h := ?_) | refine RW.skip0 (h := ?_) | refine lit1 rfl rfl (h := ?_))); refine RW.nil ⟨conf_of (by kernel_rfl), Pruned.mk (h := ?_)⟩)
    refine SW.freeze 4 ((osort l).flatMap OpD.ds) rfl rfl ?_
    simp only [frzE, SV.frz, List.map_cons, List.map_nil, if_true, if_false, reduceIte, hdel, Nat.reduceEqDiff]
    have : L.length = (osort l).length := by rw [← hops]; simp
    rw [this]
    refine SW.ret ?_
    exact End.mk [] (h4 := ⟨rfl, rfl⟩)
theorem osort_at (l : List OpD) (hl : l.length < 256) (k : Nat) : SCd Try.prog order_Sort.f [ops l] [] k 0 (ops (osort l)) [] := (osort_ok l hl).sc rfl k
end Go.Proofs.Ytamokhfmnhpnlaa

/-
  Gossip: what is lacked, and what is covered, are together the set, each dot once.
-/
set_option linter.unusedSectionVars false
set_option linter.unusedVariables false
set_option linter.unusedSimpArgs false
namespace Go.Proofs.Ytamokhfmnhpnlaa
open Go.Sl Go.Proofs
attribute [local irreducible] SW RW SCd SC CallP Pruned

theorem op_dr {l : List OpD} {i : Nat} {x : OpD} (h : l[i]? = some x) : (List.map SV.d (l.flatMap OpD.ds))[i * 29]? = some (.d (.int .u8 (x.dot.r : Int))) := by
  have := op_load h
  have := congrArg (fun t => t[0]?) this
  simp only [List.getElem?_take, List.getElem?_drop] at this
  simpa [Dt.cells, Dt.ds] using this
theorem op_dn {l : List OpD} {i : Nat} {x : OpD} (h : l[i]? = some x) : (List.map SV.d (l.flatMap OpD.ds))[i * 29 + 1]? = some (.d (.int .u32 (x.dot.n : Int))) := by
  have := op_load h
  have := congrArg (fun t => t[1]?) this
  simp only [List.getElem?_take, List.getElem?_drop] at this
  simpa [Dt.cells, Dt.ds] using this
/-- Dots that may be. -/
def MayD (o : OpD) : Prop := o.dot.r < 8 ∧ 0 < o.dot.n
theorem cov_may {o : OpD} (h : MayD o) (v : Vec) : v.covers o.dot = decide (o.dot.n ≤ v.get (o.dot.r % 8)) := by
  unfold Vec.covers Dt.may
  rw [Nat.mod_eq_of_lt h.1]
  have h1 := h.1
  have h2 := h.2
  simp [h1, h2]
def o_le (v : Vec) (o : OpD) : Bool := decide (o.dot.n ≤ v.get (o.dot.r % 8))
def covN (v : Vec) (L : List OpD) : Nat := L.countP (o_le v)
theorem covN_snoc (v : Vec) (L : List OpD) (x : OpD) : covN v (L ++ [x]) = covN v L + if o_le v x then 1 else 0 := by
  unfold covN
  rw [List.countP_append, List.countP_singleton]
theorem lacks_sum {l : List OpD} (h : ∀ o, o ∈ l → MayD o) (v : Vec) : (lackS l v).length + covN v (osort l) = (osort l).length := by
  have e1 : (lackS l v).length = ((fstO l).filter fun o => !v.covers o.dot).length := (osorted_perm _).length_eq
  have e2 : covN v (osort l) = ((fstO l).countP fun o => v.covers o.dot) := by
    unfold covN
    rw [(osort_perm l).countP_eq]
    refine List.countP_congr fun o ho => ?_
    rw [cov_may (h o ((fstO_sub l).subset ho))]
    exact Iff.rfl
  have e3 : (osort l).length = (fstO l).length := (osort_perm l).length_eq
  rw [e1, e2, e3, ← List.countP_eq_length_filter]
  have := List.length_eq_countP_add_countP (l := fstO l) (p := fun o => v.covers o.dot)
  simp only [decide_not, Bool.decide_eq_true] at this
  omega
theorem lacks_known {l : List OpD} (h : ∀ o, o ∈ l → MayD o) : (lackS l (knownV l)).length = 0 := by
  have e1 : (lackS l (knownV l)).length = ((fstO l).filter fun o => !(knownV l).covers o.dot).length := (osorted_perm _).length_eq
  rw [e1, List.length_eq_zero_iff, List.filter_eq_nil_iff]
  intro o ho
  have hm := (fstO_sub l).subset ho
  rw [cov_may (h o hm), Nat.mod_eq_of_lt (h o hm).1]
  simpa using knownV_ge hm (h o hm).1
theorem lacks_zero {l : List OpD} (h : ∀ o, o ∈ l → MayD o) : (lackS l Vec.zero).length = (osort l).length := by
  have e1 : (lackS l Vec.zero).length = ((fstO l).filter fun o => !Vec.zero.covers o.dot).length := (osorted_perm _).length_eq
  rw [e1, (osort_perm l).length_eq]
  congr 1
  rw [List.filter_eq_self]
  intro o ho
  have hm := (fstO_sub l).subset ho
  rw [cov_may (h o hm), Nat.mod_eq_of_lt (h o hm).1]
  have h0 : Vec.zero.get o.dot.r = 0 := Vec.zero_get _
  have := (h o hm).2
  rw [h0]; simp; omega
theorem lackS_next {l : List OpD} {v : Vec} {i : Nat} {a b : OpD} (ha : (lackS l v)[i]? = some a) (hb : (lackS l v)[i + 1]? = some b) : ocmp a b = -1 := by
  have hr : Rises (lackS l v) := osorted_rises (lackL_uniq l v)
  unfold Rises at hr
  rw [List.pairwise_iff_getElem] at hr
  have hi := lt_of_get ha
  have hj := lt_of_get hb
  have := hr i (i + 1) hi hj (Nat.lt_succ_self i)
  rw [List.getElem?_eq_getElem hi] at ha
  rw [List.getElem?_eq_getElem hj] at hb
  injection ha with ha
  injection hb with hb
  rw [ha, hb] at this
  unfold ocmp
  rw [if_pos this]
end Go.Proofs.Ytamokhfmnhpnlaa

/-
  Gossip: the law that what is lacked, and what is covered, are together the set.
-/
set_option linter.unusedSectionVars false
set_option linter.unusedVariables false
set_option linter.unusedSimpArgs false
namespace Go.Proofs.Ytamokhfmnhpnlaa
open Go.Sl Go.Proofs
attribute [local irreducible] SW RW SCd SC CallP Pruned

set_option maxHeartbeats 4000000 in
theorem parts_law (l : List OpD) (v : Vec) (hl : OpsB l) : Go.Sl.Pure Try.prog law14_GossipParts.f [ops l, .agg v.cells] (bl true) := by
  refine law14_GossipParts.enter (by first | rfl | simp [SV.ok, SV.oks]) (by first | rfl | simp [Hp.ok, Ob.ok, SV.ok, SV.oks, Vec.cells_ok]) (by simp) ?_
  dsimp only [law14_GossipParts.s, Co.M, Co.G, Co.J, Co.H, Co.N, Co.F, Co.C, Co.Z, Co.B, Co.b8, Co.b32, Co.b64, Co.i6, Co.z8, Co.z29]
  have hg := greatW_at l hl
  refine SW.seq ?_
  refine SW.g0 [0, 1, 3, 4, 5, 6, 7, 8, 9, 10, 12, 17, 35, 43, 56, 62, 80] mixed bq_tt ?_
  rcases hb : greatW l with _ | _ <;> rw [hb] at hg
  rotate_left
  · refine SW.seq (SW.seq ?_)
    refine SW.g1 [0, 1, 3, 4, 5, 6, 7, 8, 9, 10, 12, 17, 35, 43, 56, 62, 80] mixed bq_tt hg ?_
    refine SW.condT rfl (SW.seq ?_)
    refine SW.g1 [0, 1, 3, 4, 5, 6, 7, 8, 9, 10, 12, 17, 35, 43, 56, 62, 80] mixed bq_tt head_at ?_
    refine SW.ret ?_
    exact End.mk [] (h4 := ⟨rfl, rfl⟩)
  obtain ⟨h120, hok⟩ := greatW_short hl hb
  have hw : ∀ x, x ∈ l → x.dot.wf := fun x hx => (hok.2 x hx).2.2
  refine SW.seq (SW.seq ?_)
  refine SW.g1 [0, 1, 3, 4, 5, 6, 7, 8, 9, 10, 12, 17, 35, 43, 56, 62, 80] mixed bq_tt hg ?_
  refine SW.condF rfl (SW.skip ?_)
  refine SW.cutE (α := PLift (∀ o, o ∈ l → MayD o)) (fun _ => ⟨[(0, ops l), (3, .ptr 0 0), (4, .d (.bool false))], [(0, .box 25 v.cells)], 1⟩) ?_ ?_
  · refine SW.seq ?_
    refine SW.g0 [0, 1, 3, 4, 5, 6, 7, 8, 9, 10, 12, 17, 35, 43, 56, 62, 80] mixed bq_tt ?_
    refine SW.block ?_
    refine SW.loopA (α := {i : Nat // i ≤ l.length ∧ ∀ o, o ∈ l.take i → MayD o}) (fun i => ⟨[(5, i64 i.1), (0, ops l), (3, .ptr 0 0), (4, .d (.bool false))], [(0, .box 25 v.cells)], 1⟩) (fun i => l.length - i.1) ⟨0, Nat.zero_le _, by simp⟩ id bq_tt (round := ?_)
    rintro ⟨i, hi, hm⟩
    dsimp only
    by_cases h : i < l.length
    · have h1 : decide ((i : Int) < l.length) = true := by simp only [decide_eq_true_eq]; omega
      obtain ⟨x, hx⟩ := get_of_lt h
      have e2 : IntKind.i64.wrap ((i : Int) + 1) = ((i + 1 : Nat) : Int) := wrap_i64 _ (by omega)
      have e1 : l.take (i + 1) = l.take i ++ [x] := take_snoc hx
      refine SW.seq (SW.seq ?_)
      refine SW.g0 [0, 1, 3, 4, 5, 6, 7, 8, 9, 10, 12, 17, 35, 43, 56, 62, 80] mixed (h1) ?_
      refine SW.condT rfl (SW.skip ?_)
      refine SW.seq (SW.block (SW.seq ?_))
      by_cases hr : x.dot.r < 8
      · have h2 : decide ((x.dot.r : Int) > 7) = false := by simp; omega
        rcases hn : ((x.dot.n : Int) == 0) with _ | _
        · refine SW.g0 [0, 1, 3, 4, 5, 6, 7, 8, 9, 10, 12, 17, 35, 43, 56, 62, 80] mixed (And.intro (h2) (And.intro (hn) (And.intro (op_dr hx) (op_dn hx)))) ?_
          refine SW.condF rfl (SW.skip ?_)
          refine SW.g0 [0, 1, 3, 4, 5, 6, 7, 8, 9, 10, 12, 17, 35, 43, 56, 62, 80] mixed (e2) ?_
          have hn0 : x.dot.n ≠ 0 := fun e => by rw [e] at hn; cases hn
          have hm2 : ∀ o, o ∈ l.take (i + 1) → MayD o := fun o ho => by
            rw [e1] at ho
            rcases List.mem_append.1 ho with ho | ho
            · exact hm o ho
            · rw [List.mem_singleton.1 ho]
              exact ⟨hr, by omega⟩
          refine ⟨⟨i + 1, by omega, hm2⟩, id, by show l.length - (i + 1) < l.length - i; omega, ?_⟩
          exact Weak.mk bq_tt
        · refine SW.g0 [0, 1, 3, 4, 5, 6, 7, 8, 9, 10, 12, 17, 35, 43, 56, 62, 80] mixed (And.intro (h2) (And.intro (hn) (And.intro (op_dr hx) (op_dn hx)))) ?_
          refine SW.condT rfl (SW.seq ?_)
          refine SW.g1 [0, 1, 3, 4, 5, 6, 7, 8, 9, 10, 12, 17, 35, 43, 56, 62, 80] mixed bq_tt head_at ?_
          refine SW.ret ?_
          exact End.mk [] (h4 := ⟨rfl, rfl⟩)
      · have h2 : decide ((x.dot.r : Int) > 7) = true := by simp; omega
        refine SW.g0 [0, 1, 3, 4, 5, 6, 7, 8, 9, 10, 12, 17, 35, 43, 56, 62, 80] mixed (And.intro (h2) (op_dr hx)) ?_
        refine SW.condT rfl (SW.seq ?_)
        refine SW.g1 [0, 1, 3, 4, 5, 6, 7, 8, 9, 10, 12, 17, 35, 43, 56, 62, 80] mixed bq_tt head_at ?_
        refine SW.ret ?_
        exact End.mk [] (h4 := ⟨rfl, rfl⟩)
    · have h1 : decide ((i : Int) < l.length) = false := by simp only [decide_eq_false_iff_not]; omega
      have hil : i = l.length := by omega
      rw [hil, List.take_length] at hm
      refine SW.seq (SW.seq ?_)
      refine SW.g0 [0, 1, 3, 4, 5, 6, 7, 8, 9, 10, 12, 17, 35, 43, 56, 62, 80] mixed (h1) ?_
      refine SW.condF rfl (SW.exit ?_)
      exact ⟨⟨hm⟩, Weak.mk bq_tt⟩
  rintro ⟨hm⟩
  have s1 := lacks_sum hm v
  have s2 := lacks_known hm
  have s3 := lacks_zero hm
  have hnext := fun i a b => @lackS_next l v i a b
  have hLl := lackS_len l v
  have hLo := osort_len l
  have cL := fun k => lacks_at v hok k
  have cK := fun k => lacks_at (knownV l) hok k
  have cZ := fun k => lacks_at Vec.zero hok k
  have cS := fun k => osort_at l (by omega) k
  have cN := fun k => known_at l (by omega) hw k
  have cR := fun k => rknown_at l (by omega) hw k
  generalize lackS l v = L at s1 hnext hLl cL
  generalize lackS l (knownV l) = L1 at s2 cK
  generalize lackS l Vec.zero = L2 at s3 cZ
  generalize osort l = S at s1 s3 cS hLo
  generalize knownV l = w at cN cR cK
  refine SW.seq ?_
  refine SW.g1 [0, 1, 3, 4, 5, 6, 7, 8, 9, 10, 12, 17, 35, 43, 56, 62, 80] mixed bq_tt cL ?_
  refine SW.cutE (α := Unit) (fun _ => ⟨[(6, ops L), (0, ops l), (3, .ptr 0 0)], [(0, .box 25 v.cells)], 1⟩) ?_ ?_
  · refine SW.seq ?_
    refine SW.g0 [0, 1, 3, 4, 5, 6, 7, 8, 9, 10, 12, 17, 35, 43, 56, 62, 80] mixed bq_tt ?_
    refine SW.block ?_
    refine SW.loopA (α := {i : Nat // 1 ≤ i ∧ (i ≤ L.length ∨ i = 1)}) (fun i => ⟨[(7, i64 i.1), (6, ops L), (0, ops l), (3, .ptr 0 0)], [(0, .box 25 v.cells)], 1⟩) (fun i => L.length - i.1) ⟨1, Nat.le_refl _, .inr rfl⟩ id bq_tt (round := ?_)
    rintro ⟨i, hi, hi2⟩
    dsimp only
    by_cases h : i < L.length
    · have h1 : decide ((i : Int) < L.length) = true := by simp only [decide_eq_true_eq]; omega
      obtain ⟨a, hx⟩ := get_of_lt (show i - 1 < L.length by omega)
      obtain ⟨b, hy⟩ := get_of_lt h
      have e2 : IntKind.i64.wrap ((i : Int) + 1) = ((i + 1 : Nat) : Int) := wrap_i64 _ (by omega)
      have e3 : IntKind.i64.wrap ((i : Int) - 1) = ((i - 1 : Nat) : Int) := by
        rw [show (i : Int) - 1 = ((i - 1 : Nat) : Int) by omega]; exact wrap_i64 _ (by omega)
      have hc := fun k => ocompare_at a b k
      rw [hnext (i - 1) a b hx (by rw [Nat.sub_add_cancel hi]; exact hy)] at hc
      refine SW.seq (SW.seq ?_)
      refine SW.g0 [0, 1, 3, 4, 5, 6, 7, 8, 9, 10, 12, 17, 35, 43, 56, 62, 80] mixed (h1) ?_
      refine SW.condT rfl (SW.skip ?_)
      refine SW.seq (SW.block (SW.seq ?_))
      have h9 : ((-1 : Int) != -1) = false := by decide
      refine SW.g1 [0, 1, 3, 4, 5, 6, 7, 8, 9, 10, 12, 17, 35, 43, 56, 62, 80] mixed (And.intro (e3) (And.intro (op_at hx) (And.intro (op_room0 hx) (And.intro (op_at hy) (And.intro (op_room0 hy) (h9)))))) hc ?_
      refine SW.condF rfl (SW.skip ?_)
      refine SW.g0 [0, 1, 3, 4, 5, 6, 7, 8, 9, 10, 12, 17, 35, 43, 56, 62, 80] mixed (e2) ?_
      refine ⟨⟨i + 1, by omega, .inl (by omega)⟩, id, by show L.length - (i + 1) < L.length - i; omega, ?_⟩
      exact Weak.mk bq_tt
    · have h1 : decide ((i : Int) < L.length) = false := by simp only [decide_eq_false_iff_not]; omega
      refine SW.seq (SW.seq ?_)
      refine SW.g0 [0, 1, 3, 4, 5, 6, 7, 8, 9, 10, 12, 17, 35, 43, 56, 62, 80] mixed (h1) ?_
      refine SW.condF rfl (SW.exit ?_)
      exact ⟨(), Weak.mk bq_tt⟩
  rintro _
  refine SW.seq ?_
  refine SW.g1 [0, 1, 3, 4, 5, 6, 7, 8, 9, 10, 12, 17, 35, 43, 56, 62, 80] mixed bq_tt cS ?_
  refine SW.seq ?_
  refine SW.g0 [0, 1, 3, 4, 5, 6, 7, 8, 9, 10, 12, 17, 35, 43, 56, 62, 80] mixed bq_tt ?_
  refine SW.cutE (α := Unit) (fun _ => ⟨[(9, i64 (covN v S : Nat)), (8, ops S), (6, ops L), (0, ops l)], [], 1⟩) ?_ ?_
  · refine SW.seq ?_
    refine SW.g0 [0, 1, 3, 4, 5, 6, 7, 8, 9, 10, 12, 17, 35, 43, 56, 62, 80] mixed bq_tt ?_
    refine SW.block ?_
    refine SW.loopA (α := {i : Nat // i ≤ S.length}) (fun i => ⟨[(10, i64 i.1), (9, i64 (covN v (S.take i.1) : Nat)), (8, ops S), (6, ops L), (0, ops l), (3, .ptr 0 0)], [(0, .box 25 v.cells)], 1⟩) (fun i => S.length - i.1) ⟨0, Nat.zero_le _⟩ id (And.intro (show covN v [] = 0 from rfl) bq_tt) (round := ?_)
    rintro ⟨i, hi⟩
    dsimp only
    by_cases h : i < S.length
    · have h1 : decide ((i : Int) < S.length) = true := by simp only [decide_eq_true_eq]; omega
      obtain ⟨x, hx⟩ := get_of_lt h
      have e2 : IntKind.i64.wrap ((i : Int) + 1) = ((i + 1 : Nat) : Int) := wrap_i64 _ (by omega)
      have e1 : S.take (i + 1) = S.take i ++ [x] := take_snoc hx
      have hsn := covN_snoc v (S.take i) x
      rw [← e1] at hsn
      have hcl : covN v (S.take i) ≤ i := by
        have := List.countP_le_length (p := o_le v) (l := S.take i)
        simp at this
        unfold covN; omega
      have e4 : IntKind.u8.wrap ((x.dot.r : Int).tmod 8) = ((x.dot.r % 8 : Nat) : Int) := by
        show IntKind.u8.wrap ((x.dot.r % 8 : Nat) : Int) = _
        exact wrap_u8 _ (by omega)
      have e5 : (x.dot.r : Int).tmod 8 = ((x.dot.r % 8 : Nat) : Int) := rfl
      have hr : x.dot.r % 8 < 8 := Nat.mod_lt _ (by decide)
      generalize covN v (S.take i) = cn at hsn hcl ⊢
      refine SW.seq (SW.seq ?_)
      refine SW.g0 [0, 1, 3, 4, 5, 6, 7, 8, 9, 10, 12, 17, 35, 43, 56, 62, 80] mixed (h1) ?_
      refine SW.condT rfl (SW.skip ?_)
      refine SW.seq (SW.block (SW.seq ?_))
      rcases hle : decide ((x.dot.n : Int) ≤ ((v.get (x.dot.r % 8) : Nat) : Int)) with _ | _
      · have ho : o_le v x = false := by
          unfold o_le
          simp only [decide_eq_false_iff_not] at hle ⊢
          omega
        rw [ho] at hsn
        simp only [Bool.false_eq_true, if_false, Nat.add_zero] at hsn
        refine SW.g0 [0, 1, 3, 4, 5, 6, 7, 8, 9, 10, 12, 17, 35, 43, 56, 62, 80] mixed (And.intro (op_dr hx) (And.intro (op_dn hx) (And.intro (e5) (And.intro (Vec.cells_get v hr) (hle))))) ?_
        refine SW.condF rfl (SW.skip ?_)
        refine SW.g0 [0, 1, 3, 4, 5, 6, 7, 8, 9, 10, 12, 17, 35, 43, 56, 62, 80] mixed (e2) ?_
        refine ⟨⟨i + 1, by omega⟩, id, by show S.length - (i + 1) < S.length - i; omega, ?_⟩
        exact Weak.mk (And.intro hsn bq_tt)
      · have ho : o_le v x = true := by
          unfold o_le
          simp only [decide_eq_true_eq] at hle ⊢
          omega
        rw [ho] at hsn
        simp only [if_true] at hsn
        refine SW.g0 [0, 1, 3, 4, 5, 6, 7, 8, 9, 10, 12, 17, 35, 43, 56, 62, 80] mixed (And.intro (op_dr hx) (And.intro (op_dn hx) (And.intro (e5) (And.intro (Vec.cells_get v hr) (hle))))) ?_
        refine SW.condT rfl ?_
        refine SW.g0 [0, 1, 3, 4, 5, 6, 7, 8, 9, 10, 12, 17, 35, 43, 56, 62, 80] mixed bq_tt ?_
        refine SW.g0 [0, 1, 3, 4, 5, 6, 7, 8, 9, 10, 12, 17, 35, 43, 56, 62, 80] mixed (e2) ?_
        refine ⟨⟨i + 1, by omega⟩, id, by show S.length - (i + 1) < S.length - i; omega, ?_⟩
        exact Weak.mk (And.intro hsn bq_tt)
    · have h1 : decide ((i : Int) < S.length) = false := by simp only [decide_eq_false_iff_not]; omega
      have hil : i = S.length := by omega
      subst hil
      rw [List.take_length]
      refine SW.seq (SW.seq ?_)
      refine SW.g0 [0, 1, 3, 4, 5, 6, 7, 8, 9, 10, 12, 17, 35, 43, 56, 62, 80] mixed (h1) ?_
      refine SW.condF rfl (SW.exit ?_)
      exact ⟨(), Weak.mk bq_tt⟩
  rintro _
  have w2 : (((L.length + covN v S : Nat) : Int) == (S.length : Int)) = true := by rw [s1]; simp
  have w3 : ((L1.length : Int) == 0) = true := by rw [s2]; rfl
  have w4 : ((L2.length : Int) == (S.length : Int)) = true := by rw [s3]; simp
  have w5 : decide (w = w) = true := by simp
  refine SW.seq ?_
  have cz := And.intro cN (And.intro cK (And.intro cZ (And.intro cR (And.intro head_at True.intro))))
  refine SW.gM [0, 1, 3, 4, 5, 6, 7, 8, 9, 10, 12, 17, 35, 43, 56, 62, 80] mixed (And.intro (w2) (And.intro (w3) (And.intro (w4) (w5)))) cz ?_
  refine SW.ret ?_
  exact End.mk [] (h4 := ⟨rfl, rfl⟩)
end Go.Proofs.Ytamokhfmnhpnlaa
