/-
  Spends: the program's row of a map of spends.
-/
import Derived.Test.YtmmonbnlleeloaaKD
set_option linter.unusedSectionVars false
set_option linter.unusedVariables false
set_option linter.unusedSimpArgs false
namespace Go.Proofs.Ytmmonbnlleeloaa
open Go.Sl Go.Proofs Go.Sort
attribute [local irreducible] SW RW SCd SC CallP Pruned
structure RowS (y bx : Nat) where
  l : List Sp
  rn : Nat
  h1 : rn ≠ y
  h2 : rn ≠ bx
def rowS (y bx N : Nat) (ts ps : List Nat) (ca cb : Code) (s : RowS y bx) : Hp :=
  [(y, .rcd N ts [.ptr bx 0] ps ca cb .ready none), (bx, .box 216 [.gs s.rn s.l.length]), (s.rn, .arr 221 3 s.l.length ((s.l.flatMap Sp.ds).map .d))]
def addS (l : List Sp) (x : Dt × Nat) : List Sp := if 0 < x.2 then l ++ [⟨x.1, x.2⟩] else l
theorem addS_len (l : List Sp) (x : Dt × Nat) : (addS l x).length ≤ l.length + 1 := by
  unfold addS; split <;> simp
set_option maxHeartbeats 2000000 in
theorem listBody {y bx B : Nat} (hyb : y ≠ bx) (s0 : RowS y bx) (hB : s0.l.length + B < 4611686018427) {ca cb : Code}
    (hca : cK Try.prog 37 ca = some (.seq (.reg [⟨some 4, .alloc 33 [.d (.int .u8 0), .d (.int .u32 0)], none⟩, ⟨none, .store 2 (.t 4) (.t 11), none⟩] (fullB 2) false) (.reg [⟨some 5, .mv (.t 12), none⟩] (fullB 1) false)))
    (hcb : cK Try.prog 37 cb = some (.block 1 (.seq (.reg [⟨some 13, .mv (.t 5), none⟩, ⟨some 14, .bin .gtr (.t 13) (.k (.d (.int .u64 0))), none⟩] (fullB 2) false) (.cond (.t 14) (.reg [⟨some 15, .load none (.t 3), none⟩, ⟨some 16, .load (some 2) (.t 4), none⟩, ⟨some 17, .mv (.t 5), none⟩, ⟨some 18, .bld [.d (.int .u8 0), .d (.int .u32 0), .d (.int .u64 0)] [(0, 2, .t 16), (2, 1, .t 17)], none⟩, ⟨some 19, .bld [.d (.int .u8 0), .d (.int .u32 0), .d (.int .u64 0)] [(0, 3, .t 18)], none⟩, ⟨some 20, .bsl 221 3 1 [.d (.int .u8 0), .d (.int .u32 0), .d (.int .u64 0)] [(0, 3, .t 19)], none⟩, ⟨some 21, .app 221 3 16 (.t 15) (.t 20), none⟩, ⟨none, .store 1 (.t 3) (.t 21), none⟩] (fullB 8) false) .skip)))) :
    YieldOks Try.prog y (fun x : Dt × Nat => [.agg x.1.cells, uv x.2]) 2 (rowS y bx 37 [3] [11, 12] ca cb) (fun s x s' => s'.l = addS s.l x) (fun _ => true) s0 B := by
  refine ⟨fun s => by simp [rowS, lk_cons], fun s x hx => ?_, fun s xs x k hon hlt hok _ => ?_⟩
  · have f1 := ne4 hyb
    have f2 := ne4 s.h1
    have f3 := ne4 s.h2
    simp only [rowS, List.mem_cons, List.not_mem_nil, or_false] at hx
    rcases hx with rfl | rfl | rfl <;> simp [rowS, lk_cons, f1, f2, f3]
  · have hlen : s.l.length ≤ s0.l.length + xs.length := by
      clear hlt hok
      induction hon with
      | nil => simp
      | @snoc xs s1 s2 x _ h ih => rw [h]; have := addS_len s1.l x; simp; omega
    obtain ⟨l, rn, h1, h2⟩ := s
    simp only at hlen
    simp only [rowS, Hp.ok, List.all_cons, List.all_nil, Ob.ok, SV.oks, SV.ok, SV.oks_d, Bool.and_true, Bool.and_eq_true, decide_eq_true_eq] at hok
    obtain ⟨⟨k1, _⟩, ⟨k2, _⟩, k3⟩ := hok
    have f1 := ne4 hyb
    have f2 := ne4 h1
    have f3 := ne4 h2
    have g1 := ne4 (show k ≠ y by omega)
    have g2 := ne4 (show k ≠ bx by omega)
    have g3 := ne4 (show k ≠ rn by omega)
    have g4 := ne4 (show k + 1 ≠ k by omega)
    have g5 := ne4 (show k + 1 ≠ y by omega)
    have g6 := ne4 (show k + 1 ≠ bx by omega)
    have g7 := ne4 (show k + 1 ≠ rn by omega)
    obtain ⟨d, n⟩ := x
    have euv : ∀ n, uv n = .d (.int .u64 (n : Int)) := fun _ => rfl
    refine SYB.here (fun n => n == y || n == bx || n == rn) (SYB.of_code (cs := [.ptr bx 0]) (H := [(bx, .box 216 [.gs rn l.length]), (rn, .arr 221 3 l.length ((l.flatMap Sp.ds).map .d))]) hca hcb rfl rfl rfl (by simp) k1 (by simp [lk_cons, lk_nil, f1, f2]) (by simp [SV.oks, SV.ok, uv]) (by simp [Hp.ok, Ob.ok, SV.oks, SV.ok, SV.oks_d]; omega) (by simp [SV.oks, SV.ok]; omega) ?_) ?_ (by simp [SV.oks, SV.ok, uv]) (by simp [rowS, Hp.ok, Ob.ok, SV.oks, SV.ok, SV.oks_d]) ?_
    · skip
      show Go.Sl.SW _ _ _ _ ⟨[(12, .d (.int .u64 (n : Int))), (11, .agg d.cells), (3, .ptr bx 0)], _, _⟩ _
      refine SW.seq ?_
      (have fx := (And.intro (f1) (And.intro (f2) (And.intro (f3) (And.intro (g1) (And.intro (g2) (g3)))))); refine SW.regL [3, 4, 5, 11, 12, 14] mixed ?_; (repeat (first | refine RW.ro fx (h := ?_) | refine RW.skip (h := ?_) | refine RW.op fx (h := ?_) | refine RW.opN fx (h := ?_) | refine RW.skip0 (h := ?_))); refine RW.nil ⟨by kernel_rfl, Pruned.mk (h := ?_)⟩)
      (refine SW.regL [3, 4, 5, 11, 12, 14] mixed ?_; (repeat (first | refine RW.ro bq_tt (h := ?_) | refine RW.skip (h := ?_) | refine RW.op bq_tt (h := ?_) | refine RW.opN bq_tt (h := ?_) | refine RW.skip0 (h := ?_))); refine RW.nil ⟨by kernel_rfl, Pruned.mk (h := ?_)⟩)
      refine ⟨rfl, SW.block (SW.seq ?_)⟩
      by_cases hp : 0 < n
      · have p1 : decide ((n : Int) > 0) = true := by simp; omega
        have ea : addS l (d, n) = l ++ [⟨d, n⟩] := if_pos hp
        (refine SW.regL [3, 4, 5, 11, 12, 14] mixed ?_; (repeat (first | refine RW.ro (p1) (h := ?_) | refine RW.skip (h := ?_) | refine RW.op (p1) (h := ?_) | refine RW.opN (p1) (h := ?_) | refine RW.skip0 (h := ?_))); refine RW.nil ⟨by kernel_rfl, Pruned.mk (h := ?_)⟩)
        refine SW.condT rfl ?_
        (have fx := (And.intro (f1) (And.intro (f2) (And.intro (f3) (And.intro (g1) (And.intro (g2) (And.intro (g3) (And.intro (g4) (And.intro (g5) (And.intro (g6) (g7)))))))))); refine SW.regL [3, 4, 5, 11, 12, 14] mixed ?_; (repeat (first | refine RW.ro fx (h := ?_) | refine RW.skip (h := ?_) | refine RW.op fx (h := ?_) | refine RW.opN fx (h := ?_) | refine RW.skip0 (h := ?_))); refine RW.nil ⟨by kernel_rfl, Pruned.mk (h := ?_)⟩)
        have e2 : ((l ++ [(⟨d, n⟩ : Sp)]).flatMap Sp.ds).map SV.d = (List.flatMap Sp.ds l).map SV.d ++ (Sp.mk d n).ds.map SV.d := by simp
        refine ⟨none, true, [(bx, .box 216 [.gs (k + 1) (l ++ [(⟨d, n⟩ : Sp)]).length]), (k + 1, .arr 221 3 (l ++ [(⟨d, n⟩ : Sp)]).length (((l ++ [(⟨d, n⟩ : Sp)]).flatMap Sp.ds).map .d))], ⟨rfl, rfl⟩, ?_, ?_, by simp, ⟨⟨l ++ [⟨d, n⟩], k + 1, by omega, by omega⟩, ea.symm, rfl, rfl, ?_, ?_⟩⟩
        · refine HSub.cons ?_ (HSub.cons ?_ (HSub.nil _))
          · simp [lk_cons, f1, f2, f3, g1, g2, g3, g4, g5, g6, g7, spl]
          · rw [e2]; simp [lk_cons]
        · simp [Hp.ok, Ob.ok, SV.oks, SV.ok, SV.oks_d, -List.flatMap_append, -List.map_append]; omega
        · simp [rowS, Hp.ok, Ob.ok, SV.oks, SV.ok, SV.oks_d, -List.flatMap_append, -List.map_append]; omega
        · intro n hn
          by_cases hy' : n = y
          · exact .inl (by simp [rowS, lk_cons, hy'])
          · by_cases hbx : n = bx
            · exact .inl (by simp [rowS, lk_cons, hbx, f1])
            · refine .inr ?_
              have : n = k + 1 := Classical.byContradiction fun hne => hn (by simp [rowS, lk_cons, lk_nil, hy', hbx, hne])
              omega
      · have p1 : decide ((n : Int) > 0) = false := by simp; omega
        have ea : addS l (d, n) = l := if_neg hp
        (refine SW.regL [3, 4, 5, 11, 12, 14] mixed ?_; (repeat (first | refine RW.ro (p1) (h := ?_) | refine RW.skip (h := ?_) | refine RW.op (p1) (h := ?_) | refine RW.opN (p1) (h := ?_) | refine RW.skip0 (h := ?_))); refine RW.nil ⟨by kernel_rfl, Pruned.mk (h := ?_)⟩)
        refine SW.weak id (st1 := ⟨[(14, .d (.bool false))], [(bx, .box 216 [.gs rn l.length]), (rn, .arr 221 3 l.length ((l.flatMap Sp.ds).map .d))], k + 2⟩) (Weak.same (by show k ≤ k + 2; omega) (by simp [EnvW, List.lookup, SV.ren, SV.ok]) (by simp [Hp.ok, Ob.ok, SV.oks, SV.ok, SV.oks_d]; omega) (by simp [lk_cons, f1, f2, f3, g1, g2, g3])) ?_
        refine SW.condF rfl (SW.skip ?_)
        refine ⟨none, true, [(bx, .box 216 [.gs rn l.length]), (rn, .arr 221 3 l.length ((l.flatMap Sp.ds).map .d))], ⟨rfl, rfl⟩, fun _ _ h => h, ?_, by simp, ⟨⟨l, rn, h1, h2⟩, ea.symm, rfl, rfl, ?_, fun n hn => .inl hn⟩⟩
        · simp [Hp.ok, Ob.ok, SV.oks, SV.ok, SV.oks_d]; omega
        · simp [rowS, Hp.ok, Ob.ok, SV.oks, SV.ok, SV.oks_d]; omega
    · intro n hn
      simp only [Bool.or_eq_true, beq_iff_eq] at hn
      rcases hn with (rfl | rfl) | rfl <;> simp [rowS, lk_cons, f1, f2, f3]
    · rintro r F' ⟨s', hs', rfl, rfl, hok', hnm⟩ _ _
      obtain ⟨l', rn', h1', h2'⟩ := s'
      refine ⟨rfl, ?_⟩
      simp [rowS, Hp.ok, Ob.ok, SV.oks, SV.ok, SV.oks_d]
      have hh := hnm rn' (by simp [rowS, lk_cons, h1', h2'])
      rcases hh with hh | ⟨hh1, hh2⟩
      · have : rn' = rn := by
          refine Classical.byContradiction fun hne => hh ?_
          simp [rowS, lk_cons, lk_nil, h1', h2', hne]
        simp [this]
      · simp [hh1]; omega
def Sp.le (x y : Sp) : Bool := Dt.le x.d y.d
def Sp.cmp (x y : Sp) : Int := dcmp x.d y.d
theorem Sp.lt_iff (a b : Sp) : ltOf Sp.cmp a b = true ↔ a.d.r < b.d.r ∨ a.d.r = b.d.r ∧ a.d.n < b.d.n := by
  unfold ltOf; rw [decide_eq_true_eq]; exact dcmp_lt a.d b.d
theorem Sp.swo : SWO (ltOf Sp.cmp) := by
  refine ⟨fun x => ?_, fun x y z h1 h2 => ?_, fun x y z h1 h2 => ?_⟩
  · rw [Bool.eq_false_iff, ne_eq, Sp.lt_iff]; omega
  · rw [Sp.lt_iff] at *; omega
  · rw [Bool.eq_false_iff, ne_eq, Sp.lt_iff] at *; omega
def Sp.sorted (l : List Sp) : List Sp := l.mergeSort Sp.le
theorem Sp.sorted_pairwise (l : List Sp) : (Sp.sorted l).Pairwise fun a b => Sp.le a b = true :=
  List.pairwise_mergeSort (fun a b c h1 h2 => by unfold Sp.le at *; rw [Dt.le_iff] at *; omega) (fun a b => by unfold Sp.le; rw [Bool.or_eq_true, Dt.le_iff, Dt.le_iff]; omega) l
theorem Sp.sorted_perm (l : List Sp) : (Sp.sorted l).Perm l := List.mergeSort_perm l Sp.le
theorem Sp.sorted_unique {l l' : List Sp} (hi : ∀ a b, a ∈ l → b ∈ l → a.d = b.d → a = b) (h : l'.Perm l) (hp : l'.Pairwise fun a b => Sp.le a b = true) : l' = Sp.sorted l :=
  List.Perm.eq_of_pairwise (le := fun a b => Sp.le a b = true) (fun a b ha hb h1 h2 => hi a b (h.mem_iff.1 ha) ((Sp.sorted_perm l).mem_iff.1 hb) (Dt.le_antisymm h1 h2)) hp (Sp.sorted_pairwise l) (h.trans (Sp.sorted_perm l).symm)
theorem psort_at (n : Nat) (l : List Sp) (hi : ∀ a b, a ∈ l → b ∈ l → a.d = b.d → a = b) (hl : l.length < 4611686018427387904) (k : Nat) : SCd Try.prog 165 [.gs n l.length, .fn (.func charge_pair_compare.f) [] []] [(n, .arr 221 3 l.length (spc l))] k 0 (.tup []) [(n, .arr 221 3 l.length (spc (Sp.sorted l)))] := by
  have h := SC.sortFunc (P := Try.prog) (ρ := psort_ren) psort 3 Try.isAgg221 Try.sizeOf221 (by kernel_rfl) Sp.ds (fun _ => rfl) Sp.cmp Sp.swo charge_pair_compare.f [] charge_pair_compare.ca (fun x y k => pcompare_at x y k) n 221 l hl k
  unfold SCd
  refine SC.mono h ?_
  rintro r F' ⟨rfl, l', hp, hs, rfl⟩
  rw [Sp.sorted_unique hi hp (hs.imp fun {a b} hab => by
    have e := Sp.lt_iff b a
    rw [hab] at e
    unfold Sp.le
    rw [Dt.le_iff]
    have : ¬ (b.d.r < a.d.r ∨ b.d.r = a.d.r ∧ b.d.n < a.d.n) := fun h => by cases e.2 h
    omega)]
  exact ⟨rfl, rfl⟩
def entS (xs : MM Dt Nat) : List Sp := (xs.filter fun e => decide (0 < e.2.2)).map fun e => ⟨e.2.1, e.2.2⟩
theorem entS_snoc (xs : MM Dt Nat) (e : Nat × Dt × Nat) : entS (xs ++ [e]) = addS (entS xs) (e.2.1, e.2.2) := by
  unfold entS addS
  rw [List.filter_append]
  by_cases h : 0 < e.2.2 <;> simp [h]
theorem entS_len (xs : MM Dt Nat) : (entS xs).length ≤ xs.length := by
  unfold entS; rw [List.length_map]; exact List.length_filter_le _ _
theorem onBy_rowS {y bx : Nat} {s0 s : RowS y bx} : ∀ {xs : MM Dt Nat}, OnBy (fun (s : RowS y bx) (x : Dt × Nat) s' => s'.l = addS s.l x) s0 (ents xs) s → s0.l = [] → s.l = entS xs := by
  intro xs
  induction xs using snocRec generalizing s with
  | nil =>
    intro h h0
    have h : OnBy (fun (s : RowS y bx) (x : Dt × Nat) s' => s'.l = addS s.l x) s0 [] s := h
    generalize hz : ([] : List (Dt × Nat)) = zs at h
    cases h with
    | nil => exact h0
    | snoc _ _ => simp at hz
  | snoc xs e ih =>
    intro h h0
    have he : ents (xs ++ [e]) = ents xs ++ [(e.2.1, e.2.2)] := by unfold ents; simp
    rw [he] at h
    generalize hz : ents xs ++ [(e.2.1, e.2.2)] = zs at h
    cases h with
    | nil => simp at hz
    | @snoc zs s1 _ z h1 h2 =>
      obtain ⟨q1, q2⟩ := List.append_inj' hz rfl
      have q2 : (e.2.1, e.2.2) = z := by simpa using q2
      rw [h2, entS_snoc, ← q2, ih (by rw [q1]; exact h1) h0]
def lsM (M : MM Dt Nat) : List Sp := Sp.sorted (entS M)
theorem mem_entS {M : MM Dt Nat} {x : Sp} : x ∈ entS M ↔ (∃ t, (t, x.d, x.n) ∈ M) ∧ 0 < x.n := by
  unfold entS
  rw [List.mem_map]
  constructor
  · rintro ⟨⟨t, d, n⟩, h1, rfl⟩
    obtain ⟨h2, h3⟩ := List.mem_filter.1 h1
    exact ⟨⟨t, h2⟩, by simpa using h3⟩
  · rintro ⟨⟨t, h1⟩, h2⟩
    exact ⟨(t, x.d, x.n), List.mem_filter.2 ⟨h1, by simpa using h2⟩, rfl⟩
theorem entS_inj {M : MM Dt Nat} (hk : (MM.keys M).Nodup) : ∀ x y, x ∈ entS M → y ∈ entS M → x.d = y.d → x = y := fun x y hx hy e => by
  obtain ⟨⟨t, h1⟩, _⟩ := mem_entS.1 hx
  obtain ⟨⟨t', h2⟩, _⟩ := mem_entS.1 hy
  have g1 := MM.get_of_mem hk h1
  have g2 := MM.get_of_mem hk h2
  rw [e, g2] at g1
  injection g1 with g1
  obtain ⟨d, n⟩ := x
  obtain ⟨d', n'⟩ := y
  simp only at e g1
  rw [e, g1]
end Go.Proofs.Ytmmonbnlleeloaa
namespace Go.Proofs.Ytmmonbnlleeloaa
open Go.Sl Go.Proofs
attribute [local irreducible] SW RW SCd SC CallP Pruned
abbrev hpM (M : MM Dt Nat) (cM : Nat) : Hp := [(0, .map (mapE Dt.cells uv M) cM)]
theorem hpM_ok (M : MM Dt Nat) (cM : Nat) {k : Nat} (h : 1 ≤ k) : (hpM M cM).ok (fun n => decide (n < k)) = true :=
  ok_cons (by simp; omega) (by simp only [Ob.ok]; exact umap_ok _ M) rfl
theorem allmk_sb (M : MM Dt Nat) (cM : Nat) : SB Try.prog maps_All_charge_spends_api_Dot_uint64.f [.mp 0] (hpM M cM) 1 1 (fun r F' => r = .fn (.func 193) [] [.ptr 1 0] ∧ F' = (1, .box 165 [.mp 0]) :: hpM M cM) := by
  refine maps_All_charge_spends_api_Dot_uint64.enter (by simp [SV.oks, SV.ok]) (hpM_ok M cM (Nat.le_refl 1)) (by simp) ?_
  unfold maps_All_charge_spends_api_Dot_uint64.s
  (repeat (first | refine SW.seq ?_ | refine SW.block ?_ | (refine SW.regL [0, 1, 2] mixed ?_; (repeat (first | refine RW.ro bq_tt (h := ?_) | refine RW.skip (h := ?_) | refine RW.op bq_tt (h := ?_) | refine RW.opN bq_tt (h := ?_) | refine RW.skip0 (h := ?_))); refine RW.nil ⟨by kernel_rfl, Pruned.mk (h := ?_)⟩) | refine SW.skip ?_ | refine SW.exit ?_ | refine SW.ret ?_ | refine SW.condT rfl ?_ | refine SW.condF rfl ?_))
  refine End.mk ((1, .box 165 [.mp 0]) :: hpM M cM) (h3 := fun _ _ h => h) (h4 := ⟨rfl, rfl⟩) (h6 := ?_)
  exact ok_cons (by simp) (by simp [Ob.ok, SV.oks, SV.ok]) (hpM_ok M cM (by omega))
theorem allmk_at (M : MM Dt Nat) (cM : Nat) (k : Nat) : SCd Try.prog maps_All_charge_spends_api_Dot_uint64.f [.mp 0] (hpM M cM) k 1 (.fn (.func 193) [] [.ptr k 0]) ((k, .box 165 [.mp 0]) :: hpM M cM) := by
  have h := SB.atL [0] (allmk_sb M cM) (by simp) (fun i hi => by have : i = 0 := by simpa using hi
                                                                 subst this; simp [lk_cons]) k
  have e1 : atN [0] k 1 = k := by simp [atN]
  have e0 : atN [0] k 0 = 0 := rfl
  simpa [SV.rens, SV.ren, Hp.ren, Ob.ren, umap_ren, e1, e0] using h
set_option maxHeartbeats 8000000 in
theorem list_sb (M : MM Dt Nat) (cM : Nat) (hw : MM.wf M cM) (hM : M.length < 1000000) : SB Try.prog charge_spends_list.f [.mp 0] (hpM M cM) 1 0 (fun r F' => r = sps (lsM M) ∧ F' = hpM M cM) := by
  refine charge_spends_list.enter (by simp [SV.oks, SV.ok]) (hpM_ok M cM (Nat.le_refl 1)) (by simp) ?_
  unfold charge_spends_list.s
  refine SW.seq ?_
  (refine SW.regL [0, 2, 3, 4, 5, 6, 8, 10, 11, 12, 14, 24, 25, 26, 27] mixed ?_; (repeat (first | refine RW.ro bq_tt (h := ?_) | refine RW.skip (h := ?_) | refine RW.op bq_tt (h := ?_) | refine RW.opN bq_tt (h := ?_) | refine RW.skip0 (h := ?_))); refine RW.nil ⟨by kernel_rfl, Pruned.mk (h := ?_)⟩)
  refine SW.seq ?_
  (refine SW.regL [0, 2, 3, 4, 5, 6, 8, 10, 11, 12, 14, 24, 25, 26, 27] mixed ?_; (repeat (first | refine RW.ro bq_tt (h := ?_) | refine RW.skip (h := ?_) | refine RW.op bq_tt (h := ?_) | refine RW.opN bq_tt (h := ?_) | refine RW.skip0 (h := ?_))); refine RW.nil ⟨by kernel_rfl, Pruned.mk (h := ?_)⟩)
  refine SW.seq (SW.seq ?_)
  (refine SW.regL [0, 2, 3, 4, 5, 6, 8, 10, 11, 12, 14, 24, 25, 26, 27] mixed ?_; (repeat (first | refine RW.ro bq_tt (h := ?_) | refine RW.skip (h := ?_) | refine RW.op bq_tt (h := ?_) | refine RW.opN bq_tt (h := ?_) | refine RW.skip0 (h := ?_) | (refine RW.callC (h := ?_); (first | refine CallP.mk bq_tt (hc := allmk_at M cM _) (h := ?_))))); refine RW.nil ⟨by kernel_rfl, Pruned.mk (h := ?_)⟩)
  refine SW.block ?_
  refine SW.nilbox 1 216 221 3 (by rfl) ?_
  let s0 : RowS 4 1 := ⟨[], 3, by decide, by decide⟩
  refine SW.weak id (st1 := ⟨[(10, .fn (.func 193) [] [.ptr 2 0]), (3, .ptr 1 0)], (1, .box 216 [.gs 3 0]) :: (3, .arr 221 3 0 []) :: (2, .box 165 [.mp 0]) :: hpM M cM, 4⟩) (Weak.mk (And.intro (fun q : Nat → Bool => umap_ok q M) (fun r => umap_ren r M))) ?_
  refine SW.rfun (nk := 1 + M.length * (1 + 2)) [3] [.ptr 1 0] rfl ⟨rfl, trivial⟩ fun ca' cb' hca hcb => ?_
  have hy := listBody (y := 4) (bx := 1) (B := M.length) (by decide) s0 (by simp [s0]; omega) hca hcb
  have hsb := all1_sb (y := 4) (b := 2) (m := 0) (k := 5) hw s0 hy (by simp [rowS, s0, Hp.ok, Ob.ok, SV.oks, SV.ok]) (by decide) (by decide) (by decide) (by rfl) (by rfl) rfl
  have hsubF : HSub ((2, Ob.box 165 [.mp 0]) :: (0, .map (mapE Dt.cells uv M) cM) :: rowS 4 1 37 [3] [11, 12] ca' cb' s0) ((4, .rcd 37 [3] [.ptr 1 0] [11, 12] ca' cb' .ready none) :: (1, .box 216 [.gs 3 0]) :: (3, .arr 221 3 0 []) :: (2, .box 165 [.mp 0]) :: hpM M cM) := by
    intro n ob hn
    match n with
    | 0 | 1 | 2 | 3 | 4 => simpa [rowS, s0, lk_cons] using hn
    | n + 5 => simp [rowS, s0, lk_cons, lk_nil] at hn
  have hsc := (hsb.here (fun n => decide (n < 5)) (fun n hn => ?_) (by simp [SV.oks, SV.ok]) ?_ ?_).frame hsubF
  · refine hsc.mono ?_
    rintro r F' ⟨F1, ⟨rfl, xs, s', hon, hsub, hnd, hall, hoff, rfl⟩, rfl⟩
    have hl := onBy_rowS hon rfl
    have hall := hall rfl
    obtain ⟨l, rn, hr1, hr2⟩ := s'
    have hl : l = entS xs := hl
    obtain ⟨o1, o2⟩ := hoff
    have hn2 : rn ≠ 2 := fun e => by simp [rowS, e, lk_cons] at o1
    have hn0 : rn ≠ 0 := fun e => by simp [rowS, e, lk_cons] at o2
    have hperm : (entS xs).Perm (entS M) := by
      refine (List.Perm.filter _ ?_).map _
      have h1 : xs.Nodup := List.Pairwise.of_map (S := fun x y => x ≠ y) (·.1) (fun x y h e => h (by rw [e])) hnd
      have h2 : M.Nodup := List.Pairwise.of_map (S := fun x y => x ≠ y) (·.1) (fun x y h e => h (by rw [e])) hw.times
      exact (List.perm_ext_iff_of_nodup h1 h2).2 fun x => ⟨hsub x, hall x⟩
    have hinj : ∀ x y, x ∈ l → y ∈ l → x.d = y.d → x = y := fun x y hx hy e => by
      rw [hl] at hx hy
      exact entS_inj hw.keys x y (hperm.mem_iff.1 hx) (hperm.mem_iff.1 hy) e
    have hS : Sp.sorted l = lsM M := Sp.sorted_unique (entS_inj hw.keys) ((Sp.sorted_perm _).trans (by rw [hl]; exact hperm)) (Sp.sorted_pairwise _)
    have hll : l.length ≤ M.length := by rw [hl, hperm.length_eq]; exact entS_len M
    have hSl : (lsM M).length = l.length := by rw [← hS, (Sp.sorted_perm _).length_eq]
    have hlk := lk_hmrg (ro := false) (F' := (2, Ob.box 165 [.mp 0]) :: (0, .map (mapE Dt.cells uv M) cM) :: rowS 4 1 37 [3] [11, 12] ca' cb' ⟨l, rn, hr1, hr2⟩) hsubF (fun h => by cases h)
    generalize hmrg false _ _ _ = G at hlk
    have hG : ∀ n ob, lk ((2, Ob.box 165 [.mp 0]) :: (0, .map (mapE Dt.cells uv M) cM) :: rowS 4 1 37 [3] [11, 12] ca' cb' ⟨l, rn, hr1, hr2⟩) n = some ob → lk G n = some ob := fun n ob h => by
      rw [hlk, mrg_in (.inr (by rw [h]; simp)), h]
    refine ⟨none, hG 4 _ (by simp [rowS, lk_cons, recSt]), ?_⟩
    refine SW.weak (fun n => if n = 2 then rn else n) (st1 := ⟨[(3, .ptr 1 0)], (1, .box 216 [.gs 2 l.length]) :: (2, .arr 221 3 l.length (spc l)) :: hpM M cM, 3⟩) ?_ ?_
    · have q1 := hG 1 (.box 216 [.gs rn l.length]) (by simp [rowS, lk_cons])
      have q2 := hG rn (.arr 221 3 l.length ((l.flatMap Sp.ds).map .d)) (by simp [rowS, lk_cons, hn0, hn2, hr1, hr2])
      have q0 := hG 0 (.map (mapE Dt.cells uv M) cM) (by simp [lk_cons])
      refine ⟨by show 1 ≤ 3; omega, fun n hn => if_neg (by omega), ?_, ?_, ?_⟩
      · simp [EnvW, List.lookup, SV.ren, SV.ok]
      · simp [HpW, lk_hdel, Ob.ren, SV.rens, SV.ren, SV.rens_d, SV.oks_d, Ob.ok, SV.oks, SV.ok, q1, q2, q0, hr1, umap_ren, umap_ok]
      · intro u hu v hv e
        simp only [List.map_cons, List.map_nil, List.mem_cons, List.not_mem_nil, or_false] at hu hv
        rcases hu with rfl | rfl | rfl <;> rcases hv with rfl | rfl | rfl <;> simp at e <;> first | rfl | omega
    · have hso := psort_at 2 l hinj (by omega) 3
      rw [hS] at hso
      generalize lsM M = S at hso hSl
      refine SW.seq ?_
      (refine SW.regL [0, 2, 3, 4, 5, 6, 8, 10, 11, 12, 14, 24, 25, 26, 27] mixed ?_; (repeat (first | refine RW.ro bq_tt (h := ?_) | refine RW.skip (h := ?_) | refine RW.op bq_tt (h := ?_) | refine RW.opN bq_tt (h := ?_) | refine RW.skip0 (h := ?_) | (refine RW.callC (h := ?_); (first | refine CallP.mk bq_tt (hc := hso) (h := ?_))))); refine RW.nil ⟨by kernel_rfl, Pruned.mk (h := ?_)⟩)
      refine SW.seq ?_
      (refine SW.regL [0, 2, 3, 4, 5, 6, 8, 10, 11, 12, 14, 24, 25, 26, 27] mixed ?_; (repeat (first | refine RW.ro bq_tt (h := ?_) | refine RW.skip (h := ?_) | refine RW.op bq_tt (h := ?_) | refine RW.opN bq_tt (h := ?_) | refine RW.skip0 (h := ?_))); refine RW.nil ⟨by kernel_rfl, Pruned.mk (h := ?_)⟩)
      refine SW.nilrow 6 80 3 rfl ?_
      refine SW.seq (SW.seq ?_)
      (refine SW.regL [0, 2, 3, 4, 5, 6, 8, 10, 11, 12, 14, 24, 25, 26, 27] mixed ?_; (repeat (first | refine RW.ro bq_tt (h := ?_) | refine RW.skip (h := ?_) | refine RW.op bq_tt (h := ?_) | refine RW.opN bq_tt (h := ?_) | refine RW.skip0 (h := ?_))); refine RW.nil ⟨by kernel_rfl, Pruned.mk (h := ?_)⟩)
      refine SW.block ?_
      refine SW.loopA (α := {i : Nat // i ≤ S.length}) (fun i => ⟨[(26, i64 i.1), (24, .gs 2 S.length), (25, i64 S.length), (6, .gs 3 i.1)], (3, .arr 80 3 i.1 (spc (S.take i.1))) :: (2, .arr 221 3 S.length (spc S)) :: hpM M cM, 4⟩) (fun i => S.length - i.1) ⟨0, by omega⟩ id (And.intro hSl (And.intro (fun q : Nat → Bool => umap_ok q M) (fun r => umap_ren r M))) (round := ?_)
      rintro ⟨i, hi⟩
      dsimp only
      by_cases hil : i < S.length
      · obtain ⟨x, hx⟩ := get_of_lt hil
        have h1 : decide ((i : Int) < S.length) = true := by simp; exact hil
        have e1 : S.take (i + 1) = S.take i ++ [x] := take_snoc hx
        have e2 : IntKind.i64.wrap ((i : Int) + 1) = ((i + 1 : Nat) : Int) := wrap_i64 _ (by omega)
        refine SW.seq ?_
        (refine SW.regL [0, 2, 3, 4, 5, 6, 8, 10, 11, 12, 14, 24, 25, 26, 27] mixed ?_; (repeat (first | refine RW.ro (h1) (h := ?_) | refine RW.skip (h := ?_) | refine RW.op (h1) (h := ?_) | refine RW.opN (h1) (h := ?_) | refine RW.skip0 (h := ?_))); refine RW.nil ⟨by kernel_rfl, Pruned.mk (h := ?_)⟩)
        refine SW.seq (SW.condT rfl (SW.skip ?_))
        refine SW.seq (SW.block (SW.seq ?_))
        (have fx := (And.intro (sp_at hx) (sp_room3 hx)); refine SW.regL [0, 2, 3, 4, 5, 6, 8, 10, 11, 12, 14, 24, 25, 26, 27] mixed ?_; (repeat (first | refine RW.ro fx (h := ?_) | refine RW.skip (h := ?_) | refine RW.op fx (h := ?_) | refine RW.opN fx (h := ?_) | refine RW.skip0 (h := ?_))); refine RW.nil ⟨by kernel_rfl, Pruned.mk (h := ?_)⟩)
        (refine SW.regL [0, 2, 3, 4, 5, 6, 8, 10, 11, 12, 14, 24, 25, 26, 27] mixed ?_; (repeat (first | refine RW.ro bq_tt (h := ?_) | refine RW.skip (h := ?_) | refine RW.op bq_tt (h := ?_) | refine RW.opN bq_tt (h := ?_) | refine RW.skip0 (h := ?_))); refine RW.nil ⟨by kernel_rfl, Pruned.mk (h := ?_)⟩)
        (refine SW.regL [0, 2, 3, 4, 5, 6, 8, 10, 11, 12, 14, 24, 25, 26, 27] mixed ?_; (repeat (first | refine RW.ro (e2) (h := ?_) | refine RW.skip (h := ?_) | refine RW.op (e2) (h := ?_) | refine RW.opN (e2) (h := ?_) | refine RW.skip0 (h := ?_))); refine RW.nil ⟨by kernel_rfl, Pruned.mk (h := ?_)⟩)
        dsimp only
        refine ⟨⟨i + 1, by omega⟩, fun n => if n = 3 then 5 else n, by show S.length - (i + 1) < _; omega, ⟨by show 1 ≤ 4; omega, fun n hn => if_neg (by omega), ?_, ?_, ?_⟩⟩
        · simp [EnvW, List.lookup, SV.ren, SV.ok]
        · simp [HpW, lk, List.lookup, Ob.ren, SV.rens, SV.ren, SV.rens_d, SV.oks_d, Ob.ok, SV.oks, SV.ok, umap_ren, umap_ok, e1, SV.rens_append, SV.oks_append, Sp.map_ds]
        · intro u hu v hv e
          simp only [List.map_cons, List.map_nil, List.mem_cons, List.not_mem_nil, or_false] at hu hv
          rcases hu with rfl | rfl | rfl <;> rcases hv with rfl | rfl | rfl <;> simp at e <;> rfl
      · have h1 : decide ((i : Int) < S.length) = false := by simp; omega
        have h2 : i = S.length := by omega
        subst h2
        rw [List.take_length]
        refine SW.seq ?_
        (refine SW.regL [0, 2, 3, 4, 5, 6, 8, 10, 11, 12, 14, 24, 25, 26, 27] mixed ?_; (repeat (first | refine RW.ro (h1) (h := ?_) | refine RW.skip (h := ?_) | refine RW.op (h1) (h := ?_) | refine RW.opN (h1) (h := ?_) | refine RW.skip0 (h := ?_))); refine RW.nil ⟨by kernel_rfl, Pruned.mk (h := ?_)⟩)
        refine SW.seq (SW.condF rfl (SW.exit ?_))
        refine SW.seq ?_
        (refine SW.regL [0, 2, 3, 4, 5, 6, 8, 10, 11, 12, 14, 24, 25, 26, 27] mixed ?_; (repeat (first | refine RW.ro bq_tt (h := ?_) | refine RW.skip (h := ?_) | refine RW.op bq_tt (h := ?_) | refine RW.opN bq_tt (h := ?_) | refine RW.skip0 (h := ?_))); refine RW.nil ⟨by kernel_rfl, Pruned.mk (h := ?_)⟩)
        refine SW.freeze 3 (S.flatMap Sp.ds) rfl rfl (SW.ret ?_)
        exact End.mk (hpM M cM) (h3 := by intro n ob hn; match n with | 0 => simpa [lk_cons, hdel] using hn | n + 1 => simp [lk_cons, lk_nil] at hn) (h4 := ⟨by simp [retV, SV.frz], rfl⟩) (h5 := by simp [retV, SV.frz, SV.ok, SV.oks]) (h6 := hpM_ok M cM (by omega))
  · match n, hn with
    | 0, _ | 1, _ | 2, _ | 3, _ | 4, _ => simp [rowS, s0, lk_cons]
    | n + 5, h => have : n + 5 < 5 := by simpa using h
                  omega
  · refine ok_cons rfl (by simp [Ob.ok, SV.oks, SV.ok]) (ok_cons rfl (by simp only [Ob.ok]; exact umap_ok _ M) ?_)
    simp [rowS, s0, Hp.ok, Ob.ok, SV.oks, SV.ok]
  · rintro r F' _ h1 h2
    refine ⟨SV.ok_more (fun n hn => ?_) _ h1, Hp.ok_mono (fun n hn => ?_) h2⟩ <;> (simp at hn ⊢; omega)
end Go.Proofs.Ytmmonbnlleeloaa
namespace Go.Proofs.Ytmmonbnlleeloaa
open Go.Sl Go.Proofs
structure IsRow (f : Dt → Nat) (X : List Sp) : Prop where
  ris : X.Pairwise fun x y => dcmp x.d y.d < 0
  val : ∀ x, x ∈ X → x.n = f x.d ∧ 0 < x.n
  all : ∀ d, 0 < f d → ∃ x, x ∈ X ∧ x.d = d
theorem IsRow.mem {f : Dt → Nat} {X : List Sp} (h : IsRow f X) (x : Sp) : x ∈ X ↔ x.n = f x.d ∧ 0 < x.n := by
  refine ⟨h.val x, fun ⟨h1, h2⟩ => ?_⟩
  obtain ⟨y, hy, e⟩ := h.all x.d (by omega)
  obtain ⟨h3, _⟩ := h.val y hy
  have : y = x := by
    obtain ⟨d, n⟩ := x
    obtain ⟨d', n'⟩ := y
    simp only at *
    subst e
    rw [h1, h3]
  rw [← this]; exact hy
theorem IsRow.nd {f : Dt → Nat} {X : List Sp} (h : IsRow f X) : X.Nodup := by
  refine List.Pairwise.imp (fun {x y} (hxy : dcmp x.d y.d < 0) => ?_) h.ris
  intro e
  have e2 : x.d = y.d := by rw [e]
  rw [(dcmp_zero _ _).2 e2] at hxy
  exact absurd hxy (by decide)
theorem IsRow.uniq {f : Dt → Nat} {X Y : List Sp} (h : IsRow f X) (k : IsRow f Y) : X = Y := by
  have hp : X.Perm Y := (List.perm_ext_iff_of_nodup h.nd k.nd).2 fun x => (h.mem x).trans (k.mem x).symm
  refine List.Perm.eq_of_pairwise (le := fun x y : Sp => dcmp x.d y.d < 0) ?_ h.ris k.ris hp
  intro x y _ _ h1 h2
  have e := dcmp_swap x.d y.d
  have h1 : dcmp x.d y.d < 0 := h1
  have h2 : dcmp y.d x.d < 0 := h2
  generalize dcmp x.d y.d = p at *
  generalize dcmp y.d x.d = q at *
  omega
theorem IsRow.congr {f g : Dt → Nat} {X : List Sp} (h : IsRow f X) (e : ∀ d, f d = g d) : IsRow g X :=
  ⟨h.ris, fun x hx => by rw [← e]; exact h.val x hx, fun d hd => h.all d (by rw [e]; exact hd)⟩
theorem IsRow.spent {f : Dt → Nat} {X : List Sp} (h : IsRow f X) (d : Dt) : spentOf X d = f d := by
  unfold spentOf
  cases hs : spentO X d with
  | some x =>
    obtain ⟨hx, e⟩ := spentO_mem hs
    show x.n = f d
    rw [← e]; exact (h.val x hx).1
  | none =>
    show 0 = f d
    refine Classical.byContradiction fun hn => ?_
    obtain ⟨x, hx, e⟩ := h.all d (by omega)
    unfold spentO at hs
    rw [List.find?_eq_none] at hs
    exact hs x hx (by simpa using e)
theorem rowD_isRow (f : Dt → Nat) (D : List Dt) (hD : Dt.rises D) (hall : ∀ d, 0 < f d → d ∈ D) : IsRow f (rowD f D) := by
  unfold rowD
  refine ⟨?_, fun x hx => ?_, fun d hd => ?_⟩
  · rw [List.pairwise_map]
    exact List.Pairwise.filter _ hD
  · obtain ⟨d, hd, rfl⟩ := List.mem_map.1 hx
    exact ⟨rfl, by simpa using (List.mem_filter.1 hd).2⟩
  · exact ⟨⟨d, f d⟩, List.mem_map.2 ⟨d, List.mem_filter.2 ⟨hall d hd, by simpa using hd⟩, rfl⟩, rfl⟩
theorem spentOf_pos {l : List Sp} {d : Dt} (h : 0 < spentOf l d) : d ∈ l.map (·.d) := by
  unfold spentOf at h
  cases hs : spentO l d with
  | none => rw [hs] at h; exact absurd h (by decide)
  | some x =>
    obtain ⟨hx, e⟩ := spentO_mem hs
    exact List.mem_map.2 ⟨x, hx, e⟩
theorem plainR_row (l : List Sp) : IsRow (spentOf l) (plainR l) :=
  rowD_isRow _ _ (Dt.setR_rises _) fun d hd => Dt.mem_setR.2 (spentOf_pos hd)
theorem lsM_row {M : MM Dt Nat} {c : Nat} (hw : MM.wf M c) : IsRow (fun d => (MM.get M d).getD 0) (lsM M) := by
  have hperm := Sp.sorted_perm (entS M)
  refine ⟨?_, fun x hx => ?_, fun d hd => ?_⟩
  · have h1 := Sp.sorted_pairwise (entS M)
    have h2 : (lsM M).Pairwise fun x y => x ≠ y := by
      show (Sp.sorted (entS M)).Nodup
      rw [hperm.nodup_iff]
      unfold entS
      refine List.pairwise_map.2 ((List.Pairwise.filter _ (List.pairwise_map.1 hw.keys)).imp fun {x y} hxy e => hxy ?_)
      injection e
    refine ((h1.and h2).imp_of_mem fun {x y} hx hy hxy => ?_)
    obtain ⟨e1, e2⟩ := hxy
    unfold Sp.le at e1
    rw [Dt.le_iff] at e1
    have e3 : x.d ≠ y.d := fun e => e2 (entS_inj hw.keys x y (hperm.mem_iff.1 hx) (hperm.mem_iff.1 hy) e)
    rw [dcmp_lt]
    have e4 : ¬ (x.d.r = y.d.r ∧ x.d.n = y.d.n) := fun ⟨h1, h2⟩ => e3 (by
      cases hx1 : x.d
      cases hy1 : y.d
      rw [hx1, hy1] at h1 h2
      simp only at h1 h2
      rw [h1, h2])
    omega
  · obtain ⟨⟨t, h1⟩, h2⟩ := mem_entS.1 (hperm.mem_iff.1 hx)
    refine ⟨?_, h2⟩
    show x.n = (MM.get M x.d).getD 0
    rw [MM.get_of_mem hw.keys h1]; rfl
  · have hd : 0 < (MM.get M d).getD 0 := hd
    cases hg : MM.get M d with
    | none => rw [hg] at hd; exact absurd hd (by decide)
    | some n =>
      obtain ⟨t, ht⟩ := MM.get_mem hg
      rw [hg] at hd
      exact ⟨⟨d, n⟩, hperm.mem_iff.2 (mem_entS.2 ⟨⟨t, ht⟩, hd⟩), rfl⟩
theorem lsM_plain (s : List Sp) : lsM (spM s).1 = plainR s :=
  ((lsM_row (spM_wf s)).congr fun d => spM_spent s d).uniq (plainR_row s)
theorem spent_butOf (l : List Sp) (d0 d : Dt) : spentO (butOf l d0) d = if d = d0 then none else spentO l d := by
  induction l with
  | nil => simp [butOf, spentO]
  | cons x l ih =>
    unfold butOf at ih ⊢
    rw [List.filter_cons, spentO_cons]
    by_cases hx : x.d = d0
    · rw [if_neg (by simp [hx]), ih]
      by_cases hd : d = d0
      · rw [if_pos hd, if_pos hd]
      · rw [if_neg hd, if_neg hd, if_neg (fun e => hd (by rw [← e]; exact hx))]
    · rw [if_pos (by simpa using hx), spentO_cons, ih]
      by_cases hd : d = d0
      · rw [if_pos hd, if_pos hd, if_neg (fun e => hx (by rw [e]; exact hd))]
      · rw [if_neg hd, if_neg hd]
theorem spent_moreS (amount : Nat) (l : List Sp) (d0 d : Dt) : spentOf (moreS amount l d0) d = if d = d0 then spentOf l d0 + amount else spentOf l d := by
  unfold moreS
  show ((spentO (butOf l d0 ++ [⟨d0, spentOf l d0 + amount⟩]) d).map (·.n)).getD 0 = _
  rw [spentO_app, spent_butOf, spentO_cons, spentO_nil]
  by_cases hd : d = d0
  · rw [if_pos hd, if_pos hd.symm, if_pos hd]; rfl
  · rw [if_neg hd, if_neg (fun e => hd e.symm), if_neg hd]
    unfold spentOf
    cases spentO l d <;> rfl
theorem spent_moreR (amount : Nat) (s : List Sp) (d : Dt) : ∀ D : List Dt, D.Nodup → spentOf (moreR amount s D) d = spentOf s d + if d ∈ D then amount else 0 := fun D => by
  induction D using snocRec with
  | nil => intro _; exact (plainR_row s).spent d
  | snoc D x ih =>
    intro hn
    rw [List.nodup_append] at hn
    obtain ⟨h1, _, h3⟩ := hn
    rw [moreR_snoc, spent_moreS]
    have hx : x ∉ D := fun hm => h3 x hm x (by simp) rfl
    by_cases hd : d = x
    · subst hd
      rw [if_pos rfl, if_pos (by simp), ih h1, if_neg hx, Nat.add_zero]
    · rw [if_neg hd, ih h1]
      by_cases hm : d ∈ D
      · rw [if_pos hm, if_pos (by simp [hm])]
      · rw [if_neg hm, if_neg (by simp [hm, hd])]
def addM (amount : Nat) (M : MM Dt Nat × Nat) (D : List Dt) : MM Dt Nat × Nat := D.foldl (fun M d => (MM.put M.1 M.2 d ((MM.get M.1 d).getD 0 + amount), MM.clk M.1 M.2 d)) M
theorem addM_snoc (amount : Nat) (M : MM Dt Nat × Nat) (D : List Dt) (d : Dt) : addM amount M (D ++ [d]) = (MM.put (addM amount M D).1 (addM amount M D).2 d ((MM.get (addM amount M D).1 d).getD 0 + amount), MM.clk (addM amount M D).1 (addM amount M D).2 d) := by
  unfold addM; rw [List.foldl_append]; rfl
theorem addM_wf (amount : Nat) {M : MM Dt Nat × Nat} (hw : MM.wf M.1 M.2) : ∀ D : List Dt, MM.wf (addM amount M D).1 (addM amount M D).2 := fun D => by
  induction D using snocRec with
  | nil => exact hw
  | snoc D x ih => rw [addM_snoc]; exact MM.wf_put ih _ _
theorem addM_get (amount : Nat) (M : MM Dt Nat × Nat) (d : Dt) : ∀ D : List Dt, D.Nodup → (MM.get (addM amount M D).1 d).getD 0 = (MM.get M.1 d).getD 0 + if d ∈ D then amount else 0 := fun D => by
  induction D using snocRec with
  | nil => intro _; rfl
  | snoc D x ih =>
    intro hn
    rw [List.nodup_append] at hn
    obtain ⟨h1, _, h3⟩ := hn
    have hx : x ∉ D := fun hm => h3 x hm x (by simp) rfl
    rw [addM_snoc]
    show (MM.get (MM.put _ _ _ _) d).getD 0 = _
    rw [MM.get_put]
    by_cases hd : d = x
    · subst hd
      rw [if_pos rfl, if_pos (by simp)]
      show (MM.get (addM amount M D).1 d).getD 0 + amount = _
      rw [ih h1, if_neg hx, Nat.add_zero]
    · rw [if_neg hd, ih h1]
      by_cases hm : d ∈ D
      · rw [if_pos hm, if_pos (by simp [hm])]
      · rw [if_neg hm, if_neg (by simp [hm, hd])]
theorem charged_same (amount : Nat) (s : List Sp) (D : List Dt) (hD : D.Nodup) : lsM (addM amount (spM s) D).1 = plainR (moreR amount s D) := by
  refine ((lsM_row (addM_wf amount (spM_wf s) D)).congr fun d => ?_).uniq (plainR_row _)
  rw [spent_moreR amount s d D hD]
  show (MM.get (addM amount (spM s) D).1 d).getD 0 = _
  rw [addM_get amount (spM s) d D hD, spM_spent]
end Go.Proofs.Ytmmonbnlleeloaa
namespace Go.Proofs.Ytmmonbnlleeloaa
open Go.Sl Go.Proofs
attribute [local irreducible] SW RW SCd SC CallP Pruned
theorem minAt_congr {f g : Dt → Nat} (a : Dt) (D : List Dt) (h : ∀ x, x ∈ a :: D → f x = g x) : minAt f a D = minAt g a D := by
  induction D using snocRec with
  | nil => rfl
  | snoc D x ih =>
    have hih := ih fun y hy => h y (by rcases List.mem_cons.1 hy with e | e; exact e ▸ List.mem_cons_self ..; exact List.mem_cons_of_mem _ (List.mem_append_left _ e))
    rw [minAt_snoc, minAt_snoc, hih, h x (by simp)]
    have hm : minAt g a D ∈ a :: D := minAt_mem g a D
    rw [h (minAt g a D) (by rcases List.mem_cons.1 hm with e | e; rw [e]; simp; exact List.mem_cons_of_mem _ (List.mem_append_left _ e))]
abbrev hpN (a : MM Dt Cr) (ca : Nat) (m : MM Dt OpD) (cm : Nat) (n : Nat) (M : MM Dt Nat) (cM : Nat) : Hp := (n, .map (mapE Dt.cells uv M) cM) :: hp0 a ca m cm
section
variable (a : MM Dt Cr) (ca : Nat) (m : MM Dt OpD) (cm : Nat)
theorem tightN (hcap : ∀ d c, MM.get a d = some c → c.cap ≤ 1099511627776) (M : MM Dt Nat) (cM n : Nat) (hn : 3 ≤ n) (d0 : Dt) (r : List Dt) (hr : r.length < 1000000) (k : Nat) : SCd Try.prog charge_tight.f [.ptr 0 0, .mp n, dots (d0 :: r)] (hpN a ca m cm n M cM) k 0 (.tup [.agg (minAt (leftM a M) d0 r).cells, .d (.int .u64 ((leftM a M (minAt (leftM a M) d0 r) : Nat) : Int))]) (hpN a ca m cm n M cM) := by
  have h := SB.atL [0, 1, 2, n] (tight_sb a ca m cm M cM hcap d0 r hr) (by simp; omega) (fun i hi => by
    match i, hi with
    | 0, _ | 1, _ | 2, _ | 3, _ => simp [lk_cons]
    | i + 4, hi => exact absurd hi (by simp)) k
  have e0 : Hp.ren (atN [0, 1, 2, n] k) (hpS a ca m cm M cM) = hpN a ca m cm n M cM := by
    simp [Hp.ren, Ob.ren, SV.rens, SV.ren, atN, umap_ren, cmap_ren, omap_ren]
  rw [e0] at h
  have a3 : atN [0, 1, 2, n] k 3 = n := by simp [atN]
  have a0 : atN [0, 1, 2, n] k 0 = 0 := rfl
  simp only [SV.rens, SV.ren, Dt.cells_ren, a3, a0] at h
  exact h
theorem listN (M : MM Dt Nat) (cM : Nat) (hw : MM.wf M cM) (hM : M.length < 1000000) (n k : Nat) : SCd Try.prog charge_spends_list.f [.mp n] [(n, .map (mapE Dt.cells uv M) cM)] k 0 (sps (lsM M)) [(n, .map (mapE Dt.cells uv M) cM)] := by
  have h := SB.atL [n] (list_sb M cM hw hM) (by simp) (fun i hi => by have : i = 0 := by simpa using hi
                                                                      subst this; simp [lk_cons]) k
  simpa [SV.rens, SV.ren, atN, Hp.ren, Ob.ren, umap_ren] using h
end
def roomS (f : Dt → Nat) : List Dt → SV
  | [] => .tup [.d (.int .u64 0), .d (.int .i64 7)]
  | d :: r => .tup [.d (.int .u64 ((f (minAt f d r) : Nat) : Int)), .d (.int .i64 0)]
def tightP (f : Dt → Nat) : List Dt → SV
  | [] => .tup [.agg (Dt.mk 0 0).cells, .d (.int .i64 7)]
  | d :: r => .tup [.agg (minAt f d r).cells, .d (.int .i64 0)]
section
variable {l : List OpD} {a : MM Dt Cr} {ca : Nat} {m : MM Dt OpD} {cm : Nat} (ht : TOk l (tr0 a ca m cm))
include ht
theorem left_same (s : List Sp) {d : Dt} {c : Cr} (hg : MM.get a d = some c) : leftM a (spM s).1 d = leftF a s d := by
  unfold leftM
  rw [leftF_some hg, hg, spM_spent]; rfl
set_option maxHeartbeats 4000000 in
theorem room_sb (s : List Sp) (hs : s.length < 10000) (d : Dt) (L : List Cr) (hL : Ups a (MM.get a d) L) (hlL : L.length < 10000) : SB Try.prog charge_Room.f [.ptr 0 0, sps s, .agg d.cells] (hp0 a ca m cm) 3 0 (fun v F' => v = roomS (leftF a s) (L.map (·.dot)) ∧ F' = hp0 a ca m cm) := by
  have hc : ∀ k, SCd Try.prog tree_Tree_Chain.f [.ptr 0 0, .agg d.cells] (hp0 a ca m cm) k (6 + L.length * (1 + 2)) (chainR a d L) (hp0 a ca m cm) := fun k => chain_at (tr0_sep a ca m cm) d L hL (by omega) k
  refine charge_Room.enter (by simp [SV.oks, SV.ok]) (hp0_ok a ca m cm (Nat.le_refl 3)) (by simp) ?_
  unfold charge_Room.s
  cases hg : MM.get a d with
  | none =>
    rw [chainNo hg] at hc
    have e0 : L = [] := by rw [hg] at hL; cases hL; rfl
    rw [e0]
    show Go.Sl.SW _ _ _ _ _ _
    refine SW.seq ?_
    (refine SW.regL [0, 1, 2, 5, 6, 7, 8, 9, 11, 19] mixed ?_; (repeat (first | refine RW.ro bq_tt (h := ?_) | refine RW.skip (h := ?_) | refine RW.op bq_tt (h := ?_) | refine RW.opN bq_tt (h := ?_) | refine RW.skip0 (h := ?_) | (refine RW.callC (h := ?_); (first | refine CallP.mk bq_tt (hc := hc _) (h := ?_))))); refine RW.nil ⟨by kernel_rfl, Pruned.mk (h := ?_)⟩)
    refine SW.seq ?_
    (refine SW.regL [0, 1, 2, 5, 6, 7, 8, 9, 11, 19] mixed ?_; (repeat (first | refine RW.ro bq_tt (h := ?_) | refine RW.skip (h := ?_) | refine RW.op bq_tt (h := ?_) | refine RW.opN bq_tt (h := ?_) | refine RW.skip0 (h := ?_) | (refine RW.callC (h := ?_); (first | refine CallP.mk bq_tt (hc := hc _) (h := ?_))))); refine RW.nil ⟨by kernel_rfl, Pruned.mk (h := ?_)⟩)
    refine SW.weak id (st1 := ⟨[(9, .d (.int .i64 7))], hp0 a ca m cm, 3⟩) (Weak.mk (mapsF a m)) ?_
    (repeat (first | refine SW.seq ?_ | refine SW.block ?_ | (refine SW.regL [0, 1, 2, 5, 6, 7, 8, 9, 11, 19] mixed ?_; (repeat (first | refine RW.ro bq_tt (h := ?_) | refine RW.skip (h := ?_) | refine RW.op bq_tt (h := ?_) | refine RW.opN bq_tt (h := ?_) | refine RW.skip0 (h := ?_))); refine RW.nil ⟨by kernel_rfl, Pruned.mk (h := ?_)⟩) | refine SW.skip ?_ | refine SW.exit ?_ | refine SW.ret ?_ | refine SW.condT rfl ?_ | refine SW.condF rfl ?_))
    exact End.mk (hp0 a ca m cm) (h3 := fun _ _ h => h) (h4 := ⟨rfl, rfl⟩) (h6 := hp0_ok a ca m cm (by omega))
  | some c =>
    rw [chainYes hg] at hc
    have hall : ∀ x, x ∈ L.map (·.dot) → ∃ y, MM.get a x = some y := fun x hx => by
      obtain ⟨y, hy, rfl⟩ := List.mem_map.1 hx
      exact ⟨y, ht.upsGet (d := d) hL y hy⟩
    have hD : (L.map (·.dot)).length = L.length := List.length_map ..
    have hL0 : 0 < L.length := by
      rw [hg] at hL
      exact lt_of_get hL.head
    have hlm : ∀ x, x ∈ L.map (·.dot) → leftM a (spM s).1 x = leftF a s x := fun x hx => by
      obtain ⟨y, hy⟩ := hall x hx
      exact left_same ht s hy
    generalize L.map (·.dot) = D at hc hall hD hlm
    cases D with
    | nil => simp at hD; omega
    | cons d0 r =>
      have hm := minAt_congr d0 r hlm
      have htg := tightN a ca m cm (fun d c h => ht.cap h) (spM s).1 (spM s).2 4 (by omega) d0 r (by simp at hD; omega) 5
      rw [hm, hlm _ (minAt_mem _ d0 r)] at htg
      show Go.Sl.SW _ _ _ _ _ _
      rw [show roomS (leftF a s) (d0 :: r) = .tup [.d (.int .u64 ((leftF a s (minAt (leftF a s) d0 r) : Nat) : Int)), .d (.int .i64 0)] from rfl]
      generalize leftF a s (minAt (leftF a s) d0 r) = rm at htg
      generalize minAt (leftF a s) d0 r = at_ at htg
      have hsp := spendsOf_at s (by omega) 4
      refine SW.seq ?_
      (refine SW.regL [0, 1, 2, 5, 6, 7, 8, 9, 11, 19] mixed ?_; (repeat (first | refine RW.ro bq_tt (h := ?_) | refine RW.skip (h := ?_) | refine RW.op bq_tt (h := ?_) | refine RW.opN bq_tt (h := ?_) | refine RW.skip0 (h := ?_) | (refine RW.callC (h := ?_); (first | refine CallP.mk bq_tt (hc := hc _) (h := ?_))))); refine RW.nil ⟨by kernel_rfl, Pruned.mk (h := ?_)⟩)
      refine SW.seq ?_
      (refine SW.regL [0, 1, 2, 5, 6, 7, 8, 9, 11, 19] mixed ?_; (repeat (first | refine RW.ro bq_tt (h := ?_) | refine RW.skip (h := ?_) | refine RW.op bq_tt (h := ?_) | refine RW.opN bq_tt (h := ?_) | refine RW.skip0 (h := ?_) | (refine RW.callC (h := ?_); (first | refine CallP.mk bq_tt (hc := hc _) (h := ?_))))); refine RW.nil ⟨by kernel_rfl, Pruned.mk (h := ?_)⟩)
      refine SW.weak id (st1 := ⟨[(9, .d (.int .i64 0)), (8, dots (d0 :: r)), (0, .ptr 0 0), (1, sps s)], (3, .box 33 d.cells) :: hp0 a ca m cm, 4⟩) (Weak.mk (mapsF a m)) ?_
      refine SW.seq (SW.seq ?_)
      (refine SW.regL [0, 1, 2, 5, 6, 7, 8, 9, 11, 19] mixed ?_; (repeat (first | refine RW.ro bq_tt (h := ?_) | refine RW.skip (h := ?_) | refine RW.op bq_tt (h := ?_) | refine RW.opN bq_tt (h := ?_) | refine RW.skip0 (h := ?_))); refine RW.nil ⟨by kernel_rfl, Pruned.mk (h := ?_)⟩)
      refine SW.condF rfl (SW.skip ?_)
      refine SW.seq ?_
      (refine SW.regL [0, 1, 2, 5, 6, 7, 8, 9, 11, 19] mixed ?_; (repeat (first | refine RW.ro bq_tt (h := ?_) | refine RW.skip (h := ?_) | refine RW.op bq_tt (h := ?_) | refine RW.opN bq_tt (h := ?_) | refine RW.skip0 (h := ?_) | (refine RW.callC (h := ?_); (first | refine CallP.mk bq_tt (hc := hsp) (h := ?_) | refine CallP.mk bq_tt (hc := htg) (h := ?_))))); refine RW.nil ⟨by kernel_rfl, Pruned.mk (h := ?_)⟩)
      refine SW.seq ?_
      (refine SW.regL [0, 1, 2, 5, 6, 7, 8, 9, 11, 19] mixed ?_; (repeat (first | refine RW.ro bq_tt (h := ?_) | refine RW.skip (h := ?_) | refine RW.op bq_tt (h := ?_) | refine RW.opN bq_tt (h := ?_) | refine RW.skip0 (h := ?_) | (refine RW.callC (h := ?_); (first | refine CallP.mk bq_tt (hc := hsp) (h := ?_) | refine CallP.mk bq_tt (hc := htg) (h := ?_))))); refine RW.nil ⟨by kernel_rfl, Pruned.mk (h := ?_)⟩)
      refine SW.ret ?_
      exact End.mk (hp0 a ca m cm) (h3 := by intro n ob hn; match n with | 0 | 1 | 2 => simpa [lk_cons] using hn | n + 3 => simp [lk_cons, lk_nil] at hn) (h4 := ⟨rfl, rfl⟩) (h6 := hp0_ok a ca m cm (by omega))
set_option maxHeartbeats 4000000 in
theorem ptight_sb (s : List Sp) (hs : s.length < 10000) (d : Dt) (L : List Cr) (hL : Ups a (MM.get a d) L) (hlL : L.length < 10000) : SB Try.prog charge_Tight.f [.ptr 0 0, sps s, .agg d.cells] (hp0 a ca m cm) 3 0 (fun v F' => v = tightP (leftF a s) (L.map (·.dot)) ∧ F' = hp0 a ca m cm) := by
  have hc : ∀ k, SCd Try.prog tree_Tree_Chain.f [.ptr 0 0, .agg d.cells] (hp0 a ca m cm) k (6 + L.length * (1 + 2)) (chainR a d L) (hp0 a ca m cm) := fun k => chain_at (tr0_sep a ca m cm) d L hL (by omega) k
  refine charge_Tight.enter (by simp [SV.oks, SV.ok]) (hp0_ok a ca m cm (Nat.le_refl 3)) (by simp) ?_
  unfold charge_Tight.s
  cases hg : MM.get a d with
  | none =>
    rw [chainNo hg] at hc
    have e0 : L = [] := by rw [hg] at hL; cases hL; rfl
    rw [e0]
    show Go.Sl.SW _ _ _ _ _ _
    refine SW.seq ?_
    (refine SW.regL [0, 1, 2, 5, 6, 7, 8, 9, 10, 19] mixed ?_; (repeat (first | refine RW.ro bq_tt (h := ?_) | refine RW.skip (h := ?_) | refine RW.op bq_tt (h := ?_) | refine RW.opN bq_tt (h := ?_) | refine RW.skip0 (h := ?_) | (refine RW.callC (h := ?_); (first | refine CallP.mk bq_tt (hc := hc _) (h := ?_))))); refine RW.nil ⟨by kernel_rfl, Pruned.mk (h := ?_)⟩)
    refine SW.seq ?_
    (refine SW.regL [0, 1, 2, 5, 6, 7, 8, 9, 10, 19] mixed ?_; (repeat (first | refine RW.ro bq_tt (h := ?_) | refine RW.skip (h := ?_) | refine RW.op bq_tt (h := ?_) | refine RW.opN bq_tt (h := ?_) | refine RW.skip0 (h := ?_) | (refine RW.callC (h := ?_); (first | refine CallP.mk bq_tt (hc := hc _) (h := ?_))))); refine RW.nil ⟨by kernel_rfl, Pruned.mk (h := ?_)⟩)
    refine SW.weak id (st1 := ⟨[(9, .d (.int .i64 7)), (6, .ptr 4 0)], (4, .box 33 (Dt.mk 0 0).cells) :: hp0 a ca m cm, 5⟩) (Weak.mk (mapsF a m)) ?_
    (repeat (first | refine SW.seq ?_ | refine SW.block ?_ | (refine SW.regL [0, 1, 2, 5, 6, 7, 8, 9, 10, 19] mixed ?_; (repeat (first | refine RW.ro bq_tt (h := ?_) | refine RW.skip (h := ?_) | refine RW.op bq_tt (h := ?_) | refine RW.opN bq_tt (h := ?_) | refine RW.skip0 (h := ?_))); refine RW.nil ⟨by kernel_rfl, Pruned.mk (h := ?_)⟩) | refine SW.skip ?_ | refine SW.exit ?_ | refine SW.ret ?_ | refine SW.condT rfl ?_ | refine SW.condF rfl ?_))
    exact End.mk (hp0 a ca m cm) (h3 := by intro n ob hn; match n with | 0 | 1 | 2 => simpa [lk_cons] using hn | n + 3 => simp [lk_cons, lk_nil] at hn) (h4 := ⟨rfl, rfl⟩) (h6 := hp0_ok a ca m cm (by omega))
  | some c =>
    rw [chainYes hg] at hc
    have hall : ∀ x, x ∈ L.map (·.dot) → ∃ y, MM.get a x = some y := fun x hx => by
      obtain ⟨y, hy, rfl⟩ := List.mem_map.1 hx
      exact ⟨y, ht.upsGet (d := d) hL y hy⟩
    have hD : (L.map (·.dot)).length = L.length := List.length_map ..
    have hL0 : 0 < L.length := by
      rw [hg] at hL
      exact lt_of_get hL.head
    have hlm : ∀ x, x ∈ L.map (·.dot) → leftM a (spM s).1 x = leftF a s x := fun x hx => by
      obtain ⟨y, hy⟩ := hall x hx
      exact left_same ht s hy
    generalize L.map (·.dot) = D at hc hall hD hlm
    cases D with
    | nil => simp at hD; omega
    | cons d0 r =>
      have hm := minAt_congr d0 r hlm
      have htg := tightN a ca m cm (fun d c h => ht.cap h) (spM s).1 (spM s).2 5 (by omega) d0 r (by simp at hD; omega) 6
      rw [hm, hlm _ (minAt_mem _ d0 r)] at htg
      show Go.Sl.SW _ _ _ _ _ _
      rw [show tightP (leftF a s) (d0 :: r) = .tup [.agg (minAt (leftF a s) d0 r).cells, .d (.int .i64 0)] from rfl]
      generalize leftF a s (minAt (leftF a s) d0 r) = rm at htg
      generalize minAt (leftF a s) d0 r = at_ at htg
      have hsp := spendsOf_at s (by omega) 5
      refine SW.seq ?_
      (refine SW.regL [0, 1, 2, 5, 6, 7, 8, 9, 10, 19] mixed ?_; (repeat (first | refine RW.ro bq_tt (h := ?_) | refine RW.skip (h := ?_) | refine RW.op bq_tt (h := ?_) | refine RW.opN bq_tt (h := ?_) | refine RW.skip0 (h := ?_) | (refine RW.callC (h := ?_); (first | refine CallP.mk bq_tt (hc := hc _) (h := ?_))))); refine RW.nil ⟨by kernel_rfl, Pruned.mk (h := ?_)⟩)
      refine SW.seq ?_
      (refine SW.regL [0, 1, 2, 5, 6, 7, 8, 9, 10, 19] mixed ?_; (repeat (first | refine RW.ro bq_tt (h := ?_) | refine RW.skip (h := ?_) | refine RW.op bq_tt (h := ?_) | refine RW.opN bq_tt (h := ?_) | refine RW.skip0 (h := ?_) | (refine RW.callC (h := ?_); (first | refine CallP.mk bq_tt (hc := hc _) (h := ?_))))); refine RW.nil ⟨by kernel_rfl, Pruned.mk (h := ?_)⟩)
      refine SW.weak id (st1 := ⟨[(9, .d (.int .i64 0)), (8, dots (d0 :: r)), (0, .ptr 0 0), (1, sps s), (6, .ptr 4 0)], (4, .box 33 (Dt.mk 0 0).cells) :: (3, .box 33 d.cells) :: hp0 a ca m cm, 5⟩) (Weak.mk (mapsF a m)) ?_
      refine SW.seq (SW.seq ?_)
      (refine SW.regL [0, 1, 2, 5, 6, 7, 8, 9, 10, 19] mixed ?_; (repeat (first | refine RW.ro bq_tt (h := ?_) | refine RW.skip (h := ?_) | refine RW.op bq_tt (h := ?_) | refine RW.opN bq_tt (h := ?_) | refine RW.skip0 (h := ?_))); refine RW.nil ⟨by kernel_rfl, Pruned.mk (h := ?_)⟩)
      refine SW.condF rfl (SW.skip ?_)
      refine SW.seq ?_
      (refine SW.regL [0, 1, 2, 5, 6, 7, 8, 9, 10, 19] mixed ?_; (repeat (first | refine RW.ro bq_tt (h := ?_) | refine RW.skip (h := ?_) | refine RW.op bq_tt (h := ?_) | refine RW.opN bq_tt (h := ?_) | refine RW.skip0 (h := ?_) | (refine RW.callC (h := ?_); (first | refine CallP.mk bq_tt (hc := hsp) (h := ?_) | refine CallP.mk bq_tt (hc := htg) (h := ?_))))); refine RW.nil ⟨by kernel_rfl, Pruned.mk (h := ?_)⟩)
      refine SW.seq ?_
      (refine SW.regL [0, 1, 2, 5, 6, 7, 8, 9, 10, 19] mixed ?_; (repeat (first | refine RW.ro bq_tt (h := ?_) | refine RW.skip (h := ?_) | refine RW.op bq_tt (h := ?_) | refine RW.opN bq_tt (h := ?_) | refine RW.skip0 (h := ?_) | (refine RW.callC (h := ?_); (first | refine CallP.mk bq_tt (hc := hsp) (h := ?_) | refine CallP.mk bq_tt (hc := htg) (h := ?_))))); refine RW.nil ⟨by kernel_rfl, Pruned.mk (h := ?_)⟩)
      refine SW.ret ?_
      exact End.mk (hp0 a ca m cm) (h3 := by intro n ob hn; match n with | 0 | 1 | 2 => simpa [lk_cons] using hn | n + 3 => simp [lk_cons, lk_nil] at hn) (h4 := ⟨rfl, rfl⟩) (h6 := hp0_ok a ca m cm (by omega))
end
end Go.Proofs.Ytmmonbnlleeloaa
namespace Go.Proofs.Ytmmonbnlleeloaa
open Go.Sl Go.Proofs
attribute [local irreducible] SW RW SCd SC CallP Pruned
theorem addM_keys (amount : Nat) (s : List Sp) (D : List Dt) (e : Dt) (h : MM.has (addM amount (spM s) D).1 e = true) : e ∈ s.map (·.d) ++ D := by
  induction D using snocRec with
  | nil =>
    have h : MM.has (spM s).1 e = true := h
    unfold MM.has at h
    rw [spM_get] at h
    cases hx : spentO s e with
    | none => rw [hx] at h; cases h
    | some x => obtain ⟨q1, q2⟩ := spentO_mem hx; exact List.mem_append_left _ (List.mem_map.2 ⟨x, q1, q2⟩)
  | snoc D x ih =>
    rw [addM_snoc] at h
    have h : MM.has (MM.put _ _ _ _) e = true := h
    rw [MM.has_put, Bool.or_eq_true, decide_eq_true_eq] at h
    rcases h with h | h
    · rw [h]; simp
    · have := ih h
      rw [← List.append_assoc]
      exact List.mem_append_left _ this
section
variable {l : List OpD} {a : MM Dt Cr} {ca : Nat} {m : MM Dt OpD} {cm : Nat} (ht : TOk l (tr0 a ca m cm))
include ht
theorem charge_bound (s : List Sp) (hn : ∀ x, x ∈ s → x.n < 18446744073709551616) {d : Dt} {c : Cr} (hg : MM.get a d = some c) {amount : Nat} (h : amount ≤ leftF a s d) : spentOf s d + amount < 18446744073709551616 := by
  rw [leftF_some hg] at h
  have hc := ht.cap (d := d) hg
  have hs : spentOf s d < 18446744073709551616 := by
    unfold spentOf
    cases hx : spentO s d with
    | none => show (0 : Nat) < _; omega
    | some x => exact hn x (spentO_mem hx).1
  by_cases h0 : amount = 0
  · omega
  · omega
set_option maxHeartbeats 8000000 in
theorem charge_sb (s : List Sp) (hs : s.length < 10000) (hn : ∀ x, x ∈ s → x.n < 18446744073709551616) (d : Dt) (L : List Cr) (hL : Ups a (MM.get a d) L) (hlL : L.length < 10000) (amount : Nat) :
    SB Try.prog charge_Charge.f [.ptr 0 0, sps s, .agg d.cells, .d (.int .u64 (amount : Int))] (hp0 a ca m cm) 3 0 (fun v F' => v = chargeS (leftF a s) amount s (L.map (·.dot)) ∧ F' = hp0 a ca m cm) := by
  have hc : ∀ k, SCd Try.prog tree_Tree_Chain.f [.ptr 0 0, .agg d.cells] (hp0 a ca m cm) k (6 + L.length * (1 + 2)) (chainR a d L) (hp0 a ca m cm) := fun k => chain_at (tr0_sep a ca m cm) d L hL (by omega) k
  refine charge_Charge.enter (by simp [SV.oks, SV.ok]) (hp0_ok a ca m cm (Nat.le_refl 3)) (by simp) ?_
  unfold charge_Charge.s
  cases hg : MM.get a d with
  | none =>
    rw [chainNo hg] at hc
    have e0 : L = [] := by rw [hg] at hL; cases hL; rfl
    rw [e0]
    refine SW.seq ?_
    (refine SW.regL [0, 1, 2, 3, 6, 8, 9, 10, 11, 12, 14, 16, 24, 37, 40, 41, 42, 43] mixed ?_; (repeat (first | refine RW.ro bq_tt (h := ?_) | refine RW.skip (h := ?_) | refine RW.op bq_tt (h := ?_) | refine RW.opN bq_tt (h := ?_) | refine RW.skip0 (h := ?_) | (refine RW.callC (h := ?_); (first | refine CallP.mk bq_tt (hc := hc _) (h := ?_))))); refine RW.nil ⟨by kernel_rfl, Pruned.mk (h := ?_)⟩)
    refine SW.seq ?_
    (refine SW.regL [0, 1, 2, 3, 6, 8, 9, 10, 11, 12, 14, 16, 24, 37, 40, 41, 42, 43] mixed ?_; (repeat (first | refine RW.ro bq_tt (h := ?_) | refine RW.skip (h := ?_) | refine RW.op bq_tt (h := ?_) | refine RW.opN bq_tt (h := ?_) | refine RW.skip0 (h := ?_) | (refine RW.callC (h := ?_); (first | refine CallP.mk bq_tt (hc := hc _) (h := ?_))))); refine RW.nil ⟨by kernel_rfl, Pruned.mk (h := ?_)⟩)
    refine SW.weak id (st1 := ⟨[(11, .d (.int .i64 7))], hp0 a ca m cm, 3⟩) (Weak.mk (mapsF a m)) ?_
    (repeat (first | refine SW.seq ?_ | refine SW.block ?_ | (refine SW.regL [0, 1, 2, 3, 6, 8, 9, 10, 11, 12, 14, 16, 24, 37, 40, 41, 42, 43] mixed ?_; (repeat (first | refine RW.ro bq_tt (h := ?_) | refine RW.skip (h := ?_) | refine RW.op bq_tt (h := ?_) | refine RW.opN bq_tt (h := ?_) | refine RW.skip0 (h := ?_))); refine RW.nil ⟨by kernel_rfl, Pruned.mk (h := ?_)⟩) | refine SW.skip ?_ | refine SW.exit ?_ | refine SW.ret ?_ | refine SW.condT rfl ?_ | refine SW.condF rfl ?_))
    exact End.mk (hp0 a ca m cm) (h3 := fun _ _ h => h) (h4 := ⟨rfl, rfl⟩) (h6 := hp0_ok a ca m cm (by omega))
  | some c =>
    rw [chainYes hg] at hc
    have hall : ∀ x, x ∈ L.map (·.dot) → ∃ y, MM.get a x = some y := fun x hx => by
      obtain ⟨y, hy, rfl⟩ := List.mem_map.1 hx
      exact ⟨y, ht.upsGet (d := d) hL y hy⟩
    have hD : (L.map (·.dot)).length = L.length := List.length_map ..
    have hL0 : 0 < L.length := by
      rw [hg] at hL
      exact lt_of_get hL.head
    have hlm : ∀ x, x ∈ L.map (·.dot) → leftM a (spM s).1 x = leftF a s x := fun x hx => by
      obtain ⟨y, hy⟩ := hall x hx
      exact left_same ht s hy
    have hnd : (L.map (·.dot)).Nodup := by
      rw [List.nodup_iff_pairwise_ne, List.pairwise_iff_getElem]
      intro i j hi hj hij e
      rw [List.length_map] at hi hj
      have := ht.upsInj (d := d) hL (List.getElem?_eq_getElem hi) (List.getElem?_eq_getElem hj) (by simpa using e)
      omega
    have hsame := charged_same amount s (L.map (·.dot)) hnd
    have hbnd : ∀ x, x ∈ L.map (·.dot) → amount ≤ leftF a s x → spentOf s x + amount < 18446744073709551616 := fun x hx h => by
      obtain ⟨y, hy⟩ := hall x hx
      exact charge_bound ht s hn hy h
    have hsl : (spM s).1.length ≤ s.length := by
      have h1 := (spM_wf s).keys.length_le_of_subset (l₂ := s.map (·.d)) (fun d hd => by
        have hh : MM.has (spM s).1 d = true := MM.has_iff.2 hd
        unfold MM.has at hh
        rw [spM_get] at hh
        cases hx : spentO s d with
        | none => rw [hx] at hh; cases hh
        | some x => obtain ⟨q1, q2⟩ := spentO_mem hx; exact List.mem_map.2 ⟨x, q1, q2⟩)
      simpa [MM.keys] using h1
    generalize L.map (·.dot) = D at hc hall hD hlm hnd hsame hbnd
    cases D with
    | nil => simp at hD; omega
    | cons d0 r =>
      have hm := minAt_congr d0 r hlm
      have htg := tightN a ca m cm (fun d c h => ht.cap h) (spM s).1 (spM s).2 4 (by omega) d0 r (by simp at hD; omega) 5
      rw [hm, hlm _ (minAt_mem _ d0 r)] at htg
      have hle := minAt_le (leftF a s) d0 r
      rw [show chargeS (leftF a s) amount s (d0 :: r) = (if leftF a s (minAt (leftF a s) d0 r) < amount then .tup [sps (plainR s), .d (.int .i64 279)] else .tup [sps (plainR (moreR amount s (d0 :: r))), .d (.int .i64 0)]) from rfl]
      have hls := listN (spM s).1 (spM s).2 (spM_wf s) (by omega) 4
      rw [lsM_plain] at hls
      generalize leftF a s (minAt (leftF a s) d0 r) = rm at htg hle ⊢
      generalize minAt (leftF a s) d0 r = at_ at htg
      have hsp := spendsOf_at s (by omega) 4
      refine SW.seq ?_
      (refine SW.regL [0, 1, 2, 3, 6, 8, 9, 10, 11, 12, 14, 16, 24, 37, 40, 41, 42, 43] mixed ?_; (repeat (first | refine RW.ro bq_tt (h := ?_) | refine RW.skip (h := ?_) | refine RW.op bq_tt (h := ?_) | refine RW.opN bq_tt (h := ?_) | refine RW.skip0 (h := ?_) | (refine RW.callC (h := ?_); (first | refine CallP.mk bq_tt (hc := hc _) (h := ?_))))); refine RW.nil ⟨by kernel_rfl, Pruned.mk (h := ?_)⟩)
      refine SW.seq ?_
      (refine SW.regL [0, 1, 2, 3, 6, 8, 9, 10, 11, 12, 14, 16, 24, 37, 40, 41, 42, 43] mixed ?_; (repeat (first | refine RW.ro bq_tt (h := ?_) | refine RW.skip (h := ?_) | refine RW.op bq_tt (h := ?_) | refine RW.opN bq_tt (h := ?_) | refine RW.skip0 (h := ?_) | (refine RW.callC (h := ?_); (first | refine CallP.mk bq_tt (hc := hc _) (h := ?_))))); refine RW.nil ⟨by kernel_rfl, Pruned.mk (h := ?_)⟩)
      refine SW.weak id (st1 := ⟨[(11, .d (.int .i64 0)), (10, dots (d0 :: r)), (0, .ptr 0 0), (1, sps s), (3, .d (.int .u64 (amount : Int)))], hp0 a ca m cm, 4⟩) (Weak.mk (mapsF a m)) ?_
      refine SW.seq (SW.seq ?_)
      (refine SW.regL [0, 1, 2, 3, 6, 8, 9, 10, 11, 12, 14, 16, 24, 37, 40, 41, 42, 43] mixed ?_; (repeat (first | refine RW.ro bq_tt (h := ?_) | refine RW.skip (h := ?_) | refine RW.op bq_tt (h := ?_) | refine RW.opN bq_tt (h := ?_) | refine RW.skip0 (h := ?_))); refine RW.nil ⟨by kernel_rfl, Pruned.mk (h := ?_)⟩)
      refine SW.condF rfl (SW.skip ?_)
      refine SW.seq ?_
      (refine SW.regL [0, 1, 2, 3, 6, 8, 9, 10, 11, 12, 14, 16, 24, 37, 40, 41, 42, 43] mixed ?_; (repeat (first | refine RW.ro bq_tt (h := ?_) | refine RW.skip (h := ?_) | refine RW.op bq_tt (h := ?_) | refine RW.opN bq_tt (h := ?_) | refine RW.skip0 (h := ?_) | (refine RW.callC (h := ?_); (first | refine CallP.mk bq_tt (hc := hsp) (h := ?_) | refine CallP.mk bq_tt (hc := htg) (h := ?_) | refine CallP.mk bq_tt (hc := hls _) (h := ?_))))); refine RW.nil ⟨by kernel_rfl, Pruned.mk (h := ?_)⟩)
      refine SW.seq (SW.seq ?_)
      (refine SW.regL [0, 1, 2, 3, 6, 8, 9, 10, 11, 12, 14, 16, 24, 37, 40, 41, 42, 43] mixed ?_; (repeat (first | refine RW.ro bq_tt (h := ?_) | refine RW.skip (h := ?_) | refine RW.op bq_tt (h := ?_) | refine RW.opN bq_tt (h := ?_) | refine RW.skip0 (h := ?_) | (refine RW.callC (h := ?_); (first | refine CallP.mk bq_tt (hc := hsp) (h := ?_) | refine CallP.mk bq_tt (hc := htg) (h := ?_) | refine CallP.mk bq_tt (hc := hls _) (h := ?_))))); refine RW.nil ⟨by kernel_rfl, Pruned.mk (h := ?_)⟩)
      by_cases hov : rm < amount
      · have h1 : decide ((amount : Int) > (rm : Int)) = true := by simp; omega
        rw [if_pos hov]
        refine SW.seq ?_
        (refine SW.regL [0, 1, 2, 3, 6, 8, 9, 10, 11, 12, 14, 16, 24, 37, 40, 41, 42, 43] mixed ?_; (repeat (first | refine RW.ro (h1) (h := ?_) | refine RW.skip (h := ?_) | refine RW.op (h1) (h := ?_) | refine RW.opN (h1) (h := ?_) | refine RW.skip0 (h := ?_) | (refine RW.callC (h := ?_); (first | refine CallP.mk (h1) (hc := hsp) (h := ?_) | refine CallP.mk (h1) (hc := htg) (h := ?_) | refine CallP.mk (h1) (hc := hls _) (h := ?_))))); refine RW.nil ⟨by kernel_rfl, Pruned.mk (h := ?_)⟩)
        refine SW.condT rfl (SW.seq ?_)
        (refine SW.regL [0, 1, 2, 3, 6, 8, 9, 10, 11, 12, 14, 16, 24, 37, 40, 41, 42, 43] mixed ?_; (repeat (first | refine RW.ro bq_tt (h := ?_) | refine RW.skip (h := ?_) | refine RW.op bq_tt (h := ?_) | refine RW.opN bq_tt (h := ?_) | refine RW.skip0 (h := ?_) | (refine RW.callC (h := ?_); (first | refine CallP.mk bq_tt (hc := hsp) (h := ?_) | refine CallP.mk bq_tt (hc := htg) (h := ?_) | refine CallP.mk bq_tt (hc := hls _) (h := ?_))))); refine RW.nil ⟨by kernel_rfl, Pruned.mk (h := ?_)⟩)
        refine SW.ret ?_
        exact End.mk (hp0 a ca m cm) (h3 := by intro n ob hn; match n with | 0 | 1 | 2 => simpa [lk_cons] using hn | n + 3 => simp [lk_cons, lk_nil] at hn) (h4 := ⟨rfl, rfl⟩) (h6 := hp0_ok a ca m cm (by omega))
      · have h1 : decide ((amount : Int) > (rm : Int)) = false := by simp; omega
        rw [if_neg hov]
        refine SW.seq ?_
        (refine SW.regL [0, 1, 2, 3, 6, 8, 9, 10, 11, 12, 14, 16, 24, 37, 40, 41, 42, 43] mixed ?_; (repeat (first | refine RW.ro (h1) (h := ?_) | refine RW.skip (h := ?_) | refine RW.op (h1) (h := ?_) | refine RW.opN (h1) (h := ?_) | refine RW.skip0 (h := ?_) | (refine RW.callC (h := ?_); (first | refine CallP.mk (h1) (hc := hsp) (h := ?_) | refine CallP.mk (h1) (hc := htg) (h := ?_) | refine CallP.mk (h1) (hc := hls _) (h := ?_))))); refine RW.nil ⟨by kernel_rfl, Pruned.mk (h := ?_)⟩)
        refine SW.condF rfl (SW.skip ?_)
        have hDl : (d0 :: r).length < 1000000 := by simp at hD ⊢; omega
        have hb2 : ∀ x, x ∈ d0 :: r → spentOf s x + amount < 18446744073709551616 := fun x hx => hbnd x hx (by have := hle x hx; omega)
        have hMl : (addM amount (spM s) (d0 :: r)).1.length < 1000000 := by
          have hk := (addM_wf amount (spM_wf s) (d0 :: r)).keys
          have := hk.length_le_of_subset (l₂ := s.map (·.d) ++ (d0 :: r)) (fun e he => by
            have hh : MM.has (addM amount (spM s) (d0 :: r)).1 e = true := MM.has_iff.2 he
            exact addM_keys amount s (d0 :: r) e hh)
          simp only [MM.keys, List.length_map, List.length_append] at this
          omega
        have hls2 := listN (addM amount (spM s) (d0 :: r)).1 (addM amount (spM s) (d0 :: r)).2 (addM_wf amount (spM_wf s) _) hMl 4
        rw [hsame] at hls2
        generalize hDD : d0 :: r = D at *
        refine SW.seq (SW.seq ?_)
        (refine SW.regL [0, 1, 2, 3, 6, 8, 9, 10, 11, 12, 14, 16, 24, 37, 40, 41, 42, 43] mixed ?_; (repeat (first | refine RW.ro bq_tt (h := ?_) | refine RW.skip (h := ?_) | refine RW.op bq_tt (h := ?_) | refine RW.opN bq_tt (h := ?_) | refine RW.skip0 (h := ?_))); refine RW.nil ⟨by kernel_rfl, Pruned.mk (h := ?_)⟩)
        refine SW.block ?_
        refine SW.loopA (α := {i : Nat // i ≤ D.length}) (fun i => ⟨[(42, i64 i.1), (40, dots D), (41, i64 D.length), (12, .mp 4), (3, .d (.int .u64 (amount : Int)))], (4, .map (mapE Dt.cells uv (addM amount (spM s) (D.take i.1)).1) (addM amount (spM s) (D.take i.1)).2) :: hp0 a ca m cm, 5⟩) (fun i => D.length - i.1) ⟨0, by omega⟩ id (And.intro (show addM amount (spM s) [] = spM s from rfl) (mapsG a m (spM s).1)) (round := ?_)
        rintro ⟨i, hi⟩
        dsimp only
        by_cases hil : i < D.length
        · obtain ⟨x, hx⟩ := get_of_lt hil
          have h2 : decide ((i : Int) < D.length) = true := by simp; exact hil
          have e1 : D.take (i + 1) = D.take i ++ [x] := take_snoc hx
          have e2 : IntKind.i64.wrap ((i : Int) + 1) = ((i + 1 : Nat) : Int) := wrap_i64 _ (by omega)
          have hw := addM_wf amount (spM_wf s) (D.take i)
          have hsn := addM_snoc amount (spM s) (D.take i) x
          rw [← e1] at hsn
          have hv : (MM.get (addM amount (spM s) (D.take i)).1 x).getD 0 = spentOf s x := by
            have hnt : (D.take i).Nodup := hnd.sublist (List.take_sublist _ _)
            rw [addM_get amount (spM s) x _ hnt, spM_spent, if_neg, Nat.add_zero]
            intro hm
            have hn2 : (D.take (i + 1)).Nodup := hnd.sublist (List.take_sublist _ _)
            rw [e1, List.nodup_append] at hn2
            exact hn2.2.2 x hm x (by simp) rfl
          have hb3 := hb2 x (List.mem_of_getElem? hx)
          generalize addM amount (spM s) (D.take i) = Mi at hw hsn hv
          obtain ⟨Mi, ci⟩ := Mi
          dsimp only at hw hsn hv ⊢
          rw [hv] at hsn
          generalize spentOf s x = v at hv hb3 hsn
          have e3 : IntKind.u64.wrap ((v : Int) + (amount : Int)) = ((v + amount : Nat) : Int) := by rw [wrap_u64' _ (by omega)]; omega
          have fe := mstor_E (vs := uv) (kc := Dt.cells) hw x 0
          have e3' : (MM.get (MM.ent Mi ci x 0) x).getD 0 = v := by
            rw [← hv]
            unfold MM.ent
            cases hh : MM.idx Mi x with
            | none =>
              have h1 := MM.idx_none.1 hh
              have h2 : Mi.find? (fun y => decide (x = y.2.1)) = none := by
                unfold MM.get at h1
                simpa using h1
              rw [h1]
              simp [MM.get, List.find?_append, h2]
            | some i => rfl
          refine SW.seq ?_
          (refine SW.regL [0, 1, 2, 3, 6, 8, 9, 10, 11, 12, 14, 16, 24, 37, 40, 41, 42, 43] mixed ?_; (repeat (first | refine RW.ro (h2) (h := ?_) | refine RW.skip (h := ?_) | refine RW.op (h2) (h := ?_) | refine RW.opN (h2) (h := ?_) | refine RW.skip0 (h := ?_))); refine RW.nil ⟨by kernel_rfl, Pruned.mk (h := ?_)⟩)
          refine SW.seq (SW.condT rfl (SW.skip ?_))
          refine SW.seq (SW.block (SW.seq ?_))
          (refine SW.regL [0, 1, 2, 3, 6, 8, 9, 10, 11, 12, 14, 16, 24, 37, 40, 41, 42, 43] mixed ?_; (repeat (first | refine RW.ro (dot_at hx) (h := ?_) | refine RW.skip (h := ?_) | refine RW.op (dot_at hx) (h := ?_) | refine RW.opN (dot_at hx) (h := ?_) | refine RW.skip0 (h := ?_))); refine RW.nil ⟨by kernel_rfl, Pruned.mk (h := ?_)⟩)
          refine SW.mono (Q := fun e st' => e = .normal ∧ Weak 3 st' ⟨[(42, i64 i), (40, dots D), (41, i64 D.length), (12, .mp 4), (3, .d (.int .u64 (amount : Int)))], (4, .map (mapE Dt.cells uv (MM.put Mi ci x (v + amount))) (MM.clk Mi ci x)) :: hp0 a ca m cm, 6⟩ id) (SW.tree mixed ?_) ?_
          · repeat' (first
              | refine SWt.s1 _ (h1 := ?_)
              | refine SWt.s2 _ _ (h1 := ?_) (h2 := ?_)
              | refine SWt.s3 _ _ _ (h1 := ?_) (h2 := ?_) (h3 := ?_)
              | refine Oa.mk (And.intro fe (And.intro hv (And.intro e3 e3'))) (h := ?_))
            all_goals (refine SWt.done (by kernel_rfl) (And.intro rfl <| Weak.same (by simp) (by simp [EnvW, List.lookup, SV.ren, SV.ok]) (ok_cons (by simp) (by simp only [Ob.ok]; exact umap_ok _ _) (hp0_ok a ca m cm (by show 3 ≤ 6; omega))) (fun x hx => ?_)))
            all_goals (simp only [List.mem_cons, List.not_mem_nil, or_false] at hx; rcases hx with rfl | rfl | rfl | rfl <;> rfl)
          rintro _ st' ⟨rfl, hwk⟩
          refine SW.weak id hwk ?_
          (refine SW.regL [0, 1, 2, 3, 6, 8, 9, 10, 11, 12, 14, 16, 24, 37, 40, 41, 42, 43] mixed ?_; (repeat (first | refine RW.ro (e2) (h := ?_) | refine RW.skip (h := ?_) | refine RW.op (e2) (h := ?_) | refine RW.opN (e2) (h := ?_) | refine RW.skip0 (h := ?_))); refine RW.nil ⟨by kernel_rfl, Pruned.mk (h := ?_)⟩)
          dsimp only
          exact ⟨⟨i + 1, by omega⟩, id, by show D.length - (i + 1) < _; omega, Weak.mk (And.intro hsn (mapsG a m (MM.put Mi ci x (v + amount))))⟩
        · have h2 : decide ((i : Int) < D.length) = false := by simp; omega
          have h3 : i = D.length := by omega
          subst h3
          rw [List.take_length]
          refine SW.seq ?_
          (refine SW.regL [0, 1, 2, 3, 6, 8, 9, 10, 11, 12, 14, 16, 24, 37, 40, 41, 42, 43] mixed ?_; (repeat (first | refine RW.ro (h2) (h := ?_) | refine RW.skip (h := ?_) | refine RW.op (h2) (h := ?_) | refine RW.opN (h2) (h := ?_) | refine RW.skip0 (h := ?_) | (refine RW.callC (h := ?_); (first | refine CallP.mk (h2) (hc := hls2 _) (h := ?_))))); refine RW.nil ⟨by kernel_rfl, Pruned.mk (h := ?_)⟩)
          refine SW.seq (SW.condF rfl (SW.exit ?_))
          refine SW.seq ?_
          (refine SW.regL [0, 1, 2, 3, 6, 8, 9, 10, 11, 12, 14, 16, 24, 37, 40, 41, 42, 43] mixed ?_; (repeat (first | refine RW.ro bq_tt (h := ?_) | refine RW.skip (h := ?_) | refine RW.op bq_tt (h := ?_) | refine RW.opN bq_tt (h := ?_) | refine RW.skip0 (h := ?_) | (refine RW.callC (h := ?_); (first | refine CallP.mk bq_tt (hc := hls2 _) (h := ?_))))); refine RW.nil ⟨by kernel_rfl, Pruned.mk (h := ?_)⟩)
          refine SW.ret ?_
          exact End.mk (hp0 a ca m cm) (h3 := by intro n ob hn; match n with | 0 | 1 | 2 => simpa [lk_cons] using hn | n + 3 => simp [lk_cons, lk_nil] at hn) (h4 := ⟨rfl, rfl⟩) (h6 := hp0_ok a ca m cm (by omega))
end
end Go.Proofs.Ytmmonbnlleeloaa
