/-
  Buffers: the document's put.
-/
import Derived.Test.YtnakpdoioammhaaDoorUR
import Derived.Test.YtnakpdoioammhaaDoorUQ
set_option linter.unusedSectionVars false
set_option linter.unusedVariables false
set_option linter.unusedSimpArgs false
namespace Go.Proofs.YtnakpdoioammhaaDoor
open Go.Sl Go.Proofs
attribute [local irreducible] SW RW SCd SC CallP Pruned
theorem rqc.frz (r len : Nat) (ds : List DV) (n : Nat) (has : Vec) (s : SV) : SV.frzs r len ds (rqc n has s) = rqc n has (s.frz r len ds) := rfl
theorem drain_none {k : Nat} {has : Vec} {L : List OpD} (h : nextB has L = none) : Go.Sl.drain k has L = ([], has, L) := by
  cases k with
  | zero => rfl
  | succ k => unfold Go.Sl.drain; rw [h]
theorem drain_some {k : Nat} {has : Vec} {L : List OpD} {o : OpD} (h : nextB has L = some o) : Go.Sl.drain (k + 1) has L = (o :: (Go.Sl.drain k (has.set o.dot.r o.dot.n) (dropB L o.dot)).1, (Go.Sl.drain k (has.set o.dot.r o.dot.n) (dropB L o.dot)).2) := by
  show (match nextB has L with
    | none => ([], has, L)
    | some o => let r := Go.Sl.drain k (has.set o.dot.r o.dot.n) (dropB L o.dot); (o :: r.1, r.2)) = _
  rw [h]
theorem dropB_at {L : List OpD} (hu : Uniq L) {i : Nat} {o : OpD} (hi : L[i]? = some o) : dropB L o.dot = L.take i ++ L.drop (i + 1) := by
  have hL : L = L.take i ++ o :: L.drop (i + 1) := by
    have h1 := List.getElem?_eq_some_iff.1 hi
    rw [← h1.2, List.getElem_cons_drop, List.take_append_drop]
  have hx : ∀ x, x ∈ L.take i ++ L.drop (i + 1) → x.dot ≠ o.dot := fun x hx e => by
    have hu2 := hu
    unfold Uniq at hu2
    rw [hL, List.map_append, List.map_cons] at hu2
    rw [List.nodup_append] at hu2
    obtain ⟨_, h2, h3⟩ := hu2
    rcases List.mem_append.1 hx with hx | hx
    · exact h3 _ (List.mem_map_of_mem hx) _ List.mem_cons_self e
    · exact (List.nodup_cons.1 h2).1 (e ▸ List.mem_map_of_mem hx)
  have hf : ∀ T : List OpD, (∀ x, x ∈ T → x.dot ≠ o.dot) → T.filter (fun x => !decide (x.dot = o.dot)) = T := fun T hT => List.filter_eq_self.2 fun x hx => by simpa using hT x hx
  unfold dropB
  conv => lhs; rw [hL]
  rw [List.filter_append, List.filter_cons, if_neg (by simp), hf _ fun x h => hx x (List.mem_append.2 (.inl h)), hf _ fun x h => hx x (List.mem_append.2 (.inr h))]
structure RIn (n : Nat) (has : Vec) (L : List OpD) : Prop where
  n1 : 1 ≤ n
  n8 : n ≤ 8
  hv : has.wf
  len : L.length ≤ 200000
  uq : Uniq L
  dot : ∀ o, o ∈ L → o.dot.r < 8 ∧ 0 < o.dot.n ∧ o.dot.wf
theorem addB_len (has : Vec) (L : List OpD) (o : OpD) : (addB has L o).length ≤ L.length + 1 := by
  unfold addB; split <;> simp
theorem addAll_snoc (has : Vec) (L l : List OpD) (o : OpD) : addAll has L (l ++ [o]) = addB has (addAll has L l) o := by
  unfold addAll; rw [List.foldl_append]; rfl
theorem addAll_len (has : Vec) : ∀ (l L : List OpD), (addAll has L l).length ≤ L.length + l.length
  | [], L => Nat.le_refl _
  | o :: l, L => by
    have h1 := addAll_len has l (addB has L o)
    have h2 := addB_len has L o
    show (addAll has (addB has L o) l).length ≤ _
    rw [List.length_cons]; omega
theorem addB_uniq {has : Vec} {L : List OpD} (h : Uniq L) (o : OpD) : Uniq (addB has L o) := by
  unfold addB
  split
  · exact h
  · rename_i hn
    rw [Bool.or_eq_true, not_or] at hn
    refine uniq_snoc h fun y hy e => hn.1 ?_
    obtain ⟨j, hj⟩ := List.mem_iff_getElem?.1 hy
    exact findO_is hj e
theorem addAll_uniq {has : Vec} : ∀ (l : List OpD) {L : List OpD}, Uniq L → Uniq (addAll has L l)
  | [], _, h => h
  | o :: l, _, h => addAll_uniq l (addB_uniq h o)
structure DIn (R : List OpD × Vec × List OpD) (out : List OpD) (has : Vec) (L : List OpD) : Prop where
  k : ∃ k, R = (out ++ (Go.Sl.drain k has L).1, (Go.Sl.drain k has L).2) ∧ L.length ≤ k
  hv : has.wf
  uq : Uniq L
  dot : ∀ o, o ∈ L → o.dot.r < 8 ∧ 0 < o.dot.n ∧ o.dot.wf
  len : out.length + L.length ≤ 400000
theorem DIn.done {R : List OpD × Vec × List OpD} {out : List OpD} {has : Vec} {L : List OpD} (h : DIn R out has L) (hn : nextB has L = none) : R = (out, has, L) := by
  obtain ⟨k, e, _⟩ := h.k
  rw [e, drain_none hn, List.append_nil]
theorem DIn.step {R : List OpD × Vec × List OpD} {out : List OpD} {has : Vec} {L : List OpD} (h : DIn R out has L) {o : OpD} (hn : nextB has L = some o) : DIn R (out ++ [o]) (has.set o.dot.r o.dot.n) (dropB L o.dot) := by
  obtain ⟨k, e, hk⟩ := h.k
  have hm := (nextB_some hn).1
  have hlt := dropB_lt hm
  cases k with
  | zero => omega
  | succ k =>
    refine ⟨⟨k, ?_, by omega⟩, Vec.set_wf h.hv (h.dot o hm).2.2.2, dropB_uniq h.uq _, fun x hx => h.dot x (mem_dropB.1 hx).1, ?_⟩
    · rw [e, drain_some hn]; simp
    · have := h.len; rw [List.length_append]; simp; omega
abbrev zq : List SV := rqc 0 Vec.zero (.d .nils)
set_option maxRecDepth 100000 in
set_option maxHeartbeats 8000000 in
theorem rput_ok (n : Nat) (has : Vec) (L : List OpD) (hI : RIn n has L) (l : List OpD) (hl : PutOk l) (hl2 : l.length ≤ 200000) (hkd : ∀ x, x ∈ l → x.kind < 256) (hb : l.any (badF n) = false) : Go.Sl.Pure Tryd.prog ref11_Put.f [.agg (rqc n has (ops L)), ops l] (.tup [.agg (rqc n (putB has L l).2.1 (ops (putB has L l).2.2)), ops (putB has L l).1, i64 0]) := by
  refine ref11_Put.enter (by first | rfl | simp [SV.ok, SV.oks]) (by first | rfl | simp [Hp.ok, Ob.ok, SV.ok, SV.oks, Vec.cells_ok]) (by simp) ?_
  dsimp only [ref11_Put.s, Co.M, Co.G, Co.J, Co.H, Co.N, Co.F, Co.C, Co.Z, Co.B, Co.b8, Co.b32, Co.b64, Co.i6, Co.z8, Co.z29]
  have n8 := hI.n8
  have hL := hI.len
  have z0 : zq = [.d (.int .i64 0), .d (.int .u32 0), .d (.int .u32 0), .d (.int .u32 0), .d (.int .u32 0), .d (.int .u32 0), .d (.int .u32 0), .d (.int .u32 0), .d (.int .u32 0), .d .nils] := rfl
  have g1 := fun h s => rqc.len n h s
  have g0 := fun h s => rqc.g0 n h s
  have g9 := fun h s => rqc.g9 n h s
  have t10 := fun h s => rqc.t10 n h s
  have row := fun h s s' => rqc.row n h s s'
  have o1 := fun h l => rqc.one n h (s := ops l) rfl
  have r3 : ∀ h l, SV.rens id (rqc n h (ops l)) = rqc n h (ops l) := fun h l => rqc.ren _ _ _ _
  have r4 : ∀ h l, SV.oks (fun n => decide (n < 2)) (rqc n h (ops l)) = true := fun h l => rqc.ok _ _ _ rfl
  have r5 : SV.rens id zq = zq := rqc.ren _ _ _ _
  have r6 : SV.oks (fun n => decide (n < 2)) zq = true := rqc.ok _ _ _ rfl
  refine SW.seq ?_
  (refine SW.regL [0, 1, 2, 4, 5, 6, 7, 8, 9, 10, 11, 15, 25, 35, 45, 57] mixed ?_; (repeat (first | refine RW.ro (o1) (h := ?_) | refine RW.skip (h := ?_) | refine RW.op (o1) (h := ?_) | refine RW.opN (o1) (h := ?_) | refine RW.skip0 (h := ?_))); refine RW.nil ⟨by kernel_rfl, Pruned.mk (h := ?_)⟩)
  refine SW.seq (SW.seq ?_)
  (refine SW.regL [0, 1, 2, 4, 5, 6, 7, 8, 9, 10, 11, 15, 25, 35, 45, 57] mixed ?_; (repeat (first | refine RW.ro bq_tt (h := ?_) | refine RW.skip (h := ?_) | refine RW.op bq_tt (h := ?_) | refine RW.opN bq_tt (h := ?_) | refine RW.skip0 (h := ?_))); refine RW.nil ⟨by kernel_rfl, Pruned.mk (h := ?_)⟩)
  refine SW.block ?_
  refine SW.loopA (α := {i : Nat // i ≤ l.length}) (fun i => ⟨[(7, i64 i.1), (1, ops l), (2, .ptr 0 0), (4, .ptr 1 0)], [(0, .box 48 (rqc n has (ops L))), (1, .box 48 zq)], 2⟩) (fun i => l.length - i.1) ⟨0, by omega⟩ id (And.intro z0 (And.intro (r3 has L) (r4 has L))) (round := ?_)
  rintro ⟨i, hi⟩
  dsimp only
  refine SW.seq (SW.seq ?_)
  by_cases h : i < l.length
  · have h1 : decide ((i : Int) < l.length) = true := by simp only [decide_eq_true_eq]; omega
    obtain ⟨x, hx⟩ := get_of_lt h
    have hxm := List.mem_of_getElem? hx
    have e2 : IntKind.i64.wrap ((i : Int) + 1) = ((i + 1 : Nat) : Int) := wrap_i64 _ (by omega)
    have hbx : (checkV (n : Int) x != 0) = false := by
      rw [List.any_eq_false] at hb
      have := hb x hxm
      simpa [badF] using this
    have hc := fun k => rcheck_at x (n : Int) (hl.wf hxm) (hkd x hxm) (hl.op x hxm).1.w.lin k
    (refine SW.regL [0, 1, 2, 4, 5, 6, 7, 8, 9, 10, 11, 15, 25, 35, 45, 57] mixed ?_; (repeat (first | refine RW.ro (h1) (h := ?_) | refine RW.skip (h := ?_) | refine RW.op (h1) (h := ?_) | refine RW.opN (h1) (h := ?_) | refine RW.skip0 (h := ?_))); refine RW.nil ⟨by kernel_rfl, Pruned.mk (h := ?_)⟩)
    refine SW.condT rfl (SW.skip (SW.seq (SW.block (SW.seq ?_))))
    (have fx := (And.intro (g0) (And.intro (g1) (And.intro (op_at hx) (And.intro (op_room0 hx) (hbx))))); refine SW.regL [0, 1, 2, 4, 5, 6, 7, 8, 9, 10, 11, 15, 25, 35, 45, 57] mixed ?_; (repeat (first | refine RW.ro fx (h := ?_) | refine RW.skip (h := ?_) | refine RW.op fx (h := ?_) | refine RW.opN fx (h := ?_) | refine RW.skip0 (h := ?_) | (refine RW.callC (h := ?_); (first | refine CallP.mk fx (hc := hc _) (h := ?_))))); refine RW.nil ⟨by kernel_rfl, Pruned.mk (h := ?_)⟩)
    refine SW.condF rfl (SW.skip ?_)
    (refine SW.regL [0, 1, 2, 4, 5, 6, 7, 8, 9, 10, 11, 15, 25, 35, 45, 57] mixed ?_; (repeat (first | refine RW.ro (e2) (h := ?_) | refine RW.skip (h := ?_) | refine RW.op (e2) (h := ?_) | refine RW.opN (e2) (h := ?_) | refine RW.skip0 (h := ?_))); refine RW.nil ⟨by kernel_rfl, Pruned.mk (h := ?_)⟩)
    refine ⟨⟨i + 1, by omega⟩, id, by show l.length - (i + 1) < l.length - i; omega, ?_⟩
    exact Weak.mk (And.intro (r3 has L) (And.intro (r4 has L) (And.intro r5 r6)))
  have h1 : decide ((i : Int) < l.length) = false := by simp only [decide_eq_false_iff_not]; omega
  (refine SW.regL [0, 1, 2, 4, 5, 6, 7, 8, 9, 10, 11, 15, 25, 35, 45, 57] mixed ?_; (repeat (first | refine RW.ro (h1) (h := ?_) | refine RW.skip (h := ?_) | refine RW.op (h1) (h := ?_) | refine RW.opN (h1) (h := ?_) | refine RW.skip0 (h := ?_))); refine RW.nil ⟨by kernel_rfl, Pruned.mk (h := ?_)⟩)
  refine SW.condF rfl (SW.exit (SW.seq ?_))
  clear h1 h hi
  (have fx := (And.intro (g1) (And.intro (g9) (row))); refine SW.regL [0, 1, 2, 4, 5, 6, 7, 8, 9, 10, 11, 15, 25, 35, 45, 57] mixed ?_; (repeat (first | refine RW.ro fx (h := ?_) | refine RW.skip (h := ?_) | refine RW.op fx (h := ?_) | refine RW.opN fx (h := ?_) | refine RW.skip0 (h := ?_))); refine RW.nil ⟨by kernel_rfl, Pruned.mk (h := ?_)⟩)
  have i0 : addAll has L [] = L := rfl
  have w1 : ∀ (h : Vec) (m : Nat), SV.rens id (rqc n h (.gs 2 m)) = rqc n h (.gs 2 m) := fun h m => rqc.ren _ _ _ _
  have w2 : ∀ (h : Vec) (m : Nat), SV.oks (fun n => decide (n < 3)) (rqc n h (.gs 2 m)) = true := fun h m => rqc.ok _ _ _ rfl
  have w3 : ∀ (h : Vec) (m : Nat), SV.rens (fun n => if n = 2 then 3 else n) (rqc n h (.gs 2 m)) = rqc n h (.gs 3 m) := fun h m => rqc.ren _ _ _ _
  have w4 : SV.oks (fun n => decide (n < 3)) zq = true := rqc.ok _ _ _ rfl
  have w5 : SV.rens (fun n => if n = 2 then 3 else n) zq = zq := rqc.ren _ _ _ _
  have w6 := fun h m => rqc.one n h (s := .gs 2 m) rfl
  refine SW.seq (SW.seq ?_)
  (refine SW.regL [0, 1, 2, 4, 5, 6, 7, 8, 9, 10, 11, 15, 25, 35, 45, 57] mixed ?_; (repeat (first | refine RW.ro bq_tt (h := ?_) | refine RW.skip (h := ?_) | refine RW.op bq_tt (h := ?_) | refine RW.opN bq_tt (h := ?_) | refine RW.skip0 (h := ?_))); refine RW.nil ⟨by kernel_rfl, Pruned.mk (h := ?_)⟩)
  refine SW.block ?_
  refine SW.loopA (α := {i : Nat // i ≤ l.length}) (fun i => ⟨[(8, i64 i.1), (1, ops l), (2, .ptr 0 0), (4, .ptr 1 0)], [(2, .arr 37 29 (addAll has L (l.take i.1)).length (opc (addAll has L (l.take i.1)))), (0, .box 48 (rqc n has (.gs 2 (addAll has L (l.take i.1)).length))), (1, .box 48 zq)], 3⟩) (fun i => l.length - i.1) ⟨0, by omega⟩ (fun n => if n = 2 then 3 else n) (And.intro i0 (And.intro (w3 has L.length) (And.intro (w2 has L.length) (And.intro w5 w4)))) (round := ?_)
  rintro ⟨i, hi⟩
  dsimp only
  refine SW.seq (SW.seq ?_)
  by_cases h : i < l.length
  · have h1 : decide ((i : Int) < l.length) = true := by simp only [decide_eq_true_eq]; omega
    obtain ⟨x, hx⟩ := get_of_lt h
    have hxm := List.mem_of_getElem? hx
    have e2 : IntKind.i64.wrap ((i : Int) + 1) = ((i + 1 : Nat) : Int) := wrap_i64 _ (by omega)
    have hbx : badF n x = false := by
      rw [List.any_eq_false] at hb
      simpa using hb x hxm
    have hd := (badF_iff.1 hbx).2.2.dot8 n8
    have hA := addAll_len has (l.take i) L
    rw [List.length_take] at hA
    have hsn : addAll has L (l.take (i + 1)) = addB has (addAll has L (l.take i)) x := by rw [take_snoc hx, addAll_snoc]
    generalize addAll has L (l.take i) = T at hA hsn ⊢
    have hT : T.length ≤ 400000 := by omega
    have ht := fun k => rthere_at n has T hT x.dot hd.1 hd.2 2 k
    unfold addB at hsn
    (refine SW.regL [0, 1, 2, 4, 5, 6, 7, 8, 9, 10, 11, 15, 25, 35, 45, 57] mixed ?_; (repeat (first | refine RW.ro (h1) (h := ?_) | refine RW.skip (h := ?_) | refine RW.op (h1) (h := ?_) | refine RW.opN (h1) (h := ?_) | refine RW.skip0 (h := ?_))); refine RW.nil ⟨by kernel_rfl, Pruned.mk (h := ?_)⟩)
    refine SW.condT rfl (SW.skip (SW.seq (SW.block (SW.seq ?_))))
    rcases hth : ((findO T x.dot).isSome || has.covers x.dot) with _ | _ <;> rw [hth] at ht hsn
    · rw [if_neg (by simp)] at hsn
      (have fx := (And.intro (g1) (And.intro (t10) (And.intro (op_load11 hx) (op_roomd11 hx)))); refine SW.regL [0, 1, 2, 4, 5, 6, 7, 8, 9, 10, 11, 15, 25, 35, 45, 57] mixed ?_; (repeat (first | refine RW.ro fx (h := ?_) | refine RW.skip (h := ?_) | refine RW.op fx (h := ?_) | refine RW.opN fx (h := ?_) | refine RW.skip0 (h := ?_) | (refine RW.callC (h := ?_); (first | refine CallP.mk fx (hc := ht _) (h := ?_))))); refine RW.nil ⟨by kernel_rfl, Pruned.mk (h := ?_)⟩)
      refine SW.condT rfl ?_
      (have fx := (And.intro (g1) (And.intro (g9) (And.intro (row) (And.intro (op_at hx) (op_room0 hx))))); refine SW.regL [0, 1, 2, 4, 5, 6, 7, 8, 9, 10, 11, 15, 25, 35, 45, 57] mixed ?_; (repeat (first | refine RW.ro fx (h := ?_) | refine RW.skip (h := ?_) | refine RW.op fx (h := ?_) | refine RW.opN fx (h := ?_) | refine RW.skip0 (h := ?_) | refine lit1 rfl rfl (h := ?_))); refine RW.nil ⟨by kernel_rfl, Pruned.mk (h := ?_)⟩)
      have e5 : (T ++ [x]).length = T.length + [x].length := by simp
      have e6 : opc (T ++ [x]) = opc T ++ List.map SV.d ([x].flatMap OpD.ds) := by simp [opc]
      have u1 : ∀ n : Nat, n < 2 → n = 2 → 3 = n := fun n hn e => by omega
      (refine SW.regL [0, 1, 2, 4, 5, 6, 7, 8, 9, 10, 11, 15, 25, 35, 45, 57] mixed ?_; (repeat (first | refine RW.ro (e2) (h := ?_) | refine RW.skip (h := ?_) | refine RW.op (e2) (h := ?_) | refine RW.opN (e2) (h := ?_) | refine RW.skip0 (h := ?_))); refine RW.nil ⟨by kernel_rfl, Pruned.mk (h := ?_)⟩)
      refine ⟨⟨i + 1, by omega⟩, fun n => if n = 2 then 3 else n, by show l.length - (i + 1) < l.length - i; omega, ?_⟩
      dsimp only
      rw [hsn, e5, e6]
      exact Weak.mk (And.intro (eq_true u1) (And.intro (w3 has (T.length + 1)) (And.intro (w2 has (T.length + 1)) (And.intro w5 w4))))
    · rw [if_pos rfl] at hsn
      (have fx := (And.intro (g1) (And.intro (t10) (And.intro (op_load11 hx) (op_roomd11 hx)))); refine SW.regL [0, 1, 2, 4, 5, 6, 7, 8, 9, 10, 11, 15, 25, 35, 45, 57] mixed ?_; (repeat (first | refine RW.ro fx (h := ?_) | refine RW.skip (h := ?_) | refine RW.op fx (h := ?_) | refine RW.opN fx (h := ?_) | refine RW.skip0 (h := ?_) | (refine RW.callC (h := ?_); (first | refine CallP.mk fx (hc := ht _) (h := ?_))))); refine RW.nil ⟨by kernel_rfl, Pruned.mk (h := ?_)⟩)
      refine SW.condF rfl (SW.skip ?_)
      (refine SW.regL [0, 1, 2, 4, 5, 6, 7, 8, 9, 10, 11, 15, 25, 35, 45, 57] mixed ?_; (repeat (first | refine RW.ro (e2) (h := ?_) | refine RW.skip (h := ?_) | refine RW.op (e2) (h := ?_) | refine RW.opN (e2) (h := ?_) | refine RW.skip0 (h := ?_))); refine RW.nil ⟨by kernel_rfl, Pruned.mk (h := ?_)⟩)
      refine ⟨⟨i + 1, by omega⟩, id, by show l.length - (i + 1) < l.length - i; omega, ?_⟩
      dsimp only
      rw [hsn]
      exact Weak.mk (And.intro (w1 has T.length) (And.intro (w2 has T.length) (And.intro r5 w4)))
  have h1 : decide ((i : Int) < l.length) = false := by simp only [decide_eq_false_iff_not]; omega
  have hil : i = l.length := by omega
  subst hil
  rw [List.take_length]
  (refine SW.regL [0, 1, 2, 4, 5, 6, 7, 8, 9, 10, 11, 15, 25, 35, 45, 57] mixed ?_; (repeat (first | refine RW.ro (h1) (h := ?_) | refine RW.skip (h := ?_) | refine RW.op (h1) (h := ?_) | refine RW.opN (h1) (h := ?_) | refine RW.skip0 (h := ?_))); refine RW.nil ⟨by kernel_rfl, Pruned.mk (h := ?_)⟩)
  refine SW.condF rfl (SW.exit (SW.seq ?_))
  (refine SW.regL [0, 1, 2, 4, 5, 6, 7, 8, 9, 10, 11, 15, 25, 35, 45, 57] mixed ?_; (repeat (first | refine RW.ro bq_tt (h := ?_) | refine RW.skip (h := ?_) | refine RW.op bq_tt (h := ?_) | refine RW.opN bq_tt (h := ?_) | refine RW.skip0 (h := ?_))); refine RW.nil ⟨by kernel_rfl, Pruned.mk (h := ?_)⟩)
  refine SW.nilrow 9 37 29 rfl ?_
  have hA := addAll_len has l L
  have D0 : DIn (putB has L l) [] has (addAll has L l) := ⟨⟨_, by unfold putB; simp, Nat.le_refl _⟩, hI.hv, addAll_uniq l hI.uq, fun o ho => by
    rcases addAll_mem ho with ho | ho
    · exact hI.dot o ho
    · have hbx : badF n o = false := by
        rw [List.any_eq_false] at hb
        simpa using hb o ho
      exact ⟨((badF_iff.1 hbx).2.2.dot8 n8).1, ((badF_iff.1 hbx).2.2.dot8 n8).2, hl.wf ho⟩, by simp; omega⟩
  generalize putB has L l = R at D0 ⊢
  generalize addAll has L l = T at D0 ⊢
  clear hA h1 h hi i0
  have x2 : ∀ (h : Vec) (m : Nat), SV.oks (fun n => decide (n < 4)) (rqc n h (.gs 2 m)) = true := fun h m => rqc.ok _ _ _ rfl
  have x3 : ∀ (h : Vec) (m : Nat), SV.rens (fun n => if n = 2 then 8 else if n = 3 then 5 else n) (rqc n h (.gs 2 m)) = rqc n h (.gs 8 m) := fun h m => rqc.ren _ _ _ _
  have x4 : SV.rens (fun n => if n = 2 then 8 else if n = 3 then 5 else n) zq = zq := rqc.ren _ _ _ _
  have x5 : SV.oks (fun n => decide (n < 4)) zq = true := rqc.ok _ _ _ rfl
  refine SW.seq (SW.block ?_)
  refine SW.loopA (α := {s : List OpD × Vec × List OpD // DIn R s.1 s.2.1 s.2.2}) (fun s => ⟨[(9, .gs 3 s.1.1.length), (2, .ptr 0 0), (4, .ptr 1 0)], [(3, .arr 37 29 s.1.1.length (opc s.1.1)), (2, .arr 37 29 s.1.2.2.length (opc s.1.2.2)), (0, .box 48 (rqc n s.1.2.1 (.gs 2 s.1.2.2.length))), (1, .box 48 zq)], 4⟩) (fun s => s.1.2.2.length) ⟨([], has, T), D0⟩ id (And.intro (w1 has T.length) (And.intro (x2 has T.length) (And.intro r5 x5))) (round := ?_)
  rintro ⟨⟨out, has', L'⟩, hD⟩
  dsimp only at hD ⊢
  have hDl := hD.len
  refine SW.freezeB 2 (L'.flatMap OpD.ds) rfl rfl ?_
  simp only [frzE, frzH, Ob.frz, rqc.frz, SV.frz, List.map_cons, List.map_nil, if_true, if_false, reduceIte, hdel, Nat.reduceEqDiff]
  refine SW.seq (SW.seq ?_)
  cases hn : nextB has' L' with
  | some o =>
    obtain ⟨i, hi, hP⟩ := nextP.ex hn
    have hlt := lt_of_get hi
    have hc := fun k => rnext11_at n has' hD.hv L' (by omega) hD.uq hD.dot hP k
    have hS := hD.step hn
    have hod := hD.dot o (nextB_some hn).1
    have hdr := dropB_at hD.uq hi
    have hdl := dropB_lt (nextB_some hn).1
    have h1 : decide ((i : Int) ≥ 0) = true := by simp only [decide_eq_true_eq]; omega
    have sa : spl OpD.zero.cells 0 o.cells = o.cells := rfl
    have oa : o.cells.all SV.isOne = true := o.cells_one
    have la : o.cells.length = 29 := rfl
    have ta : List.take 29 o.cells = o.cells := rfl
    have d0 : o.cells[0]? = some (u8 o.dot.r) := rfl
    have d1 : o.cells[1]? = some (u32 o.dot.n) := rfl
    have st := rqc.set n has' (ops L') hod.1 o.dot.n
    have e2 : IntKind.i64.wrap ((i : Int) + 1) = ((i + 1 : Nat) : Int) := wrap_i64 _ (by omega)
    have e0 : (i : Int).toNat = i := Int.toNat_natCast i
    (have fx := (And.intro (g1) (And.intro (t10) (h1))); refine SW.regL [0, 1, 2, 4, 5, 6, 7, 8, 9, 10, 11, 15, 25, 35, 45, 57] mixed ?_; (repeat (first | refine RW.ro fx (h := ?_) | refine RW.skip (h := ?_) | refine RW.op fx (h := ?_) | refine RW.opN fx (h := ?_) | refine RW.skip0 (h := ?_) | (refine RW.callC (h := ?_); (first | refine CallP.mk fx (hc := hc _) (h := ?_))))); refine RW.nil ⟨by kernel_rfl, Pruned.mk (h := ?_)⟩)
    refine SW.condT rfl (SW.skip (SW.block (SW.seq ?_)))
    (refine SW.regL [0, 1, 2, 4, 5, 6, 7, 8, 9, 10, 11, 15, 25, 35, 45, 57] mixed ?_; (repeat (first | refine RW.ro (And.intro (g1) (t10)) (h := ?_) | refine RW.skip (h := ?_) | refine RW.op (And.intro (g1) (t10)) (h := ?_) | refine RW.opN (And.intro (g1) (t10)) (h := ?_) | refine RW.skip0 (h := ?_) | (refine RW.callC (h := ?_); (first | refine CallP.mk (And.intro (g1) (t10)) (hc := hc _) (h := ?_))))); refine RW.nil ⟨by kernel_rfl, Pruned.mk (h := ?_)⟩)
    refine SW.seq ?_
    (have fx := (And.intro (g1) (And.intro (g9) (And.intro (op_at hi) (And.intro (op_room0 hi) (And.intro (sa) (And.intro (oa) (And.intro (la) (ta)))))))); refine SW.regL [0, 1, 2, 4, 5, 6, 7, 8, 9, 10, 11, 15, 25, 35, 45, 57] mixed ?_; (repeat (first | refine RW.ro fx (h := ?_) | refine RW.skip (h := ?_) | refine RW.op fx (h := ?_) | refine RW.opN fx (h := ?_) | refine RW.skip0 (h := ?_))); refine RW.nil ⟨by kernel_rfl, Pruned.mk (h := ?_)⟩)
    refine SW.seq ?_
    (have fx := (And.intro (oa) (And.intro (la) (ta))); refine SW.regL [0, 1, 2, 4, 5, 6, 7, 8, 9, 10, 11, 15, 25, 35, 45, 57] mixed ?_; (repeat (first | refine RW.ro fx (h := ?_) | refine RW.skip (h := ?_) | refine RW.op fx (h := ?_) | refine RW.opN fx (h := ?_) | refine RW.skip0 (h := ?_) | refine lit1 rfl rfl (h := ?_))); refine RW.nil ⟨by kernel_rfl, Pruned.mk (h := ?_)⟩)
    refine SW.seq ?_
    (have fx := (And.intro (la) (And.intro (d0) (And.intro (d1) (And.intro (g1) (And.intro (hod.1) (st)))))); refine SW.regL [0, 1, 2, 4, 5, 6, 7, 8, 9, 10, 11, 15, 25, 35, 45, 57] mixed ?_; (repeat (first | refine RW.ro fx (h := ?_) | refine RW.skip (h := ?_) | refine RW.op fx (h := ?_) | refine RW.opN fx (h := ?_) | refine RW.skip0 (h := ?_))); refine RW.nil ⟨by kernel_rfl, Pruned.mk (h := ?_)⟩)
    have e5 : (out ++ [o]).length = out.length + [o].length := by simp
    have e6 : opc (out ++ [o]) = opc out ++ List.map SV.d ([o].flatMap OpD.ds) := by simp [opc]
    have hlen2 : (dropB L' o.dot).length = i - 0 + (L'.length - (i + 1)) := by rw [hdr]; simp; omega
    have e7 : List.take (i * 29) (List.map SV.d (L'.flatMap OpD.ds)) ++ List.take ((L'.length - (i + 1)) * 29) (List.drop ((i + 1) * 29) (List.map SV.d (L'.flatMap OpD.ds))) = List.map SV.d ((dropB L' o.dot).flatMap OpD.ds) := by
      rw [← List.map_take, ← List.map_drop, ← List.map_take, ops_take, ops_rest, ← List.map_append, ← List.flatMap_append, hdr]
    (have fx := (And.intro (g1) (And.intro (g9) (And.intro (row) (And.intro (e2) (e0))))); refine SW.regL [0, 1, 2, 4, 5, 6, 7, 8, 9, 10, 11, 15, 25, 35, 45, 57] mixed ?_; (repeat (first | refine RW.ro fx (h := ?_) | refine RW.skip (h := ?_) | refine RW.op fx (h := ?_) | refine RW.opN fx (h := ?_) | refine RW.skip0 (h := ?_))); refine RW.nil ⟨by kernel_rfl, Pruned.mk (h := ?_)⟩)
    refine ⟨⟨(out ++ [o], has'.set o.dot.r o.dot.n, dropB L' o.dot), hS⟩, fun n => if n = 2 then 8 else if n = 3 then 5 else n, hdl, ?_⟩
    dsimp only
    rw [e5, e6, hlen2]
    exact Weak.mk (And.intro e7 (And.intro (x3 (has'.set o.dot.r o.dot.n) (i + (L'.length - (i + 1)))) (And.intro (x2 (has'.set o.dot.r o.dot.n) (i + (L'.length - (i + 1)))) (And.intro x4 x5))))
  | none =>
    have hc := fun k => rnext11_at n has' hD.hv L' (by omega) hD.uq hD.dot (nextP.none hn) k
    have h1 : decide ((-1 : Int) ≥ 0) = false := rfl
    rw [hD.done hn]
    (have fx := (And.intro (g1) (And.intro (t10) (h1))); refine SW.regL [0, 1, 2, 4, 5, 6, 7, 8, 9, 10, 11, 15, 25, 35, 45, 57] mixed ?_; (repeat (first | refine RW.ro fx (h := ?_) | refine RW.skip (h := ?_) | refine RW.op fx (h := ?_) | refine RW.opN fx (h := ?_) | refine RW.skip0 (h := ?_) | (refine RW.callC (h := ?_); (first | refine CallP.mk fx (hc := hc _) (h := ?_))))); refine RW.nil ⟨by kernel_rfl, Pruned.mk (h := ?_)⟩)
    refine SW.condF rfl (SW.exit (SW.seq ?_))
    refine SW.freezeB 3 (out.flatMap OpD.ds) rfl rfl ?_
    simp only [frzE, frzH, Ob.frz, rqc.frz, SV.frz, List.map_cons, List.map_nil, if_true, if_false, reduceIte, hdel, Nat.reduceEqDiff]
    have s2 : spl zq 0 (rqc n has' (ops L')) = rqc n has' (ops L') := rfl
    have l0 : zq.length = 10 := rfl
    have lq := g1 has' (ops L')
    (have fx := (And.intro (g1) (And.intro (t10) (And.intro (o1) (And.intro (s2) (l0))))); refine SW.regL [0, 1, 2, 4, 5, 6, 7, 8, 9, 10, 11, 15, 25, 35, 45, 57] mixed ?_; (repeat (first | refine RW.ro fx (h := ?_) | refine RW.skip (h := ?_) | refine RW.op fx (h := ?_) | refine RW.opN fx (h := ?_) | refine RW.skip0 (h := ?_))); refine RW.nil ⟨by kernel_rfl, Pruned.mk (h := ?_)⟩)
    refine SW.ret ?_
    exact End.mk [] (h1 := rvV_r (ty := 48) (k := 1) (by simp [List.lookup]) (by simp [lk, List.lookup]) rfl) (h2 := by simp [ldo, lq]) (h4 := ⟨rfl, rfl⟩)
theorem rput_at (n : Nat) (has : Vec) (L : List OpD) (hI : RIn n has L) (l : List OpD) (hl : PutOk l) (hl2 : l.length ≤ 200000) (hkd : ∀ x, x ∈ l → x.kind < 256) (hb : l.any (badF n) = false) (k : Nat) : SCd Tryd.prog ref11_Put.f [.agg (rqc n has (ops L)), ops l] [] k 0 (.tup [.agg (rqc n (putB has L l).2.1 (ops (putB has L l).2.2)), ops (putB has L l).1, .d (.int .i64 0)]) [] := (rput_ok n has L hI l hl hl2 hkd hb).sc rfl k
set_option maxRecDepth 100000 in
set_option maxHeartbeats 8000000 in
theorem rputx_ok (n : Nat) (has : Vec) (L : List OpD) (l : List OpD) (hl : PutOk l) (hl2 : l.length ≤ 200000) (hkd : ∀ x, x ∈ l → x.kind < 256) (hb : l.any (badF n) = true) : Go.Sl.Pure Tryd.prog ref11_Put.f [.agg (rqc n has (ops L)), ops l] (.tup [.agg (rqc n has (ops L)), .d .nils, i64 5]) := by
  refine ref11_Put.enter (by first | rfl | simp [SV.ok, SV.oks]) (by first | rfl | simp [Hp.ok, Ob.ok, SV.ok, SV.oks, Vec.cells_ok]) (by simp) ?_
  dsimp only [ref11_Put.s, Co.M, Co.G, Co.J, Co.H, Co.N, Co.F, Co.C, Co.Z, Co.B, Co.b8, Co.b32, Co.b64, Co.i6, Co.z8, Co.z29]
  have z0 : zq = [.d (.int .i64 0), .d (.int .u32 0), .d (.int .u32 0), .d (.int .u32 0), .d (.int .u32 0), .d (.int .u32 0), .d (.int .u32 0), .d (.int .u32 0), .d (.int .u32 0), .d .nils] := rfl
  have g1 := fun h s => rqc.len n h s
  have g0 := fun h s => rqc.g0 n h s
  have t10 := fun h s => rqc.t10 n h s
  have o1 := fun h l => rqc.one n h (s := ops l) rfl
  have r3 : ∀ h l, SV.rens id (rqc n h (ops l)) = rqc n h (ops l) := fun h l => rqc.ren _ _ _ _
  have r4 : ∀ h l, SV.oks (fun n => decide (n < 2)) (rqc n h (ops l)) = true := fun h l => rqc.ok _ _ _ rfl
  have r5 : SV.rens id zq = zq := rqc.ren _ _ _ _
  have r6 : SV.oks (fun n => decide (n < 2)) zq = true := rqc.ok _ _ _ rfl
  refine SW.seq ?_
  (refine SW.regL [0, 1, 2, 4, 5, 6, 7, 8, 9, 10, 11, 15, 25, 35, 45, 57] mixed ?_; (repeat (first | refine RW.ro (o1) (h := ?_) | refine RW.skip (h := ?_) | refine RW.op (o1) (h := ?_) | refine RW.opN (o1) (h := ?_) | refine RW.skip0 (h := ?_))); refine RW.nil ⟨by kernel_rfl, Pruned.mk (h := ?_)⟩)
  refine SW.seq (SW.seq ?_)
  (refine SW.regL [0, 1, 2, 4, 5, 6, 7, 8, 9, 10, 11, 15, 25, 35, 45, 57] mixed ?_; (repeat (first | refine RW.ro bq_tt (h := ?_) | refine RW.skip (h := ?_) | refine RW.op bq_tt (h := ?_) | refine RW.opN bq_tt (h := ?_) | refine RW.skip0 (h := ?_))); refine RW.nil ⟨by kernel_rfl, Pruned.mk (h := ?_)⟩)
  refine SW.block ?_
  refine SW.loopA (α := {i : Nat // i ≤ l.length ∧ (l.take i).any (badF n) = false}) (fun i => ⟨[(7, i64 i.1), (1, ops l), (2, .ptr 0 0), (4, .ptr 1 0)], [(0, .box 48 (rqc n has (ops L))), (1, .box 48 zq)], 2⟩) (fun i => l.length - i.1) ⟨0, by omega, by simp⟩ id (And.intro z0 (And.intro (r3 has L) (r4 has L))) (round := ?_)
  rintro ⟨i, hi, hs⟩
  dsimp only
  refine SW.seq (SW.seq ?_)
  by_cases h : i < l.length
  · have h1 : decide ((i : Int) < l.length) = true := by simp only [decide_eq_true_eq]; omega
    obtain ⟨x, hx⟩ := get_of_lt h
    have hxm := List.mem_of_getElem? hx
    have e2 : IntKind.i64.wrap ((i : Int) + 1) = ((i + 1 : Nat) : Int) := wrap_i64 _ (by omega)
    have hc := fun k => rcheck_at x (n : Int) (hl.wf hxm) (hkd x hxm) (hl.op x hxm).1.w.lin k
    (refine SW.regL [0, 1, 2, 4, 5, 6, 7, 8, 9, 10, 11, 15, 25, 35, 45, 57] mixed ?_; (repeat (first | refine RW.ro (h1) (h := ?_) | refine RW.skip (h := ?_) | refine RW.op (h1) (h := ?_) | refine RW.opN (h1) (h := ?_) | refine RW.skip0 (h := ?_))); refine RW.nil ⟨by kernel_rfl, Pruned.mk (h := ?_)⟩)
    refine SW.condT rfl (SW.skip (SW.seq (SW.block (SW.seq ?_))))
    rcases hbx : (checkV (n : Int) x != 0) with _ | _
    · have hs2 : (l.take (i + 1)).any (badF n) = false := by
        rw [take_snoc hx, List.any_append, hs, Bool.false_or]; simp [badF, hbx]
      (have fx := (And.intro (g0) (And.intro (g1) (And.intro (op_at hx) (And.intro (op_room0 hx) (hbx))))); refine SW.regL [0, 1, 2, 4, 5, 6, 7, 8, 9, 10, 11, 15, 25, 35, 45, 57] mixed ?_; (repeat (first | refine RW.ro fx (h := ?_) | refine RW.skip (h := ?_) | refine RW.op fx (h := ?_) | refine RW.opN fx (h := ?_) | refine RW.skip0 (h := ?_) | (refine RW.callC (h := ?_); (first | refine CallP.mk fx (hc := hc _) (h := ?_))))); refine RW.nil ⟨by kernel_rfl, Pruned.mk (h := ?_)⟩)
      refine SW.condF rfl (SW.skip ?_)
      (refine SW.regL [0, 1, 2, 4, 5, 6, 7, 8, 9, 10, 11, 15, 25, 35, 45, 57] mixed ?_; (repeat (first | refine RW.ro (e2) (h := ?_) | refine RW.skip (h := ?_) | refine RW.op (e2) (h := ?_) | refine RW.opN (e2) (h := ?_) | refine RW.skip0 (h := ?_))); refine RW.nil ⟨by kernel_rfl, Pruned.mk (h := ?_)⟩)
      refine ⟨⟨i + 1, by omega, hs2⟩, id, by show l.length - (i + 1) < l.length - i; omega, ?_⟩
      exact Weak.mk (And.intro (r3 has L) (And.intro (r4 has L) (And.intro r5 r6)))
    · have s2 : spl zq 0 (rqc n has (ops L)) = rqc n has (ops L) := rfl
      have l0 : zq.length = 10 := rfl
      have lq := g1 has (ops L)
      (have fx := (And.intro (g0) (And.intro (g1) (And.intro (op_at hx) (And.intro (op_room0 hx) (hbx))))); refine SW.regL [0, 1, 2, 4, 5, 6, 7, 8, 9, 10, 11, 15, 25, 35, 45, 57] mixed ?_; (repeat (first | refine RW.ro fx (h := ?_) | refine RW.skip (h := ?_) | refine RW.op fx (h := ?_) | refine RW.opN fx (h := ?_) | refine RW.skip0 (h := ?_) | (refine RW.callC (h := ?_); (first | refine CallP.mk fx (hc := hc _) (h := ?_))))); refine RW.nil ⟨by kernel_rfl, Pruned.mk (h := ?_)⟩)
      refine SW.condT rfl (SW.seq ?_)
      (have fx := (And.intro (g1) (And.intro (t10) (And.intro (o1) (And.intro (s2) (l0))))); refine SW.regL [0, 1, 2, 4, 5, 6, 7, 8, 9, 10, 11, 15, 25, 35, 45, 57] mixed ?_; (repeat (first | refine RW.ro fx (h := ?_) | refine RW.skip (h := ?_) | refine RW.op fx (h := ?_) | refine RW.opN fx (h := ?_) | refine RW.skip0 (h := ?_))); refine RW.nil ⟨by kernel_rfl, Pruned.mk (h := ?_)⟩)
      refine SW.ret ?_
      exact End.mk [] (h1 := rvV_r (ty := 48) (k := 1) (by simp [List.lookup]) (by simp [lk, List.lookup]) rfl) (h2 := by simp [ldo, lq]) (h4 := ⟨rfl, rfl⟩)
  have hil : i = l.length := by omega
  subst hil
  rw [List.take_length, hb] at hs
  cases hs
theorem rputx_at (n : Nat) (has : Vec) (L : List OpD) (l : List OpD) (hl : PutOk l) (hl2 : l.length ≤ 200000) (hkd : ∀ x, x ∈ l → x.kind < 256) (hb : l.any (badF n) = true) (k : Nat) : SCd Tryd.prog ref11_Put.f [.agg (rqc n has (ops L)), ops l] [] k 0 (.tup [.agg (rqc n has (ops L)), .d .nils, .d (.int .i64 5)]) [] := (rputx_ok n has L l hl hl2 hkd hb).sc rfl k
end Go.Proofs.YtnakpdoioammhaaDoor
