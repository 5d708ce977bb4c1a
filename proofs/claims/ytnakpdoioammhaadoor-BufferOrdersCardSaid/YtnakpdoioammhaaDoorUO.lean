/-
  Buffers: in whatever order, and however often.
-/
import Derived.Test.YtnakpdoioammhaaDoorUG
import Derived.Test.YtnakpdoioammhaaDoorUH
set_option linter.unusedSectionVars false
set_option linter.unusedVariables false
set_option linter.unusedSimpArgs false
namespace Go.Proofs.YtnakpdoioammhaaDoor
open Go.Sl Go.Proofs
attribute [local irreducible] SW RW SCd SC CallP Pruned
structure OrI (m : Nat) (l : List OpD) (f i : Nat) (S : List OpD) (has : Vec) (M : MM Dt OpD) (c : Nat) (y : List OpD) : Prop where
  le : i ≤ 2 * l.length
  uniq : Uniq l
  buf : Buf m S has M c
  run : RunB S has (vals M) y
  all : ∀ t, t < i → ∀ x, l[(f + t) % l.length]? = some x → x ∈ S
  sub : ∀ o, o ∈ S → o ∈ l
theorem OrI.slen {m : Nat} {l : List OpD} {f i : Nat} {S : List OpD} {has : Vec} {M : MM Dt OpD} {c : Nat} {y : List OpD} (h : OrI m l f i S has M c y) : S.length ≤ l.length := h.buf.puts.uniq.nd.length_le_of_subset fun o ho => h.sub o ho
theorem OrI.ylen {m : Nat} {l : List OpD} {f i : Nat} {S : List OpD} {has : Vec} {M : MM Dt OpD} {c : Nat} {y : List OpD} (h : OrI m l f i S has M c y) : y.length ≤ l.length :=
  Nat.le_trans (h.run.nd.nd.length_le_of_subset fun o ho => ((h.run.mem o).1 ho).1) h.slen
theorem OrI.step {m : Nat} {l : List OpD} {f i : Nat} {S : List OpD} {has : Vec} {M : MM Dt OpD} {c : Nat} {y : List OpD} (h : OrI m l f i S has M c y) (hi : i < 2 * l.length) {x : OpD} (hx : l[(f + i) % l.length]? = some x) (hp : PutOk [x]) (hb : [x].any (badF m) = false) :
    OrI m l f (i + 1) (fstO (S ++ [x])) (putR has (M, c) [x]).2.1 (putR has (M, c) [x]).2.2 (putMs has (M, c) [x]).2 (y ++ (putR has (M, c) [x]).1) := by
  obtain ⟨h1, h2⟩ := h.buf.put hp hb
  have hs : ∀ o, o ∈ S → o ∈ fstO (S ++ [x]) := fun o ho => by
    rw [fstO_snoc, h.buf.puts.uniq.fst]
    split
    · exact ho
    · exact List.mem_append.2 (.inl ho)
  refine ⟨by omega, h.uniq, h1, h.run.step h1.puts.uniq hs h2, fun t ht z hz => ?_, fun o ho => ?_⟩
  · rcases Nat.lt_or_ge t i with h3 | h3
    · exact hs z (h.all t h3 z hz)
    · have : t = i := by omega
      subst this
      rw [hx] at hz; injection hz with hz
      rw [← hz, fstO_snoc, h.buf.puts.uniq.fst]
      split
      · rename_i hh
        obtain ⟨a, ha, e⟩ := findO_isSome.1 hh
        have : a = x := h.uniq.inj (h.sub a ha) (List.mem_of_getElem? hx) e
        rw [← this]; exact ha
      · simp
  · rcases fstO_all ho with ho | ho
    · exact h.sub o ho
    · simp at ho; rw [ho]; exact List.mem_of_getElem? hx
set_option maxRecDepth 100000 in
set_option maxHeartbeats 16000000 in
theorem law_orders11 (n : Int) (hn : -9223372036854775808 ≤ n) (hn2 : n ≤ 9223372036854775807) (l : List OpD) (hl : RowR l) (f : Nat) (hf : f < 256) : Go.Sl.Pure Tryd.prog law11_BufferOrders.f [i64 n, ops l, u8 f] (bl true) := by
  have hlen := hl.len
  refine law11_BufferOrders.enter (by first | rfl | simp [SV.ok, SV.oks]) (by first | rfl | simp [Hp.ok, Ob.ok, SV.ok, SV.oks, Vec.cells_ok]) (by simp) ?_
  dsimp only [law11_BufferOrders.s, Co.M, Co.G, Co.J, Co.H, Co.N, Co.F, Co.C, Co.Z, Co.B, Co.b8, Co.b32, Co.b64, Co.i6, Co.z8, Co.z29]
  have hg := fun k => great11_at l k
  refine SW.seq ?_
  (refine SW.regL [0, 1, 2, 6, 7, 8, 9, 11, 12, 13, 14, 15, 16, 17, 18, 19, 20, 51, 68, 73, 86, 95, 116, 136, 171, 175, 182, 211] mixed ?_; (repeat (first | refine RW.ro bq_tt (h := ?_) | refine RW.skip (h := ?_) | refine RW.op bq_tt (h := ?_) | refine RW.opN bq_tt (h := ?_) | refine RW.skip0 (h := ?_))); refine RW.nil ⟨conf_of (by kernel_rfl), Pruned.mk (h := ?_)⟩)
  by_cases hv : n < 1 ∨ 8 < n
  · have n1 := fun k => newx_at n Vec.zero (hv.elim .inl fun h => .inr (.inl h)) k
    refine SW.seq ?_
    (refine SW.regL [0, 1, 2, 6, 7, 8, 9, 11, 12, 13, 14, 15, 16, 17, 18, 19, 20, 51, 68, 73, 86, 95, 116, 136, 171, 175, 182, 211] mixed ?_; (repeat (first | refine RW.ro bq_tt (h := ?_) | refine RW.skip (h := ?_) | refine RW.op bq_tt (h := ?_) | refine RW.opN bq_tt (h := ?_) | refine RW.skip0 (h := ?_) | (refine RW.callC (h := ?_); (first | refine CallP.mk bq_tt (hc := n1 _) (h := ?_))))); refine RW.nil ⟨conf_of (by kernel_rfl), Pruned.mk (h := ?_)⟩)
    refine SW.seq ?_
    (refine SW.regL [0, 1, 2, 6, 7, 8, 9, 11, 12, 13, 14, 15, 16, 17, 18, 19, 20, 51, 68, 73, 86, 95, 116, 136, 171, 175, 182, 211] mixed ?_; (repeat (first | refine RW.ro bq_tt (h := ?_) | refine RW.skip (h := ?_) | refine RW.op bq_tt (h := ?_) | refine RW.opN bq_tt (h := ?_) | refine RW.skip0 (h := ?_) | (refine RW.callC (h := ?_); (first | refine CallP.mk bq_tt (hc := n1 _) (h := ?_))))); refine RW.nil ⟨conf_of (by kernel_rfl), Pruned.mk (h := ?_)⟩)
    refine SW.seq (SW.seq ?_)
    (refine SW.regL [0, 1, 2, 6, 7, 8, 9, 11, 12, 13, 14, 15, 16, 17, 18, 19, 20, 51, 68, 73, 86, 95, 116, 136, 171, 175, 182, 211] mixed ?_; (repeat (first | refine RW.ro bq_tt (h := ?_) | refine RW.skip (h := ?_) | refine RW.op bq_tt (h := ?_) | refine RW.opN bq_tt (h := ?_) | refine RW.skip0 (h := ?_) | (refine RW.callC (h := ?_); (first | refine CallP.mk bq_tt (hc := head11_at _) (h := ?_))))); refine RW.nil ⟨conf_of (by kernel_rfl), Pruned.mk (h := ?_)⟩)
    refine SW.condT rfl (SW.seq ?_)
    (refine SW.regL [0, 1, 2, 6, 7, 8, 9, 11, 12, 13, 14, 15, 16, 17, 18, 19, 20, 51, 68, 73, 86, 95, 116, 136, 171, 175, 182, 211] mixed ?_; (repeat (first | refine RW.ro bq_tt (h := ?_) | refine RW.skip (h := ?_) | refine RW.op bq_tt (h := ?_) | refine RW.opN bq_tt (h := ?_) | refine RW.skip0 (h := ?_) | (refine RW.callC (h := ?_); (first | refine CallP.mk bq_tt (hc := head11_at _) (h := ?_))))); refine RW.nil ⟨conf_of (by kernel_rfl), Pruned.mk (h := ?_)⟩)
    refine SW.ret ?_
    exact End.mk [] (h4 := ⟨rfl, rfl⟩)
  obtain ⟨m, rfl⟩ : ∃ m : Nat, n = (m : Int) := ⟨n.toNat, by omega⟩
  have m1 : 1 ≤ m := by omega
  have m8 : m ≤ 8 := by omega
  have n1 : SCd Tryd.prog buffer_New.f [.d (.int .i64 (m : Int)), .agg Vec.zero.cells] [] 0 3 (.tup [.ptr 2 0, .d (.int .i64 0)]) (bH 2 1 m Vec.zero [] 0) := new_at m m1 m8 Vec.zero (farB_zero m) 0
  have n2 : SCd Tryd.prog buffer_New.f [.d (.int .i64 (m : Int)), .agg Vec.zero.cells] [] 3 3 (.tup [.ptr 5 0, .d (.int .i64 0)]) (bH 5 4 m Vec.zero [] 0) := new_at m m1 m8 Vec.zero (farB_zero m) 3
  simp only [bH] at n1 n2
  refine SW.seq ?_
  (refine SW.regL [0, 1, 2, 6, 7, 8, 9, 11, 12, 13, 14, 15, 16, 17, 18, 19, 20, 51, 68, 73, 86, 95, 116, 136, 171, 175, 182, 211] mixed ?_; (repeat (first | refine RW.ro bq_tt (h := ?_) | refine RW.skip (h := ?_) | refine RW.op bq_tt (h := ?_) | refine RW.opN bq_tt (h := ?_) | refine RW.skip0 (h := ?_) | (refine RW.callC (h := ?_); (first | refine CallP.mk bq_tt (hc := n1) (h := ?_))))); refine RW.nil ⟨conf_of (by kernel_rfl), Pruned.mk (h := ?_)⟩)
  refine SW.seq ?_
  (refine SW.regL [0, 1, 2, 6, 7, 8, 9, 11, 12, 13, 14, 15, 16, 17, 18, 19, 20, 51, 68, 73, 86, 95, 116, 136, 171, 175, 182, 211] mixed ?_; (repeat (first | refine RW.ro bq_tt (h := ?_) | refine RW.skip (h := ?_) | refine RW.op bq_tt (h := ?_) | refine RW.opN bq_tt (h := ?_) | refine RW.skip0 (h := ?_) | (refine RW.callC (h := ?_); (first | refine CallP.mk bq_tt (hc := n2) (h := ?_))))); refine RW.nil ⟨conf_of (by kernel_rfl), Pruned.mk (h := ?_)⟩)
  refine SW.seq (SW.seq ?_)
  rcases hgv : decide ((l.length : Int) > 80) with _ | _ <;> rw [hgv] at hg
  case true =>
    (refine SW.regL [0, 1, 2, 6, 7, 8, 9, 11, 12, 13, 14, 15, 16, 17, 18, 19, 20, 51, 68, 73, 86, 95, 116, 136, 171, 175, 182, 211] mixed ?_; (repeat (first | refine RW.ro bq_tt (h := ?_) | refine RW.skip (h := ?_) | refine RW.op bq_tt (h := ?_) | refine RW.opN bq_tt (h := ?_) | refine RW.skip0 (h := ?_) | (refine RW.callC (h := ?_); (first | refine CallP.mk bq_tt (hc := hg _) (h := ?_) | refine CallP.mk bq_tt (hc := head11_at _) (h := ?_))))); refine RW.nil ⟨conf_of (by kernel_rfl), Pruned.mk (h := ?_)⟩)
    refine SW.condT rfl (SW.seq ?_)
    (refine SW.regL [0, 1, 2, 6, 7, 8, 9, 11, 12, 13, 14, 15, 16, 17, 18, 19, 20, 51, 68, 73, 86, 95, 116, 136, 171, 175, 182, 211] mixed ?_; (repeat (first | refine RW.ro bq_tt (h := ?_) | refine RW.skip (h := ?_) | refine RW.op bq_tt (h := ?_) | refine RW.opN bq_tt (h := ?_) | refine RW.skip0 (h := ?_) | (refine RW.callC (h := ?_); (first | refine CallP.mk bq_tt (hc := hg _) (h := ?_) | refine CallP.mk bq_tt (hc := head11_at _) (h := ?_))))); refine RW.nil ⟨conf_of (by kernel_rfl), Pruned.mk (h := ?_)⟩)
    refine SW.ret ?_
    exact End.mk [] (h4 := ⟨rfl, rfl⟩)
  have hl80 : l.length ≤ 80 := by simp only [decide_eq_false_iff_not] at hgv; omega
  by_cases h0 : l.length = 0
  · have z1 : ((l.length : Int) == 0) = true := by rw [h0]; rfl
    (refine SW.regL [0, 1, 2, 6, 7, 8, 9, 11, 12, 13, 14, 15, 16, 17, 18, 19, 20, 51, 68, 73, 86, 95, 116, 136, 171, 175, 182, 211] mixed ?_; (repeat (first | refine RW.ro (z1) (h := ?_) | refine RW.skip (h := ?_) | refine RW.op (z1) (h := ?_) | refine RW.opN (z1) (h := ?_) | refine RW.skip0 (h := ?_) | (refine RW.callC (h := ?_); (first | refine CallP.mk (z1) (hc := hg _) (h := ?_) | refine CallP.mk (z1) (hc := head11_at _) (h := ?_))))); refine RW.nil ⟨conf_of (by kernel_rfl), Pruned.mk (h := ?_)⟩)
    refine SW.condT rfl (SW.seq ?_)
    (refine SW.regL [0, 1, 2, 6, 7, 8, 9, 11, 12, 13, 14, 15, 16, 17, 18, 19, 20, 51, 68, 73, 86, 95, 116, 136, 171, 175, 182, 211] mixed ?_; (repeat (first | refine RW.ro bq_tt (h := ?_) | refine RW.skip (h := ?_) | refine RW.op bq_tt (h := ?_) | refine RW.opN bq_tt (h := ?_) | refine RW.skip0 (h := ?_) | (refine RW.callC (h := ?_); (first | refine CallP.mk bq_tt (hc := hg _) (h := ?_) | refine CallP.mk bq_tt (hc := head11_at _) (h := ?_))))); refine RW.nil ⟨conf_of (by kernel_rfl), Pruned.mk (h := ?_)⟩)
    refine SW.ret ?_
    exact End.mk [] (h4 := ⟨rfl, rfl⟩)
  have z1 : ((l.length : Int) == 0) = false := by rw [beq_eq_false_iff_ne]; omega
  (refine SW.regL [0, 1, 2, 6, 7, 8, 9, 11, 12, 13, 14, 15, 16, 17, 18, 19, 20, 51, 68, 73, 86, 95, 116, 136, 171, 175, 182, 211] mixed ?_; (repeat (first | refine RW.ro (z1) (h := ?_) | refine RW.skip (h := ?_) | refine RW.op (z1) (h := ?_) | refine RW.opN (z1) (h := ?_) | refine RW.skip0 (h := ?_) | (refine RW.callC (h := ?_); (first | refine CallP.mk (z1) (hc := hg _) (h := ?_))))); refine RW.nil ⟨conf_of (by kernel_rfl), Pruned.mk (h := ?_)⟩)
  refine SW.condF rfl (SW.skip (SW.seq (SW.seq ?_)))
  (refine SW.regL [0, 1, 2, 6, 7, 8, 9, 11, 12, 13, 14, 15, 16, 17, 18, 19, 20, 51, 68, 73, 86, 95, 116, 136, 171, 175, 182, 211] mixed ?_; (repeat (first | refine RW.ro bq_tt (h := ?_) | refine RW.skip (h := ?_) | refine RW.op bq_tt (h := ?_) | refine RW.opN bq_tt (h := ?_) | refine RW.skip0 (h := ?_))); refine RW.nil ⟨conf_of (by kernel_rfl), Pruned.mk (h := ?_)⟩)
  have a1 : SV.rens id (bfc m Vec.zero 1) = bfc m Vec.zero 1 := bfc.ren _ _ _ _
  have a2 : SV.oks (fun n => decide (n < 6)) (bfc m Vec.zero 1) = true := bfc.ok _ _ _ _ rfl
  have a3 : SV.rens id (bfc m Vec.zero 4) = bfc m Vec.zero 4 := bfc.ren _ _ _ _
  have a4 : SV.oks (fun n => decide (n < 6)) (bfc m Vec.zero 4) = true := bfc.ok _ _ _ _ rfl
  have aw := And.intro a1 (And.intro a2 (And.intro a3 a4))
  have mz : mapE Dt.cells ov ([] : MM Dt OpD) = [] := rfl
  refine SW.block ?_
  refine SW.loopA (α := {i : Nat // i ≤ l.length ∧ Uniq (l.take i)}) (fun i => ⟨[(11, i64 i.1), (9, .ptr 5 0), (7, .ptr 2 0), (2, u8 f), (1, ops l)], twoH m, 6⟩) (fun i => l.length - i.1) ⟨0, by omega, by simp [Uniq]⟩ id (And.intro mz aw) (round := ?_)
  rintro ⟨i, hi, hu⟩
  dsimp only
  refine SW.seq (SW.seq ?_)
  by_cases h : i < l.length
  · have h1 : decide ((i : Int) < l.length) = true := by simp only [decide_eq_true_eq]; omega
    obtain ⟨x, hx⟩ := get_of_lt h
    have e2 : IntKind.i64.wrap ((i : Int) + 1) = ((i + 1 : Nat) : Int) := wrap_i64 _ (by omega)
    (refine SW.regL [0, 1, 2, 6, 7, 8, 9, 11, 12, 13, 14, 15, 16, 17, 18, 19, 20, 51, 68, 73, 86, 95, 116, 136, 171, 175, 182, 211] mixed ?_; (repeat (first | refine RW.ro (h1) (h := ?_) | refine RW.skip (h := ?_) | refine RW.op (h1) (h := ?_) | refine RW.opN (h1) (h := ?_) | refine RW.skip0 (h := ?_))); refine RW.nil ⟨conf_of (by kernel_rfl), Pruned.mk (h := ?_)⟩)
    refine SW.condT rfl (SW.skip (SW.seq (SW.block (SW.seq ?_))))
    (refine SW.regL [0, 1, 2, 6, 7, 8, 9, 11, 12, 13, 14, 15, 16, 17, 18, 19, 20, 51, 68, 73, 86, 95, 116, 136, 171, 175, 182, 211] mixed ?_; (repeat (first | refine RW.ro bq_tt (h := ?_) | refine RW.skip (h := ?_) | refine RW.op bq_tt (h := ?_) | refine RW.opN bq_tt (h := ?_) | refine RW.skip0 (h := ?_))); refine RW.nil ⟨conf_of (by kernel_rfl), Pruned.mk (h := ?_)⟩)
    refine SW.block ?_
    refine SW.loopA (α := {k : Nat // k ≤ i ∧ ∀ y, y ∈ l.take k → y.dot ≠ x.dot}) (fun k => ⟨[(12, i64 k.1), (11, i64 i), (9, .ptr 5 0), (7, .ptr 2 0), (2, u8 f), (1, ops l)], twoH m, 6⟩) (fun k => i - k.1) ⟨0, by omega, by simp⟩ id aw (round := ?_)
    rintro ⟨k, hk, hs⟩
    dsimp only
    refine SW.seq (SW.seq ?_)
    by_cases h2 : k < i
    · have h3 : decide ((k : Int) < (i : Int)) = true := by simp only [decide_eq_true_eq]; omega
      obtain ⟨y, hy⟩ := get_of_lt (show k < l.length by omega)
      have e3 : IntKind.i64.wrap ((k : Int) + 1) = ((k + 1 : Nat) : Int) := wrap_i64 _ (by omega)
      have q1 := Dt.eqb y.dot x.dot
      (refine SW.regL [0, 1, 2, 6, 7, 8, 9, 11, 12, 13, 14, 15, 16, 17, 18, 19, 20, 51, 68, 73, 86, 95, 116, 136, 171, 175, 182, 211] mixed ?_; (repeat (first | refine RW.ro (h3) (h := ?_) | refine RW.skip (h := ?_) | refine RW.op (h3) (h := ?_) | refine RW.opN (h3) (h := ?_) | refine RW.skip0 (h := ?_))); refine RW.nil ⟨conf_of (by kernel_rfl), Pruned.mk (h := ?_)⟩)
      refine SW.condT rfl (SW.skip (SW.seq (SW.block (SW.seq ?_))))
      rcases he : decide (y.dot = x.dot) with _ | _ <;> rw [he] at q1
      · (have fx := (And.intro (op_at hx) (And.intro (op_room0 hx) (And.intro (op_at hy) (And.intro (op_room0 hy) (And.intro (op_load11 hx) (And.intro (op_roomd11 hx) (And.intro (op_load11 hy) (And.intro (op_roomd11 hy) (q1))))))))); refine SW.regL [0, 1, 2, 6, 7, 8, 9, 11, 12, 13, 14, 15, 16, 17, 18, 19, 20, 51, 68, 73, 86, 95, 116, 136, 171, 175, 182, 211] mixed ?_; (repeat (first | refine RW.ro fx (h := ?_) | refine RW.skip (h := ?_) | refine RW.op fx (h := ?_) | refine RW.opN fx (h := ?_) | refine RW.skip0 (h := ?_))); refine RW.nil ⟨conf_of (by kernel_rfl), Pruned.mk (h := ?_)⟩)
        refine SW.condF rfl (SW.skip ?_)
        (refine SW.regL [0, 1, 2, 6, 7, 8, 9, 11, 12, 13, 14, 15, 16, 17, 18, 19, 20, 51, 68, 73, 86, 95, 116, 136, 171, 175, 182, 211] mixed ?_; (repeat (first | refine RW.ro (e3) (h := ?_) | refine RW.skip (h := ?_) | refine RW.op (e3) (h := ?_) | refine RW.opN (e3) (h := ?_) | refine RW.skip0 (h := ?_))); refine RW.nil ⟨conf_of (by kernel_rfl), Pruned.mk (h := ?_)⟩)
        refine ⟨⟨k + 1, by omega, fun z hz => ?_⟩, id, by show i - (k + 1) < i - k; omega, ?_⟩
        · rw [take_snoc hy] at hz
          rcases List.mem_append.1 hz with hz | hz
          · exact hs z hz
          · simp at hz; rw [hz]; exact of_decide_eq_false he
        · exact Weak.mk aw
      · (have fx := (And.intro (op_at hx) (And.intro (op_room0 hx) (And.intro (op_at hy) (And.intro (op_room0 hy) (And.intro (op_load11 hx) (And.intro (op_roomd11 hx) (And.intro (op_load11 hy) (And.intro (op_roomd11 hy) (q1))))))))); refine SW.regL [0, 1, 2, 6, 7, 8, 9, 11, 12, 13, 14, 15, 16, 17, 18, 19, 20, 51, 68, 73, 86, 95, 116, 136, 171, 175, 182, 211] mixed ?_; (repeat (first | refine RW.ro fx (h := ?_) | refine RW.skip (h := ?_) | refine RW.op fx (h := ?_) | refine RW.opN fx (h := ?_) | refine RW.skip0 (h := ?_))); refine RW.nil ⟨conf_of (by kernel_rfl), Pruned.mk (h := ?_)⟩)
        refine SW.condT rfl (SW.seq ?_)
        (refine SW.regL [0, 1, 2, 6, 7, 8, 9, 11, 12, 13, 14, 15, 16, 17, 18, 19, 20, 51, 68, 73, 86, 95, 116, 136, 171, 175, 182, 211] mixed ?_; (repeat (first | refine RW.ro bq_tt (h := ?_) | refine RW.skip (h := ?_) | refine RW.op bq_tt (h := ?_) | refine RW.opN bq_tt (h := ?_) | refine RW.skip0 (h := ?_) | (refine RW.callC (h := ?_); (first | refine CallP.mk bq_tt (hc := head11_at _) (h := ?_))))); refine RW.nil ⟨conf_of (by kernel_rfl), Pruned.mk (h := ?_)⟩)
        refine SW.ret ?_
        exact End.mk [] (h4 := ⟨rfl, rfl⟩)
    have h3 : decide ((k : Int) < (i : Int)) = false := by simp only [decide_eq_false_iff_not]; omega
    have hki : k = i := by omega
    subst hki
    (refine SW.regL [0, 1, 2, 6, 7, 8, 9, 11, 12, 13, 14, 15, 16, 17, 18, 19, 20, 51, 68, 73, 86, 95, 116, 136, 171, 175, 182, 211] mixed ?_; (repeat (first | refine RW.ro (h3) (h := ?_) | refine RW.skip (h := ?_) | refine RW.op (h3) (h := ?_) | refine RW.opN (h3) (h := ?_) | refine RW.skip0 (h := ?_))); refine RW.nil ⟨conf_of (by kernel_rfl), Pruned.mk (h := ?_)⟩)
    refine SW.condF rfl (SW.exit ?_)
    (refine SW.regL [0, 1, 2, 6, 7, 8, 9, 11, 12, 13, 14, 15, 16, 17, 18, 19, 20, 51, 68, 73, 86, 95, 116, 136, 171, 175, 182, 211] mixed ?_; (repeat (first | refine RW.ro (e2) (h := ?_) | refine RW.skip (h := ?_) | refine RW.op (e2) (h := ?_) | refine RW.opN (e2) (h := ?_) | refine RW.skip0 (h := ?_))); refine RW.nil ⟨conf_of (by kernel_rfl), Pruned.mk (h := ?_)⟩)
    refine ⟨⟨k + 1, by omega, by rw [take_snoc hx]; exact uniq_snoc hu hs⟩, id, by show l.length - (k + 1) < l.length - k; omega, ?_⟩
    exact Weak.mk aw
  have h1 : decide ((i : Int) < l.length) = false := by simp only [decide_eq_false_iff_not]; omega
  have h2 : i = l.length := by omega
  subst h2
  rw [List.take_length] at hu
  (refine SW.regL [0, 1, 2, 6, 7, 8, 9, 11, 12, 13, 14, 15, 16, 17, 18, 19, 20, 51, 68, 73, 86, 95, 116, 136, 171, 175, 182, 211] mixed ?_; (repeat (first | refine RW.ro (h1) (h := ?_) | refine RW.skip (h := ?_) | refine RW.op (h1) (h := ?_) | refine RW.opN (h1) (h := ?_) | refine RW.skip0 (h := ?_))); refine RW.nil ⟨conf_of (by kernel_rfl), Pruned.mk (h := ?_)⟩)
  refine SW.condF rfl (SW.exit (SW.seq ?_))
  have hpl := hl.put (m := l) (by omega) (fun _ h => h)
  have hB := Buf.new m1 m8
  have hw := hB.wait (by simp)
  rcases hb : l.any (badF m) with _ | _
  case true =>
    have q1 := fun k => put_wrong m8 hB.hv hw hpl 2 1 (by decide) k hb
    have f1 := fun k => bhas_at m Vec.zero [] 0 2 1 (by decide) k
    have d2 : ∀ d : Vec, decide (d = d) = true := fun d => by simp
    simp only [bH] at q1 f1
    (refine SW.regL [0, 1, 2, 6, 7, 8, 9, 11, 12, 13, 14, 15, 16, 17, 18, 19, 20, 51, 68, 73, 86, 95, 116, 136, 171, 175, 182, 211] mixed ?_; (repeat (first | refine RW.ro bq_tt (h := ?_) | refine RW.skip (h := ?_) | refine RW.op bq_tt (h := ?_) | refine RW.opN bq_tt (h := ?_) | refine RW.skip0 (h := ?_) | (refine RW.callC (h := ?_); (first | refine CallP.mk bq_tt (hc := q1 _) (h := ?_))))); refine RW.nil ⟨conf_of (by kernel_rfl), Pruned.mk (h := ?_)⟩)
    refine SW.seq (SW.seq ?_)
    (refine SW.regL [0, 1, 2, 6, 7, 8, 9, 11, 12, 13, 14, 15, 16, 17, 18, 19, 20, 51, 68, 73, 86, 95, 116, 136, 171, 175, 182, 211] mixed ?_; (repeat (first | refine RW.ro bq_tt (h := ?_) | refine RW.skip (h := ?_) | refine RW.op bq_tt (h := ?_) | refine RW.opN bq_tt (h := ?_) | refine RW.skip0 (h := ?_) | (refine RW.callC (h := ?_); (first | refine CallP.mk bq_tt (hc := f1 _) (h := ?_) | refine CallP.mk bq_tt (hc := head11_at _) (h := ?_))))); refine RW.nil ⟨conf_of (by kernel_rfl), Pruned.mk (h := ?_)⟩)
    refine SW.condT rfl (SW.seq ?_)
    (refine SW.regL [0, 1, 2, 6, 7, 8, 9, 11, 12, 13, 14, 15, 16, 17, 18, 19, 20, 51, 68, 73, 86, 95, 116, 136, 171, 175, 182, 211] mixed ?_; (repeat (first | refine RW.ro (d2) (h := ?_) | refine RW.skip (h := ?_) | refine RW.op (d2) (h := ?_) | refine RW.opN (d2) (h := ?_) | refine RW.skip0 (h := ?_) | (refine RW.callC (h := ?_); (first | refine CallP.mk (d2) (hc := f1 _) (h := ?_) | refine CallP.mk (d2) (hc := head11_at _) (h := ?_))))); refine RW.nil ⟨conf_of (by kernel_rfl), Pruned.mk (h := ?_)⟩)
    refine SW.ret ?_
    exact End.mk [] (h4 := ⟨rfl, rfl⟩)
  obtain ⟨hA, dA⟩ := hB.put hpl hb
  rw [List.nil_append, hu.fst] at hA dA
  have q1 := fun k => put_good m8 hB.hv hw hpl 2 1 (by decide) k hb
  have wA := hA.wait (by omega)
  have f1 := fun k => bhas_at m (putR Vec.zero ([], 0) l).2.1 (putR Vec.zero ([], 0) l).2.2 (putMs Vec.zero ([], 0) l).2 2 1 (by decide) k
  have f2 := fun k => waits_at m (putR Vec.zero ([], 0) l).2.1 (putR Vec.zero ([], 0) l).2.2 (putMs Vec.zero ([], 0) l).2 wA (fun o ho => hA.lns (hA.mem ho)) 2 1 (by decide) k
  have lA := drained_len dA
  have cnt := Drained.count hu dA
  have hmA : ∀ o, o ∈ osorted (vals (putR Vec.zero ([], 0) l).2.2) → LnS o := fun o ho => hA.lns (hA.mem ((osorted_perm _).mem_iff.1 ho))
  have hlA : (osorted (vals (putR Vec.zero ([], 0) l).2.2)).length = (vals (putR Vec.zero ([], 0) l).2.2).length := (osorted_perm _).length_eq
  generalize putR Vec.zero ([], 0) l = RA at *
  generalize (putMs Vec.zero ([], 0) l).2 = cA at *
  obtain ⟨xA, vA, MA⟩ := RA
  dsimp only at *
  simp only [bH] at q1 f1 f2
  (refine SW.regL [0, 1, 2, 6, 7, 8, 9, 11, 12, 13, 14, 15, 16, 17, 18, 19, 20, 51, 68, 73, 86, 95, 116, 136, 171, 175, 182, 211] mixed ?_; (repeat (first | refine RW.ro bq_tt (h := ?_) | refine RW.skip (h := ?_) | refine RW.op bq_tt (h := ?_) | refine RW.opN bq_tt (h := ?_) | refine RW.skip0 (h := ?_) | (refine RW.callC (h := ?_); (first | refine CallP.mk bq_tt (hc := q1 _) (h := ?_))))); refine RW.nil ⟨conf_of (by kernel_rfl), Pruned.mk (h := ?_)⟩)
  refine SW.seq (SW.seq ?_)
  (refine SW.regL [0, 1, 2, 6, 7, 8, 9, 11, 12, 13, 14, 15, 16, 17, 18, 19, 20, 51, 68, 73, 86, 95, 116, 136, 171, 175, 182, 211] mixed ?_; (repeat (first | refine RW.ro bq_tt (h := ?_) | refine RW.skip (h := ?_) | refine RW.op bq_tt (h := ?_) | refine RW.opN bq_tt (h := ?_) | refine RW.skip0 (h := ?_))); refine RW.nil ⟨conf_of (by kernel_rfl), Pruned.mk (h := ?_)⟩)
  refine SW.condF rfl (SW.skip (SW.seq ?_))
  (refine SW.regL [0, 1, 2, 6, 7, 8, 9, 11, 12, 13, 14, 15, 16, 17, 18, 19, 20, 51, 68, 73, 86, 95, 116, 136, 171, 175, 182, 211] mixed ?_; (repeat (first | refine RW.ro bq_tt (h := ?_) | refine RW.skip (h := ?_) | refine RW.op bq_tt (h := ?_) | refine RW.opN bq_tt (h := ?_) | refine RW.skip0 (h := ?_))); refine RW.nil ⟨conf_of (by kernel_rfl), Pruned.mk (h := ?_)⟩)
  refine SW.nilrow 15 37 29 rfl ?_
  refine SW.seq (SW.seq ?_)
  (refine SW.regL [0, 1, 2, 6, 7, 8, 9, 11, 12, 13, 14, 15, 16, 17, 18, 19, 20, 51, 68, 73, 86, 95, 116, 136, 171, 175, 182, 211] mixed ?_; (repeat (first | refine RW.ro bq_tt (h := ?_) | refine RW.skip (h := ?_) | refine RW.op bq_tt (h := ?_) | refine RW.opN bq_tt (h := ?_) | refine RW.skip0 (h := ?_))); refine RW.nil ⟨conf_of (by kernel_rfl), Pruned.mk (h := ?_)⟩)
  refine SW.block ?_
  have b1 : SV.rens id (bfc m vA 1) = bfc m vA 1 := bfc.ren _ _ _ _
  have b2 : SV.oks (fun n => decide (n < 7)) (bfc m vA 1) = true := bfc.ok _ _ _ _ rfl
  have b3 := omap_ren id MA
  have b4 := omap_ok (fun n => decide (n < 7)) MA
  have v1 : ∀ h : Vec, SV.rens id (bfc m h 4) = bfc m h 4 := fun h => bfc.ren _ _ _ _
  have v2 : ∀ h : Vec, SV.oks (fun n => decide (n < 7)) (bfc m h 4) = true := fun h => bfc.ok _ _ _ _ rfl
  have v3 : ∀ Y : MM Dt OpD, _ := fun Y => omap_ren id Y
  have v4 : ∀ Y : MM Dt OpD, _ := fun Y => omap_ok (fun n => decide (n < 7)) Y
  have i0 : OrI m l f 0 [] Vec.zero [] 0 [] := ⟨by omega, hu, hB, RunB.new m8, by omega, by simp⟩
  refine SW.loopA (α := {s : Nat × List OpD × Vec × MM Dt OpD × Nat × List OpD // OrI m l f s.1 s.2.1 s.2.2.1 s.2.2.2.1 s.2.2.2.2.1 s.2.2.2.2.2}) (fun s => ⟨[(16, i64 s.1.1), (15, .gs 6 s.1.2.2.2.2.2.length), (13, ops xA), (9, .ptr 5 0), (7, .ptr 2 0), (2, u8 f), (1, ops l)], [(6, .arr 37 29 s.1.2.2.2.2.2.length (opc s.1.2.2.2.2.2)), (5, .box 58 (bfc m s.1.2.2.1 4)), (4, .map (mapE Dt.cells ov s.1.2.2.2.1) s.1.2.2.2.2.1), (2, .box 58 (bfc m vA 1)), (1, .map (mapE Dt.cells ov MA) cA)], 7⟩) (fun s => 2 * l.length - s.1.1) ⟨(0, [], Vec.zero, [], 0, []), i0⟩ id (And.intro mz (And.intro b1 (And.intro b2 (And.intro b3 (And.intro b4 (And.intro (v1 Vec.zero) (v2 Vec.zero))))))) (round := ?_)
  rintro ⟨⟨i, S, hB', MB, cB, y⟩, hI⟩
  dsimp only at hI ⊢
  have e0 : IntKind.i64.wrap (2 * (l.length : Int)) = ((2 * l.length : Nat) : Int) := by rw [wrap_i64 _ (by omega)]; omega
  refine SW.seq (SW.seq ?_)
  by_cases h : i < 2 * l.length
  · have h1 : decide ((i : Int) < ((2 * l.length : Nat) : Int)) = true := by simp only [decide_eq_true_eq]; omega
    obtain ⟨x, hx⟩ := get_of_lt (show (f + i) % l.length < l.length from Nat.mod_lt _ (by omega))
    have hxm := List.mem_of_getElem? hx
    have hpx := hl.put (m := [x]) (by simp) (fun o ho => by simp at ho; rw [ho]; exact hxm)
    have hbx : [x].any (badF m) = false := by
      rw [List.any_eq_false] at hb ⊢
      intro o ho; simp at ho; rw [ho]; exact hb x hxm
    have hS := hI.step h hx hpx hbx
    have hSl := hI.slen
    have hyl := hI.ylen
    have hyl2 := hS.ylen
    rw [List.length_append] at hyl2
    have q2 := fun k => put_good m8 hI.buf.hv (hI.buf.wait (by omega)) hpx 5 4 (by decide) k hbx
    simp only [bH] at q2
    have e2 : IntKind.i64.wrap ((i : Int) + 1) = ((i + 1 : Nat) : Int) := wrap_i64 _ (by omega)
    have e3 : IntKind.i64.wrap (f : Int) = (f : Int) := wrap_i64 _ (by omega)
    have e4 : IntKind.i64.wrap ((f + i : Nat) : Int) = ((f + i : Nat) : Int) := wrap_i64 _ (by omega)
    have e5 : (((f + i : Nat) : Int)).tmod (l.length : Int) = (((f + i) % l.length : Nat) : Int) := by rw [Int.ofNat_tmod]
    have e6 : IntKind.i64.wrap (((f + i) % l.length : Nat) : Int) = (((f + i) % l.length : Nat) : Int) := wrap_i64 _ (by have := lt_of_get hx; omega)
    have hlt := lt_of_get hx
    generalize (f + i) % l.length = j at hx e5 e6 hlt
    generalize putR hB' (MB, cB) [x] = RB at *
    generalize (putMs hB' (MB, cB) [x]).2 = cC at *
    obtain ⟨z, vC, MC⟩ := RB
    dsimp only at *
    (refine SW.regL [0, 1, 2, 6, 7, 8, 9, 11, 12, 13, 14, 15, 16, 17, 18, 19, 20, 51, 68, 73, 86, 95, 116, 136, 171, 175, 182, 211] mixed ?_; (repeat (first | refine RW.ro (And.intro (e0) (h1)) (h := ?_) | refine RW.skip (h := ?_) | refine RW.op (And.intro (e0) (h1)) (h := ?_) | refine RW.opN (And.intro (e0) (h1)) (h := ?_) | refine RW.skip0 (h := ?_))); refine RW.nil ⟨conf_of (by kernel_rfl), Pruned.mk (h := ?_)⟩)
    refine SW.condT rfl (SW.skip (SW.seq (SW.block (SW.seq ?_))))
    (have fx := (And.intro (e3) (And.intro (e4) (And.intro (e5) (And.intro (e6) (And.intro (hlt) (And.intro (op_at hx) (op_room0 hx))))))); refine SW.regL [0, 1, 2, 6, 7, 8, 9, 11, 12, 13, 14, 15, 16, 17, 18, 19, 20, 51, 68, 73, 86, 95, 116, 136, 171, 175, 182, 211] mixed ?_; (repeat (first | refine RW.ro fx (h := ?_) | refine RW.skip (h := ?_) | refine RW.op fx (h := ?_) | refine RW.opN fx (h := ?_) | refine RW.skip0 (h := ?_) | refine lit1 rfl rfl (h := ?_) | (refine RW.callC (h := ?_); (first | refine CallP.mk fx (hc := q2 _) (h := ?_))))); refine RW.nil ⟨conf_of (by kernel_rfl), Pruned.mk (h := ?_)⟩)
    refine SW.seq (SW.seq ?_)
    (refine SW.regL [0, 1, 2, 6, 7, 8, 9, 11, 12, 13, 14, 15, 16, 17, 18, 19, 20, 51, 68, 73, 86, 95, 116, 136, 171, 175, 182, 211] mixed ?_; (repeat (first | refine RW.ro bq_tt (h := ?_) | refine RW.skip (h := ?_) | refine RW.op bq_tt (h := ?_) | refine RW.opN bq_tt (h := ?_) | refine RW.skip0 (h := ?_))); refine RW.nil ⟨conf_of (by kernel_rfl), Pruned.mk (h := ?_)⟩)
    refine SW.condF rfl (SW.skip ?_)
    (refine SW.regL [0, 1, 2, 6, 7, 8, 9, 11, 12, 13, 14, 15, 16, 17, 18, 19, 20, 51, 68, 73, 86, 95, 116, 136, 171, 175, 182, 211] mixed ?_; (repeat (first | refine RW.ro bq_tt (h := ?_) | refine RW.skip (h := ?_) | refine RW.op bq_tt (h := ?_) | refine RW.opN bq_tt (h := ?_) | refine RW.skip0 (h := ?_))); refine RW.nil ⟨conf_of (by kernel_rfl), Pruned.mk (h := ?_)⟩)
    (refine SW.regL [0, 1, 2, 6, 7, 8, 9, 11, 12, 13, 14, 15, 16, 17, 18, 19, 20, 51, 68, 73, 86, 95, 116, 136, 171, 175, 182, 211] mixed ?_; (repeat (first | refine RW.ro (e2) (h := ?_) | refine RW.skip (h := ?_) | refine RW.op (e2) (h := ?_) | refine RW.opN (e2) (h := ?_) | refine RW.skip0 (h := ?_))); refine RW.nil ⟨conf_of (by kernel_rfl), Pruned.mk (h := ?_)⟩)
    have e7 : (y ++ z).length = y.length + z.length := by simp
    have e8 : opc (y ++ z) = opc y ++ List.map SV.d (z.flatMap OpD.ds) := by simp [opc]
    have u1 : ∀ n : Nat, n < 0 → n = 6 → 7 = n := fun n hn e => by omega
    have u2 : SV.rens (fun n => if n = 6 then 7 else n) (bfc m vA 1) = bfc m vA 1 := bfc.ren _ _ _ _
    have u3 : SV.rens (fun n => if n = 6 then 7 else n) (bfc m vC 4) = bfc m vC 4 := bfc.ren _ _ _ _
    have u4 := omap_ren (fun n => if n = 6 then 7 else n) MA
    have u5 := omap_ren (fun n => if n = 6 then 7 else n) MC
    refine ⟨⟨(i + 1, fstO (S ++ [x]), vC, MC, cC, y ++ z), hS⟩, fun n => if n = 6 then 7 else n, by show 2 * l.length - (i + 1) < 2 * l.length - i; omega, ?_⟩
    dsimp only
    rw [e7, e8]
    exact Weak.mk (And.intro (eq_true u1) (And.intro u2 (And.intro u3 (And.intro u4 (And.intro u5 (And.intro b2 (And.intro b4 (And.intro (v2 vC) (v4 MC)))))))))
  have h1 : decide ((i : Int) < ((2 * l.length : Nat) : Int)) = false := by simp only [decide_eq_false_iff_not]; omega
  have hi2 : i = 2 * l.length := by have := hI.le; omega
  subst hi2
  have hSm : ∀ o, o ∈ S ↔ o ∈ l := fun o => ⟨hI.sub o, fun ho => by
    obtain ⟨j, hj⟩ := List.mem_iff_getElem?.1 ho
    obtain ⟨t, ht, e⟩ := turn_idx (f := f) (lt_of_get hj)
    exact hI.all t (by omega) o (by rw [e]; exact hj)⟩
  obtain ⟨s1, s2, s3⟩ := orders_same hu dA hI.run hSm
  have hyl := hI.ylen
  have hSl := hI.slen
  subst s1
  have g1 := fun k => bhas_at m vA MB cB 5 4 (by decide) k
  have g2 := fun k => waits_at m vA MB cB (hI.buf.wait (by omega)) (fun o ho => hI.buf.lns (hI.buf.mem ho)) 5 4 (by decide) k
  rw [← s2] at g2
  have g3 := fun k => rsorted_at xA (by omega) k
  have g4 := fun k => rsorted_at y (by omega) k
  rw [sortedR_eq dA.nd] at g3
  rw [sortedR_eq hI.run.nd, ← s3] at g4
  have hxs : ∀ o, o ∈ osorted xA → LnS o := fun o ho => hA.lns ((dA.mem o).1 ((osorted_perm _).mem_iff.1 ho)).1
  have lxs : (osorted xA).length ≤ 80 := by rw [(osorted_perm _).length_eq]; omega
  have g5 := fun k => sameA_at (osorted xA) (by omega) (fun x hx => .inr (hxs x hx).1) k
  have g6 := fun k => sameA_at (osorted (vals MA)) (by omega) (fun x hx => .inr (hmA x hx).1) k
  have d2 : ∀ d : Vec, decide (d = d) = true := fun d => by simp
  have e1 : IntKind.i64.wrap ((xA.length + (osorted (vals MA)).length : Nat) : Int) = (l.length : Int) := by rw [hlA, cnt]; exact wrap_i64 _ (by omega)
  have e2 : ((l.length : Int) != (l.length : Int)) = false := by simp
  simp only [bH] at g1 g2
  (refine SW.regL [0, 1, 2, 6, 7, 8, 9, 11, 12, 13, 14, 15, 16, 17, 18, 19, 20, 51, 68, 73, 86, 95, 116, 136, 171, 175, 182, 211] mixed ?_; (repeat (first | refine RW.ro (And.intro (e0) (h1)) (h := ?_) | refine RW.skip (h := ?_) | refine RW.op (And.intro (e0) (h1)) (h := ?_) | refine RW.opN (And.intro (e0) (h1)) (h := ?_) | refine RW.skip0 (h := ?_))); refine RW.nil ⟨conf_of (by kernel_rfl), Pruned.mk (h := ?_)⟩)
  refine SW.condF rfl (SW.exit (SW.seq (SW.seq ?_)))
  refine SW.freeze 6 (y.flatMap OpD.ds) rfl rfl ?_
  simp only [frzE, SV.frz, List.map_cons, List.map_nil, if_true, if_false, reduceIte, hdel, Nat.reduceEqDiff]
  (have fx := (And.intro (d2) (And.intro (e1) (e2))); refine SW.regL [0, 1, 2, 6, 7, 8, 9, 11, 12, 13, 14, 15, 16, 17, 18, 19, 20, 51, 68, 73, 86, 95, 116, 136, 171, 175, 182, 211] mixed ?_; (repeat (first | refine RW.ro fx (h := ?_) | refine RW.skip (h := ?_) | refine RW.op fx (h := ?_) | refine RW.opN fx (h := ?_) | refine RW.skip0 (h := ?_) | (refine RW.callC (h := ?_); (first | refine CallP.mk fx (hc := f1 _) (h := ?_) | refine CallP.mk fx (hc := g1 _) (h := ?_) | refine CallP.mk fx (hc := f2 _) (h := ?_) | refine CallP.mk fx (hc := g2 _) (h := ?_) | refine CallP.mk fx (hc := g3 _) (h := ?_) | refine CallP.mk fx (hc := g4 _) (h := ?_) | refine CallP.mk fx (hc := g5 _) (h := ?_) | refine CallP.mk fx (hc := g6 _) (h := ?_))))); refine RW.nil ⟨conf_of (by kernel_rfl), Pruned.mk (h := ?_)⟩)
  refine SW.condF rfl (SW.skip (SW.seq (SW.seq ?_)))
  (refine SW.regL [0, 1, 2, 6, 7, 8, 9, 11, 12, 13, 14, 15, 16, 17, 18, 19, 20, 51, 68, 73, 86, 95, 116, 136, 171, 175, 182, 211] mixed ?_; (repeat (first | refine RW.ro bq_tt (h := ?_) | refine RW.skip (h := ?_) | refine RW.op bq_tt (h := ?_) | refine RW.opN bq_tt (h := ?_) | refine RW.skip0 (h := ?_))); refine RW.nil ⟨conf_of (by kernel_rfl), Pruned.mk (h := ?_)⟩)
  have hyn := hI.run.nd
  have hah := List.pairwise_iff_getElem.1 hI.run.ahead
  refine SW.block ?_
  refine SW.loopA (α := {i : Nat // i ≤ y.length}) (fun i => ⟨[(19, i64 i.1), (15, ops y)], [], 0⟩) (fun i => y.length - i.1) ⟨0, by omega⟩ id bq_tt (round := ?_)
  rintro ⟨i, hi⟩
  dsimp only
  refine SW.seq (SW.seq ?_)
  by_cases h : i < y.length
  · have h1 : decide ((i : Int) < y.length) = true := by simp only [decide_eq_true_eq]; omega
    obtain ⟨x, hx⟩ := get_of_lt h
    have e2 : IntKind.i64.wrap ((i : Int) + 1) = ((i + 1 : Nat) : Int) := wrap_i64 _ (by omega)
    (refine SW.regL [0, 1, 2, 6, 7, 8, 9, 11, 12, 13, 14, 15, 16, 17, 18, 19, 20, 51, 68, 73, 86, 95, 116, 136, 171, 175, 182, 211] mixed ?_; (repeat (first | refine RW.ro (h1) (h := ?_) | refine RW.skip (h := ?_) | refine RW.op (h1) (h := ?_) | refine RW.opN (h1) (h := ?_) | refine RW.skip0 (h := ?_))); refine RW.nil ⟨conf_of (by kernel_rfl), Pruned.mk (h := ?_)⟩)
    refine SW.condT rfl (SW.skip (SW.seq (SW.block (SW.seq ?_))))
    (refine SW.regL [0, 1, 2, 6, 7, 8, 9, 11, 12, 13, 14, 15, 16, 17, 18, 19, 20, 51, 68, 73, 86, 95, 116, 136, 171, 175, 182, 211] mixed ?_; (repeat (first | refine RW.ro bq_tt (h := ?_) | refine RW.skip (h := ?_) | refine RW.op bq_tt (h := ?_) | refine RW.opN bq_tt (h := ?_) | refine RW.skip0 (h := ?_))); refine RW.nil ⟨conf_of (by kernel_rfl), Pruned.mk (h := ?_)⟩)
    refine SW.block ?_
    refine SW.loopA (α := {k : Nat // i ≤ k ∧ k ≤ y.length}) (fun k => ⟨[(20, i64 k.1), (19, i64 i), (15, ops y)], [], 0⟩) (fun k => y.length - k.1) ⟨i, by omega, by omega⟩ id bq_tt (round := ?_)
    rintro ⟨k, hik, hk⟩
    dsimp only
    refine SW.seq (SW.seq ?_)
    by_cases h2 : k < y.length
    · have h3 : decide ((k : Int) < y.length) = true := by simp only [decide_eq_true_eq]; omega
      obtain ⟨z, hz⟩ := get_of_lt h2
      have e3 : IntKind.i64.wrap ((k : Int) + 1) = ((k + 1 : Nat) : Int) := wrap_i64 _ (by omega)
      have hb := fun k => before_at z x k
      rcases Nat.lt_or_ge i k with h4 | h4
      · have h5 : decide ((k : Int) > (i : Int)) = true := by simp only [decide_eq_true_eq]; omega
        have h6 : z.before x = false := by
          have := hah i k (lt_of_get hx) (lt_of_get hz) h4
          rw [List.getElem?_eq_getElem (lt_of_get hx)] at hx
          rw [List.getElem?_eq_getElem (lt_of_get hz)] at hz
          injection hx with hx; injection hz with hz
          rw [hx, hz] at this; exact this
        have h7 : decide (z.dot = x.dot) = false := by
          rw [decide_eq_false_iff_not]
          intro e
          have hn := List.pairwise_iff_getElem.1 hyn
          have := hn i k (by simpa using lt_of_get hx) (by simpa using lt_of_get hz) h4
          rw [List.getElem_map, List.getElem_map] at this
          rw [List.getElem?_eq_getElem (lt_of_get hx)] at hx
          rw [List.getElem?_eq_getElem (lt_of_get hz)] at hz
          injection hx with hx; injection hz with hz
          rw [hx, hz] at this; exact this e.symm
        have q1' := Dt.eqb z.dot x.dot
        rw [h7] at q1'
        rw [h6] at hb
        (refine SW.regL [0, 1, 2, 6, 7, 8, 9, 11, 12, 13, 14, 15, 16, 17, 18, 19, 20, 51, 68, 73, 86, 95, 116, 136, 171, 175, 182, 211] mixed ?_; (repeat (first | refine RW.ro (h3) (h := ?_) | refine RW.skip (h := ?_) | refine RW.op (h3) (h := ?_) | refine RW.opN (h3) (h := ?_) | refine RW.skip0 (h := ?_))); refine RW.nil ⟨conf_of (by kernel_rfl), Pruned.mk (h := ?_)⟩)
        refine SW.condT rfl (SW.skip (SW.seq (SW.block (SW.seq ?_))))
        (have fx := (And.intro (op_at hx) (And.intro (op_room0 hx) (And.intro (op_at hz) (And.intro (op_room0 hz) (And.intro (op_load11 hx) (And.intro (op_roomd11 hx) (And.intro (op_load11 hz) (And.intro (op_roomd11 hz) (And.intro (h5) (q1')))))))))); refine SW.regL [0, 1, 2, 6, 7, 8, 9, 11, 12, 13, 14, 15, 16, 17, 18, 19, 20, 51, 68, 73, 86, 95, 116, 136, 171, 175, 182, 211] mixed ?_; (repeat (first | refine RW.ro fx (h := ?_) | refine RW.skip (h := ?_) | refine RW.op fx (h := ?_) | refine RW.opN fx (h := ?_) | refine RW.skip0 (h := ?_) | (refine RW.callC (h := ?_); (first | refine CallP.mk fx (hc := hb _) (h := ?_))))); refine RW.nil ⟨conf_of (by kernel_rfl), Pruned.mk (h := ?_)⟩)
        refine SW.condF rfl (SW.skip ?_)
        (refine SW.regL [0, 1, 2, 6, 7, 8, 9, 11, 12, 13, 14, 15, 16, 17, 18, 19, 20, 51, 68, 73, 86, 95, 116, 136, 171, 175, 182, 211] mixed ?_; (repeat (first | refine RW.ro (e3) (h := ?_) | refine RW.skip (h := ?_) | refine RW.op (e3) (h := ?_) | refine RW.opN (e3) (h := ?_) | refine RW.skip0 (h := ?_))); refine RW.nil ⟨conf_of (by kernel_rfl), Pruned.mk (h := ?_)⟩)
        refine ⟨⟨k + 1, by omega, by omega⟩, id, by show y.length - (k + 1) < y.length - k; omega, ?_⟩
        exact Weak.mk bq_tt
      · have hki : k = i := by omega
        subst hki
        have h5 : decide ((k : Int) > (k : Int)) = false := by simp only [decide_eq_false_iff_not]; omega
        have hzx : z = x := by rw [hx] at hz; injection hz with hz; exact hz.symm
        subst hzx
        rw [hI.run.own z (List.mem_of_getElem? hz)] at hb
        (refine SW.regL [0, 1, 2, 6, 7, 8, 9, 11, 12, 13, 14, 15, 16, 17, 18, 19, 20, 51, 68, 73, 86, 95, 116, 136, 171, 175, 182, 211] mixed ?_; (repeat (first | refine RW.ro (h3) (h := ?_) | refine RW.skip (h := ?_) | refine RW.op (h3) (h := ?_) | refine RW.opN (h3) (h := ?_) | refine RW.skip0 (h := ?_))); refine RW.nil ⟨conf_of (by kernel_rfl), Pruned.mk (h := ?_)⟩)
        refine SW.condT rfl (SW.skip (SW.seq (SW.block (SW.seq ?_))))
        (have fx := (And.intro (op_at hz) (And.intro (op_room0 hz) (h5))); refine SW.regL [0, 1, 2, 6, 7, 8, 9, 11, 12, 13, 14, 15, 16, 17, 18, 19, 20, 51, 68, 73, 86, 95, 116, 136, 171, 175, 182, 211] mixed ?_; (repeat (first | refine RW.ro fx (h := ?_) | refine RW.skip (h := ?_) | refine RW.op fx (h := ?_) | refine RW.opN fx (h := ?_) | refine RW.skip0 (h := ?_) | (refine RW.callC (h := ?_); (first | refine CallP.mk fx (hc := hb _) (h := ?_))))); refine RW.nil ⟨conf_of (by kernel_rfl), Pruned.mk (h := ?_)⟩)
        refine SW.condF rfl (SW.skip ?_)
        (refine SW.regL [0, 1, 2, 6, 7, 8, 9, 11, 12, 13, 14, 15, 16, 17, 18, 19, 20, 51, 68, 73, 86, 95, 116, 136, 171, 175, 182, 211] mixed ?_; (repeat (first | refine RW.ro (e3) (h := ?_) | refine RW.skip (h := ?_) | refine RW.op (e3) (h := ?_) | refine RW.opN (e3) (h := ?_) | refine RW.skip0 (h := ?_))); refine RW.nil ⟨conf_of (by kernel_rfl), Pruned.mk (h := ?_)⟩)
        refine ⟨⟨k + 1, by omega, by omega⟩, id, by show y.length - (k + 1) < y.length - k; omega, ?_⟩
        exact Weak.mk bq_tt
    have h3 : decide ((k : Int) < y.length) = false := by simp only [decide_eq_false_iff_not]; omega
    (refine SW.regL [0, 1, 2, 6, 7, 8, 9, 11, 12, 13, 14, 15, 16, 17, 18, 19, 20, 51, 68, 73, 86, 95, 116, 136, 171, 175, 182, 211] mixed ?_; (repeat (first | refine RW.ro (h3) (h := ?_) | refine RW.skip (h := ?_) | refine RW.op (h3) (h := ?_) | refine RW.opN (h3) (h := ?_) | refine RW.skip0 (h := ?_))); refine RW.nil ⟨conf_of (by kernel_rfl), Pruned.mk (h := ?_)⟩)
    refine SW.condF rfl (SW.exit ?_)
    (refine SW.regL [0, 1, 2, 6, 7, 8, 9, 11, 12, 13, 14, 15, 16, 17, 18, 19, 20, 51, 68, 73, 86, 95, 116, 136, 171, 175, 182, 211] mixed ?_; (repeat (first | refine RW.ro (e2) (h := ?_) | refine RW.skip (h := ?_) | refine RW.op (e2) (h := ?_) | refine RW.opN (e2) (h := ?_) | refine RW.skip0 (h := ?_))); refine RW.nil ⟨conf_of (by kernel_rfl), Pruned.mk (h := ?_)⟩)
    refine ⟨⟨i + 1, by omega⟩, id, by show y.length - (i + 1) < y.length - i; omega, ?_⟩
    exact Weak.mk bq_tt
  have h1 : decide ((i : Int) < y.length) = false := by simp only [decide_eq_false_iff_not]; omega
  (refine SW.regL [0, 1, 2, 6, 7, 8, 9, 11, 12, 13, 14, 15, 16, 17, 18, 19, 20, 51, 68, 73, 86, 95, 116, 136, 171, 175, 182, 211] mixed ?_; (repeat (first | refine RW.ro (h1) (h := ?_) | refine RW.skip (h := ?_) | refine RW.op (h1) (h := ?_) | refine RW.opN (h1) (h := ?_) | refine RW.skip0 (h := ?_))); refine RW.nil ⟨conf_of (by kernel_rfl), Pruned.mk (h := ?_)⟩)
  refine SW.condF rfl (SW.exit (SW.seq ?_))
  (refine SW.regL [0, 1, 2, 6, 7, 8, 9, 11, 12, 13, 14, 15, 16, 17, 18, 19, 20, 51, 68, 73, 86, 95, 116, 136, 171, 175, 182, 211] mixed ?_; (repeat (first | refine RW.ro bq_tt (h := ?_) | refine RW.skip (h := ?_) | refine RW.op bq_tt (h := ?_) | refine RW.opN bq_tt (h := ?_) | refine RW.skip0 (h := ?_) | (refine RW.callC (h := ?_); (first | refine CallP.mk bq_tt (hc := head11_at _) (h := ?_))))); refine RW.nil ⟨conf_of (by kernel_rfl), Pruned.mk (h := ?_)⟩)
  refine SW.ret ?_
  exact End.mk [] (h4 := ⟨rfl, rfl⟩)
end Go.Proofs.YtnakpdoioammhaaDoor
