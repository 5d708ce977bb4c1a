/-
  Buffers: whatever is put.
-/
import Derived.Test.YtnakpdoioammhaaDoorUS
set_option linter.unusedSectionVars false
set_option linter.unusedVariables false
set_option linter.unusedSimpArgs false
namespace Go.Proofs.YtnakpdoioammhaaDoor
open Go.Sl Go.Proofs
attribute [local irreducible] SW RW SCd SC CallP Pruned
abbrev bytes (l : List Nat) : SV := .d (.sl l.length (l.map fun (x : Nat) => DV.int .u8 (x : Int)))
theorem byte_at {l : List Nat} {i x : Nat} (h : l[i]? = some x) : (List.map SV.d (l.map fun (x : Nat) => DV.int .u8 (x : Int)))[i]? = some (u8 x) := by simp [h]
theorem byte_len (l : List Nat) : (List.map SV.d (l.map fun (x : Nat) => DV.int .u8 (x : Int))).length = l.length := by simp
theorem ops_mid (l : List OpD) {a b : Nat} (h1 : a ≤ b) (h2 : b ≤ l.length) : ops ((l.drop a).take (b - a)) = .d (.sl (b - a) (List.take ((b - a) * 29) (List.drop (a * 29) (l.flatMap OpD.ds)))) := by
  unfold ops
  rw [ops_fm_drop, ops_fm_take, List.length_take, List.length_drop, Nat.min_eq_left (by omega)]
structure PlI (m : Nat) (l : List OpD) (at_ : Nat) (S : List OpD) (has : Vec) (M : MM Dt OpD) (c : Nat) : Prop where
  le : at_ ≤ l.length
  sub : ∀ o, o ∈ S → o ∈ l
  buf : Buf m S has M c
section
variable {m : Nat} {l : List OpD} {at_ : Nat} {S : List OpD} {has : Vec} {M : MM Dt OpD} {c : Nat} (h : PlI m l at_ S has M c)
include h
theorem PlI.slen : S.length ≤ l.length := h.buf.puts.uniq.nd.length_le_of_subset fun o ho => h.sub o ho
theorem PlI.rin (hl : l.length ≤ 80) : RIn m has (vals M) := by
  have hs := h.slen
  have hb := h.buf.len
  have n8 := h.buf.puts.n8
  refine ⟨h.buf.n1, n8, h.buf.hv, by rw [vals_len]; omega, h.buf.wb.uniq, fun o ho => ?_⟩
  have hm := h.buf.mem ho
  have := (h.buf.puts.form o hm).dot8 n8
  exact ⟨this.1, this.2, h.buf.wf hm⟩
end
set_option maxRecDepth 100000 in
set_option maxHeartbeats 16000000 in
theorem law_plays11 (n : Int) (hn : -9223372036854775808 ≤ n) (hn2 : n ≤ 9223372036854775807) (l : List OpD) (hl : RowR l) (hkd : ∀ o, o ∈ l → o.kind < 256) (b : List Nat) (hb0 : ∀ x, x ∈ b → x < 256) (hbl : b.length ≤ 9223372036854775807) : Go.Sl.Pure Tryd.prog law11_BufferPlays.f [i64 n, ops l, bytes b] (bl true) := by
  have hlen := hl.len
  refine law11_BufferPlays.enter (by first | rfl | simp [SV.ok, SV.oks]) (by first | rfl | simp [Hp.ok, Ob.ok, SV.ok, SV.oks, Vec.cells_ok]) (by simp) ?_
  dsimp only [law11_BufferPlays.s, Co.M, Co.G, Co.J, Co.H, Co.N, Co.F, Co.C, Co.Z, Co.B, Co.b8, Co.b32, Co.b64, Co.i6, Co.z8, Co.z29]
  have hg := fun k => great11_at l k
  have z0 : zq = [.d (.int .i64 0), .d (.int .u32 0), .d (.int .u32 0), .d (.int .u32 0), .d (.int .u32 0), .d (.int .u32 0), .d (.int .u32 0), .d (.int .u32 0), .d (.int .u32 0), .d .nils] := rfl
  refine SW.seq ?_
  (refine SW.regL [0, 1, 2, 6, 7, 8, 9, 10, 11, 12, 13, 14, 15, 16, 17, 18, 19, 20, 42, 48, 57, 113] mixed ?_; (repeat (first | refine RW.ro bq_tt (h := ?_) | refine RW.skip (h := ?_) | refine RW.op bq_tt (h := ?_) | refine RW.opN bq_tt (h := ?_) | refine RW.skip0 (h := ?_))); refine RW.nil ⟨conf_of (by kernel_rfl), Pruned.mk (h := ?_)⟩)
  by_cases hv : n < 1 ∨ 8 < n
  · have n1 := fun k => newx_at n Vec.zero (hv.elim .inl fun h => .inr (.inl h)) k
    have n2 := fun k => rnewx11_at n hv k
    have q1 := rqc.len 0 Vec.zero (.d .nils)
    have q2 : spl [.d (.int .i64 0), .d (.int .u32 0), .d (.int .u32 0), .d (.int .u32 0), .d (.int .u32 0), .d (.int .u32 0), .d (.int .u32 0), .d (.int .u32 0), .d (.int .u32 0), .d .nils] 0 (rqc 0 Vec.zero (.d .nils)) = rqc 0 Vec.zero (.d .nils) := rfl
    have q3 := rqc.one 0 Vec.zero (s := .d .nils) rfl
    refine SW.seq ?_
    (refine SW.regL [0, 1, 2, 6, 7, 8, 9, 10, 11, 12, 13, 14, 15, 16, 17, 18, 19, 20, 42, 48, 57, 113] mixed ?_; (repeat (first | refine RW.ro bq_tt (h := ?_) | refine RW.skip (h := ?_) | refine RW.op bq_tt (h := ?_) | refine RW.opN bq_tt (h := ?_) | refine RW.skip0 (h := ?_) | (refine RW.callC (h := ?_); (first | refine CallP.mk bq_tt (hc := n1 _) (h := ?_))))); refine RW.nil ⟨conf_of (by kernel_rfl), Pruned.mk (h := ?_)⟩)
    refine SW.seq ?_
    (have fx := (And.intro (q1) (And.intro (q2) (q3))); refine SW.regL [0, 1, 2, 6, 7, 8, 9, 10, 11, 12, 13, 14, 15, 16, 17, 18, 19, 20, 42, 48, 57, 113] mixed ?_; (repeat (first | refine RW.ro fx (h := ?_) | refine RW.skip (h := ?_) | refine RW.op fx (h := ?_) | refine RW.opN fx (h := ?_) | refine RW.skip0 (h := ?_) | (refine RW.callC (h := ?_); (first | refine CallP.mk fx (hc := n2 _) (h := ?_))))); refine RW.nil ⟨conf_of (by kernel_rfl), Pruned.mk (h := ?_)⟩)
    refine SW.seq (SW.seq ?_)
    (refine SW.regL [0, 1, 2, 6, 7, 8, 9, 10, 11, 12, 13, 14, 15, 16, 17, 18, 19, 20, 42, 48, 57, 113] mixed ?_; (repeat (first | refine RW.ro bq_tt (h := ?_) | refine RW.skip (h := ?_) | refine RW.op bq_tt (h := ?_) | refine RW.opN bq_tt (h := ?_) | refine RW.skip0 (h := ?_))); refine RW.nil ⟨conf_of (by kernel_rfl), Pruned.mk (h := ?_)⟩)
    refine SW.condF rfl (SW.skip (SW.seq (SW.seq ?_)))
    (refine SW.regL [0, 1, 2, 6, 7, 8, 9, 10, 11, 12, 13, 14, 15, 16, 17, 18, 19, 20, 42, 48, 57, 113] mixed ?_; (repeat (first | refine RW.ro bq_tt (h := ?_) | refine RW.skip (h := ?_) | refine RW.op bq_tt (h := ?_) | refine RW.opN bq_tt (h := ?_) | refine RW.skip0 (h := ?_) | (refine RW.callC (h := ?_); (first | refine CallP.mk bq_tt (hc := head11_at _) (h := ?_))))); refine RW.nil ⟨conf_of (by kernel_rfl), Pruned.mk (h := ?_)⟩)
    refine SW.condT rfl (SW.seq ?_)
    (refine SW.regL [0, 1, 2, 6, 7, 8, 9, 10, 11, 12, 13, 14, 15, 16, 17, 18, 19, 20, 42, 48, 57, 113] mixed ?_; (repeat (first | refine RW.ro bq_tt (h := ?_) | refine RW.skip (h := ?_) | refine RW.op bq_tt (h := ?_) | refine RW.opN bq_tt (h := ?_) | refine RW.skip0 (h := ?_) | (refine RW.callC (h := ?_); (first | refine CallP.mk bq_tt (hc := head11_at _) (h := ?_))))); refine RW.nil ⟨conf_of (by kernel_rfl), Pruned.mk (h := ?_)⟩)
    refine SW.ret ?_
    exact End.mk [] (h4 := ⟨rfl, rfl⟩)
  obtain ⟨m, rfl⟩ : ∃ m : Nat, n = (m : Int) := ⟨n.toNat, by omega⟩
  have m1 : 1 ≤ m := by omega
  have m8 : m ≤ 8 := by omega
  have n1 : SCd Tryd.prog buffer_New.f [.d (.int .i64 (m : Int)), .agg Vec.zero.cells] [] 0 3 (.tup [.ptr 2 0, .d (.int .i64 0)]) (bH 2 1 m Vec.zero [] 0) := new_at m m1 m8 Vec.zero (farB_zero m) 0
  have n2 := fun k => rnewb11_at m m1 m8 k
  simp only [bH] at n1
  have g1 := fun h s => rqc.len m h s
  have t10 := fun h s => rqc.t10 m h s
  have o1 := fun h l => rqc.one m h (s := ops l) rfl
  have sz : ∀ h l, spl [.d (.int .i64 0), .d (.int .u32 0), .d (.int .u32 0), .d (.int .u32 0), .d (.int .u32 0), .d (.int .u32 0), .d (.int .u32 0), .d (.int .u32 0), .d (.int .u32 0), .d .nils] 0 (rqc m h (ops l)) = rqc m h (ops l) := fun h l => rfl
  have sq : ∀ h l h' l', spl (rqc m h (ops l)) 0 (rqc m h' (ops l')) = rqc m h' (ops l') := fun h l h' l' => rfl
  refine SW.seq ?_
  (refine SW.regL [0, 1, 2, 6, 7, 8, 9, 10, 11, 12, 13, 14, 15, 16, 17, 18, 19, 20, 42, 48, 57, 113] mixed ?_; (repeat (first | refine RW.ro bq_tt (h := ?_) | refine RW.skip (h := ?_) | refine RW.op bq_tt (h := ?_) | refine RW.opN bq_tt (h := ?_) | refine RW.skip0 (h := ?_) | (refine RW.callC (h := ?_); (first | refine CallP.mk bq_tt (hc := n1) (h := ?_))))); refine RW.nil ⟨conf_of (by kernel_rfl), Pruned.mk (h := ?_)⟩)
  refine SW.seq ?_
  (have fx := (And.intro (g1) (And.intro (o1) (sz))); refine SW.regL [0, 1, 2, 6, 7, 8, 9, 10, 11, 12, 13, 14, 15, 16, 17, 18, 19, 20, 42, 48, 57, 113] mixed ?_; (repeat (first | refine RW.ro fx (h := ?_) | refine RW.skip (h := ?_) | refine RW.op fx (h := ?_) | refine RW.opN fx (h := ?_) | refine RW.skip0 (h := ?_) | (refine RW.callC (h := ?_); (first | refine CallP.mk fx (hc := n2 _) (h := ?_))))); refine RW.nil ⟨conf_of (by kernel_rfl), Pruned.mk (h := ?_)⟩)
  refine SW.seq (SW.seq ?_)
  (refine SW.regL [0, 1, 2, 6, 7, 8, 9, 10, 11, 12, 13, 14, 15, 16, 17, 18, 19, 20, 42, 48, 57, 113] mixed ?_; (repeat (first | refine RW.ro bq_tt (h := ?_) | refine RW.skip (h := ?_) | refine RW.op bq_tt (h := ?_) | refine RW.opN bq_tt (h := ?_) | refine RW.skip0 (h := ?_))); refine RW.nil ⟨conf_of (by kernel_rfl), Pruned.mk (h := ?_)⟩)
  refine SW.condF rfl (SW.skip (SW.seq (SW.seq ?_)))
  rcases hgv : decide ((l.length : Int) > 80) with _ | _ <;> rw [hgv] at hg
  case true =>
    (refine SW.regL [0, 1, 2, 6, 7, 8, 9, 10, 11, 12, 13, 14, 15, 16, 17, 18, 19, 20, 42, 48, 57, 113] mixed ?_; (repeat (first | refine RW.ro bq_tt (h := ?_) | refine RW.skip (h := ?_) | refine RW.op bq_tt (h := ?_) | refine RW.opN bq_tt (h := ?_) | refine RW.skip0 (h := ?_) | (refine RW.callC (h := ?_); (first | refine CallP.mk bq_tt (hc := hg _) (h := ?_) | refine CallP.mk bq_tt (hc := head11_at _) (h := ?_))))); refine RW.nil ⟨conf_of (by kernel_rfl), Pruned.mk (h := ?_)⟩)
    refine SW.condT rfl (SW.seq ?_)
    (refine SW.regL [0, 1, 2, 6, 7, 8, 9, 10, 11, 12, 13, 14, 15, 16, 17, 18, 19, 20, 42, 48, 57, 113] mixed ?_; (repeat (first | refine RW.ro bq_tt (h := ?_) | refine RW.skip (h := ?_) | refine RW.op bq_tt (h := ?_) | refine RW.opN bq_tt (h := ?_) | refine RW.skip0 (h := ?_) | (refine RW.callC (h := ?_); (first | refine CallP.mk bq_tt (hc := hg _) (h := ?_) | refine CallP.mk bq_tt (hc := head11_at _) (h := ?_))))); refine RW.nil ⟨conf_of (by kernel_rfl), Pruned.mk (h := ?_)⟩)
    refine SW.ret ?_
    exact End.mk [] (h4 := ⟨rfl, rfl⟩)
  have hl80 : l.length ≤ 80 := by simp only [decide_eq_false_iff_not] at hgv; omega
  (refine SW.regL [0, 1, 2, 6, 7, 8, 9, 10, 11, 12, 13, 14, 15, 16, 17, 18, 19, 20, 42, 48, 57, 113] mixed ?_; (repeat (first | refine RW.ro bq_tt (h := ?_) | refine RW.skip (h := ?_) | refine RW.op bq_tt (h := ?_) | refine RW.opN bq_tt (h := ?_) | refine RW.skip0 (h := ?_) | (refine RW.callC (h := ?_); (first | refine CallP.mk bq_tt (hc := hg _) (h := ?_))))); refine RW.nil ⟨conf_of (by kernel_rfl), Pruned.mk (h := ?_)⟩)
  refine SW.condF rfl (SW.skip (SW.seq ?_))
  (refine SW.regL [0, 1, 2, 6, 7, 8, 9, 10, 11, 12, 13, 14, 15, 16, 17, 18, 19, 20, 42, 48, 57, 113] mixed ?_; (repeat (first | refine RW.ro bq_tt (h := ?_) | refine RW.skip (h := ?_) | refine RW.op bq_tt (h := ?_) | refine RW.opN bq_tt (h := ?_) | refine RW.skip0 (h := ?_))); refine RW.nil ⟨conf_of (by kernel_rfl), Pruned.mk (h := ?_)⟩)
  refine SW.seq (SW.seq ?_)
  (refine SW.regL [0, 1, 2, 6, 7, 8, 9, 10, 11, 12, 13, 14, 15, 16, 17, 18, 19, 20, 42, 48, 57, 113] mixed ?_; (repeat (first | refine RW.ro bq_tt (h := ?_) | refine RW.skip (h := ?_) | refine RW.op bq_tt (h := ?_) | refine RW.opN bq_tt (h := ?_) | refine RW.skip0 (h := ?_))); refine RW.nil ⟨conf_of (by kernel_rfl), Pruned.mk (h := ?_)⟩)
  have mz : mapE Dt.cells ov ([] : MM Dt OpD) = [] := rfl
  have vz : vals ([] : MM Dt OpD) = [] := rfl
  have a1 : ∀ h, SV.rens id (bfc m h 1) = bfc m h 1 := fun h => bfc.ren _ _ _ _
  have a2 : ∀ h, SV.oks (fun n => decide (n < 4)) (bfc m h 1) = true := fun h => bfc.ok _ _ _ _ rfl
  have a3 : ∀ h l, SV.rens id (rqc m h (ops l)) = rqc m h (ops l) := fun h l => rqc.ren _ _ _ _
  have a4 : ∀ h l, SV.oks (fun n => decide (n < 4)) (rqc m h (ops l)) = true := fun h l => rqc.ok _ _ _ rfl
  have a5 : ∀ h, SV.rens (fun n => if n = 2 then 5 else if n = 1 then 4 else n) (bfc m h 1) = bfc m h 4 := fun h => bfc.ren _ _ _ _
  have a6 : ∀ h l, SV.rens (fun n => if n = 2 then 5 else if n = 1 then 4 else n) (rqc m h (ops l)) = rqc m h (ops l) := fun h l => rqc.ren _ _ _ _
  have a7 := fun Y : MM Dt OpD => omap_ren (fun n => if n = 2 then 5 else if n = 1 then 4 else n) Y
  have a8 := fun Y : MM Dt OpD => omap_ok (fun n => decide (n < 4)) Y
  refine SW.block ?_
  have i0 : PlI m l 0 [] Vec.zero [] 0 := ⟨by omega, by simp, Buf.new m1 m8⟩
  refine SW.loopA (α := {s : Nat × Nat × List OpD × Vec × MM Dt OpD × Nat // s.1 ≤ b.length ∧ s.1 ≤ 40 ∧ PlI m l s.2.1 s.2.2.1 s.2.2.2.1 s.2.2.2.2.1 s.2.2.2.2.2}) (fun s => ⟨[(12, i64 s.1.1), (11, i64 s.1.2.1), (9, .ptr 3 0), (7, .ptr 2 0), (2, bytes b), (1, ops l)], [(3, .box 48 (rqc m s.1.2.2.2.1 (ops (vals s.1.2.2.2.2.1)))), (2, .box 58 (bfc m s.1.2.2.2.1 1)), (1, .map (mapE Dt.cells ov s.1.2.2.2.2.1) s.1.2.2.2.2.2)], 4⟩) (fun s => b.length - s.1.1) ⟨(0, 0, [], Vec.zero, [], 0), by omega, by omega, i0⟩ id (And.intro mz (And.intro vz (And.intro (a1 Vec.zero) (And.intro (a2 Vec.zero) (And.intro (a3 Vec.zero []) (a4 Vec.zero [])))))) (round := ?_)
  rintro ⟨⟨i, at_, S, has, M, c⟩, hi, hi2, hI⟩
  dsimp only at hi hi2 hI ⊢
  refine SW.seq (SW.seq ?_)
  by_cases h : i < b.length ∧ i < 40
  · have h1 : decide ((i : Int) < b.length) = true := by simp only [decide_eq_true_eq]; omega
    have h2 : decide ((i : Int) < 40) = true := by simp only [decide_eq_true_eq]; omega
    obtain ⟨x, hx⟩ := get_of_lt h.1
    have hx2 := hb0 x (List.mem_of_getElem? hx)
    have hatl := hI.le
    have e1 : (x : Int).tmod 10 = ((x % 10 : Nat) : Int) := (Int.ofNat_tmod x 10).symm
    have e2 : IntKind.u8.wrap ((x % 10 : Nat) : Int) = ((x % 10 : Nat) : Int) := wrap_u8' _ (by omega)
    have e3 : IntKind.i64.wrap ((x % 10 : Nat) : Int) = ((x % 10 : Nat) : Int) := wrap_i64 _ (by omega)
    have e4 : IntKind.i64.wrap ((at_ : Int) + ((x % 10 : Nat) : Int)) = ((at_ + x % 10 : Nat) : Int) := by rw [← Int.natCast_add]; exact wrap_i64 _ (by omega)
    have e5 : IntKind.i64.wrap ((at_ + x % 10 : Nat) : Int) = ((at_ + x % 10 : Nat) : Int) := wrap_i64 _ (by omega)
    obtain ⟨kk, hkk⟩ : ∃ kk : Nat, kk = min (at_ + x % 10) l.length := ⟨_, rfl⟩
    have k1 : at_ ≤ kk := by omega
    have k2 : kk ≤ l.length := by omega
    have e6 : (if (l.length : Int) < ((at_ + x % 10 : Nat) : Int) then (l.length : Int) else ((at_ + x % 10 : Nat) : Int)) = (kk : Int) := by split <;> omega
    (refine SW.regL [0, 1, 2, 6, 7, 8, 9, 10, 11, 12, 13, 14, 15, 16, 17, 18, 19, 20, 42, 48, 57, 113] mixed ?_; (repeat (first | refine RW.ro (And.intro (h1) (h2)) (h := ?_) | refine RW.skip (h := ?_) | refine RW.op (And.intro (h1) (h2)) (h := ?_) | refine RW.opN (And.intro (h1) (h2)) (h := ?_) | refine RW.skip0 (h := ?_))); refine RW.nil ⟨conf_of (by kernel_rfl), Pruned.mk (h := ?_)⟩)
    refine SW.condT rfl (SW.skip (SW.seq (SW.block (SW.seq ?_))))
    (have fx := (And.intro (byte_at hx) (And.intro (byte_len) (And.intro (e1) (And.intro (e2) (And.intro (e3) (And.intro (e4) (And.intro (e5) (e6)))))))); refine SW.regL [0, 1, 2, 6, 7, 8, 9, 10, 11, 12, 13, 14, 15, 16, 17, 18, 19, 20, 42, 48, 57, 113] mixed ?_; (repeat (first | refine RW.ro fx (h := ?_) | refine RW.skip (h := ?_) | refine RW.op fx (h := ?_) | refine RW.opN fx (h := ?_) | refine RW.skip0 (h := ?_))); refine RW.nil ⟨conf_of (by kernel_rfl), Pruned.mk (h := ?_)⟩)
    clear e4 e5 e6 hkk
    have hlS := hI.slen
    have hMl := hI.buf.len
    have hsg : ∀ o, o ∈ (l.drop at_).take (kk - at_) → o ∈ l := fun o ho => List.mem_of_mem_drop (List.mem_of_mem_take ho)
    have hsl : ((l.drop at_).take (kk - at_)).length ≤ 80 := by rw [List.length_take, List.length_drop]; omega
    have hpx := hl.put (m := (l.drop at_).take (kk - at_)) (by omega) hsg
    have hmid := ops_mid l k1 k2
    have hkx : ∀ o, o ∈ (l.drop at_).take (kk - at_) → o.kind < 256 := fun o ho => hkd o (hsg o ho)
    have hR := hI.rin hl80
    have wA := hI.buf.wait (by omega)
    have hln : ∀ o, o ∈ vals M → LnS o := fun o ho => hI.buf.lns (hI.buf.mem ho)
    have c1 : SCd Tryd.prog buffer_Buffer_Copy.f [.ptr 2 0] (bH 2 1 m has M c) 4 2 (.ptr 5 0) ((5, .box 58 (bfc m has 4)) :: (4, .map (mapE Dt.cells ov M) c) :: bH 2 1 m has M c) := copy_at m has M c 2 1 (by decide) 4
    have c2 := fun k => same11_at m has M c wA hln m (vals M) (by rw [vals_len]; omega) (sortedR_eq hI.buf.wb.uniq) 2 1 (by decide) k
    have e7 : IntKind.i64.wrap ((i : Int) + 1) = ((i + 1 : Nat) : Int) := wrap_i64 _ (by omega)
    have k3 : at_ ≤ l.length := hatl
    simp only [bH] at c1 c2
    refine SW.seq ?_
    (refine SW.regL [0, 1, 2, 6, 7, 8, 9, 10, 11, 12, 13, 14, 15, 16, 17, 18, 19, 20, 42, 48, 57, 113] mixed ?_; (repeat (first | refine RW.ro bq_tt (h := ?_) | refine RW.skip (h := ?_) | refine RW.op bq_tt (h := ?_) | refine RW.opN bq_tt (h := ?_) | refine RW.skip0 (h := ?_) | (refine RW.callC (h := ?_); (first | refine CallP.mk bq_tt (hc := c1) (h := ?_))))); refine RW.nil ⟨conf_of (by kernel_rfl), Pruned.mk (h := ?_)⟩)
    refine SW.seq ?_
    (have fx := (And.intro (g1) (And.intro (t10) (And.intro (o1) (sz)))); refine SW.regL [0, 1, 2, 6, 7, 8, 9, 10, 11, 12, 13, 14, 15, 16, 17, 18, 19, 20, 42, 48, 57, 113] mixed ?_; (repeat (first | refine RW.ro fx (h := ?_) | refine RW.skip (h := ?_) | refine RW.op fx (h := ?_) | refine RW.opN fx (h := ?_) | refine RW.skip0 (h := ?_))); refine RW.nil ⟨conf_of (by kernel_rfl), Pruned.mk (h := ?_)⟩)
    rcases hb : ((l.drop at_).take (kk - at_)).any (badF m) with _ | _
    case true =>
      have q1 := fun k => put_wrong m8 hI.buf.hv wA hpx 5 4 (by decide) k hb
      have q2 := fun k => rputx_at m has (vals M) _ hpx (by omega) hkx hb k
      have q3 := fun k => same11_at m has M c wA hln m (vals M) (by rw [vals_len]; omega) (sortedR_eq hI.buf.wb.uniq) 5 4 (by decide) k
      have q4 : ∀ k, SCd Tryd.prog ref05_SameAll.f [.d (.sl 0 []), .d (.sl 0 [])] [] k 0 (bl true) [] := fun k => sameA_at [] (by simp) (by simp) k
      rw [hmid] at q1 q2
      simp only [bH] at q1 q3
      refine SW.seq ?_
      (refine SW.regL [0, 1, 2, 6, 7, 8, 9, 10, 11, 12, 13, 14, 15, 16, 17, 18, 19, 20, 42, 48, 57, 113] mixed ?_; (repeat (first | refine RW.ro (And.intro (k1) (k2)) (h := ?_) | refine RW.skip (h := ?_) | refine RW.op (And.intro (k1) (k2)) (h := ?_) | refine RW.opN (And.intro (k1) (k2)) (h := ?_) | refine RW.skip0 (h := ?_) | (refine RW.callC (h := ?_); (first | refine CallP.mk (And.intro (k1) (k2)) (hc := q1 _) (h := ?_))))); refine RW.nil ⟨conf_of (by kernel_rfl), Pruned.mk (h := ?_)⟩)
      refine SW.nils 16 rfl ?_
      refine SW.seq ?_
      (have fx := (And.intro (k1) (And.intro (k2) (And.intro (g1) (And.intro (t10) (And.intro (o1) (sz)))))); refine SW.regL [0, 1, 2, 6, 7, 8, 9, 10, 11, 12, 13, 14, 15, 16, 17, 18, 19, 20, 42, 48, 57, 113] mixed ?_; (repeat (first | refine RW.ro fx (h := ?_) | refine RW.skip (h := ?_) | refine RW.op fx (h := ?_) | refine RW.opN fx (h := ?_) | refine RW.skip0 (h := ?_) | (refine RW.callC (h := ?_); (first | refine CallP.mk fx (hc := q2 _) (h := ?_))))); refine RW.nil ⟨conf_of (by kernel_rfl), Pruned.mk (h := ?_)⟩)
      refine SW.nils 19 rfl ?_
      refine SW.seq (SW.seq ?_)
      (refine SW.regL [0, 1, 2, 6, 7, 8, 9, 10, 11, 12, 13, 14, 15, 16, 17, 18, 19, 20, 42, 48, 57, 113] mixed ?_; (repeat (first | refine RW.ro (And.intro (g1) (t10)) (h := ?_) | refine RW.skip (h := ?_) | refine RW.op (And.intro (g1) (t10)) (h := ?_) | refine RW.opN (And.intro (g1) (t10)) (h := ?_) | refine RW.skip0 (h := ?_) | (refine RW.callC (h := ?_); (first | refine CallP.mk (And.intro (g1) (t10)) (hc := q4 _) (h := ?_) | refine CallP.mk (And.intro (g1) (t10)) (hc := q3 _) (h := ?_) | refine CallP.mk (And.intro (g1) (t10)) (hc := c2 _) (h := ?_))))); refine RW.nil ⟨conf_of (by kernel_rfl), Pruned.mk (h := ?_)⟩)
      refine SW.condF rfl (SW.skip (SW.seq ?_))
      (refine SW.regL [0, 1, 2, 6, 7, 8, 9, 10, 11, 12, 13, 14, 15, 16, 17, 18, 19, 20, 42, 48, 57, 113] mixed ?_; (repeat (first | refine RW.ro bq_tt (h := ?_) | refine RW.skip (h := ?_) | refine RW.op bq_tt (h := ?_) | refine RW.opN bq_tt (h := ?_) | refine RW.skip0 (h := ?_))); refine RW.nil ⟨conf_of (by kernel_rfl), Pruned.mk (h := ?_)⟩)
      refine SW.seq ?_
      (have fx := (And.intro (g1) (And.intro (t10) (And.intro (o1) (sq)))); refine SW.regL [0, 1, 2, 6, 7, 8, 9, 10, 11, 12, 13, 14, 15, 16, 17, 18, 19, 20, 42, 48, 57, 113] mixed ?_; (repeat (first | refine RW.ro fx (h := ?_) | refine RW.skip (h := ?_) | refine RW.op fx (h := ?_) | refine RW.opN fx (h := ?_) | refine RW.skip0 (h := ?_))); refine RW.nil ⟨conf_of (by kernel_rfl), Pruned.mk (h := ?_)⟩)
      (refine SW.regL [0, 1, 2, 6, 7, 8, 9, 10, 11, 12, 13, 14, 15, 16, 17, 18, 19, 20, 42, 48, 57, 113] mixed ?_; (repeat (first | refine RW.ro bq_tt (h := ?_) | refine RW.skip (h := ?_) | refine RW.op bq_tt (h := ?_) | refine RW.opN bq_tt (h := ?_) | refine RW.skip0 (h := ?_))); refine RW.nil ⟨conf_of (by kernel_rfl), Pruned.mk (h := ?_)⟩)
      (refine SW.regL [0, 1, 2, 6, 7, 8, 9, 10, 11, 12, 13, 14, 15, 16, 17, 18, 19, 20, 42, 48, 57, 113] mixed ?_; (repeat (first | refine RW.ro (e7) (h := ?_) | refine RW.skip (h := ?_) | refine RW.op (e7) (h := ?_) | refine RW.opN (e7) (h := ?_) | refine RW.skip0 (h := ?_))); refine RW.nil ⟨conf_of (by kernel_rfl), Pruned.mk (h := ?_)⟩)
      refine ⟨⟨(i + 1, kk, S, has, M, c), by show i + 1 ≤ b.length; omega, by show i + 1 ≤ 40; omega, ⟨k2, hI.sub, hI.buf⟩⟩, fun n => if n = 2 then 5 else if n = 1 then 4 else n, by show b.length - (i + 1) < b.length - i; omega, ?_⟩
      exact Weak.mk (And.intro (a5 has) (And.intro (a6 has (vals M)) (And.intro (a7 M) (And.intro (a8 M) (And.intro (a2 has) (a4 has (vals M)))))))
    obtain ⟨hB, dB⟩ := hI.buf.put hpx hb
    have hI2 : PlI m l kk _ _ _ _ := ⟨k2, fun o ho => (fstO_all ho).elim (hI.sub o) (hsg o), hB⟩
    have hlS2 := hI2.slen
    have q1 := fun k => put_good m8 hI.buf.hv wA hpx 5 4 (by decide) k hb
    have q2 := fun k => rput_at m has (vals M) hR _ hpx (by omega) hkx hb k
    have hpr := (putR_ok (has := has) (X := (M, c)) hI.buf.wb ((l.drop at_).take (kk - at_))).2
    dsimp only at hpr
    rw [← hpr] at q2
    have wB := hB.wait (by omega)
    have hMB := hB.len
    have q3 := fun k => same11_at m (putR has (M, c) ((l.drop at_).take (kk - at_))).2.1 _ _ wB (fun o ho => hB.lns (hB.mem ho)) m _ (by rw [vals_len]; omega) (sortedR_eq hB.wb.uniq) 5 4 (by decide) k
    have dl := drained_len dB
    have q4 := fun k => sameA_at (putR has (M, c) ((l.drop at_).take (kk - at_))).1 (by omega) (fun x hx => .inr (hB.lns ((dB.mem x).1 hx).1).1) k
    clear hpr
    rw [hmid] at q1 q2
    dsimp only at q1 q2 q3 q4
    generalize putR has (M, c) ((l.drop at_).take (kk - at_)) = RB at *
    generalize (putMs has (M, c) ((l.drop at_).take (kk - at_))).2 = cB at *
    obtain ⟨y, vB, MB⟩ := RB
    dsimp only at *
    simp only [bH] at q1 q3
    refine SW.seq ?_
    (refine SW.regL [0, 1, 2, 6, 7, 8, 9, 10, 11, 12, 13, 14, 15, 16, 17, 18, 19, 20, 42, 48, 57, 113] mixed ?_; (repeat (first | refine RW.ro (And.intro (k1) (k2)) (h := ?_) | refine RW.skip (h := ?_) | refine RW.op (And.intro (k1) (k2)) (h := ?_) | refine RW.opN (And.intro (k1) (k2)) (h := ?_) | refine RW.skip0 (h := ?_) | (refine RW.callC (h := ?_); (first | refine CallP.mk (And.intro (k1) (k2)) (hc := q1 _) (h := ?_))))); refine RW.nil ⟨conf_of (by kernel_rfl), Pruned.mk (h := ?_)⟩)
    refine SW.seq ?_
    (have fx := (And.intro (k1) (And.intro (k2) (And.intro (g1) (And.intro (t10) (And.intro (o1) (sz)))))); refine SW.regL [0, 1, 2, 6, 7, 8, 9, 10, 11, 12, 13, 14, 15, 16, 17, 18, 19, 20, 42, 48, 57, 113] mixed ?_; (repeat (first | refine RW.ro fx (h := ?_) | refine RW.skip (h := ?_) | refine RW.op fx (h := ?_) | refine RW.opN fx (h := ?_) | refine RW.skip0 (h := ?_) | (refine RW.callC (h := ?_); (first | refine CallP.mk fx (hc := q2 _) (h := ?_))))); refine RW.nil ⟨conf_of (by kernel_rfl), Pruned.mk (h := ?_)⟩)
    refine SW.seq (SW.seq ?_)
    (refine SW.regL [0, 1, 2, 6, 7, 8, 9, 10, 11, 12, 13, 14, 15, 16, 17, 18, 19, 20, 42, 48, 57, 113] mixed ?_; (repeat (first | refine RW.ro (And.intro (g1) (t10)) (h := ?_) | refine RW.skip (h := ?_) | refine RW.op (And.intro (g1) (t10)) (h := ?_) | refine RW.opN (And.intro (g1) (t10)) (h := ?_) | refine RW.skip0 (h := ?_) | (refine RW.callC (h := ?_); (first | refine CallP.mk (And.intro (g1) (t10)) (hc := q4 _) (h := ?_) | refine CallP.mk (And.intro (g1) (t10)) (hc := q3 _) (h := ?_) | refine CallP.mk (And.intro (g1) (t10)) (hc := c2 _) (h := ?_))))); refine RW.nil ⟨conf_of (by kernel_rfl), Pruned.mk (h := ?_)⟩)
    refine SW.condF rfl (SW.skip (SW.seq ?_))
    (refine SW.regL [0, 1, 2, 6, 7, 8, 9, 10, 11, 12, 13, 14, 15, 16, 17, 18, 19, 20, 42, 48, 57, 113] mixed ?_; (repeat (first | refine RW.ro bq_tt (h := ?_) | refine RW.skip (h := ?_) | refine RW.op bq_tt (h := ?_) | refine RW.opN bq_tt (h := ?_) | refine RW.skip0 (h := ?_))); refine RW.nil ⟨conf_of (by kernel_rfl), Pruned.mk (h := ?_)⟩)
    refine SW.seq ?_
    (have fx := (And.intro (g1) (And.intro (t10) (And.intro (o1) (sq)))); refine SW.regL [0, 1, 2, 6, 7, 8, 9, 10, 11, 12, 13, 14, 15, 16, 17, 18, 19, 20, 42, 48, 57, 113] mixed ?_; (repeat (first | refine RW.ro fx (h := ?_) | refine RW.skip (h := ?_) | refine RW.op fx (h := ?_) | refine RW.opN fx (h := ?_) | refine RW.skip0 (h := ?_))); refine RW.nil ⟨conf_of (by kernel_rfl), Pruned.mk (h := ?_)⟩)
    (refine SW.regL [0, 1, 2, 6, 7, 8, 9, 10, 11, 12, 13, 14, 15, 16, 17, 18, 19, 20, 42, 48, 57, 113] mixed ?_; (repeat (first | refine RW.ro bq_tt (h := ?_) | refine RW.skip (h := ?_) | refine RW.op bq_tt (h := ?_) | refine RW.opN bq_tt (h := ?_) | refine RW.skip0 (h := ?_))); refine RW.nil ⟨conf_of (by kernel_rfl), Pruned.mk (h := ?_)⟩)
    (refine SW.regL [0, 1, 2, 6, 7, 8, 9, 10, 11, 12, 13, 14, 15, 16, 17, 18, 19, 20, 42, 48, 57, 113] mixed ?_; (repeat (first | refine RW.ro (e7) (h := ?_) | refine RW.skip (h := ?_) | refine RW.op (e7) (h := ?_) | refine RW.opN (e7) (h := ?_) | refine RW.skip0 (h := ?_))); refine RW.nil ⟨conf_of (by kernel_rfl), Pruned.mk (h := ?_)⟩)
    refine ⟨⟨(i + 1, kk, _, vB, MB, cB), by show i + 1 ≤ b.length; omega, by show i + 1 ≤ 40; omega, hI2⟩, fun n => if n = 2 then 5 else if n = 1 then 4 else n, by show b.length - (i + 1) < b.length - i; omega, ?_⟩
    exact Weak.mk (And.intro (a5 vB) (And.intro (a6 vB (vals MB)) (And.intro (a7 MB) (And.intro (a8 MB) (And.intro (a2 vB) (a4 vB (vals MB)))))))
  by_cases h1 : i < b.length
  · have h2 : decide ((i : Int) < b.length) = true := by simp only [decide_eq_true_eq]; omega
    have h3 : decide ((i : Int) < 40) = false := by simp only [decide_eq_false_iff_not]; omega
    (refine SW.regL [0, 1, 2, 6, 7, 8, 9, 10, 11, 12, 13, 14, 15, 16, 17, 18, 19, 20, 42, 48, 57, 113] mixed ?_; (repeat (first | refine RW.ro (And.intro (h2) (h3)) (h := ?_) | refine RW.skip (h := ?_) | refine RW.op (And.intro (h2) (h3)) (h := ?_) | refine RW.opN (And.intro (h2) (h3)) (h := ?_) | refine RW.skip0 (h := ?_))); refine RW.nil ⟨conf_of (by kernel_rfl), Pruned.mk (h := ?_)⟩)
    refine SW.condF rfl (SW.exit (SW.seq ?_))
    (refine SW.regL [0, 1, 2, 6, 7, 8, 9, 10, 11, 12, 13, 14, 15, 16, 17, 18, 19, 20, 42, 48, 57, 113] mixed ?_; (repeat (first | refine RW.ro bq_tt (h := ?_) | refine RW.skip (h := ?_) | refine RW.op bq_tt (h := ?_) | refine RW.opN bq_tt (h := ?_) | refine RW.skip0 (h := ?_) | (refine RW.callC (h := ?_); (first | refine CallP.mk bq_tt (hc := head11_at _) (h := ?_))))); refine RW.nil ⟨conf_of (by kernel_rfl), Pruned.mk (h := ?_)⟩)
    refine SW.ret ?_
    exact End.mk [] (h4 := ⟨rfl, rfl⟩)
  have h2 : decide ((i : Int) < b.length) = false := by simp only [decide_eq_false_iff_not]; omega
  (refine SW.regL [0, 1, 2, 6, 7, 8, 9, 10, 11, 12, 13, 14, 15, 16, 17, 18, 19, 20, 42, 48, 57, 113] mixed ?_; (repeat (first | refine RW.ro (h2) (h := ?_) | refine RW.skip (h := ?_) | refine RW.op (h2) (h := ?_) | refine RW.opN (h2) (h := ?_) | refine RW.skip0 (h := ?_))); refine RW.nil ⟨conf_of (by kernel_rfl), Pruned.mk (h := ?_)⟩)
  refine SW.condF rfl (SW.exit (SW.seq ?_))
  (refine SW.regL [0, 1, 2, 6, 7, 8, 9, 10, 11, 12, 13, 14, 15, 16, 17, 18, 19, 20, 42, 48, 57, 113] mixed ?_; (repeat (first | refine RW.ro bq_tt (h := ?_) | refine RW.skip (h := ?_) | refine RW.op bq_tt (h := ?_) | refine RW.opN bq_tt (h := ?_) | refine RW.skip0 (h := ?_) | (refine RW.callC (h := ?_); (first | refine CallP.mk bq_tt (hc := head11_at _) (h := ?_))))); refine RW.nil ⟨conf_of (by kernel_rfl), Pruned.mk (h := ?_)⟩)
  refine SW.ret ?_
  exact End.mk [] (h4 := ⟨rfl, rfl⟩)
end Go.Proofs.YtnakpdoioammhaaDoor
