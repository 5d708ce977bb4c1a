/-
  Trees of credentials: the document's chains, those above, all of a cart.
-/
import Derived.Test.YtlgfknfdfnaedaaGreatU6
import Derived.Test.YtlgfknfdfnaedaaGreatUJ
import Derived.Test.YtlgfknfdfnaedaaGreatUB
import Derived.Test.YtlgfknfdfnaedaaGreatUE
import Derived.Test.YtlgfknfdfnaedaaGreatU5
set_option linter.unusedSectionVars false
set_option linter.unusedVariables false
set_option linter.unusedSimpArgs false
namespace Go.Proofs.YtlgfknfdfnaedaaGreat
open Go.Sl Go.Proofs
attribute [local irreducible] SW RW SCd SC CallP Pruned
theorem chainYes {a : MM Dt Cr} {d : Dt} {L : List Cr} {c : Cr} (hg : MM.get a d = some c) : chainR a d L = .tup [dots (L.map (·.dot)), .d (.int .i64 0)] := by
  unfold chainR MM.has
  rw [hg]
  simp [dots]
theorem chainNo {a : MM Dt Cr} {d : Dt} {L : List Cr} (hg : MM.get a d = none) : chainR a d L = .tup [.d .nils, .d (.int .i64 7)] := by
  unfold chainR MM.has
  rw [hg]; rfl
section
variable {l : List OpD} (hlen : l.length < 4611686018427387904) (hl : ∀ x, x ∈ l → x.roles < 256) {T : Tr} (h : TOk l T)
include hlen hl h
theorem rgetYes {d : Dt} {c : Cr} (hg : MM.get T.at_ d = some c) (k : Nat) : SCd Tryz.prog ref16_Get.f [ops l, .agg d.cells] [] k 0 (.tup [.agg c.cells, .d (.bool true)]) [] := by
  have := rGet_at hlen hl d k
  rw [(h.get d).2 c hg] at this; exact this
theorem rgetNo {d : Dt} (hg : MM.get T.at_ d = none) (k : Nat) : SCd Tryz.prog ref16_Get.f [ops l, .agg d.cells] [] k 0 (.tup [.agg (getR l 10 d).1.cells, .d (.bool false)]) [] := by
  have := rGet_at hlen hl d k
  have e := (h.get d).1
  unfold MM.has at e
  rw [hg] at e
  rw [e] at this; exact this
set_option maxHeartbeats 4000000 in
theorem rchain_ok (d : Dt) (L : List Cr) (hL : Ups T.at_ (MM.get T.at_ d) L) (hlL : L.length < 1000000) : Go.Sl.Pure Tryz.prog ref16_Chain.f [ops l, .agg d.cells] (chainR T.at_ d L) := by
  cases hg : MM.get T.at_ d with
  | none =>
    rw [chainNo hg]
    have hr := rgetNo hlen hl h hg
    refine ref16_Chain.enter (by first | rfl | simp [SV.ok, SV.oks]) (by first | rfl | simp [Hp.ok, Ob.ok, SV.ok, SV.oks, Vec.cells_ok]) (by simp) ?_
    dsimp only [ref16_Chain.s, Co.M, Co.G, Co.J, Co.H, Co.N, Co.F, Co.C, Co.Z, Co.B, Co.b8, Co.b32, Co.b64, Co.i6, Co.z8, Co.z29]
    (repeat (first | refine SW.seq ?_ | refine SW.block ?_ | refine SW.g1 [0, 1, 3, 4, 5, 6, 7, 8, 16, 21] mixed bq_tt hr ?_ | refine SW.skip ?_ | refine SW.exit ?_ | refine SW.ret ?_ | refine SW.condT rfl ?_ | refine SW.condF rfl ?_))
    exact End.mk [] (h4 := ⟨rfl, rfl⟩)
  | some c =>
    rw [chainYes hg]
    have hr := rgetYes hlen hl h hg
    have hc0 : L[0]? = some c := by rw [hg] at hL; exact hL.head
    refine ref16_Chain.enter (by first | rfl | simp [SV.ok, SV.oks]) (by first | rfl | simp [Hp.ok, Ob.ok, SV.ok, SV.oks, Vec.cells_ok]) (by simp) ?_
    dsimp only [ref16_Chain.s, Co.M, Co.G, Co.J, Co.H, Co.N, Co.F, Co.C, Co.Z, Co.B, Co.b8, Co.b32, Co.b64, Co.i6, Co.z8, Co.z29]
    refine SW.seq ?_
    refine SW.g1 [0, 1, 3, 4, 5, 6, 7, 8, 16, 21] mixed bq_tt hr ?_
    refine SW.seq ?_
    refine SW.g1 [0, 1, 3, 4, 5, 6, 7, 8, 16, 21] mixed bq_tt hr ?_
    refine SW.seq (SW.seq ?_)
    refine SW.g1 [0, 1, 3, 4, 5, 6, 7, 8, 16, 21] mixed bq_tt hr ?_
    refine SW.condF rfl (SW.skip ?_)
    refine SW.seq ?_
    (refine SW.regL [0, 1, 3, 4, 5, 6, 7, 8, 16, 21] mixed ?_; (repeat (first | refine RW.lit bq_tt (h := ?_) | refine RW.ro bq_tt (h := ?_) | refine RW.skip (h := ?_) | refine RW.op bq_tt (h := ?_) | refine RW.opN bq_tt (h := ?_) | refine RW.skip0 (h := ?_))); refine RW.nil ⟨by kernel_rfl, Pruned.mk (h := ?_)⟩)
    refine SW.seq (SW.block ?_)
    have e0 : (L.take 1).map (·.dot) = [d] := by
      have : L.take 1 = [c] := by
        cases L with
        | nil => cases hc0
        | cons x M => simp at hc0; simp [hc0]
      rw [this]; simp [h.dotIs hg]
    refine SW.loopA (α := {j : Nat × Cr // L[j.1]? = some j.2}) (fun j => ⟨[(8, .gs 2 (j.1.1 + 1)), (0, ops l), (6, .ptr 1 0)], [(2, .arr 25 2 (j.1.1 + 1) ((((L.take (j.1.1 + 1)).map (·.dot)).flatMap Dt.ds).map .d)), (1, .box 83 j.1.2.cells)], 3⟩) (fun j => L.length - j.1.1) ⟨(0, c), hc0⟩ id (And.intro e0 (And.intro (Dt.map_ds d) (fun q : Nat → Bool => Cr.cells_ok c q))) (round := ?_)
    rintro ⟨⟨j, x⟩, hx⟩
    dsimp only at hx ⊢
    have hjl := lt_of_get hx
    by_cases hpos : 0 < x.level
    · have h1 : decide (x.level > 0) = true := decide_eq_true hpos
      obtain ⟨o, p, q, _, _, hp, _⟩ := h.above (h.upsGet hL x (List.mem_of_getElem? hx)) hpos
      have hj2 : j + 1 < L.length := by
        refine Classical.byContradiction fun hn => ?_
        have he : j = L.length - 1 := by omega
        have := (h.upsEnd hL (x := x) (by rw [← he]; exact hx)).1
        omega
      obtain ⟨y, hy⟩ := get_of_lt hj2
      have hpy : p = y := by
        have := (hL.next j x y hx hy).2
        rw [hp] at this; injection this
      subst hpy
      have hr2 := rgetYes hlen hl h hp
      have e1 : (L.take (j + 1 + 1)).map (·.dot) = (L.take (j + 1)).map (·.dot) ++ [x.par] := by
        rw [take_snoc hy, List.map_append]; simp [h.dotIs hp]
      have edt : ∀ d : Dt, datas d.cells = some d.ds := fun _ => rfl
      refine SW.seq (SW.seq ?_)
      refine SW.g1 [0, 1, 3, 4, 5, 6, 7, 8, 16, 21] mixed (h1) hr2 ?_
      refine SW.condT rfl (SW.skip ?_)
      refine SW.block (SW.seq ?_)
      refine SW.g1 [0, 1, 3, 4, 5, 6, 7, 8, 16, 21] mixed (edt) hr2 ?_
      refine SW.g1 [0, 1, 3, 4, 5, 6, 7, 8, 16, 21] mixed bq_tt hr2 ?_
      dsimp only
      refine ⟨⟨(j + 1, p), hy⟩, fun n => if n = 2 then 3 else n, by show L.length - (j + 1) < L.length - j; omega, ?_⟩
      exact Weak.mk (And.intro e1 (And.intro (Dt.map_ds x.par) bq_tt))
    · have h1 : decide (x.level > 0) = false := decide_eq_false hpos
      have hlast : j + 1 = L.length := by
        refine Classical.byContradiction fun hn => ?_
        obtain ⟨y, hy⟩ := get_of_lt (show j + 1 < L.length by omega)
        exact hpos (hL.next j x y hx hy).1
      refine SW.seq (SW.seq ?_)
      refine SW.g0 [0, 1, 3, 4, 5, 6, 7, 8, 16, 21] mixed (h1) ?_
      refine SW.condF rfl (SW.exit ?_)
      rw [hlast, List.take_length]
      refine SW.seq ?_
      refine SW.g0 [0, 1, 3, 4, 5, 6, 7, 8, 16, 21] mixed bq_tt ?_
      refine SW.freeze 2 ((L.map (·.dot)).flatMap Dt.ds) rfl rfl (SW.ret ?_)
      exact End.mk [] (h4 := ⟨by simp [retV, SV.frz], rfl⟩) (h5 := by simp [retV, SV.frz, SV.ok, SV.oks])
theorem rchain_at (d : Dt) (L : List Cr) (hL : Ups T.at_ (MM.get T.at_ d) L) (hlL : L.length < 1000000) (k : Nat) : SCd Tryz.prog ref16_Chain.f [ops l, .agg d.cells] [] k 0 (chainR T.at_ d L) [] := (rchain_ok hlen hl h d L hL hlL).sc (by unfold chainR; split <;> rfl) k
theorem aboveR_in (e d : Dt) (L : List Cr) : aboveR T.at_ e d L = (!decide (e = d) && decide (e ∈ L.map (·.dot))) := by
  unfold aboveR
  congr 1
  rw [Bool.eq_iff_iff, List.any_eq_true, decide_eq_true_eq, List.mem_map]
  constructor
  · rintro ⟨x, hx, e⟩; exact ⟨x, hx, by simpa using e⟩
  · rintro ⟨x, hx, e⟩; exact ⟨x, hx, by simpa using e⟩
theorem rabove_ok (e d : Dt) (L : List Cr) (hL : Ups T.at_ (MM.get T.at_ d) L) (hlL : L.length < 1000000) : Go.Sl.Pure Tryz.prog ref16_Above.f [ops l, .agg e.cells, .agg d.cells] (.d (.bool (aboveR T.at_ e d L))) := by
  have hc := rchain_at hlen hl h d L hL hlL
  cases hg : MM.get T.at_ d with
  | none =>
    rw [chainNo hg] at hc
    have e0 : aboveR T.at_ e d L = false := by
      rw [hg] at hL; cases hL; unfold aboveR; simp
    rw [e0]
    refine ref16_Above.enter (by first | rfl | simp [SV.ok, SV.oks]) (by first | rfl | simp [Hp.ok, Ob.ok, SV.ok, SV.oks, Vec.cells_ok]) (by simp) ?_
    dsimp only [ref16_Above.s, Co.M, Co.G, Co.J, Co.H, Co.N, Co.F, Co.C, Co.Z, Co.B, Co.b8, Co.b32, Co.b64, Co.i6, Co.z8, Co.z29]
    (repeat (first | refine SW.seq ?_ | refine SW.block ?_ | refine SW.g1 [0, 1, 2, 4, 5, 6, 7, 8, 16] mixed bq_tt hc ?_ | refine SW.skip ?_ | refine SW.exit ?_ | refine SW.ret ?_ | refine SW.condT rfl ?_ | refine SW.condF rfl ?_))
    exact End.mk [] (h4 := ⟨rfl, rfl⟩)
  | some c =>
    rw [chainYes hg] at hc
    rw [aboveR_in hlen hl h]
    have hD : (L.map (·.dot)).length = L.length := List.length_map ..
    generalize L.map (·.dot) = D at hc hD
    have hi := rin_at D e (by omega)
    rcases he : decide (e = d) with _ | _
    · skip
      refine ref16_Above.enter (by first | rfl | simp [SV.ok, SV.oks]) (by first | rfl | simp [Hp.ok, Ob.ok, SV.ok, SV.oks, Vec.cells_ok]) (by simp) ?_
      dsimp only [ref16_Above.s, Co.M, Co.G, Co.J, Co.H, Co.N, Co.F, Co.C, Co.Z, Co.B, Co.b8, Co.b32, Co.b64, Co.i6, Co.z8, Co.z29]
      (repeat (first | refine SW.seq ?_ | refine SW.block ?_ | refine SW.g2 [0, 1, 2, 4, 5, 6, 7, 8, 16] mixed (he) hc hi ?_ | refine SW.skip ?_ | refine SW.exit ?_ | refine SW.ret ?_ | refine SW.condT rfl ?_ | refine SW.condF rfl ?_))
      exact End.mk [] (h4 := ⟨rfl, rfl⟩)
    · skip
      refine ref16_Above.enter (by first | rfl | simp [SV.ok, SV.oks]) (by first | rfl | simp [Hp.ok, Ob.ok, SV.ok, SV.oks, Vec.cells_ok]) (by simp) ?_
      dsimp only [ref16_Above.s, Co.M, Co.G, Co.J, Co.H, Co.N, Co.F, Co.C, Co.Z, Co.B, Co.b8, Co.b32, Co.b64, Co.i6, Co.z8, Co.z29]
      (repeat (first | refine SW.seq ?_ | refine SW.block ?_ | refine SW.g2 [0, 1, 2, 4, 5, 6, 7, 8, 16] mixed (he) hc hi ?_ | refine SW.skip ?_ | refine SW.exit ?_ | refine SW.ret ?_ | refine SW.condT rfl ?_ | refine SW.condF rfl ?_))
      exact End.mk [] (h4 := ⟨rfl, rfl⟩)
theorem rabove_at (e d : Dt) (L : List Cr) (hL : Ups T.at_ (MM.get T.at_ d) L) (hlL : L.length < 1000000) (k : Nat) : SCd Tryz.prog ref16_Above.f [ops l, .agg e.cells, .agg d.cells] [] k 0 (.d (.bool (aboveR T.at_ e d L))) [] := (rabove_ok hlen hl h e d L hL hlL).sc rfl k
end
end Go.Proofs.YtlgfknfdfnaedaaGreat
