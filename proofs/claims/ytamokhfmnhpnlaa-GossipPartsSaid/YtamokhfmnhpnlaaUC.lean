/-
  A region in one step whose order conditions want facts.
-/
import Derived.Test.YtamokhfmnhpnlaaUA
import Derived.Test.YtamokhfmnhpnlaaUB
set_option linter.unusedVariables false
set_option linter.unusedSimpArgs false
set_option linter.unusedSectionVars false
namespace Go.Sl
section
variable {P : Program} {N k0 : Nat} {st stF : St} {Q : Exit → St → Prop} {sis : List SI} {bs : List Nat} {draw : Bool} {Φ C X : Prop}
theorem SW.gK (L : List Nat) (hm : P.follows .mixedOrders = true) (φ : Φ) (κ : X) (cs : C) (h : Q .normal stF)
    (hr : Φ → X → C → RF P L sis bs draw st stF := by
      intro φ κ cs
      (repeat (first | refine RW.ro φ (h := ?_) | refine RW.skip (h := ?_) | refine RW.op φ (h := ?_) | refine RW.opN φ (h := ?_) | refine RW.skip0 (h := ?_) | (refine RW.callC (h := ?_); (first | refine CallP.mk φ (hc := cs.1) (h := ?_) | refine CallP.mk φ (hc := cs.1 _) (h := ?_) | refine CallP.mk φ (hs := cs.1.1) (hc := cs.1.2) (h := ?_) | refine CallP.mk φ (hc := cs.2.1) (h := ?_) | refine CallP.mk φ (hc := cs.2.1 _) (h := ?_) | refine CallP.mk φ (hs := cs.2.1.1) (hc := cs.2.1.2) (h := ?_) | refine CallP.mk φ (hc := cs.2.2.1) (h := ?_) | refine CallP.mk φ (hc := cs.2.2.1 _) (h := ?_) | refine CallP.mk φ (hs := cs.2.2.1.1) (hc := cs.2.2.1.2) (h := ?_) | refine CallP.mk φ (hc := cs.2.2.2.1) (h := ?_) | refine CallP.mk φ (hc := cs.2.2.2.1 _) (h := ?_) | refine CallP.mk φ (hs := cs.2.2.2.1.1) (hc := cs.2.2.2.1.2) (h := ?_)))))
      exact RW.nil ⟨conf_of (by simp [noConf2, all2, ordB, roOf, List.range, List.range.loop, κ] <;> (first | decide | (repeat (first | assumption | refine ⟨?_, ?_⟩ | exact .inl (by decide) | exact .inl (.inr (by decide)) | exact .inl (.inl (by decide)) | refine .inr ?_)))), Pruned.mk (h := rfl)⟩) : SW P N k0 (.reg sis bs draw) st Q := RF.sw hm (hr φ κ cs) h
end
end Go.Sl

/-
  A row of one's own, lent to a function that only reads it.
-/
set_option linter.unusedVariables false
set_option linter.unusedSimpArgs false
set_option linter.unusedSectionVars false
namespace Go.Sl
open Go.RowKit
variable {P : Program}

theorem SC.lend {f : FuncId} {k nk m len sz : Nat} {t : TypeId} {as : List SV} {ds : List DV} {v : SV} (h : SCd P f (.d (.sl len ds) :: as) [] k nk v []) (hv : SV.Plain v) (ha : ∀ c, c ∈ as → SV.Plain c) (hl : ds.length = len * sz) :
    SCd P f (.gs m len :: as) [(m, .arr t sz len (ds.map .d))] k nk v [(m, .arr t sz len (ds.map .d))] := by
  refine ⟨by simpa using h.1, fun p μ M w vals hp hr hS => ?_⟩
  obtain ⟨hpm, hob, hnone⟩ := hS.obs m (.arr t sz len (ds.map .d)) (by simp [lk_cons])
  let M' : Mem := fun b o => if (μ m).live = true ∧ b = (μ m).blk then w.cell? ⟨b, o, none⟩ else M b o
  have hMM : Mem.le M M' := fun b o x hx => by
    show (if (μ m).live = true ∧ b = (μ m).blk then w.cell? ⟨b, o, none⟩ else M b o) = some x
    split
    · exact hS.mem b o x hx
    · exact hx
  have hr' : Rps (fun _ => False) μ M' (.d (.sl len ds) :: as) vals.toList := by
    obtain ⟨u, us, e, h1, h2⟩ := Rps.cons_iff.1 hr
    rw [e]
    refine Rps.cons_iff.2 ⟨u, us, rfl, Rp.d_iff.2 ?_, SV.plains ha h2⟩
    have h3 := h1.rep
    simp only [Rep] at h3
    simp only [ObRep] at hob
    simp only [RepD]
    rcases h3 with ⟨hlv, rfl⟩ | ⟨hlv, rfl, A, rfl⟩
    · rcases hob with ⟨h4, _⟩ | ⟨_, vs, hb, _, h5, _, h6, hcs⟩
      · rw [hlv] at h4; cases h4
      refine ⟨_, _, rfl, h5, fun hz => ?_, fun hz => ⟨(μ m).blk, 0, rfl, repR_mk 0 ds fun i x hx => ?_⟩⟩
      · subst hz; simpa using hl
      · obtain ⟨u, hu, hd⟩ := hcs.get (i := i) (c := .d x) (by simp [hx])
        refine ⟨u, ?_, RepD.mono hMM x u (Rp.d_iff.1 hd)⟩
        show (if (μ m).live = true ∧ (μ m).blk = (μ m).blk then w.cell? ⟨(μ m).blk, 0 + i, none⟩ else M (μ m).blk (0 + i)) = some u
        rw [if_pos ⟨hlv, rfl⟩, cell_of hb]
        rw [List.getElem?_take] at hu
        split at hu
        · simpa using hu
        · cases hu
    · exact ⟨A, 0, rfl, Nat.le_refl _, fun _ => by simpa using hl, fun hz => absurd hz (Nat.lt_irrefl 0)⟩
  have hS' : SatF (fun _ => False) μ M' (lk []) w := by
    refine ⟨⟨fun b o x hx => ?_, hS.mem.glob.le hMM⟩, fun n ob hn => by simp [lk_nil] at hn, fun n _ hn => by simp [lk_nil] at hn⟩
    have hx : (if (μ m).live = true ∧ b = (μ m).blk then w.cell? ⟨b, o, none⟩ else M b o) = some x := hx
    split at hx
    · exact hx
    · exact hS.mem b o x hx
  refine (h.2 (fun _ => False) μ M' w vals (fun _ _ h => h) hr' hS').mono ?_
  rintro e w' ⟨r, F', μ', M'', u, rfl, ⟨rfl, rfl⟩, hru, hS2, hE⟩
  have hfr : ∀ b, b < w.heap.size → w'.heap[b]? = w.heap[b]? := fun b hb => (hE.frame b hb (fun n hn => by simp [lk_nil] at hn)).1
  refine ⟨r, [(m, .arr t sz len (ds.map .d))], μ, M, u, rfl, ⟨rfl, rfl⟩, hv _ _ _ _ _ _ u hru, ⟨⟨fun b o x hx => hS2.mem b o x (hE.mem b o x (hMM b o x hx)), hS.mem.glob⟩, fun n ob hn => ?_, hS.inj⟩, ⟨fun _ _ => rfl, Mem.le_refl M, fun b hb _ => ⟨hfr b hb, fun _ => rfl⟩, hE.size, fun n hn => .inr ⟨fun hnew => ?_, hn⟩, hE.os, hE.tape, hE.output⟩⟩
  · obtain ⟨a1, a2, a3⟩ := hS.obs n ob hn
    have hnm : n = m ∧ ob = .arr t sz len (ds.map .d) := by
      rw [lk_cons] at hn
      split at hn
      · rename_i e; exact ⟨e, (Option.some.inj hn).symm⟩
      · simp [lk_nil] at hn
    obtain ⟨rfl, rfl⟩ := hnm
    exact ⟨.inl a1, a2.more (fun n h => .inl h) (fun _ _ => rfl) (Mem.le_refl M) (fun hlv => hfr _ (a2.lt hlv)), a3⟩
  · have : n = m := by
      rw [lk_cons] at hn
      split at hn
      · rename_i e; exact e
      · simp [lk_nil] at hn
    subst this
    exact hp n hnew hpm
end Go.Sl
