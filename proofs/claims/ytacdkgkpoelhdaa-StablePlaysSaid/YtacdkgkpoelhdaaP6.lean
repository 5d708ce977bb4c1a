/-
  A box's cell that holds no map: a map of one's own that is nil.
-/
import Derived.Test.YtacdkgkpoelhdaaP5
import Derived.Test.YtacdkgkpoelhdaaP3
import Derived.Shelf.SlMaps.Clone
set_option linter.unusedVariables false
set_option linter.unusedSimpArgs false
set_option linter.unusedSectionVars false
namespace Go.Sl
open Go.RowKit
def noConf2 (bs : List Nat) (ts : List (Bool × List Nat)) : Bool :=
  all2 ts.length fun i j => i == j || (ts.getD i (true, [])).1 || ordB bs i j || ordB bs j i || !((ts.getD i (true, [])).2.any fun n => (ts.getD j (true, [])).2.contains n)
theorem conf_of {f : Bool} {bs : List Nat} {ts : List (Bool × List Nat)} (h : (!f || noConf2 bs ts) = true) : (!f || noConf bs ts) = true := by
  rw [← h]
  congr 1
  unfold noConf noConf2
  congr 1
  funext i j
  generalize (i == j) = a
  generalize (ts.getD i (true, [])).1 = b
  generalize ordB bs i j = c
  generalize ordB bs j i = d
  generalize List.any _ _ = e
  cases a <;> cases b <;> cases c <;> cases d <;> cases e <;> rfl
section
variable {P : Program} {N k0 : Nat} {st : St} {Q : Exit → St → Prop}
theorem Rp.set_at {p : Nat → Prop} {μ : Nat → Nm} {M : Mem} {cs : List SV} {vs : List Value} {c : SV} (i : Nat) (h : Rps p μ M cs vs) (hc : ∀ u, vs[i]? = some u → Rp p μ M c u) (hi : i < cs.length) : Rps p μ M (cs.set i c) vs := by
  obtain ⟨c0, h0⟩ := get_of_lt hi
  obtain ⟨u, hu, _⟩ := h.get h0
  have := h.set i (hc u hu)
  rwa [show vs.set i u = vs by
    apply List.ext_getElem?
    intro j
    rw [List.getElem?_set]
    split
    · rename_i e; subst e
      rw [hu]; simp [(List.getElem?_eq_some_iff.1 hu).1]
    · rfl] at this
theorem StA.nilmap {μ0 : Nat → Nm} {M0 : Mem} {w0 : World} {c0 : Nat → Option Ob} {a : Act} {w : World} (b i : Nat) {t : TypeId} {cs : List SV} (hb : lk st.hp b = some (.box t cs)) (hi : cs[i]? = some (.d .nilm)) (h : StA N μ0 M0 w0 c0 k0 st a w) :
    StA N μ0 M0 w0 c0 k0 ⟨st.env, (st.k, .nomap) :: hset st.hp b (.box t (cs.set i (.mp st.k))), st.k + 1⟩ a w := by
  obtain ⟨hk0, hdf, hsz, μ, M, hsl, hS, hE⟩ := h
  have hmu := upN_p (μ := μ) (m := ⟨0, 0, false⟩) (p := (· < st.k)) (k := st.k) (Nat.lt_irrefl _)
  have hup : ∀ n, n < st.k → n < st.k + 1 := fun n h => by omega
  have hlt : ∀ n ob, lk st.hp n = some ob → n < st.k := fun n ob h => (hS.obs n ob h).1
  have hpres : ∀ n, n ≠ st.k → lk ((st.k, .nomap) :: hset st.hp b (.box t (cs.set i (.mp st.k)))) n ≠ none → lk st.hp n ≠ none := fun n e1 hn => by
    rw [lk_cons, if_neg e1, lk_hset] at hn
    split at hn
    · rename_i e; subst e; rw [hb]; simp
    · exact hn
  refine ⟨by show k0 ≤ st.k + 1; omega, hdf, hsz, upN μ st.k ⟨0, 0, false⟩, M, fun u s hs => (hsl u s hs).more hup hmu (Mem.le_refl M), ⟨hS.mem, fun n ob hn => ?_, fun n m hn hm ln lm e => ?_⟩, ⟨fun n hn => ?_, hE.mem, hE.frame, hE.size, fun n hn => ?_, hE.os, hE.tape, hE.output⟩⟩
  · replace hn : lk ((st.k, .nomap) :: hset st.hp b (.box t (cs.set i (.mp st.k)))) n = some ob := hn
    rw [lk_cons] at hn
    split at hn
    · rename_i e1
      subst e1
      injection hn with hn
      subst hn
      rw [upN_same]
      exact ⟨Nat.lt_succ_self _, rfl, fun h => by cases h⟩
    · rw [lk_hset] at hn
      split at hn
      · rename_i e1 e2
        subst e2
        injection hn with hn
        subst hn
        obtain ⟨a1, a2, a3⟩ := hS.obs n _ hb
        rw [hmu n a1]
        refine ⟨hup n a1, ?_, a3⟩
        obtain ⟨l1, vs, v1, v2⟩ := a2
        refine ⟨l1, vs, v1, ?_⟩
        refine Rp.set_at i (v2.more hup hmu (Mem.le_refl M)) (fun u hu => ?_) (List.getElem?_eq_some_iff.1 hi).1
        obtain ⟨u', hu', hr⟩ := v2.get hi
        have : u = u' := by rw [hu'] at hu; exact (Option.some.inj hu).symm
        subst this
        have h1 := Rp.nilm_of hr
        intro ν hν
        simp only [Rep]
        rw [hν st.k (Nat.lt_succ_self _), upN_same]
        exact .inr ⟨rfl, h1⟩
      · obtain ⟨a1, a2, a3⟩ := hS.obs n ob hn
        rw [hmu n a1]
        exact ⟨hup n a1, a2.more hup hmu (Mem.le_refl M) fun _ => rfl, a3⟩
  · by_cases e1 : n = st.k
    · subst e1; rw [upN_same] at ln; cases ln
    · by_cases e2 : m = st.k
      · subst e2; rw [upN_same] at lm; cases lm
      · have hn := hpres n e1 hn
        have hm := hpres m e2 hm
        obtain ⟨o1, ho1⟩ := Option.ne_none_iff_exists'.1 hn
        obtain ⟨o2, ho2⟩ := Option.ne_none_iff_exists'.1 hm
        rw [hmu n (hlt n o1 ho1)] at e ln
        rw [hmu m (hlt m o2 ho2)] at e lm
        exact hS.inj n m hn hm ln lm e
  · simp only at hn
    by_cases e1 : n = st.k
    · subst e1; omega
    · rw [upN_other _ _ _ e1]; exact hE.old n (by omega)
  · by_cases e1 : n = st.k
    · subst e1
      rw [upN_same]
      exact .inl ⟨⟨by omega, Nat.lt_succ_self _⟩, fun h => by cases h⟩
    · have hn := hpres n e1 hn
      obtain ⟨o1, ho1⟩ := Option.ne_none_iff_exists'.1 hn
      rw [hmu n (hlt n o1 ho1)]
      rcases hE.names n hn with ⟨b1, b2⟩ | ⟨b1, b2⟩
      · exact .inl ⟨⟨b1.1, by have := b1.2; show n < st.k + 1; omega⟩, b2⟩
      · refine .inr ⟨fun h => ?_, b2⟩
        have : n < st.k := hlt n o1 ho1
        exact b1 ⟨h.1, this⟩
theorem SW.nilmap {s : SCo} (b i : Nat) {t : TypeId} {cs : List SV} (hb : lk st.hp b = some (.box t cs)) (hi : cs[i]? = some (.d .nilm)) (h : SW P N k0 s ⟨st.env, (st.k, .nomap) :: hset st.hp b (.box t (cs.set i (.mp st.k))), st.k + 1⟩ Q) : SW P N k0 s st Q :=
  fun c hc rd hrf μ0 M0 w0 c0 a w hSt => h c hc rd hrf μ0 M0 w0 c0 a w (hSt.nilmap b i hb hi)
end
end Go.Sl
namespace Go.Sl
open Go.RowKit
variable {P : Program}
def SV.Plain (v : SV) : Prop := ∀ (p p' : Nat → Prop) (μ μ' : Nat → Nm) (M M' : Mem) (u : Value), Rp p μ M v u → Rp p' μ' M' v u
theorem SV.plain_u32 (n : Nat) : SV.Plain (u32 n) := fun p p' μ μ' M M' u h => by
  unfold u32 at h ⊢
  rw [Rp.int_iff] at h ⊢; exact h
theorem SV.plains {p p' : Nat → Prop} {μ μ' : Nat → Nm} {M M' : Mem} : ∀ {cs : List SV} {l : List Value}, (∀ c, c ∈ cs → SV.Plain c) → Rps p μ M cs l → Rps p' μ' M' cs l
  | [], l, _, hr => Rps.nil_iff.2 (Rps.nil_iff.1 hr)
  | c :: cs, l, h, hr => by
    obtain ⟨u, us, rfl, h1, h2⟩ := Rps.cons_iff.1 hr
    exact Rps.cons_iff.2 ⟨u, us, rfl, h c (by simp) p p' μ μ' M M' u h1, SV.plains (fun c hc => h c (by simp [hc])) h2⟩
theorem SV.plain_agg {cs : List SV} (h : ∀ c, c ∈ cs → SV.Plain c) : SV.Plain (.agg cs) := fun p p' μ μ' M M' u hu => by
  obtain ⟨vs, rfl, hr⟩ := Rp.agg_iff.1 hu
  exact Rp.agg_iff.2 ⟨vs, rfl, SV.plains h hr⟩
theorem Vec.plain (v : Vec) : SV.Plain (.agg v.cells) := SV.plain_agg fun c hc => by
  simp only [Vec.cells, List.mem_cons, List.not_mem_nil, or_false] at hc
  rcases hc with rfl | rfl | rfl | rfl | rfl | rfl | rfl | rfl <;> exact SV.plain_u32 _
theorem repR_mk {M : Mem} {b : Nat} : ∀ (o : Nat) (ds : List DV), (∀ i x, ds[i]? = some x → ∃ u, M b (o + i) = some u ∧ RepD M x u) → RepR M b o ds
  | _, [], _ => by simp [RepR]
  | o, x :: ds, h => by
    simp only [RepR]
    refine ⟨by simpa using h 0 x rfl, repR_mk (o + 1) ds fun i y hy => ?_⟩
    have := h (i + 1) y (by simpa using hy)
    rwa [show o + (i + 1) = o + 1 + i by omega] at this
theorem SC.borrow {f : FuncId} {k nk m off len : Nat} {t : TypeId} {cs : List SV} {ds : List DV} {v : SV} (h : SCd P f [.d (.sl len ds)] [] k nk v []) (hv : SV.Plain v) (h0 : len ≠ 0) (hds : ∀ (i : Nat) (x : DV), ds[i]? = some x → cs[off + i]? = some (.d x)) :
    SCd P f [.bs m off len] [(m, .box t cs)] k nk v [(m, .box t cs)] := by
  refine ⟨h.1, fun p μ M w vals hp hr hS => ?_⟩
  obtain ⟨hpm, hob, hnone⟩ := hS.obs m (.box t cs) (by simp [lk_cons])
  obtain ⟨hlive, vs, hb, hcs⟩ := hob
  let M' : Mem := fun b o => if b = (μ m).blk then w.cell? ⟨b, o, none⟩ else M b o
  have hMM : Mem.le M M' := fun b o x hx => by
    show (if b = (μ m).blk then w.cell? ⟨b, o, none⟩ else M b o) = some x
    split
    · exact hS.mem b o x hx
    · exact hx
  have hr' : Rps (fun _ => False) μ M' [.d (.sl len ds)] vals.toList := by
    obtain ⟨u, us, e, h1, h2⟩ := Rps.cons_iff.1 hr
    rw [e]
    refine Rps.cons_iff.2 ⟨u, us, rfl, Rp.d_iff.2 ?_, Rps.nil_iff.2 (Rps.nil_iff.1 h2)⟩
    have h3 := h1.rep
    simp only [Rep] at h3
    obtain ⟨A, c, rfl, hle, hA⟩ := h3
    have hA := hA h0
    subst hA
    simp only [RepD]
    refine ⟨_, c, rfl, hle, fun hz => absurd hz h0, fun _ => ⟨(μ m).blk, off, rfl, repR_mk off ds fun i x hx => ?_⟩⟩
    obtain ⟨u, hu, hd⟩ := hcs.get (hds i x hx)
    refine ⟨u, ?_, RepD.mono hMM x u (Rp.d_iff.1 hd)⟩
    show (if (μ m).blk = (μ m).blk then w.cell? ⟨(μ m).blk, off + i, none⟩ else M (μ m).blk (off + i)) = some u
    rw [if_pos rfl, cell_of hb]
    simpa using hu
  have hS' : SatF (fun _ => False) μ M' (lk []) w := by
    refine ⟨⟨fun b o x hx => ?_, hS.mem.glob.le hMM⟩, fun n ob hn => by simp [lk_nil] at hn, fun n _ hn => by simp [lk_nil] at hn⟩
    have hx : (if b = (μ m).blk then w.cell? ⟨b, o, none⟩ else M b o) = some x := hx
    split at hx
    · exact hx
    · exact hS.mem b o x hx
  refine (h.2 (fun _ => False) μ M' w vals (fun _ _ h => h) hr' hS').mono ?_
  rintro e w' ⟨r, F', μ', M'', u, rfl, ⟨rfl, rfl⟩, hru, hS2, hE⟩
  have hfr : ∀ b, b < w.heap.size → w'.heap[b]? = w.heap[b]? := fun b hb => (hE.frame b hb (fun n hn => by simp [lk_nil] at hn)).1
  refine ⟨r, [(m, .box t cs)], μ, M, u, rfl, ⟨rfl, rfl⟩, hv _ _ _ _ _ _ u hru, ⟨⟨fun b o x hx => hS2.mem b o x (hE.mem b o x (hMM b o x hx)), hS.mem.glob⟩, fun n ob hn => ?_, hS.inj⟩, ⟨fun _ _ => rfl, Mem.le_refl M, fun b hb _ => ⟨hfr b hb, fun _ => rfl⟩, hE.size, fun n hn => .inr ⟨fun hnew => ?_, hn⟩, hE.os, hE.tape, hE.output⟩⟩
  · obtain ⟨a1, a2, a3⟩ := hS.obs n ob hn
    have hnm : n = m ∧ ob = .box t cs := by
      rw [lk_cons] at hn
      split at hn
      · rename_i e; exact ⟨e, (Option.some.inj hn).symm⟩
      · simp [lk_nil] at hn
    obtain ⟨rfl, rfl⟩ := hnm
    refine ⟨.inl a1, ⟨hlive, vs, ?_, hcs.more (fun n h => .inl h) (fun _ _ => rfl) (Mem.le_refl M)⟩, a3⟩
    rw [hfr _ (Array.getElem?_eq_some_iff.1 hb).1]; exact hb
  · have : n = m := by
      rw [lk_cons] at hn
      split at hn
      · rename_i e; exact e
      · simp [lk_nil] at hn
    subst this
    exact hp n hnew hpm
end Go.Sl
namespace Go.Sl
open Go.RowKit Go.Proofs Go.Shelf
variable {P : Program}
theorem clone_sat {p : Nat → Prop} {μ : Nat → Nm} {M : Mem} {w w' : World} {n k : Nat} {ob : Ob} {m : Nm} (hnk : n ≠ k) (hk : ¬ p k) (hS : SatF p μ M (lk [(n, ob)]) w)
    (hmem : MemOk M w') (hold : (μ n).live = true → w'.heap[(μ n).blk]? = w.heap[(μ n).blk]?) (hob : ∀ p' μ', (∀ n, p n → p' n) → (∀ n, p n → μ' n = μ n) → ObRep p' μ' M w' m ob)
    (hm : m.live = true → (∀ o, M m.blk o = none) ∧ w.heap.size ≤ m.blk) :
    SatF (fun x => p x ∨ (k ≤ x ∧ x < k + 1)) (upN μ k m) M (lk [(k, ob), (n, ob)]) w' := by
  obtain ⟨hp, ho, hf⟩ := hS.obs n ob (by rw [lk_one, if_pos rfl])
  have hlt : (μ n).live = true → (μ n).blk < w.heap.size := fun l => ho.lt l
  have en : upN μ k m n = μ n := upN_other _ _ _ hnk
  have hl : ∀ x, lk [(k, ob), (n, ob)] x = if x = k then some ob else if x = n then some ob else none := fun x => by
    unfold lk
    simp only [List.lookup]
    by_cases h : x = k
    · subst h; simp
    · rw [if_neg h, show (x == k) = false by simpa using h]
      by_cases h : x = n
      · subst h; simp
      · rw [if_neg h, show (x == n) = false by simpa using h]
  refine ⟨hmem, fun x ob' hx => ?_, fun x y hx hy lx ly e => ?_⟩
  · rw [hl] at hx
    split at hx
    · rename_i e; subst e
      injection hx with hx; subst hx
      rw [upN_same]
      exact ⟨.inr ⟨Nat.le_refl _, by omega⟩, hob _ _ (fun _ h => .inl h) (upN_p hk), fun l => (hm l).1⟩
    · split at hx
      · rename_i e; subst e
        injection hx with hx; subst hx
        rw [en]
        exact ⟨.inl hp, ho.more (fun _ h => .inl h) (upN_p hk) (Mem.le_refl M) hold, hf⟩
      · cases hx
  · have hx' : x = k ∨ x = n := by
      rw [hl] at hx
      by_cases h : x = k
      · exact .inl h
      · rw [if_neg h] at hx
        by_cases h : x = n
        · exact .inr h
        · rw [if_neg h] at hx; exact absurd rfl hx
    have hy' : y = k ∨ y = n := by
      rw [hl] at hy
      by_cases h : y = k
      · exact .inl h
      · rw [if_neg h] at hy
        by_cases h : y = n
        · exact .inr h
        · rw [if_neg h] at hy; exact absurd rfl hy
    rcases hx' with rfl | rfl <;> rcases hy' with rfl | rfl
    · rfl
    · rw [upN_same] at lx e
      rw [en] at ly e
      have := (hm lx).2; have := hlt ly; omega
    · rw [upN_same] at ly e
      rw [en] at lx e
      have := (hm ly).2; have := hlt lx; omega
    · rfl
theorem SC.mapsClone {ρ : Ren} (L : SlLaysW.n5 P ρ) (hcall : Callable P (ρ.f 5) = true) (n k : Nat) (hnk : n ≠ k) (ob : Ob) (hob : ob = .nomap ∨ ∃ es c, ob = .map es c) :
    SC P (ρ.f 5) [.mp n] [(n, ob)] k 1 fun r F' => r = .mp k ∧ F' = [(k, ob), (n, ob)] := by
  refine ⟨hcall, fun p μ M w vals hp hr hS => ?_⟩
  have hk : ¬ p k := hp k ⟨Nat.le_refl _, by omega⟩
  obtain ⟨u1, us, e1, r1, r2⟩ := Rps.cons_iff.1 hr
  have e3 := Rps.nil_iff.1 r2
  subst e3
  have hvals : vals = #[u1] := by cases vals; simpa using e1
  subst hvals
  obtain ⟨hpn, hobr, hMn⟩ := hS.obs n ob (by rw [lk_one, if_pos rfl])
  have r1' := r1.rep
  simp only [Rep] at r1'
  rcases hob with rfl | ⟨es, c, rfl⟩
  · simp only [ObRep] at hobr
    obtain ⟨_, rfl⟩ : (μ n).live = false ∧ u1 = .map none := by
      rcases r1' with ⟨h, _⟩ | h
      · rw [hobr] at h; cases h
      · exact h
    refine (AnyW.maps_Clone_nil L w).mono ?_
    rintro e w' ⟨rfl, rfl⟩
    refine ⟨.mp k, _, upN μ k ⟨0, 0, false⟩, M, .map none, rfl, ⟨rfl, rfl⟩, fun μ' hμ => ?_, clone_sat (w := w') hnk hk hS hS.mem (fun _ => rfl) (fun p' μ' _ _ => by simp only [ObRep]) (fun h => by cases h), ?_⟩
    · simp only [Rep]
      rw [hμ k (.inr ⟨Nat.le_refl _, by omega⟩), upN_same]
      simp
    · refine ⟨fun x hx => upN_other _ _ _ (by omega), Mem.le_refl M, fun b _ _ => ⟨rfl, fun _ => rfl⟩, Nat.le_refl _, fun x hx => ?_, rfl, Tape.refl _, rfl⟩
      by_cases h : x = k
      · subst h
        exact .inl ⟨⟨Nat.le_refl _, by omega⟩, fun l => by rw [upN_same] at l; cases l⟩
      · refine .inr ⟨fun hn => by omega, fun hn => hx ?_⟩
        rw [lk_one] at hn
        unfold lk
        simp only [List.lookup]
        rw [show (x == k) = false by simpa using h]
        by_cases h2 : x = n
        · rw [if_pos h2] at hn; cases hn
        · rw [show (x == n) = false by simpa using h2]
  · simp only [ObRep] at hobr
    obtain ⟨hlive, ens, hb, hre⟩ := hobr
    obtain ⟨_, rfl⟩ : (μ n).live = true ∧ u1 = .map (some (μ n).blk) := by
      rcases r1' with h | ⟨h, _⟩
      · exact h
      · rw [hlive] at h; cases h
    refine (AnyW.maps_Clone L (μ n).blk ens c w hb).mono ?_
    rintro e w' ⟨rfl, rfl⟩
    refine ⟨.mp k, _, upN μ k ⟨w.heap.size, 0, true⟩, M, .map (some w.heap.size), rfl, ⟨rfl, rfl⟩, fun μ' hμ => ?_,
      clone_sat hnk hk hS (mem_alloc _ hS.mem) (fun l => heap_old w _ ((Array.getElem?_eq_some_iff.1 hb).1)) (fun p' μ' hp' hμ' => ?_) (fun _ => ⟨mem_lt hS.mem (Nat.le_refl _), Nat.le_refl _⟩), ?_⟩
    · simp only [Rep]
      rw [hμ k (.inr ⟨Nat.le_refl _, by omega⟩), upN_same]
      simp
    · simp only [ObRep]
      refine ⟨trivial, ens, heap_new w _, RpE.more hp' hμ' (Mem.le_refl M) _ _ hre⟩
    · refine ⟨fun x hx => upN_other _ _ _ (by omega), Mem.le_refl M, fun b hb _ => ⟨heap_old w _ hb, fun _ => rfl⟩, by simp, fun x hx => ?_, rfl, ⟨rfl, Nat.le_refl _⟩, rfl⟩
      by_cases h : x = k
      · subst h
        exact .inl ⟨⟨Nat.le_refl _, by omega⟩, fun l => .inl (by rw [upN_same]; exact Nat.le_refl _)⟩
      · refine .inr ⟨fun hn => by omega, fun hn => hx ?_⟩
        rw [lk_one] at hn
        unfold lk
        simp only [List.lookup]
        rw [show (x == k) = false by simpa using h]
        by_cases h2 : x = n
        · rw [if_pos h2] at hn; cases hn
        · rw [show (x == n) = false by simpa using h2]
end Go.Sl
