/-
  Rows that nobody writes any more; contracts at the caller's names; nil rows as empty ones.
-/
import Derived.Test.YtdnjkeeiopcipaaSl19
set_option linter.unusedSectionVars false
set_option linter.unusedVariables false
set_option linter.unusedSimpArgs false
namespace Go.Sl
open Go.RowKit

/-! ### a row becomes a value -/
mutual
def SV.frz (n len : Nat) (ds : List DV) : SV → SV
  | .gs m l => if m = n then (if l = len then .d (.sl len ds) else .any) else .gs m l
  | .agg cs => .agg (SV.frzs n len ds cs)
  | .tup cs => .tup (SV.frzs n len ds cs)
  | s => s
def SV.frzs (n len : Nat) (ds : List DV) : List SV → List SV
  | [] => []
  | c :: cs => c.frz n len ds :: SV.frzs n len ds cs
end
def frzE (n len : Nat) (ds : List DV) (env : List (Nat × SV)) : List (Nat × SV) := env.map fun x => (x.1, x.2.frz n len ds)

theorem lookup_frz (n len : Nat) (ds : List DV) : ∀ (env : List (Nat × SV)) (t : Nat), (frzE n len ds env).lookup t = (env.lookup t).map (SV.frz n len ds)
  | [], t => rfl
  | (q, s) :: env, t => by
    simp only [frzE, List.map_cons, List.lookup]
    cases t == q
    · exact lookup_frz n len ds env t
    · rfl

mutual
theorem SV.frz_rep {p : Nat → Prop} {μ : Nat → Nm} {M : Mem} {n len : Nat} {ds : List DV} (hg : ∀ v, Rp p μ M (.gs n len) v → Rp p μ M (.d (.sl len ds)) v) : ∀ (s : SV) (v : Value), Rp p μ M s v → Rp p μ M (s.frz n len ds) v
  | .gs m l, v, h => by
    simp only [SV.frz]
    split
    · rename_i e; subst e
      split
      · rename_i e; subst e
        exact hg v h
      · exact Rp.any
    · exact h
  | .agg cs, v, h => by
    obtain ⟨vs, e, h1⟩ := Rp.agg_iff.1 h
    simp only [SV.frz]
    exact Rp.agg_iff.2 ⟨vs, e, SV.frzs_rep hg cs _ h1⟩
  | .tup cs, v, h => by
    obtain ⟨vs, e, h1⟩ := Rp.tup_iff.1 h
    simp only [SV.frz]
    exact Rp.tup_iff.2 ⟨vs, e, SV.frzs_rep hg cs _ h1⟩
  | .d _, v, h => h
  | .ptr _ _, v, h => h
  | .vp _ _, v, h => h
  | .mp _, v, h => h
  | .it _, v, h => h
  | .fn _ _ _, v, h => h
  | .any, v, h => h
theorem SV.frzs_rep {p : Nat → Prop} {μ : Nat → Nm} {M : Mem} {n len : Nat} {ds : List DV} (hg : ∀ v, Rp p μ M (.gs n len) v → Rp p μ M (.d (.sl len ds)) v) : ∀ (s : List SV) (v : List Value), Rps p μ M s v → Rps p μ M (SV.frzs n len ds s) v
  | [], v, h => h
  | c :: cs, v, h => by
    obtain ⟨u, us, e, h1, h2⟩ := Rps.cons_iff.1 h
    simp only [SV.frzs]
    exact Rps.cons_iff.2 ⟨u, us, e, SV.frz_rep hg c u h1, SV.frzs_rep hg cs us h2⟩
end

theorem Rps.d_get {p : Nat → Prop} {μ : Nat → Nm} {M : Mem} {ds : List DV} {vs : List Value} (h : Rps p μ M (ds.map .d) vs) {i : Nat} {x : DV} (hi : ds[i]? = some x) : ∃ u, vs[i]? = some u ∧ RepD M x u := by
  obtain ⟨u, hu, hr⟩ := h.get (i := i) (c := .d x) (by simp [hi])
  exact ⟨u, hu, Rp.d_iff.1 hr⟩

section
variable {P : Program} {N k0 : Nat} {st : St} {Q : Exit → St → Prop}

theorem StA.freeze {μ0 : Nat → Nm} {M0 : Mem} {w0 : World} {c0 : Nat → Option Ob} {a : Act} {w : World} (n : Nat) {e sz len : Nat} {cs : List SV} {ds : List DV} (hn : lk st.hp n = some (.arr e sz len cs)) (hcs : cs = ds.map .d)
    (h : StA N μ0 M0 w0 c0 k0 st a w) : StA N μ0 M0 w0 c0 k0 ⟨frzE n len ds st.env, hdel st.hp n, st.k⟩ a w := by
  subst hcs
  obtain ⟨hk0, hdf, hsz, μ, M, hsl, hS, hE⟩ := h
  obtain ⟨hpn, hob, hMn⟩ := hS.obs n _ hn
  rcases hob with ⟨hdead, hl0, hds⟩ | ⟨hlive, vs, hb, hl1, hl2, hl3, hl4, hr⟩
  · have hd0 : ds = [] := by simpa using hds
    subst hd0; subst hl0
    have hg : ∀ v, Rp (· < st.k) μ M (.gs n 0) v → Rp (· < st.k) μ M (.d (.sl 0 [])) v := fun v hv => by
      refine Rp.d_iff.2 ?_
      simp only [RepD]
      obtain ⟨h, _⟩ | ⟨_, _, A, e1⟩ := hv.gs_of
      · rw [hdead] at h; cases h
      · exact ⟨A, 0, e1, Nat.le_refl _, fun _ => trivial, fun h => absurd h (Nat.lt_irrefl _)⟩
    have hsub : ∀ m ob, lk (hdel st.hp n) m = some ob → lk st.hp m = some ob := fun m ob hm => by
      rw [lk_hdel] at hm
      split at hm
      · cases hm
      · exact hm
    refine ⟨hk0, hdf, hsz, μ, M, fun t s hs => ?_, hS.sub hsub, hE.fewer fun m hm => ?_⟩
    · rw [lookup_frz] at hs
      obtain ⟨s', hs', rfl⟩ := Option.map_eq_some_iff.1 hs
      exact SV.frz_rep hg s' _ (hsl t s' hs')
    · obtain ⟨o1, ho1⟩ := Option.ne_none_iff_exists'.1 hm
      rw [hsub m o1 ho1]; simp
  have hMn := hMn hlive
  have hlen : ds.length = len * sz := by simpa using hl1
  let M' : Mem := fun b o => if b = (μ n).blk then (if o < len * sz then vs[o]? else none) else M b o
  have hne : ∀ b, b ≠ (μ n).blk → ∀ o, M' b o = M b o := fun b hb o => by simp [M', hb]
  have hle : Mem.le M M' := fun b o v hv => by
    have : b ≠ (μ n).blk := fun e => by rw [e, hMn] at hv; cases hv
    rw [hne b this]; exact hv
  have hoth : ∀ m, lk st.hp m ≠ none → m ≠ n → (μ m).live = true → (μ m).blk ≠ (μ n).blk := fun m hm hmn lm e => hmn (hS.inj m n hm (by rw [hn]; simp) lm hlive e)
  have hsub : ∀ m ob, lk (hdel st.hp n) m = some ob → lk st.hp m = some ob ∧ m ≠ n := fun m ob hm => by
    rw [lk_hdel] at hm
    split at hm
    · cases hm
    · rename_i e; exact ⟨hm, e⟩
  have hg : ∀ v, Rp (· < st.k) μ M' (.gs n len) v → Rp (· < st.k) μ M' (.d (.sl len ds)) v := fun v hv => by
    obtain ⟨_, e1⟩ | ⟨h, _⟩ := hv.gs_of
    rotate_left
    · rw [hlive] at h; cases h
    refine Rp.d_iff.2 ?_
    simp only [RepD]
    refine ⟨_, _, e1, hl2, fun h0 => ?_, fun _ => ⟨_, _, rfl, RepR.mk fun i c hi => ?_⟩⟩
    · subst h0
      simp at hlen
      exact hlen
    · obtain ⟨u, hu, hru⟩ := hr.d_get hi
      have hil : i < len * sz := by rw [← hlen]; exact (List.getElem?_eq_some_iff.1 hi).1
      refine ⟨u, ?_, RepD.mono hle _ _ hru⟩
      rw [List.getElem?_take_of_lt hil] at hu
      simp only [M', if_true, Nat.zero_add, hil]
      simpa using hu
  refine ⟨hk0, hdf, hsz, μ, M', fun t s hs => ?_, ⟨fun b o v hv => ?_, fun m ob hm => ?_, fun m m' hm hm' lm lm' e => ?_⟩, ⟨hE.old, Mem.le_trans hE.mem hle, fun b hb0 hf => ?_, hE.size, fun m hm => ?_, hE.os, hE.tape, hE.output⟩⟩
  · rw [lookup_frz] at hs
    obtain ⟨s', hs', rfl⟩ := Option.map_eq_some_iff.1 hs
    exact SV.frz_rep hg s' _ ((hsl t s' hs').more (fun _ h => h) (fun _ _ => rfl) hle)
  · by_cases hbn : b = (μ n).blk
    · subst hbn
      simp only [M', if_true] at hv
      split at hv
      · rw [cell_of hb]; exact hv
      · cases hv
    · rw [hne b hbn] at hv
      exact hS.mem b o v hv
  · obtain ⟨hm1, hmn⟩ := hsub m ob hm
    obtain ⟨a1, a2, a3⟩ := hS.obs m ob hm1
    refine ⟨a1, a2.more (fun _ h => h) (fun _ _ => rfl) hle fun _ => rfl, fun lm o => ?_⟩
    rw [hne _ (hoth m (by rw [hm1]; simp) hmn lm)]
    exact a3 lm o
  · obtain ⟨o1, ho1⟩ := Option.ne_none_iff_exists'.1 hm
    obtain ⟨o2, ho2⟩ := Option.ne_none_iff_exists'.1 hm'
    exact hS.inj m m' (by rw [(hsub m o1 ho1).1]; simp) (by rw [(hsub m' o2 ho2).1]; simp) lm lm' e
  · have hbn : b ≠ (μ n).blk := fun e => by
      rcases hE.names n (by rw [hn]; simp) with ⟨_, hh⟩ | ⟨h, h'⟩
      · rcases hh hlive with h | ⟨m, hm, lm, e'⟩
        · omega
        · exact hf m hm lm (e'.trans e.symm)
      · rw [hE.old n h] at e hlive
        exact hf n h' hlive e.symm
    obtain ⟨f1, f2⟩ := hE.frame b hb0 hf
    exact ⟨f1, fun o => by rw [hne b hbn]; exact f2 o⟩
  · obtain ⟨o1, ho1⟩ := Option.ne_none_iff_exists'.1 hm
    exact hE.names m (by rw [(hsub m o1 ho1).1]; simp)

/-- A row that is not written any more is a value. -/
theorem SW.freeze {s : SCo} (n : Nat) {e sz len : Nat} {cs : List SV} (ds : List DV) (hn : lk st.hp n = some (.arr e sz len cs)) (hcs : cs = ds.map .d) (h : SW P N k0 s ⟨frzE n len ds st.env, hdel st.hp n, st.k⟩ Q) : SW P N k0 s st Q :=
  fun c hc μ0 M0 w0 c0 a w hSt => h c hc μ0 M0 w0 c0 a w (hSt.freeze n hn hcs)

/-- A slot that is nil is a row of one's own, with nothing in it. -/
theorem StA.nilrow {μ0 : Nat → Nm} {M0 : Mem} {w0 : World} {c0 : Nat → Option Ob} {a : Act} {w : World} (t : Nat) (e sz : Nat) (ht : st.env.lookup t = some (.d .nils)) (h : StA N μ0 M0 w0 c0 k0 st a w) :
    StA N μ0 M0 w0 c0 k0 ⟨(t, .gs st.k 0) :: st.env, (st.k, .arr e sz 0 []) :: st.hp, st.k + 1⟩ a w := by
  obtain ⟨hk0, hdf, hsz, μ, M, hsl, hS, hE⟩ := h
  have hmu := upN_p (μ := μ) (m := ⟨0, 0, false⟩) (p := (· < st.k)) (k := st.k) (Nat.lt_irrefl _)
  have hup : ∀ n, n < st.k → n < st.k + 1 := fun n h => by omega
  have hlt : ∀ n ob, lk st.hp n = some ob → n < st.k := fun n ob h => (hS.obs n ob h).1
  refine ⟨by show k0 ≤ st.k + 1; omega, hdf, hsz, upN μ st.k ⟨0, 0, false⟩, M, fun u s hs => ?_, ⟨hS.mem, fun n ob hn => ?_, fun n m hn hm ln lm e => ?_⟩, ⟨fun n hn => ?_, hE.mem, hE.frame, hE.size, fun n hn => ?_, hE.os, hE.tape, hE.output⟩⟩
  · rw [lookup_upd] at hs
    split at hs
    · rename_i e1
      subst e1
      injection hs with hs
      subst hs
      have h1 := (hsl t _ ht).rep
      simp only [Rep, RepD] at h1
      intro ν hν
      simp only [Rep]
      rw [hν st.k (Nat.lt_succ_self _), upN_same]
      exact .inr ⟨rfl, trivial, none, h1⟩
    · exact (hsl u s hs).more hup hmu (Mem.le_refl M)
  · rw [lk_cons] at hn
    split at hn
    · rename_i e1
      subst e1
      injection hn with hn
      subst hn
      rw [upN_same]
      exact ⟨Nat.lt_succ_self _, .inl ⟨rfl, rfl, rfl⟩, fun h => by cases h⟩
    · obtain ⟨a1, a2, a3⟩ := hS.obs n ob hn
      rw [hmu n a1]
      exact ⟨hup n a1, a2.more hup hmu (Mem.le_refl M) fun _ => rfl, a3⟩
  · rw [lk_cons] at hn hm
    by_cases e1 : n = st.k
    · subst e1; rw [upN_same] at ln; cases ln
    · by_cases e2 : m = st.k
      · subst e2; rw [upN_same] at lm; cases lm
      · rw [if_neg e1] at hn
        rw [if_neg e2] at hm
        obtain ⟨o1, ho1⟩ := Option.ne_none_iff_exists'.1 hn
        obtain ⟨o2, ho2⟩ := Option.ne_none_iff_exists'.1 hm
        rw [hmu n (hlt n o1 ho1)] at e ln
        rw [hmu m (hlt m o2 ho2)] at e lm
        exact hS.inj n m hn hm ln lm e
  · simp only at hn
    by_cases e1 : n = st.k
    · subst e1; omega
    · rw [upN_other _ _ _ e1]; exact hE.old n (by omega)
  · rw [lk_cons] at hn
    by_cases e1 : n = st.k
    · subst e1
      rw [upN_same]
      exact .inl ⟨⟨by omega, Nat.lt_succ_self _⟩, fun h => by cases h⟩
    · rw [if_neg e1] at hn
      obtain ⟨o1, ho1⟩ := Option.ne_none_iff_exists'.1 hn
      rw [hmu n (hlt n o1 ho1)]
      rcases hE.names n hn with ⟨b1, b2⟩ | ⟨b1, b2⟩
      · exact .inl ⟨⟨b1.1, by have := b1.2; show n < st.k + 1; omega⟩, b2⟩
      · refine .inr ⟨fun h => ?_, b2⟩
        have : n < st.k := hlt n o1 ho1
        exact b1 ⟨h.1, this⟩
theorem SW.nilrow {s : SCo} (t : Nat) (e sz : Nat) (ht : st.env.lookup t = some (.d .nils)) (h : SW P N k0 s ⟨(t, .gs st.k 0) :: st.env, (st.k, .arr e sz 0 []) :: st.hp, st.k + 1⟩ Q) : SW P N k0 s st Q :=
  fun c hc μ0 M0 w0 c0 a w hSt => h c hc μ0 M0 w0 c0 a w (hSt.nilrow t e sz ht)

/-- nil is an empty row. -/
theorem RepD.nils_sl {M : Mem} {v : Value} (h : RepD M .nils v) : RepD M (.sl 0 []) v := by
  simp only [RepD] at h ⊢
  exact ⟨none, 0, h, Nat.le_refl _, fun _ => trivial, fun h => absurd h (Nat.lt_irrefl _)⟩

/-- Arguments that say more. -/
theorem SC.args {f : FuncId} {args args' : List SV} {F : Hp} {k nk : Nat} {Q : SV → Hp → Prop} (ha : ∀ (p : Nat → Prop) μ M vs, Rps p μ M args' vs → Rps p μ M args vs) (h : SC P f args F k nk Q) : SC P f args' F k nk Q :=
  ⟨h.1, fun p μ M w vals h1 h2 h3 => h.2 p μ M w vals h1 (ha p μ M _ h2) h3⟩
end

/-! ### contracts at the caller's names -/
theorem SV.rens_none {ρ : Nat → Nat} : ∀ {l : List SV}, SV.oks (fun n => decide (n < 0)) l = true → SV.rens ρ l = l
  | [], _ => rfl
  | c :: cs, h => by
    simp only [SV.oks, Bool.and_eq_true] at h
    simp only [SV.rens, SV.none_both c h.1, SV.rens_none h.2]

def atN (ns : List Nat) (k : Nat) (i : Nat) : Nat := match ns[i]? with
  | some n => n
  | none => i - ns.length + k

theorem mem_lk : ∀ {h : Hp} {n : Nat} {ob : Ob}, (n, ob) ∈ h → ∃ ob', lk h n = some ob'
  | [], n, ob, h => by simp at h
  | (m, o) :: h, n, ob, hm => by
    rw [lk_cons]
    by_cases e : n = m
    · exact ⟨o, by simp [e]⟩
    · rw [if_neg e]
      rcases List.mem_cons.1 hm with h1 | h1
      · injection h1 with h1 _; exact absurd h1 e
      · exact mem_lk h1

theorem SB.atL {P : Program} {f : FuncId} {args : List SV} {F F' : Hp} {nk : Nat} {r : SV} (ns : List Nat) (h : SB P f args F ns.length nk fun r' F1 => r' = r ∧ F1 = F') (hd : ns.Nodup) (hF : ∀ i, i < ns.length → lk F i ≠ none) (k : Nat) :
    SCd P f (SV.rens (atN ns k) args) (F.ren (atN ns k)) k nk (r.ren (atN ns k)) (F'.ren (atN ns k)) := by
  have hlt : ∀ i, i < ns.length → ns[i]? = some (atN ns k i) := fun i hi => by simp [atN, hi]
  have := SB.at h (atN ns k) k (fun n m hn hm e => ?_) (fun n hn p μ M w vals _ hS => ?_) (fun i hi => ?_)
  · refine this.mono ?_
    rintro r' F1 ⟨r0, F0, ⟨rfl, rfl⟩, rfl, rfl⟩
    exact ⟨rfl, rfl⟩
  · have h1 := hlt n hn
    have h2 := hlt m hm
    rw [e] at h1
    exact (List.getElem?_inj hn hd).1 (h1.trans h2.symm)
  · obtain ⟨ob, ho⟩ := Option.ne_none_iff_exists'.1 (hF n hn)
    have hm : (atN ns k n, ob.ren (atN ns k)) ∈ F.ren (atN ns k) := List.mem_map.2 ⟨(n, ob), lk_mem ho, rfl⟩
    obtain ⟨ob', ho'⟩ := mem_lk hm
    exact (hS.obs _ _ ho').1
  · simp [atN]; omega

theorem SB.new {P : Program} {f : FuncId} {args : List SV} {F' : Hp} {nk : Nat} {r : SV} (h : SB P f args [] 0 nk fun r' F1 => r' = r ∧ F1 = F') (k : Nat) :
    SCd P f args [] k nk (r.ren (atN [] k)) (F'.ren (atN [] k)) := by
  have := SB.atL [] h (by simp) (fun i hi => absurd hi (Nat.not_lt_zero i)) k
  rwa [SV.rens_none h.2.1] at this

@[simp] theorem HSub_nil (h : Hp) : HSub [] h ↔ True := ⟨fun _ => trivial, fun _ => HSub.nil h⟩
@[simp] theorem HSub_one (h : Hp) (n : Nat) (ob : Ob) : HSub [(n, ob)] h ↔ lk h n = some ob := by
  refine ⟨fun hs => hs n ob (by simp [lk_one]), fun hs m ob' hm => ?_⟩
  rw [lk_one] at hm
  split at hm
  · rename_i e; subst e; simp at hm; subst hm; exact hs
  · cases hm

def Vec.zero : Vec := ⟨0, 0, 0, 0, 0, 0, 0, 0⟩
theorem Vec.zero_cells : [SV.d (.int .u32 0), .d (.int .u32 0), .d (.int .u32 0), .d (.int .u32 0), .d (.int .u32 0), .d (.int .u32 0), .d (.int .u32 0), .d (.int .u32 0)] = Vec.zero.cells := rfl
@[simp] theorem Vec.take_all (v : Vec) : v.cells.take 8 = v.cells := rfl
theorem Vec.spl_all (u v : Vec) : spl u.cells 0 v.cells = v.cells := rfl
theorem Vec.spl_set (v : Vec) {i : Nat} (h : i < 8) (x : Nat) : spl v.cells i [.d (.int .u32 (x : Int))] = (v.set i x).cells := Vec.cells_set v h x
attribute [simp] Vec.cells_len Vec.ds_len Vec.cells_ok Vec.map_ds
theorem Vec.cells_ren (v : Vec) (ρ : Nat → Nat) : SV.rens ρ v.cells = v.cells := rfl
theorem Vec.zero_get (r : Nat) : Vec.zero.get r = 0 := by
  match r with
  | 0 | 1 | 2 | 3 | 4 | 5 | 6 | 7 | _ + 8 => rfl
def Vec.zip (f : Nat → Nat → Nat) (a b : Vec) : Vec := Vec.of fun r => f (a.get r) (b.get r)
/-- The first i numbers of one, the others of another one. -/
def Vec.upto (i : Nat) (a b : Vec) : Vec := Vec.of fun r => if r < i then a.get r else b.get r
theorem Vec.upto_zero (a b : Vec) : Vec.upto 0 a b = b := Vec.ext' fun r hr => by simp [Vec.upto, Vec.get_of _ hr]
theorem Vec.upto_all (a b : Vec) : Vec.upto 8 a b = a := Vec.ext' fun r hr => by simp [Vec.upto, Vec.get_of _ hr, hr]
theorem Vec.upto_succ (a b : Vec) {i : Nat} (h : i < 8) : (Vec.upto i a b).set i (a.get i) = Vec.upto (i + 1) a b := Vec.ext' fun r hr => by
  simp only [Vec.set, Vec.upto, Vec.get_of _ hr]
  by_cases e : r = i
  · subst e; simp
  · by_cases e2 : r < i
    · simp [e, e2, show r < i + 1 by omega]
    · simp [e, e2, show ¬ r < i + 1 by omega]

theorem vec_at {l : List Vec} {i : Nat} {x : Vec} (h : l[i]? = some x) : List.take 8 (List.drop (i * 8) (List.map SV.d (l.flatMap Vec.ds))) = x.cells := by
  rw [← List.map_drop, ← List.map_take, flat_take Vec.ds 8 (fun _ => rfl) l i x h]
  rfl
@[simp] theorem vecs_len (l : List Vec) : (l.flatMap Vec.ds).length = l.length * 8 := flat_length Vec.ds 8 (fun _ => rfl) l
def Vec.all (op : Nat → Nat → Nat) : List Vec → Vec
  | [] => Vec.zero
  | x :: r => r.foldl (Vec.zip op) x
theorem Vec.all_snoc (op : Nat → Nat → Nat) (l : List Vec) (x : Vec) : Vec.all op (l ++ [x]) = if l.length = 0 then x else Vec.zip op (Vec.all op l) x := by
  cases l with
  | nil => rfl
  | cons y l => simp [Vec.all, List.foldl_append]
theorem take_snoc {α : Type} {l : List α} {i : Nat} {x : α} (h : l[i]? = some x) : l.take (i + 1) = l.take i ++ [x] := by
  rw [List.take_add_one, h]; rfl
theorem lt_of_get {α : Type} {l : List α} {i : Nat} {x : α} (h : l[i]? = some x) : i < l.length := (List.getElem?_eq_some_iff.1 h).1
theorem get_of_lt {α : Type} {l : List α} {i : Nat} (h : i < l.length) : ∃ x, l[i]? = some x := ⟨_, List.getElem?_eq_getElem h⟩
/-- A row of vectors. -/
abbrev vecs (l : List Vec) : SV := .d (.sl l.length (l.flatMap Vec.ds))

theorem Vec.eqb8 (a b : Vec) : csqS [true, true, true, true, true, true, true, true] a.cells b.cells = some (decide (a = b)) := Vec.eqb a b
structure Dt where
  (r n : Nat)
  deriving DecidableEq
def Dt.ds (d : Dt) : List DV := [.int .u8 d.r, .int .u32 d.n]
def Dt.cells (d : Dt) : List SV := [u8 d.r, u32 d.n]
theorem Dt.map_ds (d : Dt) : d.ds.map .d = d.cells := rfl
@[simp] theorem Dt.ds_len (d : Dt) : d.ds.length = 2 := rfl
@[simp] theorem Dt.cells_len (d : Dt) : d.cells.length = 2 := rfl
@[simp] theorem Dt.cells_ok (d : Dt) (q : Nat → Bool) : SV.oks q d.cells = true := rfl
theorem Dt.cells_ren (d : Dt) (ρ : Nat → Nat) : SV.rens ρ d.cells = d.cells := rfl
@[simp] theorem Dt.take_all (d : Dt) : d.cells.take 2 = d.cells := rfl
theorem Dt.get0 (d : Dt) : d.cells[0]? = some (u8 d.r) := rfl
theorem Dt.get1 (d : Dt) : d.cells[1]? = some (u32 d.n) := rfl
theorem Dt.spl_all (c d : Dt) : spl c.cells 0 d.cells = d.cells := rfl
theorem Dt.zero_cells : [SV.d (.int .u8 0), .d (.int .u32 0)] = (Dt.mk 0 0).cells := rfl
theorem Dt.bld (c : Dt) (a b : Nat) : spl (spl c.cells 0 [.d (.int .u8 (a : Int))]) 1 [.d (.int .u32 (b : Int))] = (Dt.mk a b).cells := rfl
@[simp] theorem spl_one_len (cs : List SV) (o : Nat) (c : SV) : (spl cs o [c]).length = cs.length := by simp [spl]
theorem spl_one (cs : List SV) (o : Nat) (c : SV) : spl cs o [c] = cs.set o c := rfl
theorem Dt.cells_one (d : Dt) : d.cells.all SV.isOne = true := rfl
theorem Dt.eqb (a b : Dt) : csqS [true, true] a.cells b.cells = some (decide (a = b)) := by
  have h : csqS [true, true] a.cells b.cells = some (((a.r : Int) == b.r) && (((a.n : Int) == b.n) && true)) := by simp [csqS, cqS, Dt.cells]
  rw [h]
  congr 1
  obtain ⟨a0, a1⟩ := a
  obtain ⟨b0, b1⟩ := b
  rw [Bool.eq_iff_iff]
  simp
  omega
abbrev Dt.zero : Dt := ⟨0, 0⟩
def Dt.may (d : Dt) : Bool := decide (d.r < 8) && decide (0 < d.n)
def Dt.wf (d : Dt) : Prop := d.r < 256 ∧ d.n < 4294967296
abbrev dots (l : List Dt) : SV := .d (.sl l.length (l.flatMap Dt.ds))
@[simp] theorem dots_len (l : List Dt) : (l.flatMap Dt.ds).length = l.length * 2 := flat_length Dt.ds 2 (fun _ => rfl) l
theorem dot_at {l : List Dt} {i : Nat} {x : Dt} (h : l[i]? = some x) : List.take 2 (List.drop (i * 2) (List.map SV.d (l.flatMap Dt.ds))) = x.cells := by
  rw [← List.map_drop, ← List.map_take, flat_take Dt.ds 2 (fun _ => rfl) l i x h]
  rfl
section
variable {P : Program} {N k0 : Nat} {st : St} {Q : Exit → St → Prop}
/-- A slot's value, said otherwise. -/
theorem SW.slot {c : SCo} (t : Nat) {s : SV} (s' : SV) (hl : st.env.lookup t = some s) (hs : ∀ (p : Nat → Prop) μ M v, Rp p μ M s v → Rp p μ M s' v) (h : SW P N k0 c ⟨(t, s') :: st.env, st.hp, st.k⟩ Q) : SW P N k0 c st Q := by
  refine fun cc hc μ0 M0 w0 c0 a w hSt => h cc hc μ0 M0 w0 c0 a w ?_
  obtain ⟨hk0, hdf, hsz, μ, M, hsl, hS, hE⟩ := hSt
  refine ⟨hk0, hdf, hsz, μ, M, fun q x hq => ?_, hS, hE⟩
  simp only [List.lookup] at hq
  split at hq
  · rename_i e
    have e : q = t := by simpa using e
    injection hq with hq
    subst e; subst hq
    exact hs _ _ _ _ (hsl q s hl)
  · exact hsl q x hq
theorem nils_sl (p : Nat → Prop) (μ : Nat → Nm) (M : Mem) (v : Value) (h : Rp p μ M (.d .nils) v) : Rp p μ M (.d (.sl 0 [])) v := Rp.d_iff.2 (Rp.d_iff.1 h).nils_sl
theorem SW.nils {c : SCo} (t : Nat) (hl : st.env.lookup t = some (.d .nils)) (h : SW P N k0 c ⟨(t, .d (.sl 0 [])) :: st.env, st.hp, st.k⟩ Q) : SW P N k0 c st Q := SW.slot t _ hl nils_sl h
end
end Go.Sl
