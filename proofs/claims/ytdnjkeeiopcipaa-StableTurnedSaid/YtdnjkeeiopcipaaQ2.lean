/-
  A tracker as objects: its box, and the eight maps of what waits (a map that is nil counts as one).
-/
import Derived.Test.YtdnjkeeiopcipaaQ1
import Derived.Test.YtdnjkeeiopcipaaP6
import Derived.Test.YtdnjkeeiopcipaaP5
import Derived.Test.YtdnjkeeiopcipaaP4
set_option linter.unusedSectionVars false
set_option linter.unusedVariables false
set_option linter.unusedSimpArgs false
namespace Go.Proofs.Ytdnjkeeiopcipaa
open Go.Sl Go.Proofs

abbrev VMap := MM Vec Int
structure Tk where
  bx : Nat
  nm : Nat → Nat
  n : Nat
  own : Nat
  has : Vec
  cnt : Nat → Vec
  wt : Nat → Option (VMap × Nat)
def wob : Option (VMap × Nat) → Ob
  | none => .nomap
  | some (L, c) => .map (mapE Vec.cells iv L) c
def wlen : Option (VMap × Nat) → Nat
  | none => 0
  | some (L, _) => L.length
def Tk.cells (T : Tk) : List SV :=
  i64 T.n :: u8 T.own :: (T.has.cells ++ ((T.cnt 0).cells ++ ((T.cnt 1).cells ++ ((T.cnt 2).cells ++ ((T.cnt 3).cells ++ ((T.cnt 4).cells ++ ((T.cnt 5).cells ++ ((T.cnt 6).cells ++ ((T.cnt 7).cells ++
    [.mp (T.nm 0), .mp (T.nm 1), .mp (T.nm 2), .mp (T.nm 3), .mp (T.nm 4), .mp (T.nm 5), .mp (T.nm 6), .mp (T.nm 7)])))))))))
def Tk.maps (T : Tk) : Hp := (List.range 8).map fun r => (T.nm r, wob (T.wt r))
def Tk.hp (T : Tk) : Hp := (T.bx, .box 93 T.cells) :: T.maps
structure Tk.sep (T : Tk) : Prop where
  bx : ∀ r, r < 8 → T.nm r ≠ T.bx
  inj : ∀ r s, r < 8 → s < 8 → T.nm r = T.nm s → r = s

def Tk.setC (T : Tk) (r : Nat) (v : Vec) : Tk := { T with cnt := fun i => if i = r then v else T.cnt i }
def Tk.setW (T : Tk) (r : Nat) (x : Option (VMap × Nat)) : Tk := { T with wt := fun i => if i = r then x else T.wt i }
def Tk.setH (T : Tk) (v : Vec) : Tk := { T with has := v }

section
variable (T : Tk)
theorem Tk.ldn : ldv T.cells 0 none = some (i64 T.n) := rfl
theorem Tk.ldown : ldv T.cells 1 none = some (u8 T.own) := rfl
theorem Tk.ldhas : (T.cells.drop 2).take 8 = T.has.cells := rfl
theorem Tk.ldhas1 {r : Nat} (h : r < 8) : T.cells[2 + r]? = some (u32 (T.has.get r)) := by
  match r, h with
  | 0, _ | 1, _ | 2, _ | 3, _ | 4, _ | 5, _ | 6, _ | 7, _ => rfl
theorem Tk.ldcnt {r : Nat} (h : r < 8) : (T.cells.drop (10 + r * 8)).take 8 = (T.cnt r).cells := by
  match r, h with
  | 0, _ | 1, _ | 2, _ | 3, _ | 4, _ | 5, _ | 6, _ | 7, _ => rfl
theorem Tk.ldw {r : Nat} (h : r < 8) : T.cells[74 + r]? = some (.mp (T.nm r)) := by
  match r, h with
  | 0, _ | 1, _ | 2, _ | 3, _ | 4, _ | 5, _ | 6, _ | 7, _ => rfl
theorem Tk.cells_len : T.cells.length = 82 := rfl
theorem Tk.cells_one : T.cells.all SV.isOne = true := rfl
theorem Tk.splcnt {r : Nat} (h : r < 8) (v : Vec) : spl T.cells (10 + r * 8) v.cells = (T.setC r v).cells := by
  match r, h with
  | 0, _ | 1, _ | 2, _ | 3, _ | 4, _ | 5, _ | 6, _ | 7, _ => rfl
theorem Tk.splhas (v : Vec) : spl T.cells 2 v.cells = (T.setH v).cells := rfl
theorem Tk.splw {r : Nat} (h : r < 8) (k : Nat) : spl T.cells (74 + r) [.mp k] = ({ T with nm := fun i => if i = r then k else T.nm i } : Tk).cells := by
  match r, h with
  | 0, _ | 1, _ | 2, _ | 3, _ | 4, _ | 5, _ | 6, _ | 7, _ => rfl
@[simp] theorem Tk.cellsW (r : Nat) (x : Option (VMap × Nat)) : (T.setW r x).cells = T.cells := rfl
@[simp] theorem Tk.mapsC (r : Nat) (v : Vec) : (T.setC r v).maps = T.maps := rfl
@[simp] theorem Tk.mapsH (v : Vec) : (T.setH v).maps = T.maps := rfl

theorem lookup_fam {nm : Nat → Nat} {f : Nat → Ob} : ∀ {l : List Nat} {r : Nat}, (∀ s, s ∈ l → nm s = nm r → s = r) → r ∈ l → List.lookup (nm r) (l.map fun i => (nm i, f i)) = some (f r)
  | [], r, _, h => by cases h
  | a :: l, r, hi, h => by
    simp only [List.map_cons, List.lookup]
    by_cases e : nm r = nm a
    · have := hi a (by simp) e.symm
      subst this
      simp
    · rw [show (nm r == nm a) = false by simpa using e]
      exact lookup_fam (fun s hs => hi s (by simp [hs])) ((List.mem_cons.1 h).resolve_left fun h => e (by rw [h]))
theorem lookup_fam0 {nm : Nat → Nat} {f : Nat → Ob} {k : Nat} : ∀ {l : List Nat}, (∀ s, s ∈ l → nm s ≠ k) → List.lookup k (l.map fun i => (nm i, f i)) = none
  | [], _ => rfl
  | a :: l, hi => by
    simp only [List.map_cons, List.lookup]
    rw [show (k == nm a) = false by simpa using fun h => hi a (by simp) h.symm]
    exact lookup_fam0 fun s hs => hi s (by simp [hs])
theorem hrep_fam {nm : Nat → Nat} {f : Nat → Ob} {o : Ob} : ∀ {l : List Nat} {r : Nat}, l.Nodup → (∀ s, s ∈ l → nm s = nm r → s = r) → r ∈ l → hrep (l.map fun i => (nm i, f i)) (nm r) o = l.map fun i => (nm i, if i = r then o else f i)
  | [], r, _, _, h => by cases h
  | a :: l, r, hn, hi, h => by
    simp only [List.map_cons, hrep]
    rw [List.nodup_cons] at hn
    by_cases e : nm a = nm r
    · have := hi a (by simp) e
      subst this
      simp only [if_true]
      congr 1
      refine List.map_congr_left fun s hs => ?_
      rw [if_neg fun h : s = a => hn.1 (by rw [← h]; exact hs)]
    · rw [if_neg e]
      have hr : r ∈ l := (List.mem_cons.1 h).resolve_left fun h => e (by rw [h])
      rw [hrep_fam hn.2 (fun s hs => hi s (by simp [hs])) hr, if_neg fun h => e (by rw [h])]
variable {T}
theorem Tk.lkb : List.lookup T.bx T.hp = some (.box 93 T.cells) := by simp [Tk.hp]
theorem Tk.lkm (hs : T.sep) {r : Nat} (h : r < 8) : List.lookup (T.nm r) T.hp = some (wob (T.wt r)) := by
  simp only [Tk.hp, List.lookup]
  rw [show (T.nm r == T.bx) = false by simpa using hs.bx r h]
  exact lookup_fam (f := fun r => wob (T.wt r)) (fun s h1 h2 => hs.inj s r (by simpa using h1) h h2) (by simpa using h)
theorem Tk.lko {k : Nat} (hb : k ≠ T.bx) (hm : ∀ r, r < 8 → T.nm r ≠ k) : List.lookup k T.hp = none := by
  simp only [Tk.hp, List.lookup]
  rw [show (k == T.bx) = false by simpa using hb]
  exact lookup_fam0 fun s h => hm s (by simpa using h)
theorem Tk.hrepb {o : List SV} : hrep T.hp T.bx (.box 93 o) = (T.bx, .box 93 o) :: T.maps := by simp [Tk.hp, hrep]
theorem Tk.hrepc {r : Nat} {v : Vec} : hrep T.hp T.bx (.box 93 (T.setC r v).cells) = (T.setC r v).hp := by rw [Tk.hrepb]; rfl
theorem Tk.hreph {v : Vec} : hrep T.hp T.bx (.box 93 (T.setH v).cells) = (T.setH v).hp := by rw [Tk.hrepb]; rfl
theorem Tk.hrepm (hs : T.sep) {r : Nat} (h : r < 8) (x : Option (VMap × Nat)) : hrep T.hp (T.nm r) (wob x) = (T.setW r x).hp := by
  simp only [Tk.hp, hrep]
  rw [if_neg fun e => hs.bx r h e.symm]
  unfold Tk.maps
  rw [hrep_fam List.nodup_range (fun s h1 h2 => hs.inj s r (by simpa using h1) h h2) (by simpa using h)]
  congr 1
  refine List.map_congr_left fun s _ => ?_
  show (T.nm s, if s = r then wob x else wob (T.wt s)) = (T.nm s, wob (if s = r then x else T.wt s))
  split <;> rfl
theorem Tk.sepC (hs : T.sep) (r : Nat) (v : Vec) : (T.setC r v).sep := ⟨hs.bx, hs.inj⟩
theorem Tk.sepH (hs : T.sep) (v : Vec) : (T.setH v).sep := ⟨hs.bx, hs.inj⟩
theorem Tk.sepW (hs : T.sep) (r : Nat) (x : Option (VMap × Nat)) : (T.setW r x).sep := ⟨hs.bx, hs.inj⟩

/-- All names are below k. -/
structure Tk.lt (T : Tk) (k : Nat) : Prop where
  bx : T.bx < k
  nm : ∀ r, r < 8 → T.nm r < k
theorem Tk.ok {q : Nat → Bool} (hb : q T.bx = true) (hm : ∀ r, r < 8 → q (T.nm r) = true) : T.hp.ok q = true := by
  simp only [Tk.hp, Hp.ok, List.all_cons, Bool.and_eq_true, hb, true_and, List.all_eq_true, Tk.maps, List.mem_map, List.mem_range]
  constructor
  · simp only [Ob.ok, Tk.cells, SV.oks, SV.ok, Vec.cells_ok, SV.oks_append, Bool.true_and, Bool.and_true, hm 0 (by omega), hm 1 (by omega), hm 2 (by omega), hm 3 (by omega), hm 4 (by omega), hm 5 (by omega), hm 6 (by omega), hm 7 (by omega)]
  · rintro x ⟨r, hr, rfl⟩
    refine ⟨hm r hr, ?_⟩
    show (wob (T.wt r)).ok q = true
    cases T.wt r with
    | none => rfl
    | some y => obtain ⟨L, c⟩ := y; exact vmap_ok q L
theorem Tk.okk {k : Nat} (h : T.lt k) : T.hp.ok (fun n => decide (n < k)) = true := Tk.ok (by simpa using h.bx) fun r hr => by simpa using h.nm r hr
theorem Tk.lkk {k n : Nat} (h : T.lt k) (hn : k ≤ n) : List.lookup n T.hp = none := Tk.lko (by have := h.bx; omega) fun r hr => by have := h.nm r hr; omega
end
end Go.Proofs.Ytdnjkeeiopcipaa

/-
  What a tracker's acks come to: the plain law of settling one replica's.
-/
set_option linter.unusedSectionVars false
set_option linter.unusedVariables false
set_option linter.unusedSimpArgs false
namespace Go.Proofs.Ytdnjkeeiopcipaa
open Go.Sl Go.Proofs

theorem Vec.ext_le {x y : Vec} (h : ∀ q, q < 8 → ∀ b, x.get q ≤ b ↔ y.get q ≤ b) : x = y := Vec.ext' fun q hq => by
  have h1 := (h q hq (y.get q)).2 (Nat.le_refl _)
  have h2 := (h q hq (x.get q)).1 (Nat.le_refl _)
  omega
/-- Merged with all of a row. -/
def joinL (c : Vec) (l : List Vec) : Vec := l.foldl (Vec.zip max) c
theorem joinL_le {q b : Nat} (hq : q < 8) : ∀ {l : List Vec} {c : Vec}, (joinL c l).get q ≤ b ↔ c.get q ≤ b ∧ ∀ v, v ∈ l → v.get q ≤ b
  | [], c => by simp [joinL]
  | x :: l, c => by
    have := joinL_le (b := b) hq (l := l) (c := Vec.zip max c x)
    simp only [joinL, List.foldl_cons, List.mem_cons, forall_eq_or_imp] at this ⊢
    rw [this, Vec.zip_get _ _ _ hq, Nat.max_le, and_assoc]
theorem joinL_wf {l : List Vec} {c : Vec} (hc : c.wf) (hl : ∀ v, v ∈ l → v.wf) : (joinL c l).wf := fun q hq => by
  have := (joinL_le (b := 4294967295) hq (l := l) (c := c)).2 ⟨by have := hc q hq; omega, fun v hv => by have := hl v hv q hq; omega⟩
  omega
theorem joinL_above (c : Vec) (l : List Vec) : (joinL c l).above c = true := Vec.above_iff.2 fun q hq => ((joinL_le hq).1 (Nat.le_refl _)).1
theorem joinL_above' {c v : Vec} {l : List Vec} (h : v ∈ l) : (joinL c l).above v = true := Vec.above_iff.2 fun q hq => ((joinL_le hq).1 (Nat.le_refl _)).2 v h
theorem Vec.above_trans {a b c : Vec} (h1 : a.above b = true) (h2 : b.above c = true) : a.above c = true := by
  rw [Vec.above_iff] at *
  exact fun r hr => Nat.le_trans (h2 r hr) (h1 r hr)

theorem mem_keys_del {L : VMap} (h : (MM.keys L).Nodup) {v u : Vec} : u ∈ MM.keys (MM.del L v) ↔ u ∈ MM.keys L ∧ u ≠ v := by
  rw [MM.del_filter h]
  simp only [MM.keys, List.mem_map, List.mem_filter, decide_eq_true_eq]
  constructor
  · rintro ⟨x, ⟨hx, hn⟩, rfl⟩
    exact ⟨⟨x, hx, rfl⟩, fun e => hn e.symm⟩
  · rintro ⟨⟨x, hx, rfl⟩, hn⟩
    exact ⟨x, ⟨hx, fun e => hn e.symm⟩, rfl⟩
theorem del_len {L : VMap} (h : (MM.keys L).Nodup) {v : Vec} (hv : v ∈ MM.keys L) : (MM.del L v).length < L.length := by
  obtain ⟨x, hx, rfl⟩ := List.mem_map.1 hv
  rw [MM.del_filter h]
  exact List.length_filter_lt_length_iff_exists.2 ⟨x, hx, by simp⟩
theorem del_wf {L : VMap} {c : Nat} (h : MM.wf L c) (v : Vec) : MM.wf (MM.del L v) c := by
  rw [MM.del_filter h.keys]; exact MM.wf_filter h _

/-- Does an ack count, when its own number is had? -/
def due (h : Vec) (r : Nat) (v : Vec) : Bool := decide (v.get r ≤ h.get r)
/-- What counts then; what waits then. -/
def settC (h : Vec) (r : Nat) (c : Vec) (L : VMap) : Vec := joinL c ((MM.keys L).filter (due h r))
def settW (h : Vec) (r : Nat) (c : Vec) (L : VMap) : VMap := L.filter fun x => !due h r x.2.1 && !(settC h r c L).above x.2.1
theorem settC_above (h : Vec) (r : Nat) (c : Vec) (L : VMap) : (settC h r c L).above c = true := joinL_above _ _
theorem settC_due {h : Vec} {r : Nat} {c v : Vec} {L : VMap} (hk : (MM.keys L).Nodup) (hv : v ∈ MM.keys L) (hd : due h r v = true) : settC h r (Vec.zip max c v) (MM.del L v) = settC h r c L := Vec.ext_le fun q hq b => by
  unfold settC
  rw [joinL_le hq, joinL_le hq, Vec.zip_get _ _ _ hq, Nat.max_le]
  simp only [List.mem_filter, mem_keys_del hk]
  constructor
  · rintro ⟨⟨h1, h2⟩, h3⟩
    refine ⟨h1, fun u hu => ?_⟩
    by_cases e : u = v
    · rw [e]; exact h2
    · exact h3 u ⟨⟨hu.1, e⟩, hu.2⟩
  · rintro ⟨h1, h2⟩
    exact ⟨⟨h1, h2 v ⟨hv, hd⟩⟩, fun u hu => h2 u ⟨hu.1.1, hu.2⟩⟩
theorem settC_nd {h : Vec} {r : Nat} {c v : Vec} {L : VMap} (hk : (MM.keys L).Nodup) (hd : due h r v = false) : settC h r c (MM.del L v) = settC h r c L := Vec.ext_le fun q hq b => by
  unfold settC
  rw [joinL_le hq, joinL_le hq]
  simp only [List.mem_filter, mem_keys_del hk]
  constructor
  · rintro ⟨h1, h2⟩
    refine ⟨h1, fun u hu => h2 u ⟨⟨hu.1, fun e => ?_⟩, hu.2⟩⟩
    rw [e, hd] at hu; cases hu.2
  · rintro ⟨h1, h2⟩
    exact ⟨h1, fun u hu => h2 u ⟨hu.1.1, hu.2⟩⟩
theorem settW_del {h : Vec} {r : Nat} {c c' v : Vec} {L : VMap} (hk : (MM.keys L).Nodup) (he : settC h r c' (MM.del L v) = settC h r c L) (hv : due h r v = true ∨ (settC h r c L).above v = true) : settW h r c' (MM.del L v) = settW h r c L := by
  unfold settW
  rw [he, MM.del_filter hk, List.filter_filter]
  refine List.filter_congr fun x _ => ?_
  by_cases e : v = x.2.1
  · subst e
    rcases hv with hv | hv <;> simp [hv]
  · simp [e]
theorem sett_end {h : Vec} {r : Nat} {c : Vec} {L : VMap} (ha : ∀ v, v ∈ MM.keys L → due h r v = false ∧ c.above v = false) : settC h r c L = c ∧ settW h r c L = L := by
  have h1 : settC h r c L = c := by
    unfold settC
    rw [List.filter_eq_nil_iff.2 fun v hv => by simp [(ha v hv).1]]
    rfl
  refine ⟨h1, ?_⟩
  unfold settW
  rw [h1, List.filter_eq_self]
  intro x hx
  have := ha x.2.1 (List.mem_map.2 ⟨x, hx, rfl⟩)
  simp [this.1, this.2]

/-- A tracker, with what counts and what waits of one replica. -/
def Tk.up (T : Tk) (r : Nat) (v : Vec) (L : VMap) (cl : Nat) : Tk := { T with cnt := fun i => if i = r then v else T.cnt i, wt := fun i => if i = r then some (L, cl) else T.wt i }
section
variable {T : Tk} {r : Nat} {v : Vec} {L : VMap} {cl : Nat}
theorem Tk.up_same (hw : T.wt r = some (L, cl)) : T.up r (T.cnt r) L cl = T := by
  obtain ⟨bx, nm, n, own, has, cnt, wt⟩ := T
  simp only [Tk.up, Tk.mk.injEq, true_and]
  dsimp only at hw
  refine ⟨funext fun i => ?_, funext fun i => ?_⟩
  · split
    · rename_i e; subst e; rfl
    · rfl
  · split
    · rename_i e; subst e; exact hw.symm
    · rfl
theorem Tk.sepU (hs : T.sep) : (T.up r v L cl).sep := ⟨hs.bx, hs.inj⟩
theorem Tk.u_b : List.lookup T.bx (T.up r v L cl).hp = some (.box 93 (T.up r v L cl).cells) := Tk.lkb (T := T.up r v L cl)
theorem Tk.u_m (hs : T.sep) (h : r < 8) : List.lookup (T.nm r) (T.up r v L cl).hp = some (.map (mapE Vec.cells iv L) cl) := by
  have := Tk.lkm (T := T.up r v L cl) (Tk.sepU hs) h
  simp only [Tk.up, if_true] at this
  exact this
theorem Tk.u_w (h : r < 8) : (T.up r v L cl).cells[74 + r]? = some (.mp (T.nm r)) := Tk.ldw (T.up r v L cl) h
theorem Tk.u_h (h : r < 8) : (T.up r v L cl).cells[2 + r]? = some (.d (.int .u32 (T.has.get r))) := Tk.ldhas1 (T.up r v L cl) h
theorem Tk.u_c (h : r < 8) : ((T.up r v L cl).cells.drop (10 + r * 8)).take 8 = v.cells := by
  have := Tk.ldcnt (T.up r v L cl) h
  simp only [Tk.up, if_true] at this
  exact this
theorem Tk.u_sc (h : r < 8) {v' : Vec} : spl (T.up r v L cl).cells (10 + r * 8) v'.cells = (T.up r v' L cl).cells := by
  rw [Tk.splcnt _ h]
  congr 1
  simp only [Tk.up, Tk.setC, Tk.mk.injEq, true_and, and_true]
  funext i
  split <;> rfl
theorem Tk.u_rb {v' : Vec} : hrep (T.up r v L cl).hp T.bx (.box 93 (T.up r v' L cl).cells) = (T.up r v' L cl).hp := by
  have := Tk.hrepb (T := T.up r v L cl) (o := (T.up r v' L cl).cells)
  rw [show (T.up r v L cl).bx = T.bx from rfl] at this
  rw [this]; rfl
theorem Tk.u_rm (hs : T.sep) (h : r < 8) {L' : VMap} : hrep (T.up r v L cl).hp (T.nm r) (.map (mapE Vec.cells iv L') cl) = (T.up r v L' cl).hp := by
  have := Tk.hrepm (T := T.up r v L cl) (Tk.sepU hs) h (some (L', cl))
  rw [show (T.up r v L cl).nm r = T.nm r from rfl] at this
  rw [show Ob.map (mapE Vec.cells iv L') cl = wob (some (L', cl)) from rfl, this]
  congr 1
  simp only [Tk.up, Tk.setW, Tk.mk.injEq, true_and]
  funext i
  split <;> rfl
theorem Tk.u_lt {k : Nat} (h : T.lt k) : (T.up r v L cl).lt k := ⟨h.bx, h.nm⟩
theorem lk_of_nodup {h : Hp} (hn : (h.map (·.1)).Nodup) : ∀ x, x ∈ h → lk h x.1 = some x.2 := by
  induction h with
  | nil => intro x hx; cases hx
  | cons y h ih =>
    intro x hx
    rw [List.map_cons, List.nodup_cons] at hn
    obtain ⟨a, o⟩ := y
    rw [lk_cons]
    rcases List.mem_cons.1 hx with rfl | hx
    · simp
    · have : x.1 ≠ a := fun e => hn.1 (by rw [← e]; exact List.mem_map.2 ⟨x, hx, rfl⟩)
      rw [if_neg this]
      exact ih hn.2 x hx
theorem Tk.names {T : Tk} {n : Nat} (h : n ∈ T.hp.map (·.1)) : n = T.bx ∨ ∃ r, r < 8 ∧ n = T.nm r := by
  simp only [Tk.hp, Tk.maps, List.map_cons, List.mem_cons, List.map_map, List.mem_map, List.mem_range, Function.comp_def] at h
  rcases h with h | ⟨r, hr, h⟩
  · exact .inl h
  · exact .inr ⟨r, hr, h.symm⟩
theorem Tk.nodup {T : Tk} (hs : T.sep) : (T.hp.map (·.1)).Nodup := by
  simp only [Tk.hp, Tk.maps, List.map_cons, List.map_map, Function.comp_def, List.nodup_cons, List.mem_map, List.mem_range, not_exists, not_and]
  refine ⟨fun r hr => hs.bx r hr, ?_⟩
  rw [List.nodup_iff_pairwise_ne, List.pairwise_map]
  exact List.Pairwise.imp_of_mem (fun {a b} ha hb hab e => hab (hs.inj a b (by simpa using ha) (by simpa using hb) e)) List.nodup_range
theorem Tk.out {T : Tk} {k n : Nat} (h : T.lt k) (hn : k ≤ n) : n ∉ T.hp.map (·.1) := fun hm => by
  rcases Tk.names hm with e | ⟨r, hr, e⟩
  · have := h.bx; omega
  · have := h.nm r hr; omega
theorem Tk.u_bx : (T.up r v L cl).bx = T.bx := rfl
theorem Tk.u_nm : (T.up r v L cl).nm = T.nm := rfl
theorem Tk.u_len : (T.up r v L cl).cells.length = 82 := rfl
end
end Go.Proofs.Ytdnjkeeiopcipaa

/-
  Trackers: one pass over a replica's acks.
-/
set_option linter.unusedSectionVars false
set_option linter.unusedVariables false
set_option linter.unusedSimpArgs false
namespace Go.Proofs.Ytdnjkeeiopcipaa
open Go.Sl Go.Proofs
attribute [local irreducible] SW RW SCd SC CallP Pruned Tk.cells Tk.hp Tk.up

/-- How far a pass is. -/
structure SInv (h : Vec) (r : Nat) (v : Vec) (L : VMap) (cl : Nat) (v' : Vec) (L' : VMap) (seen : List Nat) (ch : Bool) : Prop where
  wf : MM.wf L' cl
  c : settC h r v' L' = settC h r v L
  w : settW h r v' L' = settW h r v L
  len : ch = true → L'.length < L.length
  le : L'.length ≤ L.length
  no : ch = false → v' = v ∧ L' = L ∧ ∀ x, x ∈ L → x.1 ∈ seen → due h r x.2.1 = false ∧ v.above x.2.1 = false

section
variable {T : Tk} (hs : T.sep) {r : Nat} (hr : r < 8) {v : Vec} {L : VMap} {cl : Nat} {t1 k : Nat}
/-- What one pass leaves. -/
def PassQ (T : Tk) (r : Nat) (v : Vec) (L : VMap) (cl t1 : Nat) : SV → Hp → Prop := fun x F => ∃ (v' : Vec) (L' : VMap) (ch : Bool), x = bl ch ∧ F = (t1, .box 26 [.ptr T.bx 0]) :: (T.up r v' L' cl).hp ∧ MM.wf L' cl ∧ settC T.has r v' L' = settC T.has r v L ∧ settW T.has r v' L' = settW T.has r v L ∧
  (ch = true → L'.length < L.length) ∧ (ch = false → settC T.has r v L = v' ∧ settW T.has r v L = L')

include hs hr in
set_option maxHeartbeats 4000000 in
theorem pass_sb (hwf : MM.wf L cl) (hlt : T.lt k) (ht1 : t1 < k) (htb : t1 ≠ T.bx) (htm : ∀ r, r < 8 → t1 ≠ T.nm r) :
    SB Try.prog stable_Tracker_settle_1.f [i64 r, .ptr t1 0] ((t1, .box 26 [.ptr T.bx 0]) :: (T.up r v L cl).hp) k 2 (PassQ T r v L cl t1) := by
  have hbx := hlt.bx
  have hnm := hlt.nm r hr
  have hok : ∀ v L kx, k ≤ kx → (T.up r v L cl).hp.ok (fun n => decide (n < kx)) = true := fun v L kx h => Hp.ok_less h (Tk.okk (Tk.u_lt hlt))
  have hok1 : ∀ v L kx, k ≤ kx → Hp.ok (fun n => decide (n < kx)) ((t1, .box 26 [.ptr T.bx 0]) :: (T.up r v L cl).hp) = true := fun v L kx h => by
    have := hok v L kx h
    simp only [Hp.ok, List.all_cons, Ob.ok, SV.oks, SV.ok, Bool.and_true, Bool.and_eq_true, decide_eq_true_eq] at this ⊢
    exact ⟨⟨by omega, by omega⟩, this⟩
  have hok2 : ∀ v L se kx, k + 1 ≤ kx → Hp.ok (fun n => decide (n < kx)) ((k, .iter (some (T.nm r)) cl se cl) :: (t1, .box 26 [.ptr T.bx 0]) :: (T.up r v L cl).hp) = true := fun v L se kx h => by
    have := hok1 v L kx (by omega)
    simp only [Hp.ok, List.all_cons, Ob.ok, Bool.and_eq_true, decide_eq_true_eq] at this ⊢
    exact ⟨⟨by omega, by omega⟩, this⟩
  have hn1 : ∀ v L, (((t1, .box 26 [.ptr T.bx 0]) :: (T.up r v L cl).hp : Hp).map (·.1)).Nodup := fun v L => by
    rw [List.map_cons, List.nodup_cons]
    refine ⟨fun hm => ?_, Tk.nodup (Tk.sepU hs)⟩
    rcases Tk.names hm with e | ⟨r', hr', e⟩
    · exact htb (e.trans Tk.u_bx)
    · exact htm r' hr' (by rw [Tk.u_nm] at e; exact e)
  have hn2 : ∀ v L se, (((k, .iter (some (T.nm r)) cl se cl) :: (t1, .box 26 [.ptr T.bx 0]) :: (T.up r v L cl).hp : Hp).map (·.1)).Nodup := fun v L se => by
    rw [List.map_cons, List.nodup_cons]
    refine ⟨fun hm => ?_, hn1 v L⟩
    rcases List.mem_cons.1 hm with e | hm
    · dsimp only at e; omega
    · exact Tk.out (Tk.u_lt hlt) (Nat.le_refl _) hm
  have hn3 : ∀ v L se o, (((k + 1, o) :: (k, .iter (some (T.nm r)) cl se cl) :: (t1, .box 26 [.ptr T.bx 0]) :: (T.up r v L cl).hp : Hp).map (·.1)).Nodup := fun v L se o => by
    rw [List.map_cons, List.nodup_cons]
    refine ⟨fun hm => ?_, hn2 v L se⟩
    rcases List.mem_cons.1 hm with e | hm
    · dsimp only at e; omega
    · rcases List.mem_cons.1 hm with e | hm
      · dsimp only at e; omega
      · exact Tk.out (Tk.u_lt hlt) (Nat.le_succ _) hm
  refine stable_Tracker_settle_1.enter (by simp [SV.ok, SV.oks]; omega) (hok1 v L k (Nat.le_refl _)) (by simp) ?_
  unfold stable_Tracker_settle_1.s
  have uB : ∀ v L, List.lookup T.bx (T.up r v L cl).hp = some (.box 93 (T.up r v L cl).cells) := fun _ _ => Tk.u_b
  have uM : ∀ v L, List.lookup (T.nm r) (T.up r v L cl).hp = some (.map (mapE Vec.cells iv L) cl) := fun _ _ => Tk.u_m hs hr
  have uW : ∀ v L, (T.up r v L cl).cells[74 + r]? = some (.mp (T.nm r)) := fun _ _ => Tk.u_w hr
  have uH : ∀ v L, (T.up r v L cl).cells[2 + r]? = some (.d (.int .u32 (T.has.get r))) := fun _ _ => Tk.u_h hr
  have uC : ∀ v L, ((T.up r v L cl).cells.drop (10 + r * 8)).take 8 = v.cells := fun _ _ => Tk.u_c hr
  have uS : ∀ (v L) (v' : Vec), spl (T.up r v L cl).cells (10 + r * 8) v'.cells = (T.up r v' L cl).cells := fun _ _ _ => Tk.u_sc hr
  have uRb : ∀ v L v', hrep (T.up r v L cl).hp T.bx (.box 93 (T.up r v' L cl).cells) = (T.up r v' L cl).hp := fun _ _ _ => Tk.u_rb
  have uRm : ∀ v L L', hrep (T.up r v L cl).hp (T.nm r) (.map (mapE Vec.cells iv L') cl) = (T.up r v L' cl).hp := fun _ _ _ => Tk.u_rm hs hr
  have uK : ∀ v L, List.lookup k (T.up r v L cl).hp = none := fun _ _ => Tk.lkk (Tk.u_lt hlt) (Nat.le_refl _)
  have uK1 : ∀ v L, List.lookup (k + 1) (T.up r v L cl).hp = none := fun _ _ => Tk.lkk (Tk.u_lt hlt) (Nat.le_succ _)
  have uO : ∀ v L, (10 + r * 8 + 8 ≤ (T.up r v L cl).cells.length) = True := fun _ _ => eq_true (by rw [Tk.u_len]; omega)
  have f1 := ne4 (Ne.symm htb)
  have f2 := ne4 (Ne.symm (htm r hr))
  have f3 := ne4 (show k ≠ t1 by omega)
  have f4 := ne4 (show k ≠ T.bx by omega)
  have f5 := ne4 (show k ≠ T.nm r by omega)
  have f6 := ne4 (hs.bx r hr)
  have g1 := ne4 (show k + 1 ≠ t1 by omega)
  have g2 := ne4 (show k + 1 ≠ T.bx by omega)
  have g3 := ne4 (show k + 1 ≠ T.nm r by omega)
  have g4 := ne4 (show k + 1 ≠ k by omega)
  refine SW.seq ?_
  (refine SW.regL [0, 1, 3, 4, 5, 12, 14, 17, 42] mixed ?_; (repeat (first | refine RW.ro bq_tt (h := ?_) | refine RW.skip (h := ?_) | refine RW.op bq_tt (h := ?_) | refine RW.opN bq_tt (h := ?_) | refine RW.skip0 (h := ?_) | (refine RW.callC (h := ?_); (first | refine CallP.mk bq_tt (hc := merge2_at _ _ _) (h := ?_) | refine CallP.mk bq_tt (hc := above_at _ _ _) (h := ?_))))); refine RW.nil ⟨conf_of (by kernel_rfl), Pruned.mk (h := ?_)⟩)
  refine SW.seq ?_
  (refine SW.regL [0, 1, 3, 4, 5, 12, 14, 17, 42] mixed ?_; (repeat (first | refine RW.ro bq_tt (h := ?_) | refine RW.skip (h := ?_) | refine RW.op bq_tt (h := ?_) | refine RW.opN bq_tt (h := ?_) | refine RW.skip0 (h := ?_) | (refine RW.callC (h := ?_); (first | refine CallP.mk bq_tt (hc := merge2_at _ _ _) (h := ?_) | refine CallP.mk bq_tt (hc := above_at _ _ _) (h := ?_))))); refine RW.nil ⟨conf_of (by kernel_rfl), Pruned.mk (h := ?_)⟩)
  refine SW.seq (SW.seq ?_)
  (refine SW.regL [0, 1, 3, 4, 5, 12, 14, 17, 42] mixed ?_; (repeat (first | refine RW.ro (And.intro (uB) (And.intro (uM) (And.intro (uW) (And.intro (uK) (And.intro (uRm) (And.intro (f1) (And.intro (f2) (And.intro (f3) (And.intro (f4) (And.intro (f5) (f6))))))))))) (h := ?_) | refine RW.skip (h := ?_) | refine RW.op (And.intro (uB) (And.intro (uM) (And.intro (uW) (And.intro (uK) (And.intro (uRm) (And.intro (f1) (And.intro (f2) (And.intro (f3) (And.intro (f4) (And.intro (f5) (f6))))))))))) (h := ?_) | refine RW.opN (And.intro (uB) (And.intro (uM) (And.intro (uW) (And.intro (uK) (And.intro (uRm) (And.intro (f1) (And.intro (f2) (And.intro (f3) (And.intro (f4) (And.intro (f5) (f6))))))))))) (h := ?_) | refine RW.skip0 (h := ?_) | (refine RW.callC (h := ?_); (first | refine CallP.mk (And.intro (uB) (And.intro (uM) (And.intro (uW) (And.intro (uK) (And.intro (uRm) (And.intro (f1) (And.intro (f2) (And.intro (f3) (And.intro (f4) (And.intro (f5) (f6))))))))))) (hc := merge2_at _ _ _) (h := ?_) | refine CallP.mk (And.intro (uB) (And.intro (uM) (And.intro (uW) (And.intro (uK) (And.intro (uRm) (And.intro (f1) (And.intro (f2) (And.intro (f3) (And.intro (f4) (And.intro (f5) (f6))))))))))) (hc := above_at _ _ _) (h := ?_))))); refine RW.nil ⟨conf_of (by kernel_rfl), Pruned.mk (h := ?_)⟩)
  refine SW.block (SW.mapLoop (es := fun i => mapE Vec.cells iv i.1.2.1) (c := fun _ => cl) (nit := fun _ => k) (nm := fun _ => T.nm r) (since := fun _ => cl) (sst := fun _ => cl) (seen := fun i => i.1.2.2.1)
    (α := {i : Vec × VMap × List Nat × Bool // SInv T.has r v L cl i.1 i.2.1 i.2.2.1 i.2.2.2})
    (fun i => ⟨[(4, bl i.1.2.2.2), (12, .it k), (0, i64 r), (1, .ptr t1 0)], (k, .iter (some (T.nm r)) cl i.1.2.2.1 cl) :: (t1, .box 26 [.ptr T.bx 0]) :: (T.up r i.1.1 i.1.2.1 cl).hp, k + 1⟩)
    (fun i => unseen (mapE Vec.cells iv i.1.2.1) i.1.2.2.1) ⟨(v, L, [], false), hwf, rfl, rfl, by simp, Nat.le_refl _, by simp⟩ id ?_ (fun i => by simp [List.lookup]) (fun i => by simp [lk_cons]) (fun i => by simp only [lk, List.lookup, f2, f5]; exact uM _ _) (fun i => by simp [f5]) (fun i e he => ?_) (fun i => Nat.le_refl _) (fun i hall => ?_) (fun i e he hs => ?_))
  · exact Weak.same (by simp) (by simp [EnvW, List.lookup, SV.ren, SV.rens, SV.ok, SV.oks]; omega) (hok2 v L [] _ (Nat.le_refl _)) (lk_of_nodup (hn2 v L []))
  · obtain ⟨x, hx, rfl⟩ := mapE_mem he
    exact i.2.wf.old x hx
  · obtain ⟨⟨v', L', seen, ch⟩, hi⟩ := i
    have hi : SInv T.has r v L cl v' L' seen ch := hi
    dsimp only at hall ⊢
    refine ⟨⟨[(4, bl ch)], (t1, .box 26 [.ptr T.bx 0]) :: (T.up r v' L' cl).hp, k + 2⟩, id, Weak.same (by simp) (by simp [EnvW, List.lookup, SV.ren, SV.ok]) (hok1 v' L' _ (by simp)) (fun x hx => lk_of_nodup (hn2 v' L' seen) x (List.mem_cons_of_mem _ hx)), ?_⟩
    rw [if_pos rfl]
    refine SW.seq ?_
    (refine SW.regL [0, 1, 3, 4, 5, 12, 14, 17, 42] mixed ?_; (repeat (first | refine RW.ro bq_tt (h := ?_) | refine RW.skip (h := ?_) | refine RW.op bq_tt (h := ?_) | refine RW.opN bq_tt (h := ?_) | refine RW.skip0 (h := ?_) | (refine RW.callC (h := ?_); (first | refine CallP.mk bq_tt (hc := merge2_at _ _ _) (h := ?_) | refine CallP.mk bq_tt (hc := above_at _ _ _) (h := ?_))))); refine RW.nil ⟨conf_of (by kernel_rfl), Pruned.mk (h := ?_)⟩)
    refine SW.ret ?_
    refine End.mk _ (h3 := fun _ _ h => h) (h4 := ⟨v', L', ch, rfl, rfl, hi.wf, hi.c, hi.w, hi.len, fun hc => ?_⟩) (h6 := hok1 v' L' _ (by omega))
    obtain ⟨rfl, rfl, hno⟩ := hi.no hc
    refine sett_end fun u hu => ?_
    obtain ⟨x, hx, rfl⟩ := List.mem_map.1 hu
    refine hno x hx ?_
    have := hall _ (List.mem_map.2 ⟨x, hx, rfl⟩)
    simpa only [List.contains_iff_mem] using this
  · obtain ⟨⟨v', L', seen, ch⟩, hi⟩ := i
    have hi : SInv T.has r v L cl v' L' seen ch := hi
    dsimp only at he hs ⊢
    obtain ⟨x, hx, rfl⟩ := mapE_mem he
    have g5 : (seen ++ [x.1]).getLast? = some x.1 := by simp
    have g6 := mapE_find (kc := Vec.cells) (vs := iv) hi.wf.times hx
    have g7 : ∀ n : Int, iv n = .d (.int .i64 n) := fun _ => rfl
    have hm := unseen_lt he hs
    have hu : ∀ u, unseen (mapE Vec.cells iv (MM.del L' u)) (seen ++ [x.1]) < unseen (mapE Vec.cells iv L') seen := fun u => by
      refine Nat.lt_of_le_of_lt (unseen_sub ?_ _) hm
      rw [MM.del_filter hi.wf.keys]
      exact List.filter_sublist.map _
    rw [hset_head]
    dsimp only
    refine SW.block (SW.seq ?_)
    (refine SW.regL [0, 1, 3, 4, 5, 12, 14, 17, 42] mixed ?_; (repeat (first | refine RW.ro (And.intro (uB) (And.intro (uM) (And.intro (uW) (And.intro (uK1) (And.intro (f1) (And.intro (f2) (And.intro (f3) (And.intro (f4) (And.intro (f5) (And.intro (f6) (And.intro (g1) (And.intro (g2) (And.intro (g3) (And.intro (g4) (And.intro (g5) (g6)))))))))))))))) (h := ?_) | refine RW.skip (h := ?_) | refine RW.op (And.intro (uB) (And.intro (uM) (And.intro (uW) (And.intro (uK1) (And.intro (f1) (And.intro (f2) (And.intro (f3) (And.intro (f4) (And.intro (f5) (And.intro (f6) (And.intro (g1) (And.intro (g2) (And.intro (g3) (And.intro (g4) (And.intro (g5) (g6)))))))))))))))) (h := ?_) | refine RW.opN (And.intro (uB) (And.intro (uM) (And.intro (uW) (And.intro (uK1) (And.intro (f1) (And.intro (f2) (And.intro (f3) (And.intro (f4) (And.intro (f5) (And.intro (f6) (And.intro (g1) (And.intro (g2) (And.intro (g3) (And.intro (g4) (And.intro (g5) (g6)))))))))))))))) (h := ?_) | refine RW.skip0 (h := ?_) | (refine RW.callC (h := ?_); (first | refine CallP.mk (And.intro (uB) (And.intro (uM) (And.intro (uW) (And.intro (uK1) (And.intro (f1) (And.intro (f2) (And.intro (f3) (And.intro (f4) (And.intro (f5) (And.intro (f6) (And.intro (g1) (And.intro (g2) (And.intro (g3) (And.intro (g4) (And.intro (g5) (g6)))))))))))))))) (hc := merge2_at _ _ _) (h := ?_) | refine CallP.mk (And.intro (uB) (And.intro (uM) (And.intro (uW) (And.intro (uK1) (And.intro (f1) (And.intro (f2) (And.intro (f3) (And.intro (f4) (And.intro (f5) (And.intro (f6) (And.intro (g1) (And.intro (g2) (And.intro (g3) (And.intro (g4) (And.intro (g5) (g6)))))))))))))))) (hc := above_at _ _ _) (h := ?_))))); refine RW.nil ⟨conf_of (by kernel_rfl), Pruned.mk (h := ?_)⟩)
    refine SW.seq (SW.block (SW.seq ?_))
    have g8 := Vec.cells_get x.2.1 hr
    rcases hd : decide ((x.2.1.get r : Int) ≤ T.has.get r) with _ | _
    · (refine SW.regL [0, 1, 3, 4, 5, 12, 14, 17, 42] mixed ?_; (repeat (first | refine RW.ro (And.intro (uB) (And.intro (uM) (And.intro (uW) (And.intro (uK1) (And.intro (uH) (And.intro (hd) (And.intro (f1) (And.intro (f2) (And.intro (f3) (And.intro (f4) (And.intro (f5) (And.intro (f6) (And.intro (g1) (And.intro (g2) (And.intro (g3) (And.intro (g4) (g8))))))))))))))))) (h := ?_) | refine RW.skip (h := ?_) | refine RW.op (And.intro (uB) (And.intro (uM) (And.intro (uW) (And.intro (uK1) (And.intro (uH) (And.intro (hd) (And.intro (f1) (And.intro (f2) (And.intro (f3) (And.intro (f4) (And.intro (f5) (And.intro (f6) (And.intro (g1) (And.intro (g2) (And.intro (g3) (And.intro (g4) (g8))))))))))))))))) (h := ?_) | refine RW.opN (And.intro (uB) (And.intro (uM) (And.intro (uW) (And.intro (uK1) (And.intro (uH) (And.intro (hd) (And.intro (f1) (And.intro (f2) (And.intro (f3) (And.intro (f4) (And.intro (f5) (And.intro (f6) (And.intro (g1) (And.intro (g2) (And.intro (g3) (And.intro (g4) (g8))))))))))))))))) (h := ?_) | refine RW.skip0 (h := ?_) | (refine RW.callC (h := ?_); (first | refine CallP.mk (And.intro (uB) (And.intro (uM) (And.intro (uW) (And.intro (uK1) (And.intro (uH) (And.intro (hd) (And.intro (f1) (And.intro (f2) (And.intro (f3) (And.intro (f4) (And.intro (f5) (And.intro (f6) (And.intro (g1) (And.intro (g2) (And.intro (g3) (And.intro (g4) (g8))))))))))))))))) (hc := merge2_at _ _ _) (h := ?_) | refine CallP.mk (And.intro (uB) (And.intro (uM) (And.intro (uW) (And.intro (uK1) (And.intro (uH) (And.intro (hd) (And.intro (f1) (And.intro (f2) (And.intro (f3) (And.intro (f4) (And.intro (f5) (And.intro (f6) (And.intro (g1) (And.intro (g2) (And.intro (g3) (And.intro (g4) (g8))))))))))))))))) (hc := above_at _ _ _) (h := ?_))))); refine RW.nil ⟨conf_of (by kernel_rfl), Pruned.mk (h := ?_)⟩)
      refine SW.condF rfl (SW.seq ?_)
      rcases ha : v'.above x.2.1 with _ | _
      · (refine SW.regL [0, 1, 3, 4, 5, 12, 14, 17, 42] mixed ?_; (repeat (first | refine RW.ro (And.intro (uB) (And.intro (uM) (And.intro (uW) (And.intro (uK1) (And.intro (uH) (And.intro (uC) (And.intro (uO) (And.intro (uS) (And.intro (uRb) (And.intro (uRm) (And.intro (hd) (And.intro (ha) (And.intro (f1) (And.intro (f2) (And.intro (f3) (And.intro (f4) (And.intro (f5) (And.intro (f6) (And.intro (g1) (And.intro (g2) (And.intro (g3) (And.intro (g4) (g8))))))))))))))))))))))) (h := ?_) | refine RW.skip (h := ?_) | refine RW.op (And.intro (uB) (And.intro (uM) (And.intro (uW) (And.intro (uK1) (And.intro (uH) (And.intro (uC) (And.intro (uO) (And.intro (uS) (And.intro (uRb) (And.intro (uRm) (And.intro (hd) (And.intro (ha) (And.intro (f1) (And.intro (f2) (And.intro (f3) (And.intro (f4) (And.intro (f5) (And.intro (f6) (And.intro (g1) (And.intro (g2) (And.intro (g3) (And.intro (g4) (g8))))))))))))))))))))))) (h := ?_) | refine RW.opN (And.intro (uB) (And.intro (uM) (And.intro (uW) (And.intro (uK1) (And.intro (uH) (And.intro (uC) (And.intro (uO) (And.intro (uS) (And.intro (uRb) (And.intro (uRm) (And.intro (hd) (And.intro (ha) (And.intro (f1) (And.intro (f2) (And.intro (f3) (And.intro (f4) (And.intro (f5) (And.intro (f6) (And.intro (g1) (And.intro (g2) (And.intro (g3) (And.intro (g4) (g8))))))))))))))))))))))) (h := ?_) | refine RW.skip0 (h := ?_) | (refine RW.callC (h := ?_); (first | refine CallP.mk (And.intro (uB) (And.intro (uM) (And.intro (uW) (And.intro (uK1) (And.intro (uH) (And.intro (uC) (And.intro (uO) (And.intro (uS) (And.intro (uRb) (And.intro (uRm) (And.intro (hd) (And.intro (ha) (And.intro (f1) (And.intro (f2) (And.intro (f3) (And.intro (f4) (And.intro (f5) (And.intro (f6) (And.intro (g1) (And.intro (g2) (And.intro (g3) (And.intro (g4) (g8))))))))))))))))))))))) (hc := merge2_at _ _ _) (h := ?_) | refine CallP.mk (And.intro (uB) (And.intro (uM) (And.intro (uW) (And.intro (uK1) (And.intro (uH) (And.intro (uC) (And.intro (uO) (And.intro (uS) (And.intro (uRb) (And.intro (uRm) (And.intro (hd) (And.intro (ha) (And.intro (f1) (And.intro (f2) (And.intro (f3) (And.intro (f4) (And.intro (f5) (And.intro (f6) (And.intro (g1) (And.intro (g2) (And.intro (g3) (And.intro (g4) (g8))))))))))))))))))))))) (hc := above_at _ _ _) (h := ?_))))); refine RW.nil ⟨conf_of (by kernel_rfl), Pruned.mk (h := ?_)⟩)
        refine SW.condT rfl (SW.exit ?_)
        have hd' : due T.has r x.2.1 = false := by unfold due; simpa using hd
        refine (?_ : ∃ j ρ, (_ : Nat) < _ ∧ Weak k _ _ ρ)
        refine ⟨⟨(v', L', seen ++ [x.1], ch), hi.wf, hi.c, hi.w, hi.len, hi.le, fun hc => ?_⟩, id, hm, Weak.same (by simp) (by simp [EnvW, List.lookup, SV.ren, SV.rens, SV.ok, SV.oks]; omega) (hok2 v' L' _ _ (Nat.le_refl _)) (fun y hy => lk_of_nodup (hn3 v' L' _ _) y (List.mem_cons_of_mem _ hy))⟩
        obtain ⟨rfl, rfl, hno⟩ := hi.no hc
        refine ⟨rfl, rfl, fun y hy hys => ?_⟩
        rcases List.mem_append.1 hys with hys | hys
        · exact hno y hy hys
        · have : y = x := MM.time_inj hi.wf.times hy hx (by simpa using hys)
          rw [this]; exact ⟨hd', ha⟩
      · (refine SW.regL [0, 1, 3, 4, 5, 12, 14, 17, 42] mixed ?_; (repeat (first | refine RW.ro (And.intro (uB) (And.intro (uM) (And.intro (uW) (And.intro (uK1) (And.intro (uH) (And.intro (uC) (And.intro (uO) (And.intro (uS) (And.intro (uRb) (And.intro (uRm) (And.intro (hd) (And.intro (ha) (And.intro (f1) (And.intro (f2) (And.intro (f3) (And.intro (f4) (And.intro (f5) (And.intro (f6) (And.intro (g1) (And.intro (g2) (And.intro (g3) (And.intro (g4) (g8))))))))))))))))))))))) (h := ?_) | refine RW.skip (h := ?_) | refine RW.op (And.intro (uB) (And.intro (uM) (And.intro (uW) (And.intro (uK1) (And.intro (uH) (And.intro (uC) (And.intro (uO) (And.intro (uS) (And.intro (uRb) (And.intro (uRm) (And.intro (hd) (And.intro (ha) (And.intro (f1) (And.intro (f2) (And.intro (f3) (And.intro (f4) (And.intro (f5) (And.intro (f6) (And.intro (g1) (And.intro (g2) (And.intro (g3) (And.intro (g4) (g8))))))))))))))))))))))) (h := ?_) | refine RW.opN (And.intro (uB) (And.intro (uM) (And.intro (uW) (And.intro (uK1) (And.intro (uH) (And.intro (uC) (And.intro (uO) (And.intro (uS) (And.intro (uRb) (And.intro (uRm) (And.intro (hd) (And.intro (ha) (And.intro (f1) (And.intro (f2) (And.intro (f3) (And.intro (f4) (And.intro (f5) (And.intro (f6) (And.intro (g1) (And.intro (g2) (And.intro (g3) (And.intro (g4) (g8))))))))))))))))))))))) (h := ?_) | refine RW.skip0 (h := ?_) | (refine RW.callC (h := ?_); (first | refine CallP.mk (And.intro (uB) (And.intro (uM) (And.intro (uW) (And.intro (uK1) (And.intro (uH) (And.intro (uC) (And.intro (uO) (And.intro (uS) (And.intro (uRb) (And.intro (uRm) (And.intro (hd) (And.intro (ha) (And.intro (f1) (And.intro (f2) (And.intro (f3) (And.intro (f4) (And.intro (f5) (And.intro (f6) (And.intro (g1) (And.intro (g2) (And.intro (g3) (And.intro (g4) (g8))))))))))))))))))))))) (hc := merge2_at _ _ _) (h := ?_) | refine CallP.mk (And.intro (uB) (And.intro (uM) (And.intro (uW) (And.intro (uK1) (And.intro (uH) (And.intro (uC) (And.intro (uO) (And.intro (uS) (And.intro (uRb) (And.intro (uRm) (And.intro (hd) (And.intro (ha) (And.intro (f1) (And.intro (f2) (And.intro (f3) (And.intro (f4) (And.intro (f5) (And.intro (f6) (And.intro (g1) (And.intro (g2) (And.intro (g3) (And.intro (g4) (g8))))))))))))))))))))))) (hc := above_at _ _ _) (h := ?_))))); refine RW.nil ⟨conf_of (by kernel_rfl), Pruned.mk (h := ?_)⟩)
        refine SW.condF rfl (SW.skip (SW.seq ?_))
        (refine SW.regL [0, 1, 3, 4, 5, 12, 14, 17, 42] mixed ?_; (repeat (first | refine RW.ro (And.intro (uB) (And.intro (uM) (And.intro (uW) (And.intro (uK1) (And.intro (uH) (And.intro (uC) (And.intro (uO) (And.intro (uS) (And.intro (uRb) (And.intro (uRm) (And.intro (hd) (And.intro (ha) (And.intro (f1) (And.intro (f2) (And.intro (f3) (And.intro (f4) (And.intro (f5) (And.intro (f6) (And.intro (g1) (And.intro (g2) (And.intro (g3) (And.intro (g4) (g8))))))))))))))))))))))) (h := ?_) | refine RW.skip (h := ?_) | refine RW.op (And.intro (uB) (And.intro (uM) (And.intro (uW) (And.intro (uK1) (And.intro (uH) (And.intro (uC) (And.intro (uO) (And.intro (uS) (And.intro (uRb) (And.intro (uRm) (And.intro (hd) (And.intro (ha) (And.intro (f1) (And.intro (f2) (And.intro (f3) (And.intro (f4) (And.intro (f5) (And.intro (f6) (And.intro (g1) (And.intro (g2) (And.intro (g3) (And.intro (g4) (g8))))))))))))))))))))))) (h := ?_) | refine RW.opN (And.intro (uB) (And.intro (uM) (And.intro (uW) (And.intro (uK1) (And.intro (uH) (And.intro (uC) (And.intro (uO) (And.intro (uS) (And.intro (uRb) (And.intro (uRm) (And.intro (hd) (And.intro (ha) (And.intro (f1) (And.intro (f2) (And.intro (f3) (And.intro (f4) (And.intro (f5) (And.intro (f6) (And.intro (g1) (And.intro (g2) (And.intro (g3) (And.intro (g4) (g8))))))))))))))))))))))) (h := ?_) | refine RW.skip0 (h := ?_) | (refine RW.callC (h := ?_); (first | refine CallP.mk (And.intro (uB) (And.intro (uM) (And.intro (uW) (And.intro (uK1) (And.intro (uH) (And.intro (uC) (And.intro (uO) (And.intro (uS) (And.intro (uRb) (And.intro (uRm) (And.intro (hd) (And.intro (ha) (And.intro (f1) (And.intro (f2) (And.intro (f3) (And.intro (f4) (And.intro (f5) (And.intro (f6) (And.intro (g1) (And.intro (g2) (And.intro (g3) (And.intro (g4) (g8))))))))))))))))))))))) (hc := merge2_at _ _ _) (h := ?_) | refine CallP.mk (And.intro (uB) (And.intro (uM) (And.intro (uW) (And.intro (uK1) (And.intro (uH) (And.intro (uC) (And.intro (uO) (And.intro (uS) (And.intro (uRb) (And.intro (uRm) (And.intro (hd) (And.intro (ha) (And.intro (f1) (And.intro (f2) (And.intro (f3) (And.intro (f4) (And.intro (f5) (And.intro (f6) (And.intro (g1) (And.intro (g2) (And.intro (g3) (And.intro (g4) (g8))))))))))))))))))))))) (hc := above_at _ _ _) (h := ?_))))); refine RW.nil ⟨conf_of (by kernel_rfl), Pruned.mk (h := ?_)⟩)
        (refine SW.regL [0, 1, 3, 4, 5, 12, 14, 17, 42] mixed ?_; (repeat (first | refine RW.ro bq_tt (h := ?_) | refine RW.skip (h := ?_) | refine RW.op bq_tt (h := ?_) | refine RW.opN bq_tt (h := ?_) | refine RW.skip0 (h := ?_) | (refine RW.callC (h := ?_); (first | refine CallP.mk bq_tt (hc := merge2_at _ _ _) (h := ?_) | refine CallP.mk bq_tt (hc := above_at _ _ _) (h := ?_))))); refine RW.nil ⟨conf_of (by kernel_rfl), Pruned.mk (h := ?_)⟩)
        have hd' : due T.has r x.2.1 = false := by unfold due; simpa using hd
        have hk : x.2.1 ∈ MM.keys L' := List.mem_map.2 ⟨x, hx, rfl⟩
        have e1 := settC_nd (c := v') hi.wf.keys hd'
        have e2 := settW_del hi.wf.keys e1 (.inr (Vec.above_trans (settC_above _ _ _ _) ha))
        have hl := del_len hi.wf.keys hk
        have hl2 := hi.le
        refine (?_ : ∃ j ρ, (_ : Nat) < _ ∧ Weak k _ _ ρ)
        refine ⟨⟨(v', MM.del L' x.2.1, seen ++ [x.1], true), del_wf hi.wf _, e1.trans hi.c, e2.trans hi.w, fun _ => Nat.lt_of_lt_of_le hl hl2, Nat.le_trans (Nat.le_of_lt hl) hl2, fun h => by cases h⟩, id, hu x.2.1, Weak.same (by simp) (by simp [EnvW, List.lookup, SV.ren, SV.rens, SV.ok, SV.oks]; omega) (hok2 v' _ _ _ (Nat.le_refl _)) (fun y hy => lk_of_nodup (hn3 v' _ _ _) y (List.mem_cons_of_mem _ hy))⟩
    · (refine SW.regL [0, 1, 3, 4, 5, 12, 14, 17, 42] mixed ?_; (repeat (first | refine RW.ro (And.intro (uB) (And.intro (uM) (And.intro (uW) (And.intro (uK1) (And.intro (uH) (And.intro (hd) (And.intro (f1) (And.intro (f2) (And.intro (f3) (And.intro (f4) (And.intro (f5) (And.intro (f6) (And.intro (g1) (And.intro (g2) (And.intro (g3) (And.intro (g4) (g8))))))))))))))))) (h := ?_) | refine RW.skip (h := ?_) | refine RW.op (And.intro (uB) (And.intro (uM) (And.intro (uW) (And.intro (uK1) (And.intro (uH) (And.intro (hd) (And.intro (f1) (And.intro (f2) (And.intro (f3) (And.intro (f4) (And.intro (f5) (And.intro (f6) (And.intro (g1) (And.intro (g2) (And.intro (g3) (And.intro (g4) (g8))))))))))))))))) (h := ?_) | refine RW.opN (And.intro (uB) (And.intro (uM) (And.intro (uW) (And.intro (uK1) (And.intro (uH) (And.intro (hd) (And.intro (f1) (And.intro (f2) (And.intro (f3) (And.intro (f4) (And.intro (f5) (And.intro (f6) (And.intro (g1) (And.intro (g2) (And.intro (g3) (And.intro (g4) (g8))))))))))))))))) (h := ?_) | refine RW.skip0 (h := ?_) | (refine RW.callC (h := ?_); (first | refine CallP.mk (And.intro (uB) (And.intro (uM) (And.intro (uW) (And.intro (uK1) (And.intro (uH) (And.intro (hd) (And.intro (f1) (And.intro (f2) (And.intro (f3) (And.intro (f4) (And.intro (f5) (And.intro (f6) (And.intro (g1) (And.intro (g2) (And.intro (g3) (And.intro (g4) (g8))))))))))))))))) (hc := merge2_at _ _ _) (h := ?_) | refine CallP.mk (And.intro (uB) (And.intro (uM) (And.intro (uW) (And.intro (uK1) (And.intro (uH) (And.intro (hd) (And.intro (f1) (And.intro (f2) (And.intro (f3) (And.intro (f4) (And.intro (f5) (And.intro (f6) (And.intro (g1) (And.intro (g2) (And.intro (g3) (And.intro (g4) (g8))))))))))))))))) (hc := above_at _ _ _) (h := ?_))))); refine RW.nil ⟨conf_of (by kernel_rfl), Pruned.mk (h := ?_)⟩)
      refine SW.condT rfl ?_
      (refine SW.regL [0, 1, 3, 4, 5, 12, 14, 17, 42] mixed ?_; (repeat (first | refine RW.ro (And.intro (uB) (And.intro (uM) (And.intro (uW) (And.intro (uK1) (And.intro (uH) (And.intro (uC) (And.intro (uO) (And.intro (uS) (And.intro (uRb) (And.intro (uRm) (And.intro (hd) (And.intro (f1) (And.intro (f2) (And.intro (f3) (And.intro (f4) (And.intro (f5) (And.intro (f6) (And.intro (g1) (And.intro (g2) (And.intro (g3) (And.intro (g4) (g8)))))))))))))))))))))) (h := ?_) | refine RW.skip (h := ?_) | refine RW.op (And.intro (uB) (And.intro (uM) (And.intro (uW) (And.intro (uK1) (And.intro (uH) (And.intro (uC) (And.intro (uO) (And.intro (uS) (And.intro (uRb) (And.intro (uRm) (And.intro (hd) (And.intro (f1) (And.intro (f2) (And.intro (f3) (And.intro (f4) (And.intro (f5) (And.intro (f6) (And.intro (g1) (And.intro (g2) (And.intro (g3) (And.intro (g4) (g8)))))))))))))))))))))) (h := ?_) | refine RW.opN (And.intro (uB) (And.intro (uM) (And.intro (uW) (And.intro (uK1) (And.intro (uH) (And.intro (uC) (And.intro (uO) (And.intro (uS) (And.intro (uRb) (And.intro (uRm) (And.intro (hd) (And.intro (f1) (And.intro (f2) (And.intro (f3) (And.intro (f4) (And.intro (f5) (And.intro (f6) (And.intro (g1) (And.intro (g2) (And.intro (g3) (And.intro (g4) (g8)))))))))))))))))))))) (h := ?_) | refine RW.skip0 (h := ?_) | (refine RW.callC (h := ?_); (first | refine CallP.mk (And.intro (uB) (And.intro (uM) (And.intro (uW) (And.intro (uK1) (And.intro (uH) (And.intro (uC) (And.intro (uO) (And.intro (uS) (And.intro (uRb) (And.intro (uRm) (And.intro (hd) (And.intro (f1) (And.intro (f2) (And.intro (f3) (And.intro (f4) (And.intro (f5) (And.intro (f6) (And.intro (g1) (And.intro (g2) (And.intro (g3) (And.intro (g4) (g8)))))))))))))))))))))) (hc := merge2_at _ _ _) (h := ?_) | refine CallP.mk (And.intro (uB) (And.intro (uM) (And.intro (uW) (And.intro (uK1) (And.intro (uH) (And.intro (uC) (And.intro (uO) (And.intro (uS) (And.intro (uRb) (And.intro (uRm) (And.intro (hd) (And.intro (f1) (And.intro (f2) (And.intro (f3) (And.intro (f4) (And.intro (f5) (And.intro (f6) (And.intro (g1) (And.intro (g2) (And.intro (g3) (And.intro (g4) (g8)))))))))))))))))))))) (hc := above_at _ _ _) (h := ?_))))); refine RW.nil ⟨conf_of (by kernel_rfl), Pruned.mk (h := ?_)⟩)
      refine SW.seq ?_
      (refine SW.regL [0, 1, 3, 4, 5, 12, 14, 17, 42] mixed ?_; (repeat (first | refine RW.ro (And.intro (uB) (And.intro (uM) (And.intro (uW) (And.intro (uK1) (And.intro (uH) (And.intro (uC) (And.intro (uO) (And.intro (uS) (And.intro (uRb) (And.intro (uRm) (And.intro (hd) (And.intro (f1) (And.intro (f2) (And.intro (f3) (And.intro (f4) (And.intro (f5) (And.intro (f6) (And.intro (g1) (And.intro (g2) (And.intro (g3) (And.intro (g4) (g8)))))))))))))))))))))) (h := ?_) | refine RW.skip (h := ?_) | refine RW.op (And.intro (uB) (And.intro (uM) (And.intro (uW) (And.intro (uK1) (And.intro (uH) (And.intro (uC) (And.intro (uO) (And.intro (uS) (And.intro (uRb) (And.intro (uRm) (And.intro (hd) (And.intro (f1) (And.intro (f2) (And.intro (f3) (And.intro (f4) (And.intro (f5) (And.intro (f6) (And.intro (g1) (And.intro (g2) (And.intro (g3) (And.intro (g4) (g8)))))))))))))))))))))) (h := ?_) | refine RW.opN (And.intro (uB) (And.intro (uM) (And.intro (uW) (And.intro (uK1) (And.intro (uH) (And.intro (uC) (And.intro (uO) (And.intro (uS) (And.intro (uRb) (And.intro (uRm) (And.intro (hd) (And.intro (f1) (And.intro (f2) (And.intro (f3) (And.intro (f4) (And.intro (f5) (And.intro (f6) (And.intro (g1) (And.intro (g2) (And.intro (g3) (And.intro (g4) (g8)))))))))))))))))))))) (h := ?_) | refine RW.skip0 (h := ?_) | (refine RW.callC (h := ?_); (first | refine CallP.mk (And.intro (uB) (And.intro (uM) (And.intro (uW) (And.intro (uK1) (And.intro (uH) (And.intro (uC) (And.intro (uO) (And.intro (uS) (And.intro (uRb) (And.intro (uRm) (And.intro (hd) (And.intro (f1) (And.intro (f2) (And.intro (f3) (And.intro (f4) (And.intro (f5) (And.intro (f6) (And.intro (g1) (And.intro (g2) (And.intro (g3) (And.intro (g4) (g8)))))))))))))))))))))) (hc := merge2_at _ _ _) (h := ?_) | refine CallP.mk (And.intro (uB) (And.intro (uM) (And.intro (uW) (And.intro (uK1) (And.intro (uH) (And.intro (uC) (And.intro (uO) (And.intro (uS) (And.intro (uRb) (And.intro (uRm) (And.intro (hd) (And.intro (f1) (And.intro (f2) (And.intro (f3) (And.intro (f4) (And.intro (f5) (And.intro (f6) (And.intro (g1) (And.intro (g2) (And.intro (g3) (And.intro (g4) (g8)))))))))))))))))))))) (hc := above_at _ _ _) (h := ?_))))); refine RW.nil ⟨conf_of (by kernel_rfl), Pruned.mk (h := ?_)⟩)
      (refine SW.regL [0, 1, 3, 4, 5, 12, 14, 17, 42] mixed ?_; (repeat (first | refine RW.ro bq_tt (h := ?_) | refine RW.skip (h := ?_) | refine RW.op bq_tt (h := ?_) | refine RW.opN bq_tt (h := ?_) | refine RW.skip0 (h := ?_) | (refine RW.callC (h := ?_); (first | refine CallP.mk bq_tt (hc := merge2_at _ _ _) (h := ?_) | refine CallP.mk bq_tt (hc := above_at _ _ _) (h := ?_))))); refine RW.nil ⟨conf_of (by kernel_rfl), Pruned.mk (h := ?_)⟩)
      have hd' : due T.has r x.2.1 = true := by unfold due; simpa using hd
      have hk : x.2.1 ∈ MM.keys L' := List.mem_map.2 ⟨x, hx, rfl⟩
      have e1 := settC_due (c := v') hi.wf.keys hk hd'
      have e2 := settW_del hi.wf.keys e1 (.inl hd')
      have hl := del_len hi.wf.keys hk
      have hl2 := hi.le
      refine (?_ : ∃ j ρ, (_ : Nat) < _ ∧ Weak k _ _ ρ)
      refine ⟨⟨(Vec.zip max v' x.2.1, MM.del L' x.2.1, seen ++ [x.1], true), del_wf hi.wf _, e1.trans hi.c, e2.trans hi.w, fun _ => Nat.lt_of_lt_of_le hl hl2, Nat.le_trans (Nat.le_of_lt hl) hl2, fun h => by cases h⟩, id, hu x.2.1, Weak.same (by simp) (by simp [EnvW, List.lookup, SV.ren, SV.rens, SV.ok, SV.oks]; omega) (hok2 _ _ _ _ (Nat.le_refl _)) (fun y hy => lk_of_nodup (hn3 _ _ _ _) y (List.mem_cons_of_mem _ hy))⟩
end
end Go.Proofs.Ytdnjkeeiopcipaa

/-
  Trackers: a pass, whatever waits; at the names that stand.
-/
set_option linter.unusedSectionVars false
set_option linter.unusedVariables false
set_option linter.unusedSimpArgs false
namespace Go.Proofs.Ytdnjkeeiopcipaa
open Go.Sl Go.Proofs

/-- One replica's acks settled. -/
def Tk.sett (T : Tk) (r : Nat) : Tk := match T.wt r with
  | none => T
  | some (L, cl) => T.up r (settC T.has r (T.cnt r) L) (settW T.has r (T.cnt r) L) cl
/-- What waits is laid well. -/
def Tk.ww (T : Tk) : Prop := ∀ r, r < 8 → ∀ L cl, T.wt r = some (L, cl) → MM.wf L cl
theorem Tk.up_up {T : Tk} {r : Nat} {v v' : Vec} {L L' : VMap} {cl cl' : Nat} : (T.up r v L cl).up r v' L' cl' = T.up r v' L' cl' := by
  simp only [Tk.up, Tk.mk.injEq, true_and]
  exact ⟨funext fun i => by split <;> rfl, funext fun i => by split <;> rfl⟩
theorem Tk.sett_up {T : Tk} {r : Nat} {v : Vec} {L : VMap} {cl : Nat} : (T.up r v L cl).sett r = T.up r (settC T.has r v L) (settW T.has r v L) cl := by
  have h1 : (T.up r v L cl).wt r = some (L, cl) := by simp [Tk.up]
  have h2 : (T.up r v L cl).cnt r = v := by simp [Tk.up]
  unfold Tk.sett
  rw [h1]
  dsimp only
  rw [h2, Tk.up_up]
  rfl
theorem Tk.sett_bx (T : Tk) (r : Nat) : (T.sett r).bx = T.bx ∧ (T.sett r).nm = T.nm ∧ (T.sett r).n = T.n ∧ (T.sett r).own = T.own ∧ (T.sett r).has = T.has := by
  unfold Tk.sett; split <;> exact ⟨rfl, rfl, rfl, rfl, rfl⟩
/-- What a pass leaves. -/
structure PassR (T T' : Tk) (r : Nat) (ch : Bool) : Prop where
  ww : T'.ww
  s : T'.sett r = T.sett r
  bx : T'.bx = T.bx
  nm : T'.nm = T.nm
  yes : ch = true → wlen (T'.wt r) < wlen (T.wt r)
  no : ch = false → T' = T.sett r
theorem Tk.sep_of {T T' : Tk} (hs : T.sep) (h1 : T'.bx = T.bx) (h2 : T'.nm = T.nm) : T'.sep := ⟨by rw [h1, h2]; exact hs.bx, by rw [h2]; exact hs.inj⟩
theorem Tk.lt_of {T T' : Tk} {k : Nat} (hs : T.lt k) (h1 : T'.bx = T.bx) (h2 : T'.nm = T.nm) : T'.lt k := ⟨by rw [h1]; exact hs.bx, by rw [h2]; exact hs.nm⟩

section
attribute [local irreducible] SW RW SCd SC CallP Pruned Tk.cells Tk.hp Tk.up
variable {T : Tk} (hs : T.sep) {r : Nat} (hr : r < 8) {t1 k : Nat}
def PassA (T : Tk) (r t1 : Nat) : SV → Hp → Prop := fun x F => ∃ (T' : Tk) (ch : Bool), x = bl ch ∧ F = (t1, .box 26 [.ptr T'.bx 0]) :: T'.hp ∧ PassR T T' r ch

include hs hr in
set_option maxHeartbeats 1000000 in
theorem pass0_sb (hw : T.wt r = none) (hww : T.ww) (hlt : T.lt k) (ht1 : t1 < k) (htb : t1 ≠ T.bx) (htm : ∀ r, r < 8 → t1 ≠ T.nm r) :
    SB Try.prog stable_Tracker_settle_1.f [i64 r, .ptr t1 0] ((t1, .box 26 [.ptr T.bx 0]) :: T.hp) k 2 (PassA T r t1) := by
  have hbx := hlt.bx
  have hnm := hlt.nm r hr
  have hok1 : ∀ kx, k ≤ kx → Hp.ok (fun n => decide (n < kx)) ((t1, .box 26 [.ptr T.bx 0]) :: T.hp) = true := fun kx h => by
    have := Hp.ok_less h (Tk.okk hlt)
    simp only [Hp.ok, List.all_cons, Ob.ok, SV.oks, SV.ok, Bool.and_true, Bool.and_eq_true, decide_eq_true_eq] at this ⊢
    exact ⟨⟨by omega, by omega⟩, this⟩
  refine stable_Tracker_settle_1.enter (by simp [SV.ok, SV.oks]; omega) (hok1 k (Nat.le_refl _)) (by simp) ?_
  unfold stable_Tracker_settle_1.s
  have uB : List.lookup T.bx T.hp = some (.box 93 T.cells) := Tk.lkb
  have uM : List.lookup (T.nm r) T.hp = some .nomap := by rw [Tk.lkm hs hr, hw]; rfl
  have uW : T.cells[74 + r]? = some (.mp (T.nm r)) := Tk.ldw T hr
  have uK : List.lookup k T.hp = none := Tk.lkk hlt (Nat.le_refl _)
  have uRm : hrep T.hp (T.nm r) .nomap = T.hp := hrep_same uM
  have f1 := ne4 (Ne.symm htb)
  have f2 := ne4 (Ne.symm (htm r hr))
  have f3 := ne4 (show k ≠ t1 by omega)
  have f4 := ne4 (show k ≠ T.bx by omega)
  have f5 := ne4 (show k ≠ T.nm r by omega)
  have f6 := ne4 (hs.bx r hr)
  have hn1 : (((t1, .box 26 [.ptr T.bx 0]) :: T.hp : Hp).map (·.1)).Nodup := by
    rw [List.map_cons, List.nodup_cons]
    refine ⟨fun hm => ?_, Tk.nodup hs⟩
    rcases Tk.names hm with e | ⟨r', hr', e⟩
    · exact htb e
    · exact htm r' hr' e
  have hn2 : ∀ o, (((k, o) :: (t1, .box 26 [.ptr T.bx 0]) :: T.hp : Hp).map (·.1)).Nodup := fun o => by
    rw [List.map_cons, List.nodup_cons]
    refine ⟨fun hm => ?_, hn1⟩
    rcases List.mem_cons.1 hm with e | hm
    · dsimp only at e; omega
    · exact Tk.out hlt (Nat.le_refl _) hm
  have hok2 : Hp.ok (fun n => decide (n < k + 1)) ((k, .iter none 0 [] 0) :: (t1, .box 26 [.ptr T.bx 0]) :: T.hp) = true := by
    have := hok1 (k + 1) (by omega)
    simp only [Hp.ok, List.all_cons, Ob.ok, Bool.and_eq_true, decide_eq_true_eq] at this ⊢
    exact ⟨⟨by omega, by first | rfl | trivial⟩, this⟩
  refine SW.seq ?_
  (refine SW.regL [0, 1, 3, 4, 5, 12, 14, 17, 42] mixed ?_; (repeat (first | refine RW.ro bq_tt (h := ?_) | refine RW.skip (h := ?_) | refine RW.op bq_tt (h := ?_) | refine RW.opN bq_tt (h := ?_) | refine RW.skip0 (h := ?_))); refine RW.nil ⟨conf_of (by kernel_rfl), Pruned.mk (h := ?_)⟩)
  refine SW.seq ?_
  (refine SW.regL [0, 1, 3, 4, 5, 12, 14, 17, 42] mixed ?_; (repeat (first | refine RW.ro bq_tt (h := ?_) | refine RW.skip (h := ?_) | refine RW.op bq_tt (h := ?_) | refine RW.opN bq_tt (h := ?_) | refine RW.skip0 (h := ?_))); refine RW.nil ⟨conf_of (by kernel_rfl), Pruned.mk (h := ?_)⟩)
  refine SW.seq (SW.seq ?_)
  (refine SW.regL [0, 1, 3, 4, 5, 12, 14, 17, 42] mixed ?_; (repeat (first | refine RW.ro (And.intro (uB) (And.intro (uM) (And.intro (uW) (And.intro (uK) (And.intro (uRm) (And.intro (f1) (And.intro (f2) (And.intro (f3) (And.intro (f4) (And.intro (f5) (f6))))))))))) (h := ?_) | refine RW.skip (h := ?_) | refine RW.op (And.intro (uB) (And.intro (uM) (And.intro (uW) (And.intro (uK) (And.intro (uRm) (And.intro (f1) (And.intro (f2) (And.intro (f3) (And.intro (f4) (And.intro (f5) (f6))))))))))) (h := ?_) | refine RW.opN (And.intro (uB) (And.intro (uM) (And.intro (uW) (And.intro (uK) (And.intro (uRm) (And.intro (f1) (And.intro (f2) (And.intro (f3) (And.intro (f4) (And.intro (f5) (f6))))))))))) (h := ?_) | refine RW.skip0 (h := ?_))); refine RW.nil ⟨conf_of (by kernel_rfl), Pruned.mk (h := ?_)⟩)
  refine SW.block (SW.mapLoop0 (n := k) (since := 0) (seen := []) (s := 0) id ⟨[(4, bl false), (12, .it k)], (k, .iter none 0 [] 0) :: (t1, .box 26 [.ptr T.bx 0]) :: T.hp, k + 1⟩ ?_ (by simp [List.lookup]) (by simp [lk_cons]) ?_)
  · exact Weak.same (by simp) (by simp [EnvW, List.lookup, SV.ren, SV.rens, SV.ok, SV.oks]) hok2 (lk_of_nodup (hn2 _))
  · refine ⟨⟨[(4, bl false)], (t1, .box 26 [.ptr T.bx 0]) :: T.hp, k + 2⟩, id, Weak.same (by simp) (by simp [EnvW, List.lookup, SV.ren, SV.ok]) (hok1 _ (by simp)) (fun x hx => lk_of_nodup (hn2 _) x (List.mem_cons_of_mem _ hx)), ?_⟩
    refine (?_ : Sl.SW _ _ _ _ _ _)
    refine SW.seq ?_
    (refine SW.regL [0, 1, 3, 4, 5, 12, 14, 17, 42] mixed ?_; (repeat (first | refine RW.ro bq_tt (h := ?_) | refine RW.skip (h := ?_) | refine RW.op bq_tt (h := ?_) | refine RW.opN bq_tt (h := ?_) | refine RW.skip0 (h := ?_))); refine RW.nil ⟨conf_of (by kernel_rfl), Pruned.mk (h := ?_)⟩)
    refine SW.ret ?_
    refine End.mk _ (h3 := fun _ _ h => h) (h4 := ⟨T, false, rfl, rfl, hww, rfl, rfl, rfl, (fun h => by cases h), fun _ => ?_⟩) (h6 := hok1 _ (by omega))
    unfold Tk.sett
    rw [hw]

include hs hr in
theorem pass_any (hww : T.ww) (hlt : T.lt k) (ht1 : t1 < k) (htb : t1 ≠ T.bx) (htm : ∀ r, r < 8 → t1 ≠ T.nm r) :
    SB Try.prog stable_Tracker_settle_1.f [i64 r, .ptr t1 0] ((t1, .box 26 [.ptr T.bx 0]) :: T.hp) k 2 (PassA T r t1) := by
  cases hw : T.wt r with
  | none => exact pass0_sb hs hr hw hww hlt ht1 htb htm
  | some y =>
    obtain ⟨L, cl⟩ := y
    have h := pass_sb hs hr (v := T.cnt r) (hww r hr L cl hw) hlt ht1 htb htm
    rw [Tk.up_same hw] at h
    refine h.mono ?_
    rintro x F ⟨v', L', ch, rfl, rfl, h1, h2, h3, h4, h5⟩
    refine ⟨T.up r v' L' cl, ch, rfl, by rw [Tk.u_bx], ?_, ?_, Tk.u_bx, Tk.u_nm, fun hc => ?_, fun hc => ?_⟩
    · intro i hi L2 cl2 hw2
      unfold Tk.up at hw2
      dsimp only at hw2
      split at hw2
      · injection hw2 with e; injection e with e1 e2; rw [← e1, ← e2]; exact h1
      · exact hww i hi L2 cl2 hw2
    · rw [Tk.sett_up, h2, h3]
      unfold Tk.sett
      rw [hw]
    · have := h4 hc
      rw [hw]
      unfold Tk.up
      simpa [wlen] using this
    · obtain ⟨e1, e2⟩ := h5 hc
      unfold Tk.sett
      rw [hw]
      dsimp only
      rw [e1, e2]
include hs hr in
theorem pass_at (hww : T.ww) (hlt : T.lt k) (ht1 : t1 < k) (htb : t1 ≠ T.bx) (htm : ∀ r, r < 8 → t1 ≠ T.nm r) :
    SC Try.prog stable_Tracker_settle_1.f [i64 r, .ptr t1 0] ((t1, .box 26 [.ptr T.bx 0]) :: T.hp) k 2 (PassA T r t1) := by
  have q0 : ∀ (T' : Tk) (q : Nat → Bool), T'.bx = T.bx → T'.nm = T.nm → q t1 = true → q T.bx = true → (∀ r, r < 8 → q (T.nm r) = true) → Hp.ok q ((t1, .box 26 [.ptr T'.bx 0]) :: T'.hp) = true := fun T' q e1 e2 q1 q2 q3 => by
    have := Tk.ok (T := T') (q := q) (by rw [e1]; exact q2) (by rw [e2]; exact q3)
    simp only [Hp.ok, List.all_cons, Ob.ok, SV.oks, SV.ok, Bool.and_true, Bool.and_eq_true] at this ⊢
    exact ⟨⟨q1, by rw [e1]; exact q2⟩, this⟩
  have a1 : (lk ((t1, .box 26 [.ptr T.bx 0]) :: T.hp) t1).isSome = true := by simp [lk_cons]
  have a2 : (lk ((t1, .box 26 [.ptr T.bx 0]) :: T.hp) T.bx).isSome = true := by rw [lk_cons]; split; rfl; rw [show lk T.hp T.bx = _ from Tk.lkb]; rfl
  have a3 : ∀ r, r < 8 → (lk ((t1, .box 26 [.ptr T.bx 0]) :: T.hp) (T.nm r)).isSome = true := fun r hr => by rw [lk_cons]; split; rfl; rw [show lk T.hp (T.nm r) = _ from Tk.lkm hs hr]; rfl
  refine (pass_any hs hr hww hlt ht1 htb htm).here (fun n => (lk ((t1, .box 26 [.ptr T.bx 0]) :: T.hp) n).isSome) (fun n h e => by rw [e] at h; cases h) (by simp only [SV.oks, SV.ok, a1, Bool.and_true]) (q0 T _ rfl rfl a1 a2 a3) ?_
  rintro x F ⟨T', ch, rfl, rfl, hp⟩ _ _
  refine ⟨rfl, q0 T' _ hp.bx hp.nm (by simp only [a1, Bool.true_or]) (by simp only [a2, Bool.true_or]) fun r hr => by simp only [a3 r hr, Bool.true_or]⟩
end
end Go.Proofs.Ytdnjkeeiopcipaa

/-
  Trackers: settled.
-/
set_option linter.unusedSectionVars false
set_option linter.unusedVariables false
set_option linter.unusedSimpArgs false
namespace Go.Proofs.Ytdnjkeeiopcipaa
open Go.Sl Go.Proofs

/-- The first replicas' acks settled; all. -/
def Tk.settTo (T : Tk) : Nat → Tk
  | 0 => T
  | r + 1 => (T.settTo r).sett r
def Tk.settle (T : Tk) : Tk := (T.settTo T.n).setC T.own T.has
theorem Tk.settTo_bx (T : Tk) : ∀ r, (T.settTo r).bx = T.bx ∧ (T.settTo r).nm = T.nm ∧ (T.settTo r).n = T.n ∧ (T.settTo r).own = T.own ∧ (T.settTo r).has = T.has
  | 0 => ⟨rfl, rfl, rfl, rfl, rfl⟩
  | r + 1 => by
    obtain ⟨h1, h2, h3, h4, h5⟩ := Tk.settTo_bx T r
    obtain ⟨g1, g2, g3, g4, g5⟩ := Tk.sett_bx (T.settTo r) r
    exact ⟨g1.trans h1, g2.trans h2, g3.trans h3, g4.trans h4, g5.trans h5⟩
theorem Tk.sett_ww {T : Tk} (h : T.ww) (r : Nat) : (T.sett r).ww := by
  unfold Tk.sett
  split
  · exact h
  · rename_i L cl hw
    intro i hi L2 cl2 hw2
    simp only [Tk.up] at hw2
    split at hw2
    · rename_i e
      injection hw2 with e1; injection e1 with e1 e2
      rw [← e1, ← e2]
      exact MM.wf_filter (h r (e ▸ hi) L cl hw) _
    · exact h i hi L2 cl2 hw2
theorem Tk.settTo_ww {T : Tk} (h : T.ww) : ∀ r, (T.settTo r).ww
  | 0 => h
  | r + 1 => Tk.sett_ww (Tk.settTo_ww h r) r

section
attribute [local irreducible] SW RW SCd SC CallP Pruned Tk.cells Tk.hp Tk.up
variable {T : Tk} (hs : T.sep) {k : Nat}

include hs in
set_option maxHeartbeats 1000000 in
theorem settle_sb (hn : T.n ≤ 8) (ho : T.own < 8) (hww : T.ww) (hlt : T.lt k) :
    SB Try.prog stable_Tracker_settle.f [.ptr T.bx 0] T.hp k 3 (fun x F => x = .tup [] ∧ F = T.settle.hp) := by
  have hbx := hlt.bx
  have hok0 : ∀ (T' : Tk) kx, T'.bx = T.bx → T'.nm = T.nm → k ≤ kx → Hp.ok (fun n => decide (n < kx)) T'.hp = true := fun T' kx e1 e2 h => Hp.ok_less h (Tk.okk (Tk.lt_of hlt e1 e2))
  have hok1 : ∀ (T' : Tk) kx, T'.bx = T.bx → T'.nm = T.nm → k + 1 ≤ kx → Hp.ok (fun n => decide (n < kx)) ((k, .box 26 [.ptr T.bx 0]) :: T'.hp) = true := fun T' kx e1 e2 h => by
    have := hok0 T' kx e1 e2 (by omega)
    simp only [Hp.ok, List.all_cons, Ob.ok, SV.oks, SV.ok, Bool.and_true, Bool.and_eq_true, decide_eq_true_eq] at this ⊢
    exact ⟨⟨by omega, by omega⟩, this⟩
  have hn1 : ∀ (T' : Tk) o, T'.bx = T.bx → T'.nm = T.nm → (((k, o) :: T'.hp : Hp).map (·.1)).Nodup := fun T' o e1 e2 => by
    rw [List.map_cons, List.nodup_cons]
    exact ⟨fun hm => Tk.out (Tk.lt_of hlt e1 e2) (Nat.le_refl _) hm, Tk.nodup (Tk.sep_of hs e1 e2)⟩
  refine stable_Tracker_settle.enter (by simp [SV.ok, SV.oks]; omega) (Tk.okk hlt) (by simp) ?_
  unfold stable_Tracker_settle.s
  have f1 := ne4 (show k ≠ T.bx by omega)
  have uK : List.lookup k T.hp = none := Tk.lkk hlt (Nat.le_refl _)
  have uB : List.lookup T.bx T.hp = some (.box 93 T.cells) := Tk.lkb
  have uN : T.cells[0]? = some (.d (.int .i64 T.n)) := Tk.ldn T
  refine SW.seq ?_
  (refine SW.regL [0, 1, 2, 3, 8, 9, 10, 14] mixed ?_; (repeat (first | refine RW.ro (And.intro (uK) (f1)) (h := ?_) | refine RW.skip (h := ?_) | refine RW.op (And.intro (uK) (f1)) (h := ?_) | refine RW.opN (And.intro (uK) (f1)) (h := ?_) | refine RW.skip0 (h := ?_))); refine RW.nil ⟨conf_of (by kernel_rfl), Pruned.mk (h := ?_)⟩)
  refine SW.seq ?_
  (refine SW.regL [0, 1, 2, 3, 8, 9, 10, 14] mixed ?_; (repeat (first | refine RW.ro (And.intro (uK) (f1)) (h := ?_) | refine RW.skip (h := ?_) | refine RW.op (And.intro (uK) (f1)) (h := ?_) | refine RW.opN (And.intro (uK) (f1)) (h := ?_) | refine RW.skip0 (h := ?_))); refine RW.nil ⟨conf_of (by kernel_rfl), Pruned.mk (h := ?_)⟩)
  refine SW.seq (SW.seq ?_)
  (refine SW.regL [0, 1, 2, 3, 8, 9, 10, 14] mixed ?_; (repeat (first | refine RW.ro (And.intro (uB) (And.intro (uN) (f1))) (h := ?_) | refine RW.skip (h := ?_) | refine RW.op (And.intro (uB) (And.intro (uN) (f1))) (h := ?_) | refine RW.opN (And.intro (uB) (And.intro (uN) (f1))) (h := ?_) | refine RW.skip0 (h := ?_))); refine RW.nil ⟨conf_of (by kernel_rfl), Pruned.mk (h := ?_)⟩)
  refine SW.block (SW.loop (α := {i : Nat // i ≤ T.n}) (fun i => ⟨[(9, i64 i.1), (8, i64 T.n), (1, .ptr k 0), (2, .fn (.func 73) [] [.ptr k 0])], (k, .box 26 [.ptr T.bx 0]) :: (T.settTo i.1).hp, k + 1⟩) (fun i => T.n - i.1) ⟨0, by omega⟩ id ?_ ?_)
  · exact Weak.same (by simp) (by simp [EnvW, List.lookup, SV.ren, SV.rens, SV.ok, SV.oks]) (hok1 T _ rfl rfl (Nat.le_refl _)) (lk_of_nodup (hn1 T _ rfl rfl))
  rintro ⟨i, hi⟩
  dsimp only
  obtain ⟨b1, b2, b3, b4, b5⟩ := T.settTo_bx i
  by_cases h : i < T.n
  · have h1 : decide ((i : Int) < T.n) = true := by simp only [decide_eq_true_eq]; omega
    refine SW.seq ?_
    (refine SW.regL [0, 1, 2, 3, 8, 9, 10, 14] mixed ?_; (repeat (first | refine RW.ro (h1) (h := ?_) | refine RW.skip (h := ?_) | refine RW.op (h1) (h := ?_) | refine RW.opN (h1) (h := ?_) | refine RW.skip0 (h := ?_))); refine RW.nil ⟨conf_of (by kernel_rfl), Pruned.mk (h := ?_)⟩)
    refine SW.seq (SW.condT rfl (SW.skip ?_))
    refine SW.seq (SW.block (SW.seq ?_))
    (refine SW.regL [0, 1, 2, 3, 8, 9, 10, 14] mixed ?_; (repeat (first | refine RW.ro bq_tt (h := ?_) | refine RW.skip (h := ?_) | refine RW.op bq_tt (h := ?_) | refine RW.opN bq_tt (h := ?_) | refine RW.skip0 (h := ?_))); refine RW.nil ⟨conf_of (by kernel_rfl), Pruned.mk (h := ?_)⟩)
    refine SW.block (SW.loop (α := {T' : Tk // T'.ww ∧ T'.sett i = (T.settTo i).sett i ∧ T'.bx = T.bx ∧ T'.nm = T.nm}) (fun j => ⟨[(3, i64 i), (9, i64 i), (8, i64 T.n), (1, .ptr k 0), (2, .fn (.func 73) [] [.ptr k 0])], (k, .box 26 [.ptr T.bx 0]) :: j.1.hp, k + 1⟩) (fun j => wlen (j.1.wt i)) ⟨T.settTo i, Tk.settTo_ww hww i, rfl, b1, b2⟩ id ?_ ?_)
    · exact Weak.same (by simp) (by simp [EnvW, List.lookup, SV.ren, SV.rens, SV.ok, SV.oks]) (hok1 _ _ b1 b2 (Nat.le_refl _)) (lk_of_nodup (hn1 _ _ b1 b2))
    rintro ⟨T', j1, j2, j3, j4⟩
    dsimp only
    have hs' := Tk.sep_of hs j3 j4
    have hlt' := Tk.lt_of hlt j3 j4
    refine SW.seq (SW.seq (SW.ofN ?_))
    (repeat (first | refine SWn.op bq_tt (h := ?_) | refine SWn.opN bq_tt (h := ?_) | refine SWn.skip (h := ?_)))
    have hc := pass_at hs' (r := i) (by omega) j1 (k := k + 1) (t1 := k) ⟨by rw [j3]; omega, fun r hr => by have := hlt'.nm r hr; omega⟩ (by omega) (by rw [j3]; omega) (fun r hr => by have := hlt'.nm r hr; omega)
    rw [j3] at hc
    refine SWn.callC hc (fun _ _ h => h) (h := ?_)
    rintro v F' ⟨T2, ch, rfl, rfl, hp⟩
    have c3 := hp.bx.trans j3
    have c4 := hp.nm.trans j4
    rw [c3]
    (repeat (first | refine SWn.op bq_tt (h := ?_) | refine SWn.opN bq_tt (h := ?_) | refine SWn.skip (h := ?_)))
    refine SWn.nil ?_
    have hlk := lk_hmrg (ro := false) (h := (k, Ob.box 26 [.ptr T.bx 0]) :: T'.hp) (F := (k, Ob.box 26 [.ptr T.bx 0]) :: T'.hp) (F' := (k, Ob.box 26 [.ptr T.bx 0]) :: T2.hp) (fun _ _ h => h) (fun h => by cases h)
    have hx : ∀ x, x ∈ ((k, Ob.box 26 [.ptr T.bx 0]) :: T2.hp : Hp) → lk (hmrg false ((k, Ob.box 26 [.ptr T.bx 0]) :: T'.hp) ((k, Ob.box 26 [.ptr T.bx 0]) :: T'.hp) ((k, Ob.box 26 [.ptr T.bx 0]) :: T2.hp)) x.1 = some x.2 := fun x hx => by
      have := lk_of_nodup (hn1 T2 _ c3 c4) x hx
      rw [hlk, mrg_in (.inr (by rw [this]; simp)), this]
    refine SW.weak id (st1 := ⟨[(14, bl ch), (3, i64 i), (9, i64 i), (8, i64 T.n), (1, .ptr k 0), (2, .fn (.func 73) [] [.ptr k 0])], (k, Ob.box 26 [.ptr T.bx 0]) :: T2.hp, k + 3⟩) (Weak.same (by simp) (by simp [EnvW, List.lookup, SV.ren, SV.rens, SV.ok, SV.oks]; try omega) (hok1 _ _ c3 c4 (by simp)) hx) ?_
    cases ch with
    | true =>
      refine SW.condT rfl (SW.skip (SW.block (SW.skip ?_)))
      exact ⟨⟨T2, hp.ww, hp.s.trans j2, c3, c4⟩, id, hp.yes rfl, Weak.same (by simp) (by simp [EnvW, List.lookup, SV.ren, SV.rens, SV.ok, SV.oks]; try omega) (hok1 _ _ c3 c4 (by simp)) (lk_of_nodup (hn1 T2 _ c3 c4))⟩
    | false =>
      refine SW.condF rfl (SW.exit ?_)
      have e2 : T2 = T.settTo (i + 1) := (hp.no rfl).trans j2
      refine (?_ : Sl.SW _ _ _ _ _ _)
      (refine SW.regL [0, 1, 2, 3, 8, 9, 10, 14] mixed ?_; (repeat (first | refine RW.ro bq_tt (h := ?_) | refine RW.skip (h := ?_) | refine RW.op bq_tt (h := ?_) | refine RW.opN bq_tt (h := ?_) | refine RW.skip0 (h := ?_))); refine RW.nil ⟨conf_of (by kernel_rfl), Pruned.mk (h := ?_)⟩)
      refine ⟨⟨i + 1, by omega⟩, id, by simp; omega, ?_⟩
      rw [e2] at c3 c4 ⊢
      exact Weak.same (by simp) (by simp [EnvW, List.lookup, SV.ren, SV.rens, SV.ok, SV.oks]; try omega) (hok1 _ _ c3 c4 (by simp)) (lk_of_nodup (hn1 _ _ c3 c4))
  · have h1 : decide ((i : Int) < T.n) = false := by simp only [decide_eq_false_iff_not]; omega
    have e : i = T.n := by omega
    subst e
    refine SW.seq ?_
    (refine SW.regL [0, 1, 2, 3, 8, 9, 10, 14] mixed ?_; (repeat (first | refine RW.ro (h1) (h := ?_) | refine RW.skip (h := ?_) | refine RW.op (h1) (h := ?_) | refine RW.opN (h1) (h := ?_) | refine RW.skip0 (h := ?_))); refine RW.nil ⟨conf_of (by kernel_rfl), Pruned.mk (h := ?_)⟩)
    refine SW.seq (SW.condF rfl (SW.exit ?_))
    refine (?_ : Sl.SW _ _ _ _ _ _)
    have hs1 := Tk.sep_of hs b1 b2
    have hT : T.settle = (T.settTo T.n).setC T.own T.has := rfl
    rw [hT]
    generalize T.settTo T.n = T1 at *
    have uB1 : List.lookup T.bx T1.hp = some (.box 93 T1.cells) := by rw [← b1]; exact Tk.lkb
    have uO : T1.cells[1]? = some (.d (.int .u8 T.own)) := by rw [← b4]; exact Tk.ldown T1
    have uH : (T1.cells.drop 2).take 8 = T.has.cells := by rw [← b5]; exact Tk.ldhas T1
    have uS : spl T1.cells (10 + T.own * 8) T.has.cells = (T1.setC T.own T.has).cells := Tk.splcnt T1 ho T.has
    have uR : hrep T1.hp T.bx (.box 93 (T1.setC T.own T.has).cells) = (T1.setC T.own T.has).hp := by rw [← b1]; exact Tk.hrepc
    have uL1 : (2 + 8 ≤ T1.cells.length) = True := eq_true (by rw [Tk.cells_len]; omega)
    have uL2 : (10 + T.own * 8 + 8 ≤ T1.cells.length) = True := eq_true (by rw [Tk.cells_len]; omega)
    refine SW.weak id (st1 := ⟨[(1, .ptr k 0)], (k, Ob.box 26 [.ptr T.bx 0]) :: T1.hp, k + 3⟩) (Weak.same (by simp) (by simp [EnvW, List.lookup, SV.ren, SV.rens, SV.ok, SV.oks]) (hok1 _ _ b1 b2 (by simp)) (lk_of_nodup (hn1 _ _ b1 b2))) ?_
    (refine SW.regL [0, 1, 2, 3, 8, 9, 10, 14] mixed ?_; (repeat (first | refine RW.ro (And.intro (uB1) (And.intro (uO) (And.intro (uH) (And.intro (uS) (And.intro (uR) (And.intro (uL1) (And.intro (uL2) (f1)))))))) (h := ?_) | refine RW.skip (h := ?_) | refine RW.op (And.intro (uB1) (And.intro (uO) (And.intro (uH) (And.intro (uS) (And.intro (uR) (And.intro (uL1) (And.intro (uL2) (f1)))))))) (h := ?_) | refine RW.opN (And.intro (uB1) (And.intro (uO) (And.intro (uH) (And.intro (uS) (And.intro (uR) (And.intro (uL1) (And.intro (uL2) (f1)))))))) (h := ?_) | refine RW.skip0 (h := ?_))); refine RW.nil ⟨conf_of (by kernel_rfl), Pruned.mk (h := ?_)⟩)
    refine End.mk ((T1.setC T.own T.has).hp) (h3 := fun n ob hh => ?_) (h4 := ⟨rfl, rfl⟩) (h6 := hok0 (T1.setC T.own T.has) _ b1 b2 (by omega))
    rw [lk_cons, if_neg fun e => ?_]
    · exact hh
    · rw [e] at hh
      rw [show lk (T1.setC T.own T.has).hp k = none from Tk.lkk (T := T1.setC T.own T.has) (Tk.lt_of hlt b1 b2) (Nat.le_refl _)] at hh
      cases hh
include hs in
theorem settle_at (hn : T.n ≤ 8) (ho : T.own < 8) (hww : T.ww) (hlt : T.lt k) : SCd Try.prog stable_Tracker_settle.f [.ptr T.bx 0] T.hp k 3 (.tup []) T.settle.hp := by
  unfold SCd
  obtain ⟨b1, b2, _⟩ := T.settTo_bx T.n
  have e1 : T.settle.bx = T.bx := b1
  have e2 : T.settle.nm = T.nm := b2
  have a2 : (lk T.hp T.bx).isSome = true := by rw [show lk T.hp T.bx = _ from Tk.lkb]; rfl
  have a3 : ∀ r, r < 8 → (lk T.hp (T.nm r)).isSome = true := fun r hr => by rw [show lk T.hp (T.nm r) = _ from Tk.lkm hs hr]; rfl
  refine (settle_sb hs hn ho hww hlt).here (fun n => (lk T.hp n).isSome) (fun n h e => by rw [e] at h; cases h) (by simp only [SV.oks, SV.ok, a2, Bool.and_true]) (Tk.ok a2 a3) ?_
  rintro x F ⟨rfl, rfl⟩ _ _
  refine ⟨rfl, Tk.ok (by rw [e1]; simp only [a2, Bool.true_or]) fun r hr => by rw [e2]; simp only [a3 r hr, Bool.true_or]⟩
end
end Go.Proofs.Ytdnjkeeiopcipaa

/-
  What a call on a tracker leaves in its caller's heap.
-/
set_option linter.unusedSectionVars false
set_option linter.unusedVariables false
set_option linter.unusedSimpArgs false
namespace Go.Proofs.Ytdnjkeeiopcipaa
open Go.Sl Go.Proofs

def repl (F : Hp) (x : Nat × Ob) : Nat × Ob := match lk F x.1 with
  | some o => (x.1, o)
  | none => x
theorem hrep_map : ∀ {h : Hp} {n : Nat} {o : Ob}, (h.map (·.1)).Nodup → n ∈ h.map (·.1) → hrep h n o = h.map fun x => if x.1 = n then (n, o) else x
  | [], n, o, _, hm => by cases hm
  | (m, o') :: h, n, o, hn, hm => by
    rw [List.map_cons, List.nodup_cons] at hn
    simp only [hrep, List.map_cons]
    by_cases e : m = n
    · subst e
      simp only [if_true]
      congr 1
      symm
      conv => rhs; rw [← List.map_id h]
      refine List.map_congr_left fun x hx => ?_
      rw [if_neg fun e => hn.1 (by rw [← e]; exact List.mem_map.2 ⟨x, hx, rfl⟩)]
      rfl
    · rw [if_neg e, if_neg e, hrep_map hn.2 ((List.mem_cons.1 hm).resolve_left fun h => e h.symm)]
theorem lk_of_mem {h : Hp} {n : Nat} (hm : n ∈ h.map (·.1)) : ∃ o, lk h n = some o := by
  induction h with
  | nil => cases hm
  | cons y h ih =>
    obtain ⟨m, o⟩ := y
    rw [lk_cons]
    by_cases e : n = m
    · exact ⟨o, by rw [if_pos e]⟩
    · rw [if_neg e]
      exact ih ((List.mem_cons.1 hm).resolve_left e)
theorem repl_names (F : Hp) (x : Nat × Ob) : (repl F x).1 = x.1 := by unfold repl; split <;> rfl
theorem hsets_map {h : Hp} (hn : (h.map (·.1)).Nodup) : ∀ {F : Hp}, (F.map (·.1)).Nodup → (∀ n, n ∈ F.map (·.1) → n ∈ h.map (·.1)) → hsets h F = h.map (repl F)
  | [], _, _ => by
    simp only [hsets]
    conv => lhs; rw [← List.map_id h]
    rfl
  | (n, o) :: F, hF, hsub => by
    rw [List.map_cons, List.nodup_cons] at hF
    have ih := hsets_map hn hF.2 fun m hm => hsub m (List.mem_cons_of_mem _ hm)
    have hnames : (h.map (repl F)).map (·.1) = h.map (·.1) := by rw [List.map_map]; exact List.map_congr_left fun x _ => repl_names F x
    have hmem : n ∈ (h.map (repl F)).map (·.1) := by rw [hnames]; exact hsub n (by simp)
    simp only [hsets]
    rw [ih]
    unfold hset
    obtain ⟨o1, ho1⟩ := lk_of_mem hmem
    rw [ho1]
    dsimp only
    rw [hrep_map (by rw [hnames]; exact hn) hmem, List.map_map]
    refine List.map_congr_left fun x _ => ?_
    show (if (repl F x).1 = n then (n, o) else repl F x) = repl ((n, o) :: F) x
    rw [repl_names]
    unfold repl
    rw [lk_cons]
    by_cases e : x.1 = n
    · simp [e]
    · simp [e]
theorem map_repl {F : Hp} : ∀ {A B : Hp}, A.map (·.1) = B.map (·.1) → (∀ x, x ∈ B → lk F x.1 = some x.2) → A.map (repl F) = B
  | [], [], _, _ => rfl
  | [], _ :: _, h, _ => by simp at h
  | _ :: _, [], h, _ => by simp at h
  | a :: A, b :: B, h, hl => by
    simp only [List.map_cons, List.cons.injEq] at h ⊢
    refine ⟨?_, map_repl h.2 fun x hx => hl x (List.mem_cons_of_mem _ hx)⟩
    have := hl b (by simp)
    unfold repl
    rw [h.1, this]
theorem hdels_same {h F' : Hp} : ∀ {F : Hp}, (∀ n, n ∈ F.map (·.1) → (lk F' n).isSome = true) → hdels h F' F = h
  | [], _ => rfl
  | (n, o) :: F, hs => by
    simp only [hdels]
    rw [if_pos (hs n (by simp)), hdels_same fun m hm => hs m (List.mem_cons_of_mem _ hm)]
/-- A call that replaces what is known, behind what is ahead. -/
theorem mrg_tail {pre F F' : Hp} (he : F.map (·.1) = F'.map (·.1)) (hn : ((pre ++ F).map (·.1)).Nodup) : hsets (hdels (pre ++ F) F' F) F' = pre ++ F' := by
  have hn2 : (F'.map (·.1)).Nodup := by rw [← he]; rw [List.map_append, List.nodup_append] at hn; exact hn.2.1
  rw [hdels_same fun n h => by rw [he] at h; obtain ⟨o, ho⟩ := lk_of_mem h; rw [ho]; rfl]
  rw [hsets_map hn hn2 fun n h => by rw [List.map_append, List.mem_append, he]; exact .inr h, List.map_append, map_repl he (lk_of_nodup hn2)]
  congr 1
  conv => rhs; rw [← List.map_id pre]
  refine List.map_congr_left fun x hx => ?_
  have : lk F' x.1 = none := by
    cases hh : lk F' x.1 with
    | none => rfl
    | some o =>
      rw [List.map_append, List.nodup_append] at hn
      have h1 : x.1 ∈ F'.map (·.1) := by
        have : ∀ {h : Hp} {n : Nat} {o : Ob}, lk h n = some o → n ∈ h.map (·.1) := by
          intro h
          induction h with
          | nil => intro n o h; simp [lk_nil] at h
          | cons y h ih =>
            intro n o hl
            rw [lk_cons] at hl
            split at hl
            · rename_i e; subst e; simp
            · exact List.mem_cons_of_mem _ (ih hl)
        exact this hh
      exact absurd rfl (hn.2.2 x.1 (List.mem_map.2 ⟨x, hx, rfl⟩) x.1 (by rw [he]; exact h1))
  unfold repl
  rw [this]; rfl
theorem Tk.hp_names (T : Tk) : T.hp.map (·.1) = T.bx :: (List.range 8).map T.nm := by simp [Tk.hp, Tk.maps, Function.comp_def]
theorem Tk.hp_same {T T' : Tk} (h1 : T'.bx = T.bx) (h2 : T'.nm = T.nm) : T.hp.map (·.1) = T'.hp.map (·.1) := by rw [Tk.hp_names, Tk.hp_names, h1, h2]
theorem Tk.mrg0 {T T' : Tk} (hs : T.sep) (h1 : T'.bx = T.bx) (h2 : T'.nm = T.nm) : hsets (hdels T.hp T'.hp T.hp) T'.hp = T'.hp := mrg_tail (pre := []) (Tk.hp_same h1 h2) (Tk.nodup hs)
theorem Tk.mrg1 {T T' : Tk} {k : Nat} {o : Ob} (hs : T.sep) (hlt : T.lt k) (h1 : T'.bx = T.bx) (h2 : T'.nm = T.nm) : hsets (hdels ((k, o) :: T.hp) T'.hp T.hp) T'.hp = (k, o) :: T'.hp :=
  mrg_tail (pre := [(k, o)]) (Tk.hp_same h1 h2) (by rw [List.cons_append, List.nil_append, List.map_cons, List.nodup_cons]; exact ⟨Tk.out hlt (Nat.le_refl _), Tk.nodup hs⟩)
theorem Tk.hsub1 {T : Tk} {k : Nat} {o : Ob} (hlt : T.lt k) : HSub T.hp ((k, o) :: T.hp) := fun n ob h => by
  rw [lk_cons, if_neg fun e => ?_]
  · exact h
  · rw [e, show lk T.hp k = none from Tk.lkk hlt (Nat.le_refl _)] at h; cases h
end Go.Proofs.Ytdnjkeeiopcipaa
