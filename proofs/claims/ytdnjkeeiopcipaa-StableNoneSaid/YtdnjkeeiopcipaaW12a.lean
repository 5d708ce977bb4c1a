/-
  A tracker as objects: its box, and the eight maps of what waits (a map that is nil counts as one).
-/
import Derived.Test.YtdnjkeeiopcipaaW04b
import Derived.Test.YtdnjkeeiopcipaaSlB
import Derived.Test.YtdnjkeeiopcipaaSlH
import Derived.Test.YtdnjkeeiopcipaaSlA
set_option linter.unusedSectionVars false
set_option linter.unusedVariables false
set_option linter.unusedSimpArgs false
namespace Go.Proofs.Ytdnjkeeiopcipaa
open Go.Sl Go.Proofs

abbrev VMap := MM Vec Int
structure Tk where
  bx : Nat
  nm : Nat → Nat
  n : Nat
  own : Nat
  has : Vec
  cnt : Nat → Vec
  wt : Nat → Option (VMap × Nat)
def wob : Option (VMap × Nat) → Ob
  | none => .nomap
  | some (L, c) => .map (mapE Vec.cells iv L) c
def wlen : Option (VMap × Nat) → Nat
  | none => 0
  | some (L, _) => L.length
def Tk.cells (T : Tk) : List SV :=
  i64 T.n :: u8 T.own :: (T.has.cells ++ ((T.cnt 0).cells ++ ((T.cnt 1).cells ++ ((T.cnt 2).cells ++ ((T.cnt 3).cells ++ ((T.cnt 4).cells ++ ((T.cnt 5).cells ++ ((T.cnt 6).cells ++ ((T.cnt 7).cells ++
    [.mp (T.nm 0), .mp (T.nm 1), .mp (T.nm 2), .mp (T.nm 3), .mp (T.nm 4), .mp (T.nm 5), .mp (T.nm 6), .mp (T.nm 7)])))))))))
def Tk.maps (T : Tk) : Hp := (List.range 8).map fun r => (T.nm r, wob (T.wt r))
def Tk.hp (T : Tk) : Hp := (T.bx, .box 93 T.cells) :: T.maps
structure Tk.sep (T : Tk) : Prop where
  bx : ∀ r, r < 8 → T.nm r ≠ T.bx
  inj : ∀ r s, r < 8 → s < 8 → T.nm r = T.nm s → r = s

def Tk.setC (T : Tk) (r : Nat) (v : Vec) : Tk := { T with cnt := fun i => if i = r then v else T.cnt i }
def Tk.setW (T : Tk) (r : Nat) (x : Option (VMap × Nat)) : Tk := { T with wt := fun i => if i = r then x else T.wt i }
def Tk.setH (T : Tk) (v : Vec) : Tk := { T with has := v }

section
variable (T : Tk)
theorem Tk.ldn : ldv T.cells 0 none = some (i64 T.n) := rfl
theorem Tk.ldown : ldv T.cells 1 none = some (u8 T.own) := rfl
theorem Tk.ldhas : (T.cells.drop 2).take 8 = T.has.cells := rfl
theorem Tk.ldhas1 {r : Nat} (h : r < 8) : T.cells[2 + r]? = some (u32 (T.has.get r)) := by
  match r, h with
  | 0, _ | 1, _ | 2, _ | 3, _ | 4, _ | 5, _ | 6, _ | 7, _ => rfl
theorem Tk.ldcnt {r : Nat} (h : r < 8) : (T.cells.drop (10 + r * 8)).take 8 = (T.cnt r).cells := by
  match r, h with
  | 0, _ | 1, _ | 2, _ | 3, _ | 4, _ | 5, _ | 6, _ | 7, _ => rfl
theorem Tk.ldw {r : Nat} (h : r < 8) : T.cells[74 + r]? = some (.mp (T.nm r)) := by
  match r, h with
  | 0, _ | 1, _ | 2, _ | 3, _ | 4, _ | 5, _ | 6, _ | 7, _ => rfl
theorem Tk.cells_len : T.cells.length = 82 := rfl
theorem Tk.cells_one : T.cells.all SV.isOne = true := rfl
theorem Tk.splcnt {r : Nat} (h : r < 8) (v : Vec) : spl T.cells (10 + r * 8) v.cells = (T.setC r v).cells := by
  match r, h with
  | 0, _ | 1, _ | 2, _ | 3, _ | 4, _ | 5, _ | 6, _ | 7, _ => rfl
theorem Tk.splhas (v : Vec) : spl T.cells 2 v.cells = (T.setH v).cells := rfl
theorem Tk.splw {r : Nat} (h : r < 8) (k : Nat) : spl T.cells (74 + r) [.mp k] = ({ T with nm := fun i => if i = r then k else T.nm i } : Tk).cells := by
  match r, h with
  | 0, _ | 1, _ | 2, _ | 3, _ | 4, _ | 5, _ | 6, _ | 7, _ => rfl
@[simp] theorem Tk.cellsW (r : Nat) (x : Option (VMap × Nat)) : (T.setW r x).cells = T.cells := rfl
@[simp] theorem Tk.mapsC (r : Nat) (v : Vec) : (T.setC r v).maps = T.maps := rfl
@[simp] theorem Tk.mapsH (v : Vec) : (T.setH v).maps = T.maps := rfl

theorem lookup_fam {nm : Nat → Nat} {f : Nat → Ob} : ∀ {l : List Nat} {r : Nat}, (∀ s, s ∈ l → nm s = nm r → s = r) → r ∈ l → List.lookup (nm r) (l.map fun i => (nm i, f i)) = some (f r)
  | [], r, _, h => by cases h
  | a :: l, r, hi, h => by
    simp only [List.map_cons, List.lookup]
    by_cases e : nm r = nm a
    · have := hi a (by simp) e.symm
      subst this
      simp
    · rw [show (nm r == nm a) = false by simpa using e]
      exact lookup_fam (fun s hs => hi s (by simp [hs])) ((List.mem_cons.1 h).resolve_left fun h => e (by rw [h]))
theorem lookup_fam0 {nm : Nat → Nat} {f : Nat → Ob} {k : Nat} : ∀ {l : List Nat}, (∀ s, s ∈ l → nm s ≠ k) → List.lookup k (l.map fun i => (nm i, f i)) = none
  | [], _ => rfl
  | a :: l, hi => by
    simp only [List.map_cons, List.lookup]
    rw [show (k == nm a) = false by simpa using fun h => hi a (by simp) h.symm]
    exact lookup_fam0 fun s hs => hi s (by simp [hs])
theorem hrep_fam {nm : Nat → Nat} {f : Nat → Ob} {o : Ob} : ∀ {l : List Nat} {r : Nat}, l.Nodup → (∀ s, s ∈ l → nm s = nm r → s = r) → r ∈ l → hrep (l.map fun i => (nm i, f i)) (nm r) o = l.map fun i => (nm i, if i = r then o else f i)
  | [], r, _, _, h => by cases h
  | a :: l, r, hn, hi, h => by
    simp only [List.map_cons, hrep]
    rw [List.nodup_cons] at hn
    by_cases e : nm a = nm r
    · have := hi a (by simp) e
      subst this
      simp only [if_true]
      congr 1
      refine List.map_congr_left fun s hs => ?_
      rw [if_neg fun h : s = a => hn.1 (by rw [← h]; exact hs)]
    · rw [if_neg e]
      have hr : r ∈ l := (List.mem_cons.1 h).resolve_left fun h => e (by rw [h])
      rw [hrep_fam hn.2 (fun s hs => hi s (by simp [hs])) hr, if_neg fun h => e (by rw [h])]
variable {T}
theorem Tk.lkb : List.lookup T.bx T.hp = some (.box 93 T.cells) := by simp [Tk.hp]
theorem Tk.lkm (hs : T.sep) {r : Nat} (h : r < 8) : List.lookup (T.nm r) T.hp = some (wob (T.wt r)) := by
  simp only [Tk.hp, List.lookup]
  rw [show (T.nm r == T.bx) = false by simpa using hs.bx r h]
  exact lookup_fam (f := fun r => wob (T.wt r)) (fun s h1 h2 => hs.inj s r (by simpa using h1) h h2) (by simpa using h)
theorem Tk.lko {k : Nat} (hb : k ≠ T.bx) (hm : ∀ r, r < 8 → T.nm r ≠ k) : List.lookup k T.hp = none := by
  simp only [Tk.hp, List.lookup]
  rw [show (k == T.bx) = false by simpa using hb]
  exact lookup_fam0 fun s h => hm s (by simpa using h)
theorem Tk.hrepb {o : List SV} : hrep T.hp T.bx (.box 93 o) = (T.bx, .box 93 o) :: T.maps := by simp [Tk.hp, hrep]
theorem Tk.hrepc {r : Nat} {v : Vec} : hrep T.hp T.bx (.box 93 (T.setC r v).cells) = (T.setC r v).hp := by rw [Tk.hrepb]; rfl
theorem Tk.hreph {v : Vec} : hrep T.hp T.bx (.box 93 (T.setH v).cells) = (T.setH v).hp := by rw [Tk.hrepb]; rfl
theorem Tk.hrepm (hs : T.sep) {r : Nat} (h : r < 8) (x : Option (VMap × Nat)) : hrep T.hp (T.nm r) (wob x) = (T.setW r x).hp := by
  simp only [Tk.hp, hrep]
  rw [if_neg fun e => hs.bx r h e.symm]
  unfold Tk.maps
  rw [hrep_fam List.nodup_range (fun s h1 h2 => hs.inj s r (by simpa using h1) h h2) (by simpa using h)]
  congr 1
  refine List.map_congr_left fun s _ => ?_
  show (T.nm s, if s = r then wob x else wob (T.wt s)) = (T.nm s, wob (if s = r then x else T.wt s))
  split <;> rfl
theorem Tk.sepC (hs : T.sep) (r : Nat) (v : Vec) : (T.setC r v).sep := ⟨hs.bx, hs.inj⟩
theorem Tk.sepH (hs : T.sep) (v : Vec) : (T.setH v).sep := ⟨hs.bx, hs.inj⟩
theorem Tk.sepW (hs : T.sep) (r : Nat) (x : Option (VMap × Nat)) : (T.setW r x).sep := ⟨hs.bx, hs.inj⟩

/-- All names are below k. -/
structure Tk.lt (T : Tk) (k : Nat) : Prop where
  bx : T.bx < k
  nm : ∀ r, r < 8 → T.nm r < k
theorem Tk.ok {q : Nat → Bool} (hb : q T.bx = true) (hm : ∀ r, r < 8 → q (T.nm r) = true) : T.hp.ok q = true := by
  simp only [Tk.hp, Hp.ok, List.all_cons, Bool.and_eq_true, hb, true_and, List.all_eq_true, Tk.maps, List.mem_map, List.mem_range]
  constructor
  · simp only [Ob.ok, Tk.cells, SV.oks, SV.ok, Vec.cells_ok, SV.oks_append, Bool.true_and, Bool.and_true, hm 0 (by omega), hm 1 (by omega), hm 2 (by omega), hm 3 (by omega), hm 4 (by omega), hm 5 (by omega), hm 6 (by omega), hm 7 (by omega)]
  · rintro x ⟨r, hr, rfl⟩
    refine ⟨hm r hr, ?_⟩
    show (wob (T.wt r)).ok q = true
    cases T.wt r with
    | none => rfl
    | some y => obtain ⟨L, c⟩ := y; exact vmap_ok q L
theorem Tk.okk {k : Nat} (h : T.lt k) : T.hp.ok (fun n => decide (n < k)) = true := Tk.ok (by simpa using h.bx) fun r hr => by simpa using h.nm r hr
theorem Tk.lkk {k n : Nat} (h : T.lt k) (hn : k ≤ n) : List.lookup n T.hp = none := Tk.lko (by have := h.bx; omega) fun r hr => by have := h.nm r hr; omega
end
end Go.Proofs.Ytdnjkeeiopcipaa
