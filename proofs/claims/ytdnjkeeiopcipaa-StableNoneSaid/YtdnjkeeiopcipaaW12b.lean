/-
  What a tracker's acks come to: the plain law of settling one replica's.
-/
import Derived.Test.YtdnjkeeiopcipaaW12a
import Derived.Test.YtdnjkeeiopcipaaLawV
set_option linter.unusedSectionVars false
set_option linter.unusedVariables false
set_option linter.unusedSimpArgs false
namespace Go.Proofs.Ytdnjkeeiopcipaa
open Go.Sl Go.Proofs

theorem Vec.ext_le {x y : Vec} (h : ∀ q, q < 8 → ∀ b, x.get q ≤ b ↔ y.get q ≤ b) : x = y := Vec.ext' fun q hq => by
  have h1 := (h q hq (y.get q)).2 (Nat.le_refl _)
  have h2 := (h q hq (x.get q)).1 (Nat.le_refl _)
  omega
/-- Merged with all of a row. -/
def joinL (c : Vec) (l : List Vec) : Vec := l.foldl (Vec.zip max) c
theorem joinL_le {q b : Nat} (hq : q < 8) : ∀ {l : List Vec} {c : Vec}, (joinL c l).get q ≤ b ↔ c.get q ≤ b ∧ ∀ v, v ∈ l → v.get q ≤ b
  | [], c => by simp [joinL]
  | x :: l, c => by
    have := joinL_le (b := b) hq (l := l) (c := Vec.zip max c x)
    simp only [joinL, List.foldl_cons, List.mem_cons, forall_eq_or_imp] at this ⊢
    rw [this, Vec.zip_get _ _ _ hq, Nat.max_le, and_assoc]
theorem joinL_wf {l : List Vec} {c : Vec} (hc : c.wf) (hl : ∀ v, v ∈ l → v.wf) : (joinL c l).wf := fun q hq => by
  have := (joinL_le (b := 4294967295) hq (l := l) (c := c)).2 ⟨by have := hc q hq; omega, fun v hv => by have := hl v hv q hq; omega⟩
  omega
theorem joinL_above (c : Vec) (l : List Vec) : (joinL c l).above c = true := Vec.above_iff.2 fun q hq => ((joinL_le hq).1 (Nat.le_refl _)).1
theorem joinL_above' {c v : Vec} {l : List Vec} (h : v ∈ l) : (joinL c l).above v = true := Vec.above_iff.2 fun q hq => ((joinL_le hq).1 (Nat.le_refl _)).2 v h
theorem Vec.above_trans {a b c : Vec} (h1 : a.above b = true) (h2 : b.above c = true) : a.above c = true := by
  rw [Vec.above_iff] at *
  exact fun r hr => Nat.le_trans (h2 r hr) (h1 r hr)

theorem mem_keys_del {L : VMap} (h : (MM.keys L).Nodup) {v u : Vec} : u ∈ MM.keys (MM.del L v) ↔ u ∈ MM.keys L ∧ u ≠ v := by
  rw [MM.del_filter h]
  simp only [MM.keys, List.mem_map, List.mem_filter, decide_eq_true_eq]
  constructor
  · rintro ⟨x, ⟨hx, hn⟩, rfl⟩
    exact ⟨⟨x, hx, rfl⟩, fun e => hn e.symm⟩
  · rintro ⟨⟨x, hx, rfl⟩, hn⟩
    exact ⟨x, ⟨hx, fun e => hn e.symm⟩, rfl⟩
theorem del_len {L : VMap} (h : (MM.keys L).Nodup) {v : Vec} (hv : v ∈ MM.keys L) : (MM.del L v).length < L.length := by
  obtain ⟨x, hx, rfl⟩ := List.mem_map.1 hv
  rw [MM.del_filter h]
  exact List.length_filter_lt_length_iff_exists.2 ⟨x, hx, by simp⟩
theorem del_wf {L : VMap} {c : Nat} (h : MM.wf L c) (v : Vec) : MM.wf (MM.del L v) c := by
  rw [MM.del_filter h.keys]; exact MM.wf_filter h _

/-- Does an ack count, when its own number is had? -/
def due (h : Vec) (r : Nat) (v : Vec) : Bool := decide (v.get r ≤ h.get r)
/-- What counts then; what waits then. -/
def settC (h : Vec) (r : Nat) (c : Vec) (L : VMap) : Vec := joinL c ((MM.keys L).filter (due h r))
def settW (h : Vec) (r : Nat) (c : Vec) (L : VMap) : VMap := L.filter fun x => !due h r x.2.1 && !(settC h r c L).above x.2.1
theorem settC_above (h : Vec) (r : Nat) (c : Vec) (L : VMap) : (settC h r c L).above c = true := joinL_above _ _
theorem settC_due {h : Vec} {r : Nat} {c v : Vec} {L : VMap} (hk : (MM.keys L).Nodup) (hv : v ∈ MM.keys L) (hd : due h r v = true) : settC h r (Vec.zip max c v) (MM.del L v) = settC h r c L := Vec.ext_le fun q hq b => by
  unfold settC
  rw [joinL_le hq, joinL_le hq, Vec.zip_get _ _ _ hq, Nat.max_le]
  simp only [List.mem_filter, mem_keys_del hk]
  constructor
  · rintro ⟨⟨h1, h2⟩, h3⟩
    refine ⟨h1, fun u hu => ?_⟩
    by_cases e : u = v
    · rw [e]; exact h2
    · exact h3 u ⟨⟨hu.1, e⟩, hu.2⟩
  · rintro ⟨h1, h2⟩
    exact ⟨⟨h1, h2 v ⟨hv, hd⟩⟩, fun u hu => h2 u ⟨hu.1.1, hu.2⟩⟩
theorem settC_nd {h : Vec} {r : Nat} {c v : Vec} {L : VMap} (hk : (MM.keys L).Nodup) (hd : due h r v = false) : settC h r c (MM.del L v) = settC h r c L := Vec.ext_le fun q hq b => by
  unfold settC
  rw [joinL_le hq, joinL_le hq]
  simp only [List.mem_filter, mem_keys_del hk]
  constructor
  · rintro ⟨h1, h2⟩
    refine ⟨h1, fun u hu => h2 u ⟨⟨hu.1, fun e => ?_⟩, hu.2⟩⟩
    rw [e, hd] at hu; cases hu.2
  · rintro ⟨h1, h2⟩
    exact ⟨h1, fun u hu => h2 u ⟨hu.1.1, hu.2⟩⟩
theorem settW_del {h : Vec} {r : Nat} {c c' v : Vec} {L : VMap} (hk : (MM.keys L).Nodup) (he : settC h r c' (MM.del L v) = settC h r c L) (hv : due h r v = true ∨ (settC h r c L).above v = true) : settW h r c' (MM.del L v) = settW h r c L := by
  unfold settW
  rw [he, MM.del_filter hk, List.filter_filter]
  refine List.filter_congr fun x _ => ?_
  by_cases e : v = x.2.1
  · subst e
    rcases hv with hv | hv <;> simp [hv]
  · simp [e]
theorem sett_end {h : Vec} {r : Nat} {c : Vec} {L : VMap} (ha : ∀ v, v ∈ MM.keys L → due h r v = false ∧ c.above v = false) : settC h r c L = c ∧ settW h r c L = L := by
  have h1 : settC h r c L = c := by
    unfold settC
    rw [List.filter_eq_nil_iff.2 fun v hv => by simp [(ha v hv).1]]
    rfl
  refine ⟨h1, ?_⟩
  unfold settW
  rw [h1, List.filter_eq_self]
  intro x hx
  have := ha x.2.1 (List.mem_map.2 ⟨x, hx, rfl⟩)
  simp [this.1, this.2]

/-- A tracker, with what counts and what waits of one replica. -/
def Tk.up (T : Tk) (r : Nat) (v : Vec) (L : VMap) (cl : Nat) : Tk := { T with cnt := fun i => if i = r then v else T.cnt i, wt := fun i => if i = r then some (L, cl) else T.wt i }
section
variable {T : Tk} {r : Nat} {v : Vec} {L : VMap} {cl : Nat}
theorem Tk.up_same (hw : T.wt r = some (L, cl)) : T.up r (T.cnt r) L cl = T := by
  obtain ⟨bx, nm, n, own, has, cnt, wt⟩ := T
  simp only [Tk.up, Tk.mk.injEq, true_and]
  dsimp only at hw
  refine ⟨funext fun i => ?_, funext fun i => ?_⟩
  · split
    · rename_i e; subst e; rfl
    · rfl
  · split
    · rename_i e; subst e; exact hw.symm
    · rfl
theorem Tk.sepU (hs : T.sep) : (T.up r v L cl).sep := ⟨hs.bx, hs.inj⟩
theorem Tk.u_b : List.lookup T.bx (T.up r v L cl).hp = some (.box 93 (T.up r v L cl).cells) := Tk.lkb (T := T.up r v L cl)
theorem Tk.u_m (hs : T.sep) (h : r < 8) : List.lookup (T.nm r) (T.up r v L cl).hp = some (.map (mapE Vec.cells iv L) cl) := by
  have := Tk.lkm (T := T.up r v L cl) (Tk.sepU hs) h
  simp only [Tk.up, if_true] at this
  exact this
theorem Tk.u_w (h : r < 8) : (T.up r v L cl).cells[74 + r]? = some (.mp (T.nm r)) := Tk.ldw (T.up r v L cl) h
theorem Tk.u_h (h : r < 8) : (T.up r v L cl).cells[2 + r]? = some (.d (.int .u32 (T.has.get r))) := Tk.ldhas1 (T.up r v L cl) h
theorem Tk.u_c (h : r < 8) : ((T.up r v L cl).cells.drop (10 + r * 8)).take 8 = v.cells := by
  have := Tk.ldcnt (T.up r v L cl) h
  simp only [Tk.up, if_true] at this
  exact this
theorem Tk.u_sc (h : r < 8) {v' : Vec} : spl (T.up r v L cl).cells (10 + r * 8) v'.cells = (T.up r v' L cl).cells := by
  rw [Tk.splcnt _ h]
  congr 1
  simp only [Tk.up, Tk.setC, Tk.mk.injEq, true_and, and_true]
  funext i
  split <;> rfl
theorem Tk.u_rb {v' : Vec} : hrep (T.up r v L cl).hp T.bx (.box 93 (T.up r v' L cl).cells) = (T.up r v' L cl).hp := by
  have := Tk.hrepb (T := T.up r v L cl) (o := (T.up r v' L cl).cells)
  rw [show (T.up r v L cl).bx = T.bx from rfl] at this
  rw [this]; rfl
theorem Tk.u_rm (hs : T.sep) (h : r < 8) {L' : VMap} : hrep (T.up r v L cl).hp (T.nm r) (.map (mapE Vec.cells iv L') cl) = (T.up r v L' cl).hp := by
  have := Tk.hrepm (T := T.up r v L cl) (Tk.sepU hs) h (some (L', cl))
  rw [show (T.up r v L cl).nm r = T.nm r from rfl] at this
  rw [show Ob.map (mapE Vec.cells iv L') cl = wob (some (L', cl)) from rfl, this]
  congr 1
  simp only [Tk.up, Tk.setW, Tk.mk.injEq, true_and]
  funext i
  split <;> rfl
theorem Tk.u_lt {k : Nat} (h : T.lt k) : (T.up r v L cl).lt k := ⟨h.bx, h.nm⟩
theorem lk_of_nodup {h : Hp} (hn : (h.map (·.1)).Nodup) : ∀ x, x ∈ h → lk h x.1 = some x.2 := by
  induction h with
  | nil => intro x hx; cases hx
  | cons y h ih =>
    intro x hx
    rw [List.map_cons, List.nodup_cons] at hn
    obtain ⟨a, o⟩ := y
    rw [lk_cons]
    rcases List.mem_cons.1 hx with rfl | hx
    · simp
    · have : x.1 ≠ a := fun e => hn.1 (by rw [← e]; exact List.mem_map.2 ⟨x, hx, rfl⟩)
      rw [if_neg this]
      exact ih hn.2 x hx
theorem Tk.names {T : Tk} {n : Nat} (h : n ∈ T.hp.map (·.1)) : n = T.bx ∨ ∃ r, r < 8 ∧ n = T.nm r := by
  simp only [Tk.hp, Tk.maps, List.map_cons, List.mem_cons, List.map_map, List.mem_map, List.mem_range, Function.comp_def] at h
  rcases h with h | ⟨r, hr, h⟩
  · exact .inl h
  · exact .inr ⟨r, hr, h.symm⟩
theorem Tk.nodup {T : Tk} (hs : T.sep) : (T.hp.map (·.1)).Nodup := by
  simp only [Tk.hp, Tk.maps, List.map_cons, List.map_map, Function.comp_def, List.nodup_cons, List.mem_map, List.mem_range, not_exists, not_and]
  refine ⟨fun r hr => hs.bx r hr, ?_⟩
  rw [List.nodup_iff_pairwise_ne, List.pairwise_map]
  exact List.Pairwise.imp_of_mem (fun {a b} ha hb hab e => hab (hs.inj a b (by simpa using ha) (by simpa using hb) e)) List.nodup_range
theorem Tk.out {T : Tk} {k n : Nat} (h : T.lt k) (hn : k ≤ n) : n ∉ T.hp.map (·.1) := fun hm => by
  rcases Tk.names hm with e | ⟨r, hr, e⟩
  · have := h.bx; omega
  · have := h.nm r hr; omega
theorem Tk.u_bx : (T.up r v L cl).bx = T.bx := rfl
theorem Tk.u_nm : (T.up r v L cl).nm = T.nm := rfl
theorem Tk.u_len : (T.up r v L cl).cells.length = 82 := rfl
end
end Go.Proofs.Ytdnjkeeiopcipaa
