/-
  The document's trackers: rows of what was heard.
-/
import Derived.Test.YtacdkgkpoelhdaaPI
import Derived.Test.YtacdkgkpoelhdaaP5
set_option linter.unusedSectionVars false
set_option linter.unusedVariables false
set_option linter.unusedSimpArgs false
namespace Go.Proofs.Ytacdkgkpoelhdaa
open Go.Sl Go.Proofs
structure Hd where
  r : Nat
  v : Vec
  deriving DecidableEq
def Hd.ds (h : Hd) : List DV := .int .u8 h.r :: h.v.ds
def Hd.cells (h : Hd) : List SV := u8 h.r :: h.v.cells
abbrev heard (l : List Hd) : List SV := (l.flatMap Hd.ds).map .d
structure Qt where
  n : Nat
  own : Nat
  has : Vec
  l : List Hd
def Qt.cells (q : Qt) : List SV := i64 q.n :: u8 q.own :: (q.has.cells ++ [.d (.sl q.l.length (q.l.flatMap Hd.ds))])
theorem Hd.map_ds (h : Hd) : h.ds.map .d = h.cells := by simp [Hd.ds, Hd.cells, Vec.map_ds]
section
variable {l : List Hd} {i : Nat} {x : Hd}
theorem heard_len (l : List Hd) : (heard l).length = l.length * 9 := by rw [List.length_map]; exact flat_length Hd.ds 9 (fun _ => rfl) l
theorem hd_r (h : l[i]? = some x) : (heard l)[i * 9]? = some (.d (.int .u8 x.r)) := by
  rw [List.getElem?_map]
  have := flat_get Hd.ds 9 (fun _ => rfl) l i 0 x h (by omega)
  rw [Nat.add_zero] at this
  rw [this]; rfl
theorem hd_vr (h : l[i]? = some x) {r : Nat} (hr : r < 8) : (heard l)[i * 9 + 1 + r]? = some (.d (.int .u32 (x.v.get r))) := by
  rw [List.getElem?_map, show i * 9 + 1 + r = i * 9 + (1 + r) by omega, flat_get Hd.ds 9 (fun _ => rfl) l i (1 + r) x h (by omega)]
  match r, hr with
  | 0, _ | 1, _ | 2, _ | 3, _ | 4, _ | 5, _ | 6, _ | 7, _ => rfl
theorem hd_load (h : l[i]? = some x) : List.take 9 (List.drop (i * 9) (heard l)) = x.cells := by
  rw [← List.map_drop, ← List.map_take, flat_take Hd.ds 9 (fun _ => rfl) l i x h, Hd.map_ds]
theorem hd_v (h : l[i]? = some x) : List.take 8 (List.drop (i * 9 + 1) (heard l)) = x.v.cells := by
  have h1 := flat_take Hd.ds 9 (fun _ => rfl) l i x h
  have h2 : (l.flatMap Hd.ds).drop (i * 9 + 1) = ((l.flatMap Hd.ds).drop (i * 9)).drop 1 := by rw [List.drop_drop]
  have h3 : (((l.flatMap Hd.ds).drop (i * 9)).drop 1).take 8 = (((l.flatMap Hd.ds).drop (i * 9)).take 9).drop 1 := by rw [List.drop_take]
  rw [← List.map_drop, ← List.map_take, h2, h3, h1]
  exact x.v.map_ds
theorem hd_room (h : l[i]? = some x) : (i * 9 + 9 ≤ (heard l).length) = True := eq_true (by
  rw [heard_len]
  have := (List.getElem?_eq_some_iff.1 h).1
  omega)
theorem hd_room8 (h : l[i]? = some x) : (i * 9 + 1 + 8 ≤ (heard l).length) = True := eq_true (by
  rw [heard_len]
  have := (List.getElem?_eq_some_iff.1 h).1
  omega)
end
theorem Hd.eqb (a b : Hd) : csqS [true, true, true, true, true, true, true, true, true] a.cells b.cells = some (decide (a = b)) := by
  have h1 : csqS [true, true, true, true, true, true, true, true, true] a.cells b.cells = match cqS true (u8 a.r) (u8 b.r), csqS [true, true, true, true, true, true, true, true] a.v.cells b.v.cells with
    | some x, some y => some (x && y)
    | _, _ => none := rfl
  rw [h1, Vec.eqb8]
  have h2 : cqS true (u8 a.r) (u8 b.r) = some (((a.r : Nat) : Int) == ((b.r : Nat) : Int)) := rfl
  rw [h2]
  dsimp only
  congr 1
  obtain ⟨r, v⟩ := a
  obtain ⟨s, w⟩ := b
  simp only [Hd.mk.injEq, Bool.decide_and]
  congr 1
  rw [Bool.eq_iff_iff]; simp; omega
section
variable (q : Qt)
theorem Qt.c0 : q.cells[0]? = some (.d (.int .i64 q.n)) := rfl
theorem Qt.c1 : q.cells[1]? = some (.d (.int .u8 q.own)) := rfl
theorem Qt.c2 : List.take 8 (List.drop 2 q.cells) = q.has.cells := rfl
theorem Qt.c10 : q.cells[10]? = some (.d (.sl q.l.length (q.l.flatMap Hd.ds))) := rfl
theorem Qt.ch {r : Nat} (h : r < 8) : q.cells[2 + r]? = some (.d (.int .u32 (q.has.get r))) := by
  match r, h with
  | 0, _ | 1, _ | 2, _ | 3, _ | 4, _ | 5, _ | 6, _ | 7, _ => rfl
theorem Qt.cl : q.cells.length = 11 := rfl
theorem Qt.one : q.cells.all SV.isOne = true := rfl
@[simp] theorem Qt.ok (p : Nat → Bool) : SV.oks p q.cells = true := by
  simp only [Qt.cells, SV.oks, SV.ok, Vec.cells_ok, SV.oks_append, Bool.true_and, Bool.and_true]
@[simp] theorem Qt.rens (ρ : Nat → Nat) : SV.rens ρ q.cells = q.cells := by
  simp only [Qt.cells, SV.rens, SV.ren, Vec.cells_ren, SV.rens_append]
theorem Qt.ct : List.take 11 q.cells = q.cells := by rw [← q.cl]; exact List.take_length
theorem Qt.sp (z : List SV) (h : z.length = 11) : spl z 0 q.cells = q.cells := spl_whole (by rw [h, q.cl]) (by rw [q.cl]; decide)
theorem Qt.sp2 (v : Vec) : spl q.cells 2 v.cells = ({ q with has := v } : Qt).cells := rfl
end
abbrev zQ : List SV := [.d (.int .i64 0), .d (.int .u8 0), .d (.int .u32 0), .d (.int .u32 0), .d (.int .u32 0), .d (.int .u32 0), .d (.int .u32 0), .d (.int .u32 0), .d (.int .u32 0), .d (.int .u32 0), .d .nils]
theorem Hd.c_all (h : Hd) : h.cells.all SV.isOne = true := rfl
theorem Hd.c_len (h : Hd) : h.cells.length = 9 := rfl
theorem Hd.c_datas (h : Hd) : datas h.cells = some h.ds := rfl
theorem Hd.c_spl (h : Hd) : spl (.d (.int .u8 0) :: Vec.zero.cells) 0 h.cells = h.cells := rfl
theorem Hd.c_mk (r : Nat) (v : Vec) : spl (spl (SV.d (.int .u8 0) :: Vec.zero.cells) 0 [u8 r]) 1 v.cells = (⟨r, v⟩ : Hd).cells := rfl
theorem frzs_zQ (n m : Nat) (ds : List DV) : SV.frzs n m ds zQ = zQ := rfl
theorem Qt.frz (q : Qt) (x : Hd) (n : Nat) : SV.frzs n (q.l.length + 1) ((q.l ++ [x]).flatMap Hd.ds) (q.cells.set 10 (.gs n (q.l.length + 1))) = ({ q with l := q.l ++ [x] } : Qt).cells := by
  unfold Qt.cells
  have h1 : (i64 q.n :: u8 q.own :: (q.has.cells ++ [SV.d (.sl q.l.length (q.l.flatMap Hd.ds))])).set 10 (.gs n (q.l.length + 1)) = i64 q.n :: u8 q.own :: (q.has.cells ++ [.gs n (q.l.length + 1)]) := rfl
  rw [h1]
  have h2 : SV.frzs n (q.l.length + 1) ((q.l ++ [x]).flatMap Hd.ds) (i64 q.n :: u8 q.own :: (q.has.cells ++ [.gs n (q.l.length + 1)])) = i64 q.n :: u8 q.own :: (q.has.cells ++ [SV.frz n (q.l.length + 1) ((q.l ++ [x]).flatMap Hd.ds) (.gs n (q.l.length + 1))]) := rfl
  rw [h2]
  simp [SV.frz]
theorem Hd.c0 (h : Hd) : h.cells[0]? = some (.d (.int .u8 h.r)) := rfl
theorem Hd.cv (h : Hd) : List.take 8 (List.drop 1 h.cells) = h.v.cells := rfl
theorem Hd.cr (h : Hd) {r : Nat} (hr : r < 8) : h.cells[1 + r]? = some (.d (.int .u32 (h.v.get r))) := by
  match r, hr with
  | 0, _ | 1, _ | 2, _ | 3, _ | 4, _ | 5, _ | 6, _ | 7, _ => rfl
@[simp] theorem Hd.c_ok (h : Hd) (p : Nat → Bool) : SV.oks p h.cells = true := rfl
@[simp] theorem Hd.c_ren (h : Hd) (ρ : Nat → Nat) : SV.rens ρ h.cells = h.cells := rfl
theorem Hd.ds_len (h : Hd) : h.ds.length = 9 := rfl
theorem Qt.c10s (q : Qt) (s : SV) : spl q.cells 10 [s] = q.cells.set 10 s := rfl
def mayN (n : Nat) (v : Vec) : Bool := (List.range 8).all fun r => decide (r < n) || decide (v.get r = 0)
def Qt.hasQ (q : Qt) (v : Vec) : Qt × Nat := if mayN q.n v = false then (q, 2) else if v.above q.has = false then (q, 9) else ({ q with has := v }, 0)
def Qt.hearQ (q : Qt) (r : Nat) (v : Vec) : Qt × Nat :=
  if q.n ≤ r then (q, 2) else if mayN q.n v = false then (q, 2) else if r = q.own then (if q.has.above v = false then (q, 9) else (q, 0)) else ({ q with l := q.l ++ [⟨r, v⟩] }, 0)
def selQ (has : Vec) (r : Nat) (l : List Hd) : List Vec := (l.filter fun h => decide (h.r = r) && decide (h.v.get r ≤ has.get r)).map Hd.v
def Qt.cntQ (q : Qt) (r : Nat) : Vec × Nat := if q.n ≤ r then (Vec.zero, 2) else if r = q.own then (q.has, 0) else (Vec.all max (selQ q.has r q.l), 0)
def Qt.stabQ (q : Qt) : Vec := Vec.all min ((List.range q.n).map fun r => (q.cntQ r).1)
def Qt.step (q : Qt) (s : List Hd) (x : Hd) : List Hd := if !decide (x ∈ s) && decide (q.has.get x.r < x.v.get x.r) && !((q.cntQ x.r).1.above x.v) then s ++ [x] else s
def Qt.seenQ (q : Qt) (l : List Hd) : List Hd := l.foldl q.step []
theorem selQ_len (has : Vec) (r : Nat) (l : List Hd) : (selQ has r l).length ≤ l.length := by
  unfold selQ
  rw [List.length_map]
  exact List.length_filter_le ..
theorem seenQ_len (q : Qt) (l : List Hd) : (q.seenQ l).length ≤ l.length := by
  have key : ∀ (l : List Hd) (s : List Hd), (l.foldl q.step s).length ≤ s.length + l.length := fun l => by
    induction l with
    | nil => intro s; simp
    | cons x l ih =>
      intro s
      have := ih (q.step s x)
      have h2 : (q.step s x).length ≤ s.length + 1 := by
        unfold Qt.step
        split <;> simp
      rw [List.foldl_cons, List.length_cons]
      omega
  have := key l []
  unfold Qt.seenQ
  simpa using this
theorem selQ_snoc (has : Vec) (r : Nat) (l : List Hd) (x : Hd) : selQ has r (l ++ [x]) = selQ has r l ++ (if decide (x.r = r) && decide (x.v.get r ≤ has.get r) then [x.v] else []) := by
  unfold selQ
  rw [List.filter_append, List.map_append]
  congr 1
  simp only [List.filter_cons, List.filter_nil]
  split <;> rfl
abbrev vecC (l : List Vec) : List SV := (l.flatMap Vec.ds).map .d
theorem vecC_len (l : List Vec) : (vecC l).length = l.length * 8 := by rw [List.length_map]; exact flat_length Vec.ds 8 (fun _ => rfl) l
theorem vecC_snoc (l : List Vec) (v : Vec) : vecC (l ++ [v]) = vecC l ++ v.cells := by simp [vecC, Vec.map_ds]
end Go.Proofs.Ytacdkgkpoelhdaa
namespace Go.Proofs.Ytacdkgkpoelhdaa
open Go.Sl Go.Proofs
section
attribute [local irreducible] SW RW SCd SC CallP Pruned Qt.cells Hd.cells Hd.ds
set_option maxHeartbeats 2000000 in
theorem rmay12_ok (q : Qt) (hn : q.n ≤ 8) (v : Vec) : Go.Sl.Pure Try.prog ref12_May.f [.agg q.cells, .agg v.cells] (bl (mayN q.n v)) := by
  refine ref12_May.enter (by first | rfl | simp [SV.ok, SV.oks]) (by first | rfl | simp [Hp.ok, Ob.ok, SV.ok, SV.oks, Vec.cells_ok]) (by simp) ?_
  unfold ref12_May.s
  have q0 := q.c0
  have qo := q.one
  refine SW.seq ?_
  (refine SW.regL [0, 1, 2, 3, 4, 5, 9, 15] mixed ?_; (repeat (first | refine RW.ro (qo) (h := ?_) | refine RW.skip (h := ?_) | refine RW.op (qo) (h := ?_) | refine RW.opN (qo) (h := ?_) | refine RW.skip0 (h := ?_))); refine RW.nil ⟨conf_of (by kernel_rfl), Pruned.mk (h := ?_)⟩)
  refine SW.seq (SW.seq ?_)
  (refine SW.regL [0, 1, 2, 3, 4, 5, 9, 15] mixed ?_; (repeat (first | refine RW.ro (q0) (h := ?_) | refine RW.skip (h := ?_) | refine RW.op (q0) (h := ?_) | refine RW.opN (q0) (h := ?_) | refine RW.skip0 (h := ?_))); refine RW.nil ⟨conf_of (by kernel_rfl), Pruned.mk (h := ?_)⟩)
  refine SW.block (SW.loop (α := {i : Nat // i ≤ 8 ∧ q.n ≤ i ∧ ∀ r, r < i → r < q.n ∨ v.get r = 0}) (fun i => ⟨[(5, i64 i.1), (3, .ptr 1 0)], [(1, .box 25 v.cells)], 2⟩) (fun i => 8 - i.1) ⟨q.n, hn, Nat.le_refl _, fun r h => .inl h⟩ id ?_ ?_)
  · exact Weak.same (by simp) (by simp [EnvW, List.lookup, SV.ren, SV.ok]) (by simp [Hp.ok, Ob.ok, Vec.cells_ok]) (by simp [lk, List.lookup])
  rintro ⟨i, hi, hni, hall⟩
  dsimp only
  by_cases h : i < 8
  · have h1 : decide ((i : Int) < 8) = true := by simp only [decide_eq_true_eq]; omega
    have g8 := Vec.cells_get v h
    have e2 : IntKind.i64.wrap ((i : Int) + 1) = ((i + 1 : Nat) : Int) := wrap_i64 _ (by omega)
    refine SW.seq (SW.seq ?_)
    (refine SW.regL [0, 1, 2, 3, 4, 5, 9, 15] mixed ?_; (repeat (first | refine RW.ro (h1) (h := ?_) | refine RW.skip (h := ?_) | refine RW.op (h1) (h := ?_) | refine RW.opN (h1) (h := ?_) | refine RW.skip0 (h := ?_))); refine RW.nil ⟨conf_of (by kernel_rfl), Pruned.mk (h := ?_)⟩)
    refine SW.condT rfl (SW.skip ?_)
    refine SW.seq (SW.block (SW.seq ?_))
    by_cases h2 : v.get i = 0
    · have h3 : (((v.get i : Nat) : Int) != 0) = false := by rw [h2]; rfl
      (refine SW.regL [0, 1, 2, 3, 4, 5, 9, 15] mixed ?_; (repeat (first | refine RW.ro (And.intro (g8) (h3)) (h := ?_) | refine RW.skip (h := ?_) | refine RW.op (And.intro (g8) (h3)) (h := ?_) | refine RW.opN (And.intro (g8) (h3)) (h := ?_) | refine RW.skip0 (h := ?_))); refine RW.nil ⟨conf_of (by kernel_rfl), Pruned.mk (h := ?_)⟩)
      refine SW.condF rfl (SW.skip ?_)
      (refine SW.regL [0, 1, 2, 3, 4, 5, 9, 15] mixed ?_; (repeat (first | refine RW.ro (e2) (h := ?_) | refine RW.skip (h := ?_) | refine RW.op (e2) (h := ?_) | refine RW.opN (e2) (h := ?_) | refine RW.skip0 (h := ?_))); refine RW.nil ⟨conf_of (by kernel_rfl), Pruned.mk (h := ?_)⟩)
      exact ⟨⟨i + 1, by omega, by omega, fun r hr => by rcases Nat.lt_succ_iff_lt_or_eq.1 hr with hr | rfl; exact hall r hr; exact .inr h2⟩, id, by simp; omega, Weak.same (by simp) (by simp [EnvW, List.lookup, SV.ren, SV.ok]) (by simp [Hp.ok, Ob.ok, Vec.cells_ok]) (by simp [lk, List.lookup])⟩
    · have h3 : (((v.get i : Nat) : Int) != 0) = true := by simpa using h2
      (refine SW.regL [0, 1, 2, 3, 4, 5, 9, 15] mixed ?_; (repeat (first | refine RW.ro (And.intro (g8) (h3)) (h := ?_) | refine RW.skip (h := ?_) | refine RW.op (And.intro (g8) (h3)) (h := ?_) | refine RW.opN (And.intro (g8) (h3)) (h := ?_) | refine RW.skip0 (h := ?_))); refine RW.nil ⟨conf_of (by kernel_rfl), Pruned.mk (h := ?_)⟩)
      refine SW.condT rfl (SW.seq ?_)
      (refine SW.regL [0, 1, 2, 3, 4, 5, 9, 15] mixed ?_; (repeat (first | refine RW.ro bq_tt (h := ?_) | refine RW.skip (h := ?_) | refine RW.op bq_tt (h := ?_) | refine RW.opN bq_tt (h := ?_) | refine RW.skip0 (h := ?_))); refine RW.nil ⟨conf_of (by kernel_rfl), Pruned.mk (h := ?_)⟩)
      refine SW.ret ?_
      have e : mayN q.n v = false := by
        unfold mayN
        rw [List.all_eq_false]
        exact ⟨i, by simpa using h, by simp; omega⟩
      rw [e]
      exact End.mk [] (h4 := ⟨rfl, rfl⟩)
  · have h1 : decide ((i : Int) < 8) = false := by simp only [decide_eq_false_iff_not]; omega
    refine SW.seq (SW.seq ?_)
    (refine SW.regL [0, 1, 2, 3, 4, 5, 9, 15] mixed ?_; (repeat (first | refine RW.ro (h1) (h := ?_) | refine RW.skip (h := ?_) | refine RW.op (h1) (h := ?_) | refine RW.opN (h1) (h := ?_) | refine RW.skip0 (h := ?_))); refine RW.nil ⟨conf_of (by kernel_rfl), Pruned.mk (h := ?_)⟩)
    refine SW.condF rfl (SW.exit ?_)
    refine (?_ : Sl.SW _ _ _ _ _ _)
    refine SW.seq ?_
    (refine SW.regL [0, 1, 2, 3, 4, 5, 9, 15] mixed ?_; (repeat (first | refine RW.ro bq_tt (h := ?_) | refine RW.skip (h := ?_) | refine RW.op bq_tt (h := ?_) | refine RW.opN bq_tt (h := ?_) | refine RW.skip0 (h := ?_))); refine RW.nil ⟨conf_of (by kernel_rfl), Pruned.mk (h := ?_)⟩)
    refine SW.ret ?_
    have e : mayN q.n v = true := by
      unfold mayN
      rw [List.all_eq_true]
      intro r hr
      have := hall r (by have : r < 8 := by simpa using hr
                         omega)
      simp; omega
    rw [e]
    exact End.mk [] (h4 := ⟨rfl, rfl⟩)
theorem rmay12_at (q : Qt) (hn : q.n ≤ 8) (v : Vec) (k : Nat) : SCd Try.prog ref12_May.f [.agg q.cells, .agg v.cells] [] k 0 (bl (mayN q.n v)) [] := (rmay12_ok q hn v).sc rfl k
theorem rvV_q {st : St} {t k ty : Nat} {q : Qt} {r : List RV} {ss : List SV} {ob : Prop} (h1 : st.env.lookup t = some (.ptr k 0)) (h2 : lk st.hp k = some (.box ty q.cells)) (h3 : rvV st r = some (ss, ob)) :
    rvV st (.cell t (some 11) :: r) = some (.agg q.cells :: ss, ldo q.cells 0 (some 11) ∧ ob) := by
  simp only [rvV, h1, h3, cellsAt, h2, ldv, List.drop_zero, q.ct]
theorem spZ (q : Qt) : spl zQ 0 q.cells = q.cells := q.sp zQ rfl
set_option maxHeartbeats 2000000 in
theorem rhas12_ok (q : Qt) (hn : q.n ≤ 8) (v : Vec) : Go.Sl.Pure Try.prog ref12_Has.f [.agg q.cells, .agg v.cells] (.tup [.agg (q.hasQ v).1.cells, i64 (q.hasQ v).2]) := by
  refine ref12_Has.enter (by first | rfl | simp [SV.ok, SV.oks]) (by first | rfl | simp [Hp.ok, Ob.ok, SV.ok, SV.oks, Vec.cells_ok]) (by simp) ?_
  unfold ref12_Has.s
  have qo := q.one
  have qt := q.ct
  have ql := q.cl
  have q2 := q.c2
  have qz := spZ q
  have hm := rmay12_at q hn v
  have ha := rabove_at4 v q.has
  refine SW.seq ?_
  (refine SW.regL [0, 1, 2, 3, 4, 5, 9, 15] mixed ?_; (repeat (first | refine RW.ro (qo) (h := ?_) | refine RW.skip (h := ?_) | refine RW.op (qo) (h := ?_) | refine RW.opN (qo) (h := ?_) | refine RW.skip0 (h := ?_))); refine RW.nil ⟨conf_of (by kernel_rfl), Pruned.mk (h := ?_)⟩)
  refine SW.seq (SW.seq ?_)
  rcases h1 : mayN q.n v with _ | _
  · rw [h1] at hm
    (refine SW.regL [0, 1, 2, 3, 4, 5, 9, 15] mixed ?_; (repeat (first | refine RW.ro (And.intro (qt) (ql)) (h := ?_) | refine RW.skip (h := ?_) | refine RW.op (And.intro (qt) (ql)) (h := ?_) | refine RW.opN (And.intro (qt) (ql)) (h := ?_) | refine RW.skip0 (h := ?_) | (refine RW.callC (h := ?_); (first | refine CallP.mk (And.intro (qt) (ql)) (hc := hm _) (h := ?_))))); refine RW.nil ⟨conf_of (by kernel_rfl), Pruned.mk (h := ?_)⟩)
    refine SW.condT rfl (SW.seq ?_)
    (have fx := (And.intro (qt) (And.intro (ql) (And.intro (qo) (qz)))); refine SW.regL [0, 1, 2, 3, 4, 5, 9, 15] mixed ?_; (repeat (first | refine RW.ro fx (h := ?_) | refine RW.skip (h := ?_) | refine RW.op fx (h := ?_) | refine RW.opN fx (h := ?_) | refine RW.skip0 (h := ?_) | (refine RW.callC (h := ?_); (first | refine CallP.mk fx (hc := hm _) (h := ?_))))); refine RW.nil ⟨conf_of (by kernel_rfl), Pruned.mk (h := ?_)⟩)
    refine SW.ret ?_
    have e : q.hasQ v = (q, 2) := by unfold Qt.hasQ; rw [if_pos h1]
    rw [e]
    exact End.mk [] (h1 := rvV_q (ty := 69) (q := q) (k := 2) (by simp [List.lookup]) (by simp [lk, List.lookup]) rfl) (h2 := by simp [ldo, ql]) (h4 := ⟨rfl, rfl⟩)
  · rw [h1] at hm
    (refine SW.regL [0, 1, 2, 3, 4, 5, 9, 15] mixed ?_; (repeat (first | refine RW.ro (And.intro (qt) (ql)) (h := ?_) | refine RW.skip (h := ?_) | refine RW.op (And.intro (qt) (ql)) (h := ?_) | refine RW.opN (And.intro (qt) (ql)) (h := ?_) | refine RW.skip0 (h := ?_) | (refine RW.callC (h := ?_); (first | refine CallP.mk (And.intro (qt) (ql)) (hc := hm _) (h := ?_))))); refine RW.nil ⟨conf_of (by kernel_rfl), Pruned.mk (h := ?_)⟩)
    refine SW.condF rfl (SW.skip ?_)
    refine SW.seq (SW.seq ?_)
    rcases h2 : v.above q.has with _ | _
    · rw [h2] at ha
      (have fx := (And.intro (qt) (And.intro (ql) (q2))); refine SW.regL [0, 1, 2, 3, 4, 5, 9, 15] mixed ?_; (repeat (first | refine RW.ro fx (h := ?_) | refine RW.skip (h := ?_) | refine RW.op fx (h := ?_) | refine RW.opN fx (h := ?_) | refine RW.skip0 (h := ?_) | (refine RW.callC (h := ?_); (first | refine CallP.mk fx (hc := ha _) (h := ?_))))); refine RW.nil ⟨conf_of (by kernel_rfl), Pruned.mk (h := ?_)⟩)
      refine SW.condT rfl (SW.seq ?_)
      (have fx := (And.intro (qt) (And.intro (ql) (And.intro (qo) (qz)))); refine SW.regL [0, 1, 2, 3, 4, 5, 9, 15] mixed ?_; (repeat (first | refine RW.ro fx (h := ?_) | refine RW.skip (h := ?_) | refine RW.op fx (h := ?_) | refine RW.opN fx (h := ?_) | refine RW.skip0 (h := ?_) | (refine RW.callC (h := ?_); (first | refine CallP.mk fx (hc := ha _) (h := ?_))))); refine RW.nil ⟨conf_of (by kernel_rfl), Pruned.mk (h := ?_)⟩)
      refine SW.ret ?_
      have e : q.hasQ v = (q, 9) := by unfold Qt.hasQ; rw [if_neg (by rw [h1]; simp), if_pos h2]
      rw [e]
      exact End.mk [] (h1 := rvV_q (ty := 69) (q := q) (k := 2) (by simp [List.lookup]) (by simp [lk, List.lookup]) rfl) (h2 := by simp [ldo, ql]) (h4 := ⟨rfl, rfl⟩)
    · rw [h2] at ha
      (have fx := (And.intro (qt) (And.intro (ql) (q2))); refine SW.regL [0, 1, 2, 3, 4, 5, 9, 15] mixed ?_; (repeat (first | refine RW.ro fx (h := ?_) | refine RW.skip (h := ?_) | refine RW.op fx (h := ?_) | refine RW.opN fx (h := ?_) | refine RW.skip0 (h := ?_) | (refine RW.callC (h := ?_); (first | refine CallP.mk fx (hc := ha _) (h := ?_))))); refine RW.nil ⟨conf_of (by kernel_rfl), Pruned.mk (h := ?_)⟩)
      refine SW.condF rfl (SW.skip ?_)
      refine SW.seq ?_
      have e : q.hasQ v = ({ q with has := v }, 0) := by unfold Qt.hasQ; rw [if_neg (by rw [h1]; simp), if_neg (by rw [h2]; simp)]
      have s2 := q.sp2 v
      rw [e]
      obtain ⟨q', hq'⟩ : ∃ q', ({ q with has := v } : Qt) = q' := ⟨_, rfl⟩
      rw [hq'] at s2 ⊢
      have qt' := q'.ct
      have ql' := q'.cl
      have qo' := q'.one
      have qz' := spZ q'
      (refine SW.regL [0, 1, 2, 3, 4, 5, 9, 15] mixed ?_; (repeat (first | refine RW.ro (And.intro (ql) (s2)) (h := ?_) | refine RW.skip (h := ?_) | refine RW.op (And.intro (ql) (s2)) (h := ?_) | refine RW.opN (And.intro (ql) (s2)) (h := ?_) | refine RW.skip0 (h := ?_) | (refine RW.callC (h := ?_); (first | refine CallP.mk (And.intro (ql) (s2)) (hc := ha _) (h := ?_))))); refine RW.nil ⟨conf_of (by kernel_rfl), Pruned.mk (h := ?_)⟩)
      refine SW.seq ?_
      (have fx := (And.intro (qt') (And.intro (ql') (And.intro (qo') (qz')))); refine SW.regL [0, 1, 2, 3, 4, 5, 9, 15] mixed ?_; (repeat (first | refine RW.ro fx (h := ?_) | refine RW.skip (h := ?_) | refine RW.op fx (h := ?_) | refine RW.opN fx (h := ?_) | refine RW.skip0 (h := ?_) | (refine RW.callC (h := ?_); (first | refine CallP.mk fx (hc := ha _) (h := ?_))))); refine RW.nil ⟨conf_of (by kernel_rfl), Pruned.mk (h := ?_)⟩)
      refine SW.ret ?_
      exact End.mk [] (h1 := rvV_q (ty := 69) (q := q') (k := 2) (by simp [List.lookup]) (by simp [lk, List.lookup]) rfl) (h2 := by simp [ldo, ql']) (h4 := ⟨rfl, rfl⟩)
theorem rhas12_at (q : Qt) (hn : q.n ≤ 8) (v : Vec) (k : Nat) : SCd Try.prog ref12_Has.f [.agg q.cells, .agg v.cells] [] k 0 (.tup [.agg (q.hasQ v).1.cells, i64 (q.hasQ v).2]) [] := (rhas12_ok q hn v).sc (by simp [SV.ok, SV.oks]) k
set_option maxHeartbeats 4000000 in
theorem rhear12_ok (q : Qt) (hn : q.n ≤ 8) (hl : q.l.length ≤ 1000000) (r : Nat) (hr : r < 256) (v : Vec) : Go.Sl.Pure Try.prog ref12_Hear.f [.agg q.cells, u8 r, .agg v.cells] (.tup [.agg (q.hearQ r v).1.cells, i64 (q.hearQ r v).2]) := by
  refine ref12_Hear.enter (by first | rfl | simp [SV.ok, SV.oks]) (by first | rfl | simp [Hp.ok, Ob.ok, SV.ok, SV.oks, Vec.cells_ok]) (by simp) ?_
  unfold ref12_Hear.s
  have q0 := q.c0
  have q1 := q.c1
  have q10 := q.c10
  have qo := q.one
  have qt := q.ct
  have ql := q.cl
  have q2 := q.c2
  have qz := spZ q
  have hm := rmay12_at q hn v
  have ha := rabove_at4 q.has v
  refine SW.seq ?_
  (refine SW.regL [0, 1, 2, 3, 5, 6, 7, 18, 23, 28] mixed ?_; (repeat (first | refine RW.ro (qo) (h := ?_) | refine RW.skip (h := ?_) | refine RW.op (qo) (h := ?_) | refine RW.opN (qo) (h := ?_) | refine RW.skip0 (h := ?_))); refine RW.nil ⟨conf_of (by kernel_rfl), Pruned.mk (h := ?_)⟩)
  refine SW.seq (SW.seq ?_)
  by_cases h0 : q.n ≤ r
  · have h1 : decide ((r : Int) ≥ q.n) = true := by simp only [decide_eq_true_eq]; omega
    have e : q.hearQ r v = (q, 2) := by unfold Qt.hearQ; rw [if_pos h0]
    rw [e]
    (refine SW.regL [0, 1, 2, 3, 5, 6, 7, 18, 23, 28] mixed ?_; (repeat (first | refine RW.ro (And.intro (q0) (h1)) (h := ?_) | refine RW.skip (h := ?_) | refine RW.op (And.intro (q0) (h1)) (h := ?_) | refine RW.opN (And.intro (q0) (h1)) (h := ?_) | refine RW.skip0 (h := ?_))); refine RW.nil ⟨conf_of (by kernel_rfl), Pruned.mk (h := ?_)⟩)
    refine SW.condT rfl (SW.seq ?_)
    (have fx := (And.intro (qt) (And.intro (ql) (And.intro (qo) (qz)))); refine SW.regL [0, 1, 2, 3, 5, 6, 7, 18, 23, 28] mixed ?_; (repeat (first | refine RW.ro fx (h := ?_) | refine RW.skip (h := ?_) | refine RW.op fx (h := ?_) | refine RW.opN fx (h := ?_) | refine RW.skip0 (h := ?_))); refine RW.nil ⟨conf_of (by kernel_rfl), Pruned.mk (h := ?_)⟩)
    refine SW.ret ?_
    exact End.mk [] (h1 := rvV_q (ty := 69) (q := q) (k := 2) (by simp [List.lookup]) (by simp [lk, List.lookup]) rfl) (h2 := by simp [ldo, ql]) (h4 := ⟨rfl, rfl⟩)
  have h0' : decide ((r : Int) ≥ q.n) = false := by simp only [decide_eq_false_iff_not]; omega
  rcases h1 : mayN q.n v with _ | _
  · rw [h1] at hm
    have e : q.hearQ r v = (q, 2) := by unfold Qt.hearQ; rw [if_neg h0, if_pos h1]
    rw [e]
    (have fx := (And.intro (q0) (And.intro (h0') (And.intro (qt) (ql)))); refine SW.regL [0, 1, 2, 3, 5, 6, 7, 18, 23, 28] mixed ?_; (repeat (first | refine RW.ro fx (h := ?_) | refine RW.skip (h := ?_) | refine RW.op fx (h := ?_) | refine RW.opN fx (h := ?_) | refine RW.skip0 (h := ?_) | (refine RW.callC (h := ?_); (first | refine CallP.mk fx (hc := hm _) (h := ?_))))); refine RW.nil ⟨conf_of (by kernel_rfl), Pruned.mk (h := ?_)⟩)
    refine SW.condT rfl (SW.seq ?_)
    (have fx := (And.intro (qt) (And.intro (ql) (And.intro (qo) (qz)))); refine SW.regL [0, 1, 2, 3, 5, 6, 7, 18, 23, 28] mixed ?_; (repeat (first | refine RW.ro fx (h := ?_) | refine RW.skip (h := ?_) | refine RW.op fx (h := ?_) | refine RW.opN fx (h := ?_) | refine RW.skip0 (h := ?_) | (refine RW.callC (h := ?_); (first | refine CallP.mk fx (hc := hm _) (h := ?_))))); refine RW.nil ⟨conf_of (by kernel_rfl), Pruned.mk (h := ?_)⟩)
    refine SW.ret ?_
    exact End.mk [] (h1 := rvV_q (ty := 69) (q := q) (k := 2) (by simp [List.lookup]) (by simp [lk, List.lookup]) rfl) (h2 := by simp [ldo, ql]) (h4 := ⟨rfl, rfl⟩)
  rw [h1] at hm
  (have fx := (And.intro (q0) (And.intro (h0') (And.intro (qt) (ql)))); refine SW.regL [0, 1, 2, 3, 5, 6, 7, 18, 23, 28] mixed ?_; (repeat (first | refine RW.ro fx (h := ?_) | refine RW.skip (h := ?_) | refine RW.op fx (h := ?_) | refine RW.opN fx (h := ?_) | refine RW.skip0 (h := ?_) | (refine RW.callC (h := ?_); (first | refine CallP.mk fx (hc := hm _) (h := ?_))))); refine RW.nil ⟨conf_of (by kernel_rfl), Pruned.mk (h := ?_)⟩)
  refine SW.condF rfl (SW.skip ?_)
  refine SW.seq (SW.seq ?_)
  by_cases h2 : r = q.own
  · have h3 : (((r : Nat) : Int) == ((q.own : Nat) : Int)) = true := by rw [h2]; simp
    (refine SW.regL [0, 1, 2, 3, 5, 6, 7, 18, 23, 28] mixed ?_; (repeat (first | refine RW.ro (And.intro (q1) (h3)) (h := ?_) | refine RW.skip (h := ?_) | refine RW.op (And.intro (q1) (h3)) (h := ?_) | refine RW.opN (And.intro (q1) (h3)) (h := ?_) | refine RW.skip0 (h := ?_) | (refine RW.callC (h := ?_); (first | refine CallP.mk (And.intro (q1) (h3)) (hc := ha _) (h := ?_))))); refine RW.nil ⟨conf_of (by kernel_rfl), Pruned.mk (h := ?_)⟩)
    refine SW.condT rfl (SW.seq (SW.seq ?_))
    rcases h4 : q.has.above v with _ | _
    · rw [h4] at ha
      have e : q.hearQ r v = (q, 9) := by unfold Qt.hearQ; rw [if_neg h0, if_neg (by rw [h1]; simp), if_pos h2, if_pos h4]
      rw [e]
      (refine SW.regL [0, 1, 2, 3, 5, 6, 7, 18, 23, 28] mixed ?_; (repeat (first | refine RW.ro (And.intro (q2) (ql)) (h := ?_) | refine RW.skip (h := ?_) | refine RW.op (And.intro (q2) (ql)) (h := ?_) | refine RW.opN (And.intro (q2) (ql)) (h := ?_) | refine RW.skip0 (h := ?_) | (refine RW.callC (h := ?_); (first | refine CallP.mk (And.intro (q2) (ql)) (hc := ha _) (h := ?_))))); refine RW.nil ⟨conf_of (by kernel_rfl), Pruned.mk (h := ?_)⟩)
      refine SW.condT rfl (SW.seq ?_)
      (have fx := (And.intro (qt) (And.intro (ql) (And.intro (qo) (qz)))); refine SW.regL [0, 1, 2, 3, 5, 6, 7, 18, 23, 28] mixed ?_; (repeat (first | refine RW.ro fx (h := ?_) | refine RW.skip (h := ?_) | refine RW.op fx (h := ?_) | refine RW.opN fx (h := ?_) | refine RW.skip0 (h := ?_) | (refine RW.callC (h := ?_); (first | refine CallP.mk fx (hc := ha _) (h := ?_))))); refine RW.nil ⟨conf_of (by kernel_rfl), Pruned.mk (h := ?_)⟩)
      refine SW.ret ?_
      exact End.mk [] (h1 := rvV_q (ty := 69) (q := q) (k := 2) (by simp [List.lookup]) (by simp [lk, List.lookup]) rfl) (h2 := by simp [ldo, ql]) (h4 := ⟨rfl, rfl⟩)
    · rw [h4] at ha
      have e : q.hearQ r v = (q, 0) := by unfold Qt.hearQ; rw [if_neg h0, if_neg (by rw [h1]; simp), if_pos h2, if_neg (by rw [h4]; simp)]
      rw [e]
      (refine SW.regL [0, 1, 2, 3, 5, 6, 7, 18, 23, 28] mixed ?_; (repeat (first | refine RW.ro (And.intro (q2) (ql)) (h := ?_) | refine RW.skip (h := ?_) | refine RW.op (And.intro (q2) (ql)) (h := ?_) | refine RW.opN (And.intro (q2) (ql)) (h := ?_) | refine RW.skip0 (h := ?_) | (refine RW.callC (h := ?_); (first | refine CallP.mk (And.intro (q2) (ql)) (hc := ha _) (h := ?_))))); refine RW.nil ⟨conf_of (by kernel_rfl), Pruned.mk (h := ?_)⟩)
      refine SW.condF rfl (SW.skip ?_)
      refine SW.seq ?_
      (have fx := (And.intro (qt) (And.intro (ql) (And.intro (qo) (qz)))); refine SW.regL [0, 1, 2, 3, 5, 6, 7, 18, 23, 28] mixed ?_; (repeat (first | refine RW.ro fx (h := ?_) | refine RW.skip (h := ?_) | refine RW.op fx (h := ?_) | refine RW.opN fx (h := ?_) | refine RW.skip0 (h := ?_) | (refine RW.callC (h := ?_); (first | refine CallP.mk fx (hc := ha _) (h := ?_))))); refine RW.nil ⟨conf_of (by kernel_rfl), Pruned.mk (h := ?_)⟩)
      refine SW.ret ?_
      exact End.mk [] (h1 := rvV_q (ty := 69) (q := q) (k := 2) (by simp [List.lookup]) (by simp [lk, List.lookup]) rfl) (h2 := by simp [ldo, ql]) (h4 := ⟨rfl, rfl⟩)
  · have h3 : (((r : Nat) : Int) == ((q.own : Nat) : Int)) = false := by simp; omega
    have e : q.hearQ r v = ({ q with l := q.l ++ [⟨r, v⟩] }, 0) := by unfold Qt.hearQ; rw [if_neg h0, if_neg (by rw [h1]; simp), if_neg h2]
    have qf := fun n => q.frz ⟨r, v⟩ n
    rw [e]
    obtain ⟨q', hq'⟩ : ∃ q', ({ q with l := q.l ++ [⟨r, v⟩] } : Qt) = q' := ⟨_, rfl⟩
    rw [hq'] at qf ⊢
    have qt' := q'.ct
    have ql' := q'.cl
    have qo' := q'.one
    have qz' := spZ q'
    (refine SW.regL [0, 1, 2, 3, 5, 6, 7, 18, 23, 28] mixed ?_; (repeat (first | refine RW.ro (And.intro (q1) (h3)) (h := ?_) | refine RW.skip (h := ?_) | refine RW.op (And.intro (q1) (h3)) (h := ?_) | refine RW.opN (And.intro (q1) (h3)) (h := ?_) | refine RW.skip0 (h := ?_))); refine RW.nil ⟨conf_of (by kernel_rfl), Pruned.mk (h := ?_)⟩)
    refine SW.condF rfl (SW.skip ?_)
    refine SW.seq ?_
    have hz := heard_len q.l
    have hk := Hd.c_mk r v
    obtain ⟨x, hx⟩ : ∃ x : Hd, ⟨r, v⟩ = x := ⟨_, rfl⟩
    rw [hx] at hk qf hq'
    have k1 := x.c_all
    have k2 := x.c_len
    have k3 := x.c_datas
    have k4 := x.c_spl
    have k5 : spl q.cells 10 [SV.gs 5 (q.l.length + 1)] = q.cells.set 10 (.gs 5 (q.l.length + 1)) := q.c10s _
    have k6 : (q.l.length + 1 ≤ 9223372036854775807) = True := eq_true (by omega)
    have k7 : ((q.l.length + 1) * 36 ≤ 140737488355328) = True := eq_true (by omega)
    have k8 : (q.l.length * 36 ≤ 140737488355328) = True := eq_true (by omega)
    have k9 : (q.l.length ≤ 9223372036854775807) = True := eq_true (by omega)
    have k0 : x.ds.length = 9 := x.ds_len
    (have fx := (And.intro (q10) (And.intro (ql) (And.intro (hz) (And.intro (hk) (And.intro (k1) (And.intro (k2) (And.intro (k3) (And.intro (k4) (And.intro (k5) (And.intro (k6) (And.intro (k7) (And.intro (k8) (And.intro (k9) (k0)))))))))))))); refine SW.regL [0, 1, 2, 3, 5, 6, 7, 18, 23, 28] mixed ?_; (repeat (first | refine RW.ro fx (h := ?_) | refine RW.skip (h := ?_) | refine RW.op fx (h := ?_) | refine RW.opN fx (h := ?_) | refine RW.skip0 (h := ?_))); refine RW.nil ⟨conf_of (by kernel_rfl), Pruned.mk (h := ?_)⟩)
    have qf5 := qf 5
    have hD0 : List.map SV.d (List.flatMap Hd.ds q.l) ++ List.map SV.d x.ds = List.map SV.d ((q.l ++ [x]).flatMap Hd.ds) := by simp
    obtain ⟨D, hD⟩ : ∃ D, (q.l ++ [x]).flatMap Hd.ds = D := ⟨_, rfl⟩
    rw [hD] at qf5 hD0
    have zf : SV.frzs 5 (q.l.length + 1) D [.d (.int .i64 0), .d (.int .u8 0), .d (.int .u32 0), .d (.int .u32 0), .d (.int .u32 0), .d (.int .u32 0), .d (.int .u32 0), .d (.int .u32 0), .d (.int .u32 0), .d (.int .u32 0), .d .nils] = zQ := frzs_zQ 5 (q.l.length + 1) D
    refine SW.freezeB 5 (e := 149) (sz := 9) (len := q.l.length + 1) (cs := List.map SV.d D) D (by simp [lk, List.lookup, hD0]) rfl ?_
    refine SW.weak id (st1 := ⟨[(3, .ptr 0 0), (6, .ptr 2 0)], [(0, .box 69 q'.cells), (2, .box 69 zQ)], 6⟩) (Weak.same (by simp) (by simp [EnvW, List.lookup, SV.ren, SV.ok, frzE, SV.frz]) (by simp [Hp.ok, Ob.ok, SV.oks, SV.ok]) (by
      intro y hy
      rw [lk_frzH]
      simp only [List.mem_cons, List.not_mem_nil, or_false] at hy
      rcases hy with rfl | rfl
      · simp [lk, List.lookup, hdel, Ob.frz, qf5]
      · simp [lk, List.lookup, hdel, Ob.frz, zf])) ?_
    refine SW.seq ?_
    (have fx := (And.intro (qt') (And.intro (ql') (And.intro (qo') (qz')))); refine SW.regL [0, 1, 2, 3, 5, 6, 7, 18, 23, 28] mixed ?_; (repeat (first | refine RW.ro fx (h := ?_) | refine RW.skip (h := ?_) | refine RW.op fx (h := ?_) | refine RW.opN fx (h := ?_) | refine RW.skip0 (h := ?_))); refine RW.nil ⟨conf_of (by kernel_rfl), Pruned.mk (h := ?_)⟩)
    refine SW.ret ?_
    exact End.mk [] (h1 := rvV_q (ty := 69) (q := q') (k := 2) (by simp [List.lookup]) (by simp [lk, List.lookup]) rfl) (h2 := by simp [ldo, ql']) (h4 := ⟨rfl, rfl⟩)
theorem rhear12_at (q : Qt) (hn : q.n ≤ 8) (hl : q.l.length ≤ 1000000) (r : Nat) (hr : r < 256) (v : Vec) (k : Nat) : SCd Try.prog ref12_Hear.f [.agg q.cells, u8 r, .agg v.cells] [] k 0 (.tup [.agg (q.hearQ r v).1.cells, i64 (q.hearQ r v).2]) [] := (rhear12_ok q hn hl r hr v).sc (by simp [SV.ok, SV.oks]) k
end
end Go.Proofs.Ytacdkgkpoelhdaa
namespace Go.Proofs.Ytacdkgkpoelhdaa
open Go.Sl Go.Proofs
theorem rmerge_at (l : List Vec) (hl : l.length < 1000000000) (k : Nat) : SCd Try.prog ref04_Merge.f [vecs l] [] k 0 (.agg (Vec.all max l).cells) [] := (rmerge_ok l hl).sc rfl k
theorem rmeet_at (l : List Vec) (hl : l.length < 1000000000) (k : Nat) : SCd Try.prog ref04_Meet.f [vecs l] [] k 0 (.agg (Vec.all min l).cells) [] := (rmeet_ok l hl).sc rfl k
section
attribute [local irreducible] SW RW SCd SC CallP Pruned Qt.cells Hd.cells Hd.ds
set_option maxHeartbeats 4000000 in
theorem rcnt12_ok (q : Qt) (hn : q.n ≤ 8) (hl : q.l.length ≤ 1000000) (r : Nat) (hr : r < 256) : Go.Sl.Pure Try.prog ref12_Counts.f [.agg q.cells, u8 r] (.tup [.agg (q.cntQ r).1.cells, i64 (q.cntQ r).2]) := by
  refine ref12_Counts.enter (by first | rfl | simp [SV.ok, SV.oks]) (by first | rfl | simp [Hp.ok, Ob.ok, SV.ok, SV.oks, Vec.cells_ok]) (by simp) ?_
  unfold ref12_Counts.s
  have q0 := q.c0
  have q1 := q.c1
  have q2 := q.c2
  have q10 := q.c10
  have qo := q.one
  have ql := q.cl
  refine SW.seq ?_
  (refine SW.regL [0, 1, 2, 4, 5, 6, 7, 12, 17, 24, 49] mixed ?_; (repeat (first | refine RW.ro (qo) (h := ?_) | refine RW.skip (h := ?_) | refine RW.op (qo) (h := ?_) | refine RW.opN (qo) (h := ?_) | refine RW.skip0 (h := ?_))); refine RW.nil ⟨conf_of (by kernel_rfl), Pruned.mk (h := ?_)⟩)
  refine SW.seq (SW.seq ?_)
  by_cases h0 : q.n ≤ r
  · have h1 : decide ((r : Int) ≥ q.n) = true := by simp only [decide_eq_true_eq]; omega
    have e : q.cntQ r = (Vec.zero, 2) := by unfold Qt.cntQ; rw [if_pos h0]
    rw [e]
    (refine SW.regL [0, 1, 2, 4, 5, 6, 7, 12, 17, 24, 49] mixed ?_; (repeat (first | refine RW.ro (And.intro (q0) (h1)) (h := ?_) | refine RW.skip (h := ?_) | refine RW.op (And.intro (q0) (h1)) (h := ?_) | refine RW.opN (And.intro (q0) (h1)) (h := ?_) | refine RW.skip0 (h := ?_))); refine RW.nil ⟨conf_of (by kernel_rfl), Pruned.mk (h := ?_)⟩)
    refine SW.condT rfl (SW.seq ?_)
    (refine SW.regL [0, 1, 2, 4, 5, 6, 7, 12, 17, 24, 49] mixed ?_; (repeat (first | refine RW.ro bq_tt (h := ?_) | refine RW.skip (h := ?_) | refine RW.op bq_tt (h := ?_) | refine RW.opN bq_tt (h := ?_) | refine RW.skip0 (h := ?_))); refine RW.nil ⟨conf_of (by kernel_rfl), Pruned.mk (h := ?_)⟩)
    refine SW.ret ?_
    exact End.mk [] (h1 := rvV_vec (ty := 25) (x := Vec.zero) (k := 1) (by simp [List.lookup]) (by simp [lk, List.lookup]) rfl) (h2 := by simp [ldo]) (h4 := ⟨rfl, rfl⟩)
  have h0' : decide ((r : Int) ≥ q.n) = false := by simp only [decide_eq_false_iff_not]; omega
  (refine SW.regL [0, 1, 2, 4, 5, 6, 7, 12, 17, 24, 49] mixed ?_; (repeat (first | refine RW.ro (And.intro (q0) (h0')) (h := ?_) | refine RW.skip (h := ?_) | refine RW.op (And.intro (q0) (h0')) (h := ?_) | refine RW.opN (And.intro (q0) (h0')) (h := ?_) | refine RW.skip0 (h := ?_))); refine RW.nil ⟨conf_of (by kernel_rfl), Pruned.mk (h := ?_)⟩)
  refine SW.condF rfl (SW.skip ?_)
  refine SW.seq (SW.seq ?_)
  by_cases h2 : r = q.own
  · have h3 : (((r : Nat) : Int) == ((q.own : Nat) : Int)) = true := by rw [h2]; simp
    have e : q.cntQ r = (q.has, 0) := by unfold Qt.cntQ; rw [if_neg h0, if_pos h2]
    rw [e]
    (refine SW.regL [0, 1, 2, 4, 5, 6, 7, 12, 17, 24, 49] mixed ?_; (repeat (first | refine RW.ro (And.intro (q1) (h3)) (h := ?_) | refine RW.skip (h := ?_) | refine RW.op (And.intro (q1) (h3)) (h := ?_) | refine RW.opN (And.intro (q1) (h3)) (h := ?_) | refine RW.skip0 (h := ?_))); refine RW.nil ⟨conf_of (by kernel_rfl), Pruned.mk (h := ?_)⟩)
    refine SW.condT rfl (SW.seq ?_)
    (refine SW.regL [0, 1, 2, 4, 5, 6, 7, 12, 17, 24, 49] mixed ?_; (repeat (first | refine RW.ro (And.intro (q2) (ql)) (h := ?_) | refine RW.skip (h := ?_) | refine RW.op (And.intro (q2) (ql)) (h := ?_) | refine RW.opN (And.intro (q2) (ql)) (h := ?_) | refine RW.skip0 (h := ?_))); refine RW.nil ⟨conf_of (by kernel_rfl), Pruned.mk (h := ?_)⟩)
    refine SW.ret ?_
    exact End.mk [] (h1 := rvV_vec (ty := 25) (x := q.has) (k := 1) (by simp [List.lookup]) (by simp [lk, List.lookup]) rfl) (h2 := by simp [ldo]) (h4 := ⟨rfl, rfl⟩)
  have h3 : (((r : Nat) : Int) == ((q.own : Nat) : Int)) = false := by simp; omega
  have e : q.cntQ r = (Vec.all max (selQ q.has r q.l), 0) := by unfold Qt.cntQ; rw [if_neg h0, if_neg h2]
  rw [e]
  have r8 : r < 8 := by omega
  have qr := q.ch r8
  (refine SW.regL [0, 1, 2, 4, 5, 6, 7, 12, 17, 24, 49] mixed ?_; (repeat (first | refine RW.ro (And.intro (q1) (h3)) (h := ?_) | refine RW.skip (h := ?_) | refine RW.op (And.intro (q1) (h3)) (h := ?_) | refine RW.opN (And.intro (q1) (h3)) (h := ?_) | refine RW.skip0 (h := ?_))); refine RW.nil ⟨conf_of (by kernel_rfl), Pruned.mk (h := ?_)⟩)
  refine SW.condF rfl (SW.skip ?_)
  refine SW.seq ?_
  (refine SW.regL [0, 1, 2, 4, 5, 6, 7, 12, 17, 24, 49] mixed ?_; (repeat (first | refine RW.ro bq_tt (h := ?_) | refine RW.skip (h := ?_) | refine RW.op bq_tt (h := ?_) | refine RW.opN bq_tt (h := ?_) | refine RW.skip0 (h := ?_))); refine RW.nil ⟨conf_of (by kernel_rfl), Pruned.mk (h := ?_)⟩)
  refine SW.nilrow 6 25 8 rfl ?_
  refine SW.seq (SW.seq ?_)
  (refine SW.regL [0, 1, 2, 4, 5, 6, 7, 12, 17, 24, 49] mixed ?_; (repeat (first | refine RW.ro bq_tt (h := ?_) | refine RW.skip (h := ?_) | refine RW.op bq_tt (h := ?_) | refine RW.opN bq_tt (h := ?_) | refine RW.skip0 (h := ?_))); refine RW.nil ⟨conf_of (by kernel_rfl), Pruned.mk (h := ?_)⟩)
  refine SW.block ?_
  refine SW.loopA (α := {i : Nat // i ≤ q.l.length}) (fun i => ⟨[(7, i64 i.1), (1, u8 r), (2, .ptr 0 0), (4, .ptr 1 0), (6, .gs 2 (selQ q.has r (q.l.take i.1)).length)], [(2, .arr 25 8 (selQ q.has r (q.l.take i.1)).length (vecC (selQ q.has r (q.l.take i.1)))), (0, .box 69 q.cells), (1, .box 25 Vec.zero.cells)], 3⟩) (fun i => q.l.length - i.1) ⟨0, by omega⟩ id (And.intro (show selQ q.has r [] = [] from rfl) bq_tt) (round := ?_)
  rintro ⟨i, hi⟩
  dsimp only
  by_cases h : i < q.l.length
  · have h1 : decide ((i : Int) < q.l.length) = true := by simp only [decide_eq_true_eq]; omega
    obtain ⟨x, hx⟩ := get_of_lt h
    have e2 : IntKind.i64.wrap ((i : Int) + 1) = ((i + 1 : Nat) : Int) := wrap_i64 _ (by omega)
    have hsn := selQ_snoc q.has r (q.l.take i) x
    rw [← take_snoc hx] at hsn
    have hlen : (selQ q.has r (q.l.take i)).length ≤ i := Nat.le_trans (selQ_len _ _ _) (by simp; omega)
    obtain ⟨s, hs⟩ : ∃ s, selQ q.has r (q.l.take i) = s := ⟨_, rfl⟩
    rw [hs] at hsn hlen ⊢
    have hz := vecC_len s
    have hrv := hd_vr hx r8
    refine SW.seq (SW.seq ?_)
    (refine SW.regL [0, 1, 2, 4, 5, 6, 7, 12, 17, 24, 49] mixed ?_; (repeat (first | refine RW.ro (And.intro (q10) (h1)) (h := ?_) | refine RW.skip (h := ?_) | refine RW.op (And.intro (q10) (h1)) (h := ?_) | refine RW.opN (And.intro (q10) (h1)) (h := ?_) | refine RW.skip0 (h := ?_))); refine RW.nil ⟨conf_of (by kernel_rfl), Pruned.mk (h := ?_)⟩)
    refine SW.condT rfl (SW.skip ?_)
    refine SW.seq (SW.block (SW.seq ?_))
    rcases c1 : (((x.r : Nat) : Int) == ((r : Nat) : Int)) with _ | _
    · (have fx := (And.intro (q10) (And.intro (hd_r hx) (c1))); refine SW.regL [0, 1, 2, 4, 5, 6, 7, 12, 17, 24, 49] mixed ?_; (repeat (first | refine RW.ro fx (h := ?_) | refine RW.skip (h := ?_) | refine RW.op fx (h := ?_) | refine RW.opN fx (h := ?_) | refine RW.skip0 (h := ?_))); refine RW.nil ⟨conf_of (by kernel_rfl), Pruned.mk (h := ?_)⟩)
      refine SW.condF rfl (SW.skip ?_)
      (refine SW.regL [0, 1, 2, 4, 5, 6, 7, 12, 17, 24, 49] mixed ?_; (repeat (first | refine RW.ro (e2) (h := ?_) | refine RW.skip (h := ?_) | refine RW.op (e2) (h := ?_) | refine RW.opN (e2) (h := ?_) | refine RW.skip0 (h := ?_))); refine RW.nil ⟨conf_of (by kernel_rfl), Pruned.mk (h := ?_)⟩)
      have hne : decide (x.r = r) = false := by simp at c1 ⊢; omega
      rw [hne] at hsn
      simp only [Bool.false_and, Bool.false_eq_true, if_false, List.append_nil] at hsn
      refine ⟨⟨i + 1, by omega⟩, id, by show q.l.length - (i + 1) < _; omega, ?_⟩
      dsimp only
      rw [hsn]
      exact Weak.mk bq_tt
    · have heq : decide (x.r = r) = true := by simp at c1 ⊢; omega
      rw [heq] at hsn
      rcases c2 : decide (((x.v.get r : Nat) : Int) ≤ ((q.has.get r : Nat) : Int)) with _ | _
      · (have fx := (And.intro (q10) (And.intro (hd_r hx) (And.intro (c1) (And.intro (hrv) (And.intro (qr) (c2)))))); refine SW.regL [0, 1, 2, 4, 5, 6, 7, 12, 17, 24, 49] mixed ?_; (repeat (first | refine RW.ro fx (h := ?_) | refine RW.skip (h := ?_) | refine RW.op fx (h := ?_) | refine RW.opN fx (h := ?_) | refine RW.skip0 (h := ?_))); refine RW.nil ⟨conf_of (by kernel_rfl), Pruned.mk (h := ?_)⟩)
        refine SW.condF rfl (SW.skip ?_)
        (refine SW.regL [0, 1, 2, 4, 5, 6, 7, 12, 17, 24, 49] mixed ?_; (repeat (first | refine RW.ro (e2) (h := ?_) | refine RW.skip (h := ?_) | refine RW.op (e2) (h := ?_) | refine RW.opN (e2) (h := ?_) | refine RW.skip0 (h := ?_))); refine RW.nil ⟨conf_of (by kernel_rfl), Pruned.mk (h := ?_)⟩)
        have hle : decide (x.v.get r ≤ q.has.get r) = false := by simp at c2 ⊢; omega
        rw [hle] at hsn
        simp only [Bool.and_false, Bool.false_eq_true, if_false, List.append_nil] at hsn
        refine ⟨⟨i + 1, by omega⟩, id, by show q.l.length - (i + 1) < _; omega, ?_⟩
        dsimp only
        rw [hsn]
        exact Weak.mk bq_tt
      · (have fx := (And.intro (q10) (And.intro (hd_r hx) (And.intro (c1) (And.intro (hrv) (And.intro (qr) (c2)))))); refine SW.regL [0, 1, 2, 4, 5, 6, 7, 12, 17, 24, 49] mixed ?_; (repeat (first | refine RW.ro fx (h := ?_) | refine RW.skip (h := ?_) | refine RW.op fx (h := ?_) | refine RW.opN fx (h := ?_) | refine RW.skip0 (h := ?_))); refine RW.nil ⟨conf_of (by kernel_rfl), Pruned.mk (h := ?_)⟩)
        refine SW.condT rfl ?_
        have hle : decide (x.v.get r ≤ q.has.get r) = true := by simp at c2 ⊢; omega
        rw [hle] at hsn
        simp only [Bool.and_self, if_true] at hsn
        have e5 : (s ++ [x.v]).length = s.length + [x.v].length := by simp
        (have fx := (And.intro (q10) (And.intro (hd_v hx) (And.intro (hd_room8 hx) (hz)))); refine SW.regL [0, 1, 2, 4, 5, 6, 7, 12, 17, 24, 49] mixed ?_; (repeat (first | refine RW.ro fx (h := ?_) | refine RW.skip (h := ?_) | refine RW.op fx (h := ?_) | refine RW.opN fx (h := ?_) | refine RW.skip0 (h := ?_))); refine RW.nil ⟨conf_of (by kernel_rfl), Pruned.mk (h := ?_)⟩)
        (refine SW.regL [0, 1, 2, 4, 5, 6, 7, 12, 17, 24, 49] mixed ?_; (repeat (first | refine RW.ro (e2) (h := ?_) | refine RW.skip (h := ?_) | refine RW.op (e2) (h := ?_) | refine RW.opN (e2) (h := ?_) | refine RW.skip0 (h := ?_))); refine RW.nil ⟨conf_of (by kernel_rfl), Pruned.mk (h := ?_)⟩)
        refine ⟨⟨i + 1, by omega⟩, fun n => if n = 2 then 3 else n, by show q.l.length - (i + 1) < _; omega, ?_⟩
        dsimp only
        rw [hsn, vecC_snoc]
        exact Weak.mk e5
  · have h1 : decide ((i : Int) < q.l.length) = false := by simp only [decide_eq_false_iff_not]; omega
    have hi2 : i = q.l.length := by omega
    subst hi2
    rw [List.take_length]
    refine SW.seq (SW.seq ?_)
    (refine SW.regL [0, 1, 2, 4, 5, 6, 7, 12, 17, 24, 49] mixed ?_; (repeat (first | refine RW.ro (And.intro (q10) (h1)) (h := ?_) | refine RW.skip (h := ?_) | refine RW.op (And.intro (q10) (h1)) (h := ?_) | refine RW.opN (And.intro (q10) (h1)) (h := ?_) | refine RW.skip0 (h := ?_))); refine RW.nil ⟨conf_of (by kernel_rfl), Pruned.mk (h := ?_)⟩)
    refine SW.condF rfl (SW.exit ?_)
    refine (?_ : Sl.SW _ _ _ _ _ _)
    refine SW.freeze 2 ((selQ q.has r q.l).flatMap Vec.ds) rfl rfl ?_
    refine SW.weak id (st1 := ⟨[(4, .ptr 1 0), (6, vecs (selQ q.has r q.l))], [(1, .box 25 Vec.zero.cells)], 3⟩) (Weak.same (by simp) (by simp [EnvW, List.lookup, SV.ren, SV.ok, frzE, SV.frz]) (by simp [Hp.ok, Ob.ok, Vec.cells_ok]) (by simp [lk, List.lookup, hdel])) ?_
    have hm := rmerge_at (selQ q.has r q.l) (by have := selQ_len q.has r q.l; omega)
    refine SW.seq ?_
    (refine SW.regL [0, 1, 2, 4, 5, 6, 7, 12, 17, 24, 49] mixed ?_; (repeat (first | refine RW.ro bq_tt (h := ?_) | refine RW.skip (h := ?_) | refine RW.op bq_tt (h := ?_) | refine RW.opN bq_tt (h := ?_) | refine RW.skip0 (h := ?_) | (refine RW.callC (h := ?_); (first | refine CallP.mk bq_tt (hc := hm _) (h := ?_))))); refine RW.nil ⟨conf_of (by kernel_rfl), Pruned.mk (h := ?_)⟩)
    refine SW.ret ?_
    exact End.mk [] (h1 := rvV_vec (ty := 25) (x := Vec.all max (selQ q.has r q.l)) (k := 1) (by simp [List.lookup]) (by simp [lk, List.lookup]) rfl) (h2 := by simp [ldo]) (h4 := ⟨rfl, rfl⟩)
theorem rcnt12_at (q : Qt) (hn : q.n ≤ 8) (hl : q.l.length ≤ 1000000) (r : Nat) (hr : r < 256) (k : Nat) : SCd Try.prog ref12_Counts.f [.agg q.cells, u8 r] [] k 0 (.tup [.agg (q.cntQ r).1.cells, i64 (q.cntQ r).2]) [] := (rcnt12_ok q hn hl r hr).sc (by simp [SV.ok, SV.oks, Vec.cells_ok]) k
end
end Go.Proofs.Ytacdkgkpoelhdaa
namespace Go.Proofs.Ytacdkgkpoelhdaa
open Go.Sl Go.Proofs
def Qt.cnts (q : Qt) (m : Nat) : List Vec := (List.range m).map fun r => (q.cntQ r).1
theorem Qt.cnts_len (q : Qt) (m : Nat) : (q.cnts m).length = m := by simp [Qt.cnts]
theorem Qt.cnts_succ (q : Qt) (m : Nat) : q.cnts (m + 1) = q.cnts m ++ [(q.cntQ m).1] := by simp [Qt.cnts, List.range_succ]
theorem seenQ_snoc (q : Qt) (l : List Hd) (x : Hd) : q.seenQ (l ++ [x]) = q.step (q.seenQ l) x := by unfold Qt.seenQ; rw [List.foldl_append]; rfl
section
attribute [local irreducible] SW RW SCd SC CallP Pruned Qt.cells Hd.cells Hd.ds
set_option maxHeartbeats 4000000 in
theorem rstab12_ok (q : Qt) (hn : q.n ≤ 8) (hl : q.l.length ≤ 1000000) : Go.Sl.Pure Try.prog ref12_Stable.f [.agg q.cells] (.agg q.stabQ.cells) := by
  refine ref12_Stable.enter (by first | rfl | simp [SV.ok, SV.oks]) (by first | rfl | simp [Hp.ok, Ob.ok, SV.ok, SV.oks, Vec.cells_ok]) (by simp) ?_
  unfold ref12_Stable.s
  have q0 := q.c0
  have qo := q.one
  have qt := q.ct
  have ql := q.cl
  refine SW.seq ?_
  (refine SW.regL [0, 1, 2, 3, 4, 5, 10] mixed ?_; (repeat (first | refine RW.ro (qo) (h := ?_) | refine RW.skip (h := ?_) | refine RW.op (qo) (h := ?_) | refine RW.opN (qo) (h := ?_) | refine RW.skip0 (h := ?_))); refine RW.nil ⟨conf_of (by kernel_rfl), Pruned.mk (h := ?_)⟩)
  refine SW.seq ?_
  (refine SW.regL [0, 1, 2, 3, 4, 5, 10] mixed ?_; (repeat (first | refine RW.ro bq_tt (h := ?_) | refine RW.skip (h := ?_) | refine RW.op bq_tt (h := ?_) | refine RW.opN bq_tt (h := ?_) | refine RW.skip0 (h := ?_))); refine RW.nil ⟨conf_of (by kernel_rfl), Pruned.mk (h := ?_)⟩)
  refine SW.nilrow 3 25 8 rfl ?_
  refine SW.seq (SW.seq ?_)
  (refine SW.regL [0, 1, 2, 3, 4, 5, 10] mixed ?_; (repeat (first | refine RW.ro bq_tt (h := ?_) | refine RW.skip (h := ?_) | refine RW.op bq_tt (h := ?_) | refine RW.opN bq_tt (h := ?_) | refine RW.skip0 (h := ?_))); refine RW.nil ⟨conf_of (by kernel_rfl), Pruned.mk (h := ?_)⟩)
  refine SW.block ?_
  refine SW.loopA (α := {i : Nat // i ≤ q.n}) (fun i => ⟨[(4, i64 i.1), (1, .ptr 0 0), (2, .ptr 1 0), (3, .gs 2 i.1)], [(2, .arr 25 8 i.1 (vecC (q.cnts i.1))), (0, .box 69 q.cells), (1, .box 25 Vec.zero.cells)], 3⟩) (fun i => q.n - i.1) ⟨0, by omega⟩ id (And.intro (show q.cnts 0 = [] from rfl) bq_tt) (round := ?_)
  rintro ⟨i, hi⟩
  dsimp only
  by_cases h : i < q.n
  · have h1 : decide ((i : Int) < q.n) = true := by simp only [decide_eq_true_eq]; omega
    have e2 : IntKind.i64.wrap ((i : Int) + 1) = ((i + 1 : Nat) : Int) := wrap_i64 _ (by omega)
    have e8 : IntKind.u8.wrap (i : Int) = (i : Int) := wrap_u8 _ (by omega)
    have hc := rcnt12_at q hn hl i (by omega)
    have hsn := q.cnts_succ i
    have hz := vecC_len (q.cnts i)
    rw [q.cnts_len] at hz
    obtain ⟨s, hs⟩ : ∃ s, q.cnts i = s := ⟨_, rfl⟩
    obtain ⟨a, ha⟩ : ∃ a, (q.cntQ i).1 = a := ⟨_, rfl⟩
    obtain ⟨f, hf⟩ : ∃ f, (q.cntQ i).2 = f := ⟨_, rfl⟩
    rw [hs, ha] at hsn
    rw [hs] at hz ⊢
    rw [ha, hf] at hc
    refine SW.seq (SW.seq ?_)
    (refine SW.regL [0, 1, 2, 3, 4, 5, 10] mixed ?_; (repeat (first | refine RW.ro (And.intro (q0) (h1)) (h := ?_) | refine RW.skip (h := ?_) | refine RW.op (And.intro (q0) (h1)) (h := ?_) | refine RW.opN (And.intro (q0) (h1)) (h := ?_) | refine RW.skip0 (h := ?_))); refine RW.nil ⟨conf_of (by kernel_rfl), Pruned.mk (h := ?_)⟩)
    refine SW.condT rfl (SW.skip ?_)
    refine SW.seq (SW.block (SW.seq ?_))
    (have fx := (And.intro (qt) (And.intro (ql) (e8))); refine SW.regL [0, 1, 2, 3, 4, 5, 10] mixed ?_; (repeat (first | refine RW.ro fx (h := ?_) | refine RW.skip (h := ?_) | refine RW.op fx (h := ?_) | refine RW.opN fx (h := ?_) | refine RW.skip0 (h := ?_) | (refine RW.callC (h := ?_); (first | refine CallP.mk fx (hc := hc _) (h := ?_))))); refine RW.nil ⟨conf_of (by kernel_rfl), Pruned.mk (h := ?_)⟩)
    (refine SW.regL [0, 1, 2, 3, 4, 5, 10] mixed ?_; (repeat (first | refine RW.ro (hz) (h := ?_) | refine RW.skip (h := ?_) | refine RW.op (hz) (h := ?_) | refine RW.opN (hz) (h := ?_) | refine RW.skip0 (h := ?_))); refine RW.nil ⟨conf_of (by kernel_rfl), Pruned.mk (h := ?_)⟩)
    (refine SW.regL [0, 1, 2, 3, 4, 5, 10] mixed ?_; (repeat (first | refine RW.ro (e2) (h := ?_) | refine RW.skip (h := ?_) | refine RW.op (e2) (h := ?_) | refine RW.opN (e2) (h := ?_) | refine RW.skip0 (h := ?_))); refine RW.nil ⟨conf_of (by kernel_rfl), Pruned.mk (h := ?_)⟩)
    refine ⟨⟨i + 1, by omega⟩, fun n => if n = 2 then 4 else n, by show q.n - (i + 1) < _; omega, ?_⟩
    dsimp only
    rw [hsn, vecC_snoc]
    exact Weak.mk bq_tt
  · have h1 : decide ((i : Int) < q.n) = false := by simp only [decide_eq_false_iff_not]; omega
    have hi2 : i = q.n := by omega
    subst hi2
    refine SW.seq (SW.seq ?_)
    (refine SW.regL [0, 1, 2, 3, 4, 5, 10] mixed ?_; (repeat (first | refine RW.ro (And.intro (q0) (h1)) (h := ?_) | refine RW.skip (h := ?_) | refine RW.op (And.intro (q0) (h1)) (h := ?_) | refine RW.opN (And.intro (q0) (h1)) (h := ?_) | refine RW.skip0 (h := ?_))); refine RW.nil ⟨conf_of (by kernel_rfl), Pruned.mk (h := ?_)⟩)
    refine SW.condF rfl (SW.exit ?_)
    refine (?_ : Sl.SW _ _ _ _ _ _)
    refine SW.freeze 2 ((q.cnts q.n).flatMap Vec.ds) rfl rfl ?_
    have hlen := q.cnts_len q.n
    refine SW.weak id (st1 := ⟨[(2, .ptr 1 0), (3, vecs (q.cnts q.n))], [(1, .box 25 Vec.zero.cells)], 3⟩) (Weak.same (by simp) (by simp [EnvW, List.lookup, SV.ren, SV.ok, frzE, SV.frz, hlen]) (by simp [Hp.ok, Ob.ok, Vec.cells_ok]) (by simp [lk, List.lookup, hdel])) ?_
    have hm := rmeet_at (q.cnts q.n) (by rw [hlen]; omega)
    refine SW.seq ?_
    (refine SW.regL [0, 1, 2, 3, 4, 5, 10] mixed ?_; (repeat (first | refine RW.ro bq_tt (h := ?_) | refine RW.skip (h := ?_) | refine RW.op bq_tt (h := ?_) | refine RW.opN bq_tt (h := ?_) | refine RW.skip0 (h := ?_) | (refine RW.callC (h := ?_); (first | refine CallP.mk bq_tt (hc := hm _) (h := ?_))))); refine RW.nil ⟨conf_of (by kernel_rfl), Pruned.mk (h := ?_)⟩)
    refine SW.ret ?_
    exact End.mk [] (h1 := rvV_vec (ty := 25) (x := Vec.all min (q.cnts q.n)) (k := 1) (by simp [List.lookup]) (by simp [lk, List.lookup]) rfl) (h2 := by simp [ldo]) (h4 := ⟨rfl, rfl⟩)
theorem rstab12_at (q : Qt) (hn : q.n ≤ 8) (hl : q.l.length ≤ 1000000) (k : Nat) : SCd Try.prog ref12_Stable.f [.agg q.cells] [] k 0 (.agg q.stabQ.cells) [] := (rstab12_ok q hn hl).sc (by simp [SV.ok, SV.oks, Vec.cells_ok]) k
set_option maxHeartbeats 8000000 in
theorem rwait12_ok (q : Qt) (hn : q.n ≤ 8) (hl : q.l.length ≤ 1000000) (hr : ∀ x, x ∈ q.l → x.r < q.n) : Go.Sl.Pure Try.prog ref12_Waits.f [.agg q.cells] (i64 (q.seenQ q.l).length) := by
  refine ref12_Waits.enter (by first | rfl | simp [SV.ok, SV.oks]) (by first | rfl | simp [Hp.ok, Ob.ok, SV.ok, SV.oks, Vec.cells_ok]) (by simp) ?_
  unfold ref12_Waits.s
  have q10 := q.c10
  have qo := q.one
  have qt := q.ct
  have ql := q.cl
  refine SW.seq ?_
  (refine SW.regL [0, 1, 2, 3, 4, 5, 6, 8, 9, 14, 32, 65] mixed ?_; (repeat (first | refine RW.ro (qo) (h := ?_) | refine RW.skip (h := ?_) | refine RW.op (qo) (h := ?_) | refine RW.opN (qo) (h := ?_) | refine RW.skip0 (h := ?_))); refine RW.nil ⟨conf_of (by kernel_rfl), Pruned.mk (h := ?_)⟩)
  refine SW.seq ?_
  (refine SW.regL [0, 1, 2, 3, 4, 5, 6, 8, 9, 14, 32, 65] mixed ?_; (repeat (first | refine RW.ro bq_tt (h := ?_) | refine RW.skip (h := ?_) | refine RW.op bq_tt (h := ?_) | refine RW.opN bq_tt (h := ?_) | refine RW.skip0 (h := ?_))); refine RW.nil ⟨conf_of (by kernel_rfl), Pruned.mk (h := ?_)⟩)
  refine SW.nilrow 3 149 9 rfl ?_
  refine SW.seq (SW.seq ?_)
  (refine SW.regL [0, 1, 2, 3, 4, 5, 6, 8, 9, 14, 32, 65] mixed ?_; (repeat (first | refine RW.ro bq_tt (h := ?_) | refine RW.skip (h := ?_) | refine RW.op bq_tt (h := ?_) | refine RW.opN bq_tt (h := ?_) | refine RW.skip0 (h := ?_))); refine RW.nil ⟨conf_of (by kernel_rfl), Pruned.mk (h := ?_)⟩)
  refine SW.block ?_
  refine SW.loopA (α := {i : Nat // i ≤ q.l.length}) (fun i => ⟨[(4, i64 i.1), (1, .ptr 0 0), (3, .gs 1 (q.seenQ (q.l.take i.1)).length)], [(1, .arr 149 9 (q.seenQ (q.l.take i.1)).length (heard (q.seenQ (q.l.take i.1)))), (0, .box 69 q.cells)], 2⟩) (fun i => q.l.length - i.1) ⟨0, by omega⟩ id (And.intro (show q.seenQ [] = [] from rfl) bq_tt) (round := ?_)
  rintro ⟨i, hi⟩
  dsimp only
  by_cases h : i < q.l.length
  · have h1 : decide ((i : Int) < q.l.length) = true := by simp only [decide_eq_true_eq]; omega
    obtain ⟨x, hx⟩ := get_of_lt h
    have e2 : IntKind.i64.wrap ((i : Int) + 1) = ((i + 1 : Nat) : Int) := wrap_i64 _ (by omega)
    have hxr := hr x (List.mem_of_getElem? hx)
    have r8 : x.r < 8 := by omega
    have hc := rcnt12_at q hn hl x.r (by omega)
    have hsn := seenQ_snoc q (q.l.take i) x
    rw [← take_snoc hx] at hsn
    unfold Qt.step at hsn
    have hlen : (q.seenQ (q.l.take i)).length ≤ i := Nat.le_trans (seenQ_len _ _) (by simp; omega)
    obtain ⟨s, hs⟩ : ∃ s, q.seenQ (q.l.take i) = s := ⟨_, rfl⟩
    obtain ⟨a, ha⟩ : ∃ a, (q.cntQ x.r).1 = a := ⟨_, rfl⟩
    obtain ⟨f, hf⟩ : ∃ f, (q.cntQ x.r).2 = f := ⟨_, rfl⟩
    rw [hs, ha] at hsn
    rw [hs] at hlen ⊢
    rw [ha, hf] at hc
    have hz := heard_len s
    have k1 := x.c_all
    have k2 := x.c_len
    have k3 := x.c_datas
    have k4 := x.c_spl
    have k0 := x.ds_len
    have k5 : List.take 9 x.cells = x.cells := by rw [← k2]; exact List.take_length
    have x0 := x.c0
    have x1 := x.cv
    have xr := x.cr r8
    have qr := q.ch r8
    refine SW.seq (SW.seq ?_)
    (refine SW.regL [0, 1, 2, 3, 4, 5, 6, 8, 9, 14, 32, 65] mixed ?_; (repeat (first | refine RW.ro (And.intro (q10) (h1)) (h := ?_) | refine RW.skip (h := ?_) | refine RW.op (And.intro (q10) (h1)) (h := ?_) | refine RW.opN (And.intro (q10) (h1)) (h := ?_) | refine RW.skip0 (h := ?_))); refine RW.nil ⟨conf_of (by kernel_rfl), Pruned.mk (h := ?_)⟩)
    refine SW.condT rfl (SW.skip ?_)
    refine SW.seq (SW.block (SW.seq ?_))
    (have fx := (And.intro (q10) (And.intro (hd_load hx) (And.intro (hd_room hx) (And.intro (k1) (And.intro (k2) (k4)))))); refine SW.regL [0, 1, 2, 3, 4, 5, 6, 8, 9, 14, 32, 65] mixed ?_; (repeat (first | refine RW.ro fx (h := ?_) | refine RW.skip (h := ?_) | refine RW.op fx (h := ?_) | refine RW.opN fx (h := ?_) | refine RW.skip0 (h := ?_))); refine RW.nil ⟨conf_of (by kernel_rfl), Pruned.mk (h := ?_)⟩)
    refine SW.seq ?_
    (have fx := (And.intro (qt) (And.intro (ql) (x0))); refine SW.regL [0, 1, 2, 3, 4, 5, 6, 8, 9, 14, 32, 65] mixed ?_; (repeat (first | refine RW.ro fx (h := ?_) | refine RW.skip (h := ?_) | refine RW.op fx (h := ?_) | refine RW.opN fx (h := ?_) | refine RW.skip0 (h := ?_) | (refine RW.callC (h := ?_); (first | refine CallP.mk fx (hc := hc _) (h := ?_))))); refine RW.nil ⟨conf_of (by kernel_rfl), Pruned.mk (h := ?_)⟩)
    refine SW.seq ?_
    (refine SW.regL [0, 1, 2, 3, 4, 5, 6, 8, 9, 14, 32, 65] mixed ?_; (repeat (first | refine RW.ro bq_tt (h := ?_) | refine RW.skip (h := ?_) | refine RW.op bq_tt (h := ?_) | refine RW.opN bq_tt (h := ?_) | refine RW.skip0 (h := ?_))); refine RW.nil ⟨conf_of (by kernel_rfl), Pruned.mk (h := ?_)⟩)
    refine SW.seq (SW.seq ?_)
    (refine SW.regL [0, 1, 2, 3, 4, 5, 6, 8, 9, 14, 32, 65] mixed ?_; (repeat (first | refine RW.ro bq_tt (h := ?_) | refine RW.skip (h := ?_) | refine RW.op bq_tt (h := ?_) | refine RW.opN bq_tt (h := ?_) | refine RW.skip0 (h := ?_))); refine RW.nil ⟨conf_of (by kernel_rfl), Pruned.mk (h := ?_)⟩)
    refine SW.block ?_
    refine SW.loopA (α := {j : Nat // j ≤ s.length}) (fun j => ⟨[(9, i64 j.1), (8, bl (decide (x ∈ s.take j.1))), (4, i64 i), (1, .ptr 0 0), (3, .gs 1 s.length), (5, .ptr 2 0), (6, .ptr 3 0)], [(3, .box 25 a.cells), (2, .box 149 x.cells), (1, .arr 149 9 s.length (heard s)), (0, .box 69 q.cells)], 4⟩) (fun j => s.length - j.1) ⟨0, by omega⟩ id (And.intro (show decide (x ∈ s.take 0) = false by simp) bq_tt) (round := ?_)
    rintro ⟨j, hj⟩
    dsimp only
    by_cases h' : j < s.length
    · have h2 : decide ((j : Int) < s.length) = true := by simp only [decide_eq_true_eq]; omega
      obtain ⟨y, hy⟩ := get_of_lt h'
      have e3 : IntKind.i64.wrap ((j : Int) + 1) = ((j + 1 : Nat) : Int) := wrap_i64 _ (by omega)
      have hb : decide (x ∈ s.take (j + 1)) = (decide (x ∈ s.take j) || decide (y = x)) := by
        rw [take_snoc hy, Bool.eq_iff_iff]
        simp only [List.mem_append, List.mem_singleton, decide_eq_true_eq, Bool.or_eq_true]
        exact ⟨fun h => h.imp id Eq.symm, fun h => h.imp id Eq.symm⟩
      refine SW.seq (SW.seq ?_)
      (refine SW.regL [0, 1, 2, 3, 4, 5, 6, 8, 9, 14, 32, 65] mixed ?_; (repeat (first | refine RW.ro (h2) (h := ?_) | refine RW.skip (h := ?_) | refine RW.op (h2) (h := ?_) | refine RW.opN (h2) (h := ?_) | refine RW.skip0 (h := ?_))); refine RW.nil ⟨conf_of (by kernel_rfl), Pruned.mk (h := ?_)⟩)
      refine SW.condT rfl (SW.skip ?_)
      refine SW.seq (SW.block ?_)
      rcases c1 : decide (x ∈ s.take j) with _ | _
      · rw [c1, Bool.false_or] at hb
        have heq := Hd.eqb y x
        (have fx := (And.intro (hd_load hy) (And.intro (hd_room hy) (And.intro (k2) (And.intro (k5) (heq))))); refine SW.regL [0, 1, 2, 3, 4, 5, 6, 8, 9, 14, 32, 65] mixed ?_; (repeat (first | refine RW.ro fx (h := ?_) | refine RW.skip (h := ?_) | refine RW.op fx (h := ?_) | refine RW.opN fx (h := ?_) | refine RW.skip0 (h := ?_))); refine RW.nil ⟨conf_of (by kernel_rfl), Pruned.mk (h := ?_)⟩)
        (refine SW.regL [0, 1, 2, 3, 4, 5, 6, 8, 9, 14, 32, 65] mixed ?_; (repeat (first | refine RW.ro (e3) (h := ?_) | refine RW.skip (h := ?_) | refine RW.op (e3) (h := ?_) | refine RW.opN (e3) (h := ?_) | refine RW.skip0 (h := ?_))); refine RW.nil ⟨conf_of (by kernel_rfl), Pruned.mk (h := ?_)⟩)
        refine ⟨⟨j + 1, by omega⟩, id, by show s.length - (j + 1) < _; omega, ?_⟩
        dsimp only
        rw [hb]
        exact Weak.mk bq_tt
      · rw [c1, Bool.true_or] at hb
        (refine SW.regL [0, 1, 2, 3, 4, 5, 6, 8, 9, 14, 32, 65] mixed ?_; (repeat (first | refine RW.ro bq_tt (h := ?_) | refine RW.skip (h := ?_) | refine RW.op bq_tt (h := ?_) | refine RW.opN bq_tt (h := ?_) | refine RW.skip0 (h := ?_))); refine RW.nil ⟨conf_of (by kernel_rfl), Pruned.mk (h := ?_)⟩)
        (refine SW.regL [0, 1, 2, 3, 4, 5, 6, 8, 9, 14, 32, 65] mixed ?_; (repeat (first | refine RW.ro (e3) (h := ?_) | refine RW.skip (h := ?_) | refine RW.op (e3) (h := ?_) | refine RW.opN (e3) (h := ?_) | refine RW.skip0 (h := ?_))); refine RW.nil ⟨conf_of (by kernel_rfl), Pruned.mk (h := ?_)⟩)
        refine ⟨⟨j + 1, by omega⟩, id, by show s.length - (j + 1) < _; omega, ?_⟩
        dsimp only
        rw [hb]
        exact Weak.mk bq_tt
    · have h2 : decide ((j : Int) < s.length) = false := by simp only [decide_eq_false_iff_not]; omega
      have hj2 : j = s.length := by omega
      subst hj2
      rw [List.take_length]
      refine SW.seq (SW.seq ?_)
      (refine SW.regL [0, 1, 2, 3, 4, 5, 6, 8, 9, 14, 32, 65] mixed ?_; (repeat (first | refine RW.ro (h2) (h := ?_) | refine RW.skip (h := ?_) | refine RW.op (h2) (h := ?_) | refine RW.opN (h2) (h := ?_) | refine RW.skip0 (h := ?_))); refine RW.nil ⟨conf_of (by kernel_rfl), Pruned.mk (h := ?_)⟩)
      refine SW.condF rfl (SW.exit ?_)
      refine (?_ : Sl.SW _ _ _ _ _ _)
      refine SW.seq ?_
      rcases c1 : decide (x ∈ s) with _ | _
      rotate_left
      · rw [c1] at hsn
        simp only [Bool.not_true, Bool.false_and, Bool.false_eq_true, if_false] at hsn
        (refine SW.regL [0, 1, 2, 3, 4, 5, 6, 8, 9, 14, 32, 65] mixed ?_; (repeat (first | refine RW.ro bq_tt (h := ?_) | refine RW.skip (h := ?_) | refine RW.op bq_tt (h := ?_) | refine RW.opN bq_tt (h := ?_) | refine RW.skip0 (h := ?_))); refine RW.nil ⟨conf_of (by kernel_rfl), Pruned.mk (h := ?_)⟩)
        refine SW.condF rfl (SW.skip ?_)
        (refine SW.regL [0, 1, 2, 3, 4, 5, 6, 8, 9, 14, 32, 65] mixed ?_; (repeat (first | refine RW.ro (e2) (h := ?_) | refine RW.skip (h := ?_) | refine RW.op (e2) (h := ?_) | refine RW.opN (e2) (h := ?_) | refine RW.skip0 (h := ?_))); refine RW.nil ⟨conf_of (by kernel_rfl), Pruned.mk (h := ?_)⟩)
        refine ⟨⟨i + 1, by omega⟩, id, by show q.l.length - (i + 1) < _; omega, ?_⟩
        dsimp only
        rw [hsn]
        exact Weak.mk bq_tt
      rw [c1] at hsn
      rcases c2 : decide (((x.v.get x.r : Nat) : Int) > ((q.has.get x.r : Nat) : Int)) with _ | _
      · have c3 : decide (q.has.get x.r < x.v.get x.r) = false := by simp at c2 ⊢; omega
        rw [c3] at hsn
        simp only [Bool.and_false, Bool.false_and, Bool.false_eq_true, if_false] at hsn
        (have fx := (And.intro (x0) (And.intro (xr) (And.intro (qr) (c2)))); refine SW.regL [0, 1, 2, 3, 4, 5, 6, 8, 9, 14, 32, 65] mixed ?_; (repeat (first | refine RW.ro fx (h := ?_) | refine RW.skip (h := ?_) | refine RW.op fx (h := ?_) | refine RW.opN fx (h := ?_) | refine RW.skip0 (h := ?_))); refine RW.nil ⟨conf_of (by kernel_rfl), Pruned.mk (h := ?_)⟩)
        refine SW.condF rfl (SW.skip ?_)
        (refine SW.regL [0, 1, 2, 3, 4, 5, 6, 8, 9, 14, 32, 65] mixed ?_; (repeat (first | refine RW.ro (e2) (h := ?_) | refine RW.skip (h := ?_) | refine RW.op (e2) (h := ?_) | refine RW.opN (e2) (h := ?_) | refine RW.skip0 (h := ?_))); refine RW.nil ⟨conf_of (by kernel_rfl), Pruned.mk (h := ?_)⟩)
        refine ⟨⟨i + 1, by omega⟩, id, by show q.l.length - (i + 1) < _; omega, ?_⟩
        dsimp only
        rw [hsn]
        exact Weak.mk bq_tt
      have c3 : decide (q.has.get x.r < x.v.get x.r) = true := by simp at c2 ⊢; omega
      have hab := rabove_at4 a x.v
      rw [c3] at hsn
      rcases c4 : a.above x.v with _ | _
      · rw [c4] at hsn hab
        simp only [Bool.not_false, Bool.and_self, if_true] at hsn
        (have fx := (And.intro (x0) (And.intro (x1) (And.intro (k2) (And.intro (xr) (And.intro (qr) (c2)))))); refine SW.regL [0, 1, 2, 3, 4, 5, 6, 8, 9, 14, 32, 65] mixed ?_; (repeat (first | refine RW.ro fx (h := ?_) | refine RW.skip (h := ?_) | refine RW.op fx (h := ?_) | refine RW.opN fx (h := ?_) | refine RW.skip0 (h := ?_) | (refine RW.callC (h := ?_); (first | refine CallP.mk fx (hc := hab _) (h := ?_))))); refine RW.nil ⟨conf_of (by kernel_rfl), Pruned.mk (h := ?_)⟩)
        refine SW.condT rfl ?_
        have e5 : (s ++ [x]).length = s.length + [x].length := by simp
        have e6 : heard (s ++ [x]) = heard s ++ List.map SV.d x.ds := by simp [heard]
        have k6 : (s.length + 1 ≤ 9223372036854775807) = True := eq_true (by omega)
        have k7 : ((s.length + 1) * 36 ≤ 140737488355328) = True := eq_true (by omega)
        have k8 : spl (.d (.int .u8 0) :: Vec.zero.cells) 0 x.cells = x.cells := k4
        (have fx := (And.intro (hz) (And.intro (k1) (And.intro (k2) (And.intro (k3) (And.intro (k4) (And.intro (k5) (And.intro (k6) (And.intro (k7) (k0))))))))); refine SW.regL [0, 1, 2, 3, 4, 5, 6, 8, 9, 14, 32, 65] mixed ?_; (repeat (first | refine RW.ro fx (h := ?_) | refine RW.skip (h := ?_) | refine RW.op fx (h := ?_) | refine RW.opN fx (h := ?_) | refine RW.skip0 (h := ?_))); refine RW.nil ⟨conf_of (by kernel_rfl), Pruned.mk (h := ?_)⟩)
        (refine SW.regL [0, 1, 2, 3, 4, 5, 6, 8, 9, 14, 32, 65] mixed ?_; (repeat (first | refine RW.ro (e2) (h := ?_) | refine RW.skip (h := ?_) | refine RW.op (e2) (h := ?_) | refine RW.opN (e2) (h := ?_) | refine RW.skip0 (h := ?_))); refine RW.nil ⟨conf_of (by kernel_rfl), Pruned.mk (h := ?_)⟩)
        refine ⟨⟨i + 1, by omega⟩, fun n => if n = 1 then 4 else n, by show q.l.length - (i + 1) < _; omega, ?_⟩
        dsimp only
        rw [hsn, e6]
        exact Weak.mk e5
      · rw [c4] at hsn hab
        simp only [Bool.not_true, Bool.and_false, Bool.false_eq_true, if_false] at hsn
        (have fx := (And.intro (x0) (And.intro (x1) (And.intro (k2) (And.intro (xr) (And.intro (qr) (c2)))))); refine SW.regL [0, 1, 2, 3, 4, 5, 6, 8, 9, 14, 32, 65] mixed ?_; (repeat (first | refine RW.ro fx (h := ?_) | refine RW.skip (h := ?_) | refine RW.op fx (h := ?_) | refine RW.opN fx (h := ?_) | refine RW.skip0 (h := ?_) | (refine RW.callC (h := ?_); (first | refine CallP.mk fx (hc := hab _) (h := ?_))))); refine RW.nil ⟨conf_of (by kernel_rfl), Pruned.mk (h := ?_)⟩)
        refine SW.condF rfl (SW.skip ?_)
        (refine SW.regL [0, 1, 2, 3, 4, 5, 6, 8, 9, 14, 32, 65] mixed ?_; (repeat (first | refine RW.ro (e2) (h := ?_) | refine RW.skip (h := ?_) | refine RW.op (e2) (h := ?_) | refine RW.opN (e2) (h := ?_) | refine RW.skip0 (h := ?_))); refine RW.nil ⟨conf_of (by kernel_rfl), Pruned.mk (h := ?_)⟩)
        refine ⟨⟨i + 1, by omega⟩, id, by show q.l.length - (i + 1) < _; omega, ?_⟩
        dsimp only
        rw [hsn]
        exact Weak.mk bq_tt
  · have h1 : decide ((i : Int) < q.l.length) = false := by simp only [decide_eq_false_iff_not]; omega
    have hi2 : i = q.l.length := by omega
    subst hi2
    rw [List.take_length]
    refine SW.seq (SW.seq ?_)
    (refine SW.regL [0, 1, 2, 3, 4, 5, 6, 8, 9, 14, 32, 65] mixed ?_; (repeat (first | refine RW.ro (And.intro (q10) (h1)) (h := ?_) | refine RW.skip (h := ?_) | refine RW.op (And.intro (q10) (h1)) (h := ?_) | refine RW.opN (And.intro (q10) (h1)) (h := ?_) | refine RW.skip0 (h := ?_))); refine RW.nil ⟨conf_of (by kernel_rfl), Pruned.mk (h := ?_)⟩)
    refine SW.condF rfl (SW.exit ?_)
    refine (?_ : Sl.SW _ _ _ _ _ _)
    refine SW.seq ?_
    (refine SW.regL [0, 1, 2, 3, 4, 5, 6, 8, 9, 14, 32, 65] mixed ?_; (repeat (first | refine RW.ro bq_tt (h := ?_) | refine RW.skip (h := ?_) | refine RW.op bq_tt (h := ?_) | refine RW.opN bq_tt (h := ?_) | refine RW.skip0 (h := ?_))); refine RW.nil ⟨conf_of (by kernel_rfl), Pruned.mk (h := ?_)⟩)
    refine SW.ret ?_
    exact End.mk [] (h4 := ⟨rfl, rfl⟩)
theorem rwait12_at (q : Qt) (hn : q.n ≤ 8) (hl : q.l.length ≤ 1000000) (hr : ∀ x, x ∈ q.l → x.r < q.n) (k : Nat) : SCd Try.prog ref12_Waits.f [.agg q.cells] [] k 0 (i64 (q.seenQ q.l).length) [] := (rwait12_ok q hn hl hr).sc rfl k
end
end Go.Proofs.Ytacdkgkpoelhdaa
