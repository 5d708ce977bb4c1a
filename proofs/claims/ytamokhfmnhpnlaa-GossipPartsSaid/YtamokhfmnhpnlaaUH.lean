/-
  Order: the operations that count, by their places, one by one.
-/
import Derived.Test.YtamokhfmnhpnlaaUA
import Derived.Test.YtamokhfmnhpnlaaUG
import Derived.Test.YtamokhfmnhpnlaaUB
import Derived.Test.YtamokhfmnhpnlaaUV
import Derived.Test.YtamokhfmnhpnlaaUC
set_option linter.unusedSectionVars false
set_option linter.unusedVariables false
set_option linter.unusedSimpArgs false
namespace Go.Proofs.Ytamokhfmnhpnlaa
open Go.Sl Go.Proofs
attribute [local irreducible] SW RW SCd SC CallP Pruned

section
variable {N k0 : Nat} {K : St → Prop}
theorem SWn.yieldOG {α σ : Type} {Fh : σ → Hp} {Step : σ → α → σ → Prop} {go : σ → Bool} {nky y B kk d t : Nat} {enc : α → SV} {s0 s : σ} {xs : List α} (hy : YieldOk Try.prog y enc nky Fh Step go s0 B) (x : α) {G : Hp} {env : List (Nat × SV)} (env1 : List (Nat × SV)) {r : List SI} {f a : X}
    (hO : Own G Fh s kk) (p1 : OnBy Step s0 xs s) (hlt : xs.length < B) (hgo : go s = true) (hk0 : k0 ≤ kk) (hE : env.lookup t = some (.d (.bool true)))
    (h1 : ev (fun t => env.lookup t) f = some (.yl y)) (h2 : ev (fun t => env.lookup t) a = some (enc x)) (he : ∀ b : Bool, EnvW id kk ((d, bl b) :: env) ((d, bl b) :: env1))
    (h : ∀ s', Step s x s' → Own G Fh s' (kk + nky) → OnBy Step s0 (xs ++ [x]) s' → SWn Try.prog N k0 r ⟨(d, bl (go s')) :: env1, G ++ Fh s', kk + nky⟩ K) :
    SWn Try.prog N k0 (⟨some d, .call f [a], some (t, true)⟩ :: r) ⟨env, G ++ Fh s, kk⟩ K := by
  refine SWn.yieldG (st := ⟨env, G ++ Fh s, kk⟩) hE h1 (by simp only [evs]; rw [h2]) (hy.isin s) (hy.call s xs x kk p1 hlt hO.okF hgo) hO.sub ?_
  rintro v F' ⟨s', hstep, rfl, rfl, hok', hnm⟩
  have hO' : Own G Fh s' (kk + nky) := ⟨hO.nd, fun n hn => by have := hO.lt n hn; omega, fun n hn => Classical.byContradiction fun hno => (hnm n hno).elim (fun h => h (hO.no n hn)) (fun h => by have := hO.lt n hn; omega), Hp.ok_less (by omega) hO.ok, hok'⟩
  show SWn Try.prog N k0 r ⟨(d, bl (go s')) :: env, hmrg false (G ++ Fh s) (Fh s) (Fh s'), kk + nky⟩ K
  refine SW.toN (Weak.own hO' (hy.nd s') (by omega) (EnvW.mono (by omega) (he _)) fun n ob hn => ?_) (h s' hstep hO' (.snoc p1 hstep))
  have hlk := lk_hmrg (ro := false) hO.sub (F' := Fh s') (fun h => by cases h)
  show lk (hmrg false (G ++ Fh s) (Fh s) (Fh s')) n = some ob
  rw [hlk]
  by_cases hm : n ∈ G.map (·.1)
  · rw [mrg_out (hO.no n hm) (hO'.no n hm)]
    rw [lk_app] at hn ⊢
    cases hg : lk G n with
    | some o => rw [hg] at hn; exact hn
    | none =>
      rw [hg, Option.none_or, hO'.no n hm] at hn; cases hn
  · rw [lk_app, lk_of_not hm, Option.none_or] at hn
    rw [mrg_in (.inr (by rw [hn]; simp)), hn]
end

/-- Is an operation the first of its dot? -/
def fstAt (l : List OpD) (i : Nat) : Bool := match l[i]? with
  | some x => decide (ixO l x.dot = some (i : Int))
  | none => false
def plcT (l : List OpD) (i : Nat) : List Nat := (List.range i).filter (fstAt l)
/-- The places of those that count. -/
def plc (l : List OpD) : List Nat := plcT l l.length
theorem plcT_succ (l : List OpD) (i : Nat) : plcT l (i + 1) = if fstAt l i then plcT l i ++ [i] else plcT l i := by
  unfold plcT
  rw [List.range_succ, List.filter_append]
  cases h : fstAt l i <;> simp [List.filter, h]
theorem plcT_pre (l : List OpD) : ∀ {i j : Nat}, i ≤ j → plcT l i <+: plcT l j := fun {i j} h => by
  induction h with
  | refl => exact List.prefix_rfl
  | step _ ih =>
    refine ih.trans ?_
    rw [plcT_succ]
    split
    · exact List.prefix_append _ _
    · exact List.prefix_rfl
theorem ixO_some {l : List OpD} {i : Nat} {x : OpD} (h : l[i]? = some x) : ∃ j : Int, ixO l x.dot = some j := by
  unfold ixO
  cases hh : l.findIdx? fun o => decide (o.dot = x.dot) with
  | some j => exact ⟨j, by simp⟩
  | none =>
    have := List.findIdx?_eq_none_iff.1 hh x (List.mem_of_getElem? h)
    simp at this
structure OI {σ : Type} (Fh : σ → Hp) (Step : σ → Nat → σ → Prop) (go : σ → Bool) (s0 : σ) (k b q nky : Nat) (l : List OpD) (M : MM Dt Int) (c : Nat) (i : Nat) (s : σ) (kk : Nat) : Prop where
  c1 : i ≤ l.length
  c2 : OnBy Step s0 (plcT l i) s
  c3 : go s = true
  c4 : Own [(b, Ob.box 58 [ops l, .mp q]), (q, .map (mapE Dt.cells iv M) c)] Fh s kk
  c5 : kk ≤ k + i * (1 + nky)
  c6 : k ≤ kk
set_option maxHeartbeats 4000000 in
theorem once1_sb {σ : Type} {Fh : σ → Hp} {Step : σ → Nat → σ → Prop} {go : σ → Bool} {nky y b q k : Nat} {l : List OpD} {M : MM Dt Int} {c : Nat} (hl : l.length ≤ 1048576) (hM : AtO M l) (s0 : σ) (hy : YieldOk Try.prog y (fun x : Nat => i64 (x : Int)) nky Fh Step go s0 (plc l).length) (hgo : go s0 = true)
    (hO : Own [(b, Ob.box 58 [ops l, .mp q]), (q, .map (mapE Dt.cells iv M) c)] Fh s0 k) :
    SB Try.prog order_index_once_1.f [.yl y, .ptr b 0] ((b, .box 58 [ops l, .mp q]) :: (q, .map (mapE Dt.cells iv M) c) :: Fh s0) k (l.length * (1 + nky))
      fun r F => r = .tup [] ∧ ∃ (xs : List Nat) (s' : σ), OnBy Step s0 xs s' ∧ xs <+: plc l ∧ (go s' = true → xs = plc l) ∧ (lk (Fh s') b = none ∧ lk (Fh s') q = none) ∧ F = (b, .box 58 [ops l, .mp q]) :: (q, .map (mapE Dt.cells iv M) c) :: Fh s' := by
  have hyk : y < k := by
    obtain ⟨ob, ho⟩ := Option.ne_none_iff_exists'.1 (hy.isin s0)
    simpa using (Hp.ok_lk hO.okF ho).1
  have hb : b < k := hO.lt b (by simp)
  have hq : q < k := hO.lt q (by simp)
  have hbq : b ≠ q := by have := hO.nd; simp at this; exact this
  refine order_index_once_1.enter (by simp [SV.ok, SV.oks]; omega) hO.okk (by simp) ?_
  dsimp only [order_index_once_1.s, Co.M, Co.G, Co.J, Co.H, Co.N, Co.F, Co.C, Co.Z, Co.B, Co.b8, Co.b32, Co.b64, Co.i6, Co.z8, Co.z29]
  have f1 := ne4 hbq
  have fin : ∀ (s' : σ) (xs : List Nat), OnBy Step s0 xs s' → xs <+: plc l → (go s' = true → xs = plc l) → Own [(b, Ob.box 58 [ops l, .mp q]), (q, .map (mapE Dt.cells iv M) c)] Fh s' (k + l.length * (1 + nky)) →
      Go.Sl.Fin k (l.length * (1 + nky)) [] (fun r F => r = .tup [] ∧ ∃ (xs : List Nat) (s' : σ), OnBy Step s0 xs s' ∧ xs <+: plc l ∧ (go s' = true → xs = plc l) ∧ (lk (Fh s') b = none ∧ lk (Fh s') q = none) ∧ F = (b, .box 58 [ops l, .mp q]) :: (q, .map (mapE Dt.cells iv M) c) :: Fh s') ⟨[], [(b, Ob.box 58 [ops l, .mp q]), (q, .map (mapE Dt.cells iv M) c)] ++ Fh s', k + l.length * (1 + nky)⟩ := by
    intro s' xs a1 a2 a3 hc
    exact End.mk ([(b, Ob.box 58 [ops l, .mp q]), (q, .map (mapE Dt.cells iv M) c)] ++ Fh s') (h3 := fun _ _ h => h) (h4 := ⟨rfl, xs, s', a1, a2, a3, ⟨hc.no b (by simp), hc.no q (by simp)⟩, rfl⟩) (h6 := hc.okk) (h7 := Nat.le_refl _)
  have wk : ∀ (s' : σ) (env : List (Nat × SV)) (G1 : Hp) (kz : Nat), Own G1 Fh s' kz → (∀ z, z ∈ [(b, Ob.box 58 [ops l, .mp q]), (q, .map (mapE Dt.cells iv M) c)] → z ∈ G1) → kz ≤ k + l.length * (1 + nky) → k ≤ kz →
      Own [(b, Ob.box 58 [ops l, .mp q]), (q, .map (mapE Dt.cells iv M) c)] Fh s' (k + l.length * (1 + nky)) ∧ Weak k ⟨env, G1 ++ Fh s', kz⟩ ⟨[], [(b, Ob.box 58 [ops l, .mp q]), (q, .map (mapE Dt.cells iv M) c)] ++ Fh s', k + l.length * (1 + nky)⟩ id := by
    intro s' env G1 kz a4 a5 a6 a7
    have hc := (a4.cut (G := [(b, Ob.box 58 [ops l, .mp q]), (q, .map (mapE Dt.cells iv M) c)]) (by simp [hbq]) a5).mono a6
    exact ⟨hc, Weak.own hc (hy.nd s') (Nat.le_add_right _ _) trivial (a4.keep a5)⟩
  refine SW.seq ?_
  refine SW.g0 [0, 1, 3, 4, 6, 7, 8, 9, 25] mixed (f1) ?_
  refine SW.block ?_
  refine SW.loop (α := {i : Nat × σ × Nat // OI Fh Step go s0 k b q nky l M c i.1 i.2.1 i.2.2})
    (fun i => ⟨[(8, i64 i.1.1), (6, ops l), (7, i64 l.length), (0, .yl y), (1, .ptr b 0)], [(b, Ob.box 58 [ops l, .mp q]), (q, .map (mapE Dt.cells iv M) c)] ++ Fh i.1.2.1, i.1.2.2⟩)
    (fun i => l.length - i.1.1) ⟨(0, s0, k), ⟨Nat.zero_le _, .nil, hgo, hO, by show k ≤ _; omega, by show k ≤ k; omega⟩⟩ id ?_ ?_
  · exact Weak.own hO (hy.nd s0) (Nat.le_refl _) (by simp [EnvW, List.lookup, SV.ren, SV.ok, SV.oks]; omega) (fun n ob hn => hn)
  rintro ⟨⟨i, s', kz⟩, hi'⟩
  have hi' : OI Fh Step go s0 k b q nky l M c i s' kz := hi'
  obtain ⟨c1, c2, c3, c4, c5, c6⟩ := hi'
  dsimp only at *
  have hmul : ∀ n : Nat, n ≤ l.length → n * (1 + nky) ≤ l.length * (1 + nky) := fun n h => Nat.mul_le_mul_right _ h
  simp only [List.cons_append, List.nil_append]
  by_cases hj : i < l.length
  · have k1 : decide ((i : Int) < l.length) = true := by simp only [decide_eq_true_eq]; omega
    obtain ⟨x, hx⟩ := get_of_lt hj
    have k2 : IntKind.i64.wrap ((i : Int) + 1) = ((i + 1 : Nat) : Int) := wrap_i64 _ (by omega)
    have z2 := ne4 (show kz ≠ b by omega)
    have z3 := ne4 (show kz ≠ q by omega)
    have g2 : List.lookup kz (Fh s') = none := c4.out (Nat.le_refl _)
    have w2 := hmul (i + 1) (by omega)
    rw [Nat.add_mul, Nat.one_mul] at w2
    have u1 := find_dt x.dot iv M
    have u3 := look_int (kc := Dt.cells) M x.dot
    obtain ⟨j, hjx⟩ := ixO_some hx
    have hget : (MM.get M x.dot).getD 0 = j := by rw [hM x.dot, hjx]; rfl
    have hpl := plcT_succ l i
    have hfs : fstAt l i = (j == (i : Int)) := by
      unfold fstAt
      rw [hx]
      simp only [hjx, Option.some.injEq]
      rw [Bool.eq_iff_iff]; simp
    have hbox : Own [(kz, .box 33 x.cells), (b, Ob.box 58 [ops l, .mp q]), (q, .map (mapE Dt.cells iv M) c)] Fh s' (kz + 1) := Own.new c4 (Nat.le_refl _) (Nat.lt_succ_self _) (OpD.cells_ok _ _)
    have hin : ∀ z, z ∈ [(b, Ob.box 58 [ops l, .mp q]), (q, .map (mapE Dt.cells iv M) c)] → z ∈ [(kz, .box 33 x.cells), (b, Ob.box 58 [ops l, .mp q]), (q, .map (mapE Dt.cells iv M) c)] := fun z hz => List.mem_cons_of_mem _ hz
    refine SW.seq ?_
    refine SW.g0 [0, 1, 3, 4, 6, 7, 8, 9, 25] mixed (k1) ?_
    refine SW.seq (SW.condT rfl (SW.skip ?_))
    refine SW.seq (SW.block (SW.seq ?_))
    refine SW.g0 [0, 1, 3, 4, 6, 7, 8, 9, 25] mixed (And.intro (f1) (And.intro (z2) (And.intro (z3) (And.intro (g2) (And.intro (op_at hx) (op_room0 hx)))))) ?_
    refine SW.seq ?_
    rcases hji : (j == (i : Int)) with _ | _
    · rw [hfs, hji] at hpl
      simp only [Bool.false_eq_true, if_false] at hpl
      refine SW.g0 [0, 1, 3, 4, 6, 7, 8, 9, 25] mixed (And.intro (f1) (And.intro (z2) (And.intro (z3) (And.intro (u1) (And.intro (u3) (And.intro (hget) (hji))))))) ?_
      refine SW.condF rfl (SW.skip ?_)
      refine SW.g0 [0, 1, 3, 4, 6, 7, 8, 9, 25] mixed (k2) ?_
      dsimp only
      have hc2 : Own [(b, Ob.box 58 [ops l, .mp q]), (q, .map (mapE Dt.cells iv M) c)] Fh s' (kz + 1) := hbox.less (List.sublist_cons_self _ _)
      refine ⟨⟨(i + 1, s', kz + 1), ⟨by show i + 1 ≤ _; omega, by show OnBy _ _ (plcT l (i + 1)) _; rw [hpl]; exact c2, c3, hc2, by show kz + 1 ≤ _; rw [Nat.add_mul i 1 (1 + nky), Nat.one_mul]; omega, by show k ≤ kz + 1; omega⟩⟩, id, by show l.length - (i + 1) < _; omega, ?_⟩
      exact Weak.own hc2 (hy.nd s') (by omega) (by simp [EnvW, List.lookup, SV.ren, SV.ok, SV.oks]; omega) (hbox.keep hin)
    · rw [hfs, hji] at hpl
      simp only [if_true] at hpl
      have hlen : (plcT l i).length < (plc l).length := by
        have := (plcT_pre l (i := i + 1) (j := l.length) (by omega)).length_le
        rw [hpl] at this
        simp at this
        exact this
      refine SW.ofN ?_
      (repeat (first | refine SWn.op (And.intro (f1) (And.intro (z2) (And.intro (z3) (And.intro (u1) (And.intro (u3) (And.intro (hget) (hji))))))) (h := ?_) | refine SWn.opN (And.intro (f1) (And.intro (z2) (And.intro (z3) (And.intro (u1) (And.intro (u3) (And.intro (hget) (hji))))))) (h := ?_) | refine SWn.skip (h := ?_)))
      refine SWn.yieldOG (G := [(kz, .box 33 x.cells), (b, Ob.box 58 [ops l, .mp q]), (q, .map (mapE Dt.cells iv M) c)]) hy i [(20, .d (.bool true)), (8, i64 i), (6, ops l), (7, i64 l.length), (0, .yl y), (1, .ptr b 0)] hbox c2 hlen c3 (by omega) rfl rfl rfl (fun bb => by simp [EnvW, List.lookup, SV.ren, SV.ok, SV.oks]; omega) ?_
      intro s2 hstep hO2 hon
      rw [← hpl] at hon
      rcases hg : go s2 with _ | _
      · (repeat (first | refine SWn.op bq_tt (h := ?_) | refine SWn.opN bq_tt (h := ?_) | refine SWn.skip (h := ?_)))
        refine SWn.nil ?_
        obtain ⟨w1, w3⟩ := wk s2 _ _ (kz + 1 + nky) hO2 hin (by omega) (by omega)
        refine SW.condT rfl (SW.weak id w3 (SW.ret ?_))
        exact fin s2 (plcT l (i + 1)) hon (plcT_pre l (by omega)) (fun h => by rw [hg] at h; cases h) w1
      · (repeat (first | refine SWn.op bq_tt (h := ?_) | refine SWn.opN bq_tt (h := ?_) | refine SWn.skip (h := ?_)))
        refine SWn.nil ?_
        refine SW.condF rfl (SW.skip ?_)
        refine SW.g0 [0, 1, 3, 4, 6, 7, 8, 9, 25] mixed (k2) ?_
        dsimp only
        have hc2 : Own [(b, Ob.box 58 [ops l, .mp q]), (q, .map (mapE Dt.cells iv M) c)] Fh s2 (kz + 1 + nky) := hO2.less (List.sublist_cons_self _ _)
        refine ⟨⟨(i + 1, s2, kz + 1 + nky), ⟨by show i + 1 ≤ _; omega, hon, hg, hc2, by show kz + 1 + nky ≤ _; rw [Nat.add_mul i 1 (1 + nky), Nat.one_mul]; omega, by show k ≤ kz + 1 + nky; omega⟩⟩, id, by show l.length - (i + 1) < _; omega, ?_⟩
        exact Weak.own hc2 (hy.nd s2) (by omega) (by simp [EnvW, List.lookup, SV.ren, SV.ok, SV.oks]; omega) (hO2.keep hin)
  · have k1 : decide ((i : Int) < l.length) = false := by simp only [decide_eq_false_iff_not]; omega
    refine SW.seq ?_
    refine SW.g0 [0, 1, 3, 4, 6, 7, 8, 9, 25] mixed (k1) ?_
    have hjl : i = l.length := by omega
    rw [hjl] at c2
    obtain ⟨w1, w3⟩ := wk s' _ [(b, Ob.box 58 [ops l, .mp q]), (q, .map (mapE Dt.cells iv M) c)] kz c4 (fun z hz => hz) (by have := hmul i c1; omega) c6
    refine SW.seq (SW.condF rfl (SW.weak id w3 (SW.exit ?_)))
    exact fin s' (plc l) c2 List.prefix_rfl (fun _ => rfl) w1
end Go.Proofs.Ytamokhfmnhpnlaa

/-
  Sorting places by a function: insertion.
-/
set_option linter.unusedSectionVars false
set_option linter.unusedVariables false
set_option linter.unusedSimpArgs false
namespace Go.Proofs.Ytamokhfmnhpnlaa
open Go.Sl Go.Proofs
attribute [local irreducible] SW RW SCd SC CallP Pruned

/-- A row of places, as cells. -/
def pc (R : List Nat) : List SV := R.map fun (x : Nat) => i64 (x : Int)
@[simp] theorem pc_len (R : List Nat) : (pc R).length = R.length := by simp [pc]
theorem pc_get {R : List Nat} {i x : Nat} (h : R[i]? = some x) : (pc R)[i]? = some (i64 (x : Int)) := by simp [pc, h]
theorem pc_set (R : List Nat) (i x : Nat) : (pc R).set i (i64 (x : Int)) = pc (R.set i x) := by simp [pc, List.map_set]
theorem pc_ok (q : Nat → Bool) (R : List Nat) : SV.oks q (pc R) = true := by
  unfold pc
  induction R with
  | nil => rfl
  | cons x R ih => simpa [SV.oks, SV.ok] using ih
theorem pc_ren (ρ : Nat → Nat) (R : List Nat) : SV.rens ρ (pc R) = pc R := by
  unfold pc
  induction R with
  | nil => rfl
  | cons x R ih => simpa [SV.rens, SV.ren] using ih
/-- One's own row of places. -/
abbrev prow (n m : Nat) (R : List Nat) : Nat × Ob := (n, .arr 3 1 m (pc R))
abbrev cfn (g : Nat) (first : List SV) : SV := .fn (.func g) first []
/-- A function that holds places against each other, and the objects that it is bound to. -/
structure CmpC (P : Program) (g : Nat) (first : List SV) (H0 : Hp) (c : Nat → Nat → Int) (D : Nat → Prop) : Prop where
  tot : Tot c D
  call : ∀ x y k, D x → D y → H0.ok (fun n => decide (n < k)) = true → SCd P g (first ++ [i64 (x : Int), i64 (y : Int)]) [] k 0 (i64 (c x y)) []
  fo : SV.oks (fun n => (lk H0 n).isSome) first = true
  nd : (H0.map (·.1)).Nodup
  cl : H0.ok (fun n => (lk H0 n).isSome) = true
/-- Where the row stands beside them. -/
structure At (H0 : Hp) (n k : Nat) : Prop where
  no : lk H0 n = none
  lt : n < k
  ok : H0.ok (fun z => decide (z < k)) = true
section
variable {g : Nat} {first : List SV} {H0 : Hp} {c : Nat → Nat → Int} {D : Nat → Prop} {n k : Nat}
theorem At.fo (h : At H0 n k) (hc : CmpC Try.prog g first H0 c D) : SV.oks (fun z => decide (z < k)) first = true := SV.oks_more (fun m hm => by
  obtain ⟨ob, ho⟩ := Option.isSome_iff_exists.1 hm
  exact (Hp.ok_lk h.ok ho).1) _ hc.fo
theorem At.okr (h : At H0 n k) (m : Nat) (R : List Nat) : Hp.ok (fun z => decide (z < k)) (prow n m R :: H0) = true := ok_cons (by simpa using h.lt) (pc_ok _ R) h.ok
theorem At.nd (h : At H0 n k) (hc : CmpC Try.prog g first H0 c D) (m : Nat) (R : List Nat) : ((prow n m R :: H0 : Hp).map (·.1)).Nodup := nd_cons h.no hc.nd
theorem At.weak (h : At H0 n k) (hc : CmpC Try.prog g first H0 c D) (m : Nat) (R : List Nat) {env env1 : List (Nat × SV)} {kk : Nat} (he : EnvW id k env env1) : Weak k ⟨env, prow n m R :: H0, kk⟩ ⟨env1, prow n m R :: H0, k⟩ id :=
  Weak.same (Nat.le_refl _) he (h.okr m R) (lk_of_nodup (h.nd hc m R))
theorem At.here (h : At H0 n k) (hc : CmpC Try.prog g first H0 c D) {f : Nat} {xs : List SV} {m : Nat} {R : List Nat} {Q : SV → Hp → Prop} (h1 : SB Try.prog f xs (prow n m R :: H0) k 0 Q) (ha : SV.oks (fun z => (lk (prow n m R :: H0) z).isSome) xs = true)
    (hq : ∀ r F, Q r F → (∀ q, r.ok q = true) ∧ ∃ R', F = prow n m R' :: H0) : SC Try.prog f xs (prow n m R :: H0) k 0 Q := by
  have hall : ∀ R' : List Nat, Hp.ok (fun z => (lk (prow n m R :: H0) z).isSome) (prow n m R' :: H0) = true := fun R' => ok_cons (by simp [lk_cons]) (pc_ok _ R') (Hp.ok_mono (fun m hm => by
    rw [lk_cons]
    split
    · rfl
    · exact hm) hc.cl)
  refine h1.here (fun z => (lk (prow n m R :: H0) z).isSome) (fun z hz e => by rw [e] at hz; cases hz) ha (hall R) ?_
  intro r F hQ _ _
  obtain ⟨q1, R', rfl⟩ := hq r F hQ
  exact ⟨q1 _, Hp.ok_mono (fun m hm => by rw [hm]; rfl) (hall R')⟩
theorem cok (h : At H0 n k) (hc : CmpC Try.prog g first H0 c D) (m : Nat) (R : List Nat) : SV.oks (fun z => (lk (prow n m R :: H0) z).isSome) first = true := SV.oks_more (fun m hm => by
  rw [lk_cons]
  split
  · rfl
  · exact hm) _ hc.fo

variable (hc : CmpC Try.prog g first H0 c D) (ha : At H0 n k)
include hc ha
set_option maxHeartbeats 4000000 in
theorem insert_sb {m : Nat} {R : List Nat} (hR : Rw D R) (hm : R.length = m) (a b : Nat) (hab : a ≤ m) (hb : b ≤ m) (hl : m < 256) :
    SB Try.prog slices_insertionSortCmpFunc_int.f [.gs n m, i64 a, i64 b, cfn g first] (prow n m R :: H0) k 0 fun r F => r = .tup [] ∧ ∃ R', Swt a b R R' ∧ Srt c R' a b ∧ F = prow n m R' :: H0 := by
  have o1 := ha.fo hc
  have hn := ha.lt
  refine slices_insertionSortCmpFunc_int.enter (by simp [SV.ok, SV.oks, o1, hn]) (ha.okr m R) (by simp [SV.oks]) ?_
  dsimp only [slices_insertionSortCmpFunc_int.s, Co.M, Co.G, Co.J, Co.H, Co.N, Co.F, Co.C, Co.Z, Co.B, Co.b8, Co.b32, Co.b64, Co.i6, Co.z8, Co.z29]
  have w1 : IntKind.i64.wrap ((a : Int) + 1) = ((a + 1 : Nat) : Int) := wrap_i64 _ (by omega)
  refine SW.seq ?_
  refine SW.g0 [0, 1, 2, 3, 8, 9, 14, 34] mixed (w1) ?_
  refine SW.block ?_
  refine SW.loop (α := {x : Nat × List Nat // a + 1 ≤ x.1 ∧ (x.1 ≤ b ∨ x.1 = a + 1) ∧ Swt a b R x.2 ∧ Srt c x.2 a x.1})
    (fun x => ⟨[(8, i64 (x.1.1 : Nat)), (0, .gs n m), (1, i64 a), (2, i64 b), (3, cfn g first)], (n, .arr 3 1 m (pc x.1.2)) :: H0, k⟩) (fun x => b - x.1.1)
    ⟨(a + 1, R), by omega, .inr rfl, .refl, Srt.one (by omega)⟩ id ?_ ?_
  · exact ha.weak hc m R (by simp [EnvW, List.lookup, SV.ren, SV.rens_id, SV.rens, SV.ok, SV.oks, o1, hn])
  rintro ⟨⟨i, R1⟩, hi1, hi2, hs, hsr⟩
  simp only at hi1 hi2 hs hsr
  dsimp only
  have hl1 : R1.length = R.length := hs.len
  by_cases h : i < b
  · have h1 : decide ((i : Int) < b) = true := by simp only [decide_eq_true_eq]; omega
    have w2 : IntKind.i64.wrap ((i : Int) + 1) = ((i + 1 : Nat) : Int) := wrap_i64 _ (by omega)
    refine SW.seq (SW.seq ?_)
    refine SW.g0 [0, 1, 2, 3, 8, 9, 14, 34] mixed (h1) ?_
    refine SW.condT rfl (SW.skip ?_)
    refine SW.seq (SW.block (SW.seq ?_))
    refine SW.g0 [0, 1, 2, 3, 8, 9, 14, 34] mixed bq_tt ?_
    refine SW.block ?_
    refine SW.loop (α := {x : Nat × List Nat // a ≤ x.1 ∧ x.1 ≤ i ∧ Swt a b R x.2 ∧ Ins c x.2 a x.1 i})
      (fun x => ⟨[(9, i64 (x.1.1 : Nat)), (8, i64 i), (0, .gs n m), (1, i64 a), (2, i64 b), (3, cfn g first)], (n, .arr 3 1 m (pc x.1.2)) :: H0, k⟩) (fun x => x.1.1)
      ⟨(i, R1), by omega, Nat.le_refl _, hs, Ins.start hsr⟩ id ?_ ?_
    · exact ha.weak hc m R1 (by simp [EnvW, List.lookup, SV.ren, SV.rens_id, SV.rens, SV.ok, SV.oks, o1, hn])
    rintro ⟨⟨j, R2⟩, hj1, hj2, hs2, hin⟩
    simp only at hj1 hj2 hs2 hin
    dsimp only
    have hl2 : R2.length = R.length := hs2.len
    have hR2 := hR.swt hs2 (by omega)
    have goOn : (j = a ∨ ¬ Lt c R2 j (j - 1)) → ∃ (z : {x : Nat × List Nat // a + 1 ≤ x.1 ∧ (x.1 ≤ b ∨ x.1 = a + 1) ∧ Swt a b R x.2 ∧ Srt c x.2 a x.1}), z.1 = (i + 1, R2) := fun hd =>
      ⟨⟨(i + 1, R2), by show a + 1 ≤ i + 1; omega, .inl (by show i + 1 ≤ b; omega), hs2, Ins.done hc.tot hR2 hin hj1 hj2 (by show i < R2.length; omega) hd⟩, rfl⟩
    by_cases hj : a < j
    · have h2 : decide ((j : Int) > a) = true := by simp only [decide_eq_true_eq]; omega
      have w3 : IntKind.i64.wrap ((j : Int) - 1) = ((j - 1 : Nat) : Int) := by
        rw [show (j : Int) - 1 = ((j - 1 : Nat) : Int) by omega]
        exact wrap_i64 _ (by omega)
      have hx := ge_some (R := R2) (i := j) (by omega)
      have hy := ge_some (R := R2) (i := j - 1) (by omega)
      have hcall := hc.call (ge R2 j) (ge R2 (j - 1)) k (hR2.all _ (ge_mem (by omega))) (hR2.all _ (ge_mem (by omega))) ha.ok
      have e3 : spl (pc R2) j [i64 (ge R2 (j - 1) : Nat)] = pc (R2.set j (ge R2 (j - 1))) := pc_set _ _ _
      have e4 : spl (pc (R2.set j (ge R2 (j - 1)))) (j - 1) [i64 (ge R2 j : Nat)] = pc (swp R2 j (j - 1)) := pc_set _ _ _
      refine SW.seq (SW.seq ?_)
      rcases hbb : decide (c (ge R2 j) (ge R2 (j - 1)) < 0) with _ | _
      · refine SW.g1 [0, 1, 2, 3, 8, 9, 14, 34] mixed (And.intro (h2) (And.intro (w3) (And.intro (pc_get hx) (And.intro (pc_get hy) (hbb))))) hcall ?_
        refine SW.condF rfl (SW.exit ?_)
        refine SW.g0 [0, 1, 2, 3, 8, 9, 14, 34] mixed (w2) ?_
        obtain ⟨z, hz⟩ := goOn (.inr (by unfold Lt; simpa using hbb))
        refine ⟨z, id, by rw [hz]; show b - (i + 1) < b - i; omega, ?_⟩
        rw [hz]
        exact ha.weak hc m R2 (by simp [EnvW, List.lookup, SV.ren, SV.rens_id, SV.rens, SV.ok, SV.oks, o1, hn])
      · refine SW.g1 [0, 1, 2, 3, 8, 9, 14, 34] mixed (And.intro (h2) (And.intro (w3) (And.intro (pc_get hx) (And.intro (pc_get hy) (hbb))))) hcall ?_
        refine SW.condT rfl (SW.skip ?_)
        refine SW.seq (SW.block ?_)
        refine SW.g0 [0, 1, 2, 3, 8, 9, 14, 34] mixed (And.intro (w3) (And.intro (pc_get hx) (And.intro (pc_get hy) (And.intro (e3) (e4))))) ?_
        refine SW.g0 [0, 1, 2, 3, 8, 9, 14, 34] mixed (w3) ?_
        refine ⟨⟨(j - 1, swp R2 j (j - 1)), by show a ≤ j - 1; omega, by show j - 1 ≤ i; omega, hs2.step hj1 (by omega) (by omega) (by omega), hin.next hj hj2 (by omega) (by unfold Lt; simpa using hbb)⟩, id, by show j - 1 < j; omega, ?_⟩
        exact ha.weak hc m (swp R2 j (j - 1)) (by simp [EnvW, List.lookup, SV.ren, SV.rens_id, SV.rens, SV.ok, SV.oks, o1, hn])
    · have h2 : decide ((j : Int) > a) = false := by simp only [decide_eq_false_iff_not]; omega
      refine SW.seq (SW.seq ?_)
      refine SW.g0 [0, 1, 2, 3, 8, 9, 14, 34] mixed (h2) ?_
      refine SW.condF rfl (SW.exit ?_)
      refine SW.g0 [0, 1, 2, 3, 8, 9, 14, 34] mixed (w2) ?_
      obtain ⟨z, hz⟩ := goOn (.inl (by omega))
      refine ⟨z, id, by rw [hz]; show b - (i + 1) < b - i; omega, ?_⟩
      rw [hz]
      exact ha.weak hc m R2 (by simp [EnvW, List.lookup, SV.ren, SV.rens_id, SV.rens, SV.ok, SV.oks, o1, hn])
  · have h1 : decide ((i : Int) < b) = false := by simp only [decide_eq_false_iff_not]; omega
    refine SW.seq (SW.seq ?_)
    refine SW.g0 [0, 1, 2, 3, 8, 9, 14, 34] mixed (h1) ?_
    refine SW.condF rfl (SW.exit ?_)
    have fin : ∀ env, Go.Sl.Fin k 0 slices_insertionSortCmpFunc_int.rv (fun r F => r = .tup [] ∧ ∃ R', Swt a b R R' ∧ Srt c R' a b ∧ F = prow n m R' :: H0) ⟨env, (n, .arr 3 1 m (pc R1)) :: H0, k⟩ := fun env =>
      End.mk (prow n m R1 :: H0) (h3 := fun _ _ h => h) (h4 := ⟨rfl, R1, hs, fun p q k1 k2 k3 => hsr p q k1 k2 (by omega), rfl⟩) (h6 := by simpa using ha.okr m R1)
    exact fin _
theorem insert_at {m : Nat} {R : List Nat} (hR : Rw D R) (hm : R.length = m) (a b : Nat) (hab : a ≤ m) (hb : b ≤ m) (hl : m < 256) :
    SC Try.prog slices_insertionSortCmpFunc_int.f [.gs n m, i64 a, i64 b, cfn g first] (prow n m R :: H0) k 0 fun r F => r = .tup [] ∧ ∃ R', Swt a b R R' ∧ Srt c R' a b ∧ F = prow n m R' :: H0 :=
  ha.here hc (insert_sb hc ha hR hm a b hab hb hl) (by have h := cok ha hc m R; simp only [lk_cons] at h; simp [SV.oks, SV.ok, lk_cons, h]) fun r F ⟨h1, R', _, _, h2⟩ => ⟨by rw [h1]; intro q; rfl, R', h2⟩
end
end Go.Proofs.Ytamokhfmnhpnlaa

/-
  Sorting places by a function: which of two, of three.
-/
set_option linter.unusedSectionVars false
set_option linter.unusedVariables false
set_option linter.unusedSimpArgs false
namespace Go.Proofs.Ytamokhfmnhpnlaa
open Go.Sl Go.Proofs
attribute [local irreducible] SW RW SCd SC CallP Pruned

/-- A number of one's own, beside them. -/
abbrev bx (w s : Nat) : Nat × Ob := (w, .box 3 [i64 (s : Int)])
section
variable {g : Nat} {first : List SV} {H0 : Hp} {c : Nat → Nat → Int} {D : Nat → Prop} {n k w : Nat}
theorem At.box (h : At H0 n k) (hw : lk H0 w = none) (hwn : w ≠ n) (hwk : w < k) (s : Nat) : At (bx w s :: H0) n k := ⟨by rw [lk_cons, if_neg (fun e => hwn e.symm)]; exact h.no, h.lt, ok_cons (by simpa using hwk) rfl h.ok⟩
theorem CmpC.box (h : CmpC Try.prog g first H0 c D) (hw : lk H0 w = none) (s : Nat) : CmpC Try.prog g first (bx w s :: H0) c D where
  tot := h.tot
  call x y k h1 h2 h3 := h.call x y k h1 h2 (by
    simp only [Hp.ok, List.all_cons, Bool.and_eq_true] at h3
    exact h3.2)
  fo := SV.oks_more (fun z hz => by
    rw [lk_cons]
    split
    · rfl
    · exact hz) _ h.fo
  nd := nd_cons hw h.nd
  cl := ok_cons (by simp [lk_cons]) rfl (Hp.ok_mono (fun z hz => by
    rw [lk_cons]
    split
    · rfl
    · exact hz) h.cl)
theorem At.hereB (h : At H0 n k) (hc : CmpC Try.prog g first H0 c D) (hw : lk H0 w = none) (hwn : w ≠ n) (hwk : w < k) {f : Nat} {xs : List SV} {m s : Nat} {R : List Nat} {Q : SV → Hp → Prop} (h1 : SB Try.prog f xs (prow n m R :: bx w s :: H0) k 0 Q)
    (h0 : SV.oks (fun z => (lk (prow n m R :: bx w s :: H0) z).isSome) xs = true)
    (hq : ∀ r F, Q r F → (∀ q, r.ok q = true) ∧ ∃ R' s', F = prow n m R' :: bx w s' :: H0) : SC Try.prog f xs (prow n m R :: bx w s :: H0) k 0 Q := by
  have hall : ∀ (R' : List Nat) (s' : Nat), Hp.ok (fun z => (lk (prow n m R :: bx w s :: H0) z).isSome) (prow n m R' :: bx w s' :: H0) = true := fun R' s' => ok_cons (by simp [lk_cons]) (pc_ok _ R') (ok_cons (by simp [lk_cons, hwn]) rfl (Hp.ok_mono (fun z hz => by
    rw [lk_cons, lk_cons]
    split
    · rfl
    · split
      · rfl
      · exact hz) hc.cl))
  refine h1.here (fun z => (lk (prow n m R :: bx w s :: H0) z).isSome) (fun z hz e => by rw [e] at hz; cases hz) h0 (hall R s) ?_
  intro r F hQ _ _
  obtain ⟨q1, R', s', rfl⟩ := hq r F hQ
  exact ⟨q1 _, Hp.ok_mono (fun z hz => by rw [hz]; rfl) (hall R' s')⟩
theorem bmrg {m : Nat} {R R' : List Nat} {s s' : Nat} (hc : CmpC Try.prog g first H0 c D) (ha : At H0 n k) (hw : lk H0 w = none) (hwn : w ≠ n) : hmrg false (prow n m R :: bx w s :: H0) (prow n m R :: bx w s :: H0) (prow n m R' :: bx w s' :: H0) = prow n m R' :: bx w s' :: H0 := by
  exact mrg_tail (pre := []) rfl (nd_cons (by rw [lk_cons, if_neg (fun e => hwn e.symm)]; exact ha.no) (nd_cons hw hc.nd))

variable (hc : CmpC Try.prog g first H0 c D) (ha : At H0 n k) (hw : lk H0 w = none) (hwn : w ≠ n) (hwk : w < k)
include hc ha hw hwn hwk
set_option maxHeartbeats 4000000 in
theorem order2_sb {m : Nat} {R : List Nat} (hR : Rw D R) (hm : R.length = m) (a b s : Nat) (hab : a < m) (hb : b < m) (hs : s < 256) :
    SB Try.prog slices_order2CmpFunc_int.f [.gs n m, i64 a, i64 b, .ptr w 0, cfn g first] (prow n m R :: bx w s :: H0) k 0 fun r F => ∃ x y s', r = .tup [i64 (x : Nat), i64 (y : Nat)] ∧ ((x = a ∧ y = b) ∨ (x = b ∧ y = a)) ∧ s' ≤ s + 1 ∧ F = prow n m R :: bx w s' :: H0 := by
  have o1 := ha.fo hc
  have hn := ha.lt
  have hA := ha.box hw hwn hwk
  refine slices_order2CmpFunc_int.enter (by simp [SV.ok, SV.oks, o1, hn, hwk]) ((hA s).okr m R) (by simp [SV.oks]) ?_
  dsimp only [slices_order2CmpFunc_int.s, Co.M, Co.G, Co.J, Co.H, Co.N, Co.F, Co.C, Co.Z, Co.B, Co.b8, Co.b32, Co.b64, Co.i6, Co.z8, Co.z29]
  have f1 := ne4 hwn
  have hx := ge_some (R := R) (i := a) (by omega)
  have hy := ge_some (R := R) (i := b) (by omega)
  have hcall := hc.call (ge R b) (ge R a) k (hR.all _ (ge_mem (by omega))) (hR.all _ (ge_mem (by omega))) ha.ok
  have w1 : IntKind.i64.wrap ((s : Int) + 1) = ((s + 1 : Nat) : Int) := wrap_i64 _ (by omega)
  refine SW.seq ?_
  refine SW.g0 [0, 1, 2, 3, 4, 10, 11, 22] mixed bq_tt ?_
  refine SW.seq (SW.seq ?_)
  rcases hbb : decide (c (ge R b) (ge R a) < 0) with _ | _
  · refine SW.g1 [0, 1, 2, 3, 4, 10, 11, 22] mixed (And.intro (f1) (And.intro (pc_get hx) (And.intro (pc_get hy) (hbb)))) hcall ?_
    refine SW.condF rfl (SW.skip ?_)
    refine SW.seq ?_
    refine SW.g0 [0, 1, 2, 3, 4, 10, 11, 22] mixed bq_tt ?_
    refine SW.ret ?_
    exact End.mk (prow n m R :: bx w s :: H0) (h3 := fun _ _ h => h) (h4 := ⟨a, b, s, rfl, .inl ⟨rfl, rfl⟩, by omega, rfl⟩) (h6 := by simpa using (hA s).okr m R)
  · refine SW.g1 [0, 1, 2, 3, 4, 10, 11, 22] mixed (And.intro (f1) (And.intro (pc_get hx) (And.intro (pc_get hy) (hbb)))) hcall ?_
    refine SW.condT rfl (SW.seq ?_)
    refine SW.g0 [0, 1, 2, 3, 4, 10, 11, 22] mixed (And.intro (f1) (w1)) ?_
    refine SW.seq ?_
    refine SW.g0 [0, 1, 2, 3, 4, 10, 11, 22] mixed bq_tt ?_
    refine SW.ret ?_
    exact End.mk (prow n m R :: bx w (s + 1) :: H0) (h3 := fun _ _ h => h) (h4 := ⟨b, a, s + 1, rfl, .inr ⟨rfl, rfl⟩, Nat.le_refl _, rfl⟩) (h6 := by simpa using (hA (s + 1)).okr m R)
theorem order2_at {m : Nat} {R : List Nat} (hR : Rw D R) (hm : R.length = m) (a b s : Nat) (hab : a < m) (hb : b < m) (hs : s < 256) :
    SC Try.prog slices_order2CmpFunc_int.f [.gs n m, i64 a, i64 b, .ptr w 0, cfn g first] (prow n m R :: bx w s :: H0) k 0 fun r F => ∃ x y s', r = .tup [i64 (x : Nat), i64 (y : Nat)] ∧ ((x = a ∧ y = b) ∨ (x = b ∧ y = a)) ∧ s' ≤ s + 1 ∧ F = prow n m R :: bx w s' :: H0 :=
  ha.hereB hc hw hwn hwk (order2_sb hc ha hw hwn hwk hR hm a b s hab hb hs) (by have h := cok (ha.box hw hwn hwk s) (hc.box hw s) m R; simp only [lk_cons] at h; simp [SV.oks, SV.ok, lk_cons, h, hwn]) fun r F ⟨x, y, s', h1, _, _, h2⟩ => ⟨by rw [h1]; intro q; rfl, R, s', h2⟩
set_option maxHeartbeats 4000000 in
theorem median_sb {m : Nat} {R : List Nat} (hR : Rw D R) (hm : R.length = m) (a b d s : Nat) (h1 : a < m) (h2 : b < m) (h3 : d < m) (hs : s < 250) :
    SB Try.prog slices_medianCmpFunc_int.f [.gs n m, i64 a, i64 b, i64 d, .ptr w 0, cfn g first] (prow n m R :: bx w s :: H0) k 0 fun r F => ∃ x s', r = i64 (x : Nat) ∧ (x = a ∨ x = b ∨ x = d) ∧ s' ≤ s + 3 ∧ F = prow n m R :: bx w s' :: H0 := by
  have o1 := ha.fo hc
  have hn := ha.lt
  have hA := ha.box hw hwn hwk
  refine slices_medianCmpFunc_int.enter (by simp [SV.ok, SV.oks, o1, hn, hwk]) ((hA s).okr m R) (by simp [SV.oks]) ?_
  dsimp only [slices_medianCmpFunc_int.s, Co.M, Co.G, Co.J, Co.H, Co.N, Co.F, Co.C, Co.Z, Co.B, Co.b8, Co.b32, Co.b64, Co.i6, Co.z8, Co.z29]
  have f1 := ne4 hwn
  refine SW.seq ?_
  refine SW.g0 [0, 1, 2, 3, 4, 5, 12] mixed bq_tt ?_
  refine SW.seq (SW.ofN ?_)
  (repeat (first | refine SWn.op bq_tt (h := ?_) | refine SWn.opN bq_tt (h := ?_) | refine SWn.skip (h := ?_)))
  refine SWn.callC (order2_at hc ha hw hwn hwk hR hm a b s h1 h2 (by omega)) (fun _ _ h => h) (h := ?_)
  rintro _ _ ⟨x, y, s1, rfl, hxy, hs1, rfl⟩
  rw [bmrg hc ha hw hwn]
  (repeat (first | refine SWn.op bq_tt (h := ?_) | refine SWn.opN bq_tt (h := ?_) | refine SWn.skip (h := ?_)))
  refine SWn.nil ?_
  refine SW.seq (SW.ofN ?_)
  (repeat (first | refine SWn.op bq_tt (h := ?_) | refine SWn.opN bq_tt (h := ?_) | refine SWn.skip (h := ?_)))
  refine SWn.callC (order2_at hc ha hw hwn hwk hR hm y d s1 (by omega) h3 (by omega)) (fun _ _ h => h) (h := ?_)
  rintro _ _ ⟨y1, z, s2, rfl, hyz, hs2, rfl⟩
  rw [bmrg hc ha hw hwn]
  (repeat (first | refine SWn.op bq_tt (h := ?_) | refine SWn.opN bq_tt (h := ?_) | refine SWn.skip (h := ?_)))
  refine SWn.nil ?_
  refine SW.seq (SW.ofN ?_)
  (repeat (first | refine SWn.op bq_tt (h := ?_) | refine SWn.opN bq_tt (h := ?_) | refine SWn.skip (h := ?_)))
  refine SWn.callC (order2_at hc ha hw hwn hwk hR hm x y1 s2 (by omega) (by omega) (by omega)) (fun _ _ h => h) (h := ?_)
  rintro _ _ ⟨x1, y2, s3, rfl, hxy2, hs3, rfl⟩
  rw [bmrg hc ha hw hwn]
  (repeat (first | refine SWn.op bq_tt (h := ?_) | refine SWn.opN bq_tt (h := ?_) | refine SWn.skip (h := ?_)))
  refine SWn.nil ?_
  refine SW.seq (SW.ofN ?_)
  (repeat (first | refine SWn.op bq_tt (h := ?_) | refine SWn.opN bq_tt (h := ?_) | refine SWn.skip (h := ?_)))
  refine SWn.nil ?_
  refine SW.ret ?_
  exact End.mk (prow n m R :: bx w s3 :: H0) (h3 := fun _ _ h => h) (h4 := ⟨y2, s3, rfl, by omega, by omega, rfl⟩) (h6 := by simpa using (hA s3).okr m R)
theorem median_at {m : Nat} {R : List Nat} (hR : Rw D R) (hm : R.length = m) (a b d s : Nat) (h1 : a < m) (h2 : b < m) (h3 : d < m) (hs : s < 250) :
    SC Try.prog slices_medianCmpFunc_int.f [.gs n m, i64 a, i64 b, i64 d, .ptr w 0, cfn g first] (prow n m R :: bx w s :: H0) k 0 fun r F => ∃ x s', r = i64 (x : Nat) ∧ (x = a ∨ x = b ∨ x = d) ∧ s' ≤ s + 3 ∧ F = prow n m R :: bx w s' :: H0 :=
  ha.hereB hc hw hwn hwk (median_sb hc ha hw hwn hwk hR hm a b d s h1 h2 h3 hs) (by have h := cok (ha.box hw hwn hwk s) (hc.box hw s) m R; simp only [lk_cons] at h; simp [SV.oks, SV.ok, lk_cons, h, hwn]) fun r F ⟨x, s', h1, _, _, h2⟩ => ⟨by rw [h1]; intro q; rfl, R, s', h2⟩
set_option maxHeartbeats 4000000 in
theorem medadj_sb {m : Nat} {R : List Nat} (hR : Rw D R) (hm : R.length = m) (hl : m < 256) (a s : Nat) (h0 : 0 < a) (h1 : a + 1 < m) (hs : s < 250) :
    SB Try.prog slices_medianAdjacentCmpFunc_int.f [.gs n m, i64 a, .ptr w 0, cfn g first] (prow n m R :: bx w s :: H0) k 0 fun r F => ∃ x s', r = i64 (x : Nat) ∧ (x = a - 1 ∨ x = a ∨ x = a + 1) ∧ s' ≤ s + 3 ∧ F = prow n m R :: bx w s' :: H0 := by
  have o1 := ha.fo hc
  have hn := ha.lt
  have hA := ha.box hw hwn hwk
  refine slices_medianAdjacentCmpFunc_int.enter (by simp [SV.ok, SV.oks, o1, hn, hwk]) ((hA s).okr m R) (by simp [SV.oks]) ?_
  dsimp only [slices_medianAdjacentCmpFunc_int.s, Co.M, Co.G, Co.J, Co.H, Co.N, Co.F, Co.C, Co.Z, Co.B, Co.b8, Co.b32, Co.b64, Co.i6, Co.z8, Co.z29]
  have f1 := ne4 hwn
  have w1 : IntKind.i64.wrap ((a : Int) + 1) = ((a + 1 : Nat) : Int) := wrap_i64 _ (by omega)
  have w2 : IntKind.i64.wrap ((a : Int) - 1) = ((a - 1 : Nat) : Int) := by
    rw [show (a : Int) - 1 = ((a - 1 : Nat) : Int) by omega]
    exact wrap_i64 _ (by omega)
  refine SW.seq ?_
  refine SW.g0 [0, 1, 2, 3, 8] mixed bq_tt ?_
  refine SW.seq (SW.ofN ?_)
  (repeat (first | refine SWn.op (And.intro (w1) (w2)) (h := ?_) | refine SWn.opN (And.intro (w1) (w2)) (h := ?_) | refine SWn.skip (h := ?_)))
  refine SWn.callC (median_at hc ha hw hwn hwk hR hm (a - 1) a (a + 1) s (by omega) (by omega) (by omega) hs) (fun _ _ h => h) (h := ?_)
  rintro _ _ ⟨x, s1, rfl, hx, hs1, rfl⟩
  rw [bmrg hc ha hw hwn]
  (repeat (first | refine SWn.op bq_tt (h := ?_) | refine SWn.opN bq_tt (h := ?_) | refine SWn.skip (h := ?_)))
  refine SWn.nil ?_
  refine SW.ret ?_
  exact End.mk (prow n m R :: bx w s1 :: H0) (h3 := fun _ _ h => h) (h4 := ⟨x, s1, rfl, hx, hs1, rfl⟩) (h6 := by simpa using (hA s1).okr m R)
theorem medadj_at {m : Nat} {R : List Nat} (hR : Rw D R) (hm : R.length = m) (hl : m < 256) (a s : Nat) (h0 : 0 < a) (h1 : a + 1 < m) (hs : s < 250) :
    SC Try.prog slices_medianAdjacentCmpFunc_int.f [.gs n m, i64 a, .ptr w 0, cfn g first] (prow n m R :: bx w s :: H0) k 0 fun r F => ∃ x s', r = i64 (x : Nat) ∧ (x = a - 1 ∨ x = a ∨ x = a + 1) ∧ s' ≤ s + 3 ∧ F = prow n m R :: bx w s' :: H0 :=
  ha.hereB hc hw hwn hwk (medadj_sb hc ha hw hwn hwk hR hm hl a s h0 h1 hs) (by have h := cok (ha.box hw hwn hwk s) (hc.box hw s) m R; simp only [lk_cons] at h; simp [SV.oks, SV.ok, lk_cons, h, hwn]) fun r F ⟨x, s', h1, _, _, h2⟩ => ⟨by rw [h1]; intro q; rfl, R, s', h2⟩
end
end Go.Proofs.Ytamokhfmnhpnlaa

/-
  Sorting places by a function: a split by a pivot.
-/
set_option linter.unusedSectionVars false
set_option linter.unusedVariables false
set_option linter.unusedSimpArgs false
namespace Go.Proofs.Ytamokhfmnhpnlaa
open Go.Sl Go.Proofs
attribute [local irreducible] SW RW SCd SC CallP Pruned

theorem SW.cutE {N k0 : Nat} {st : St} {Q : Exit → St → Prop} {x y : SCo} {α : Type} (S : α → St) (h1 : Sl.SW Try.prog N k0 x st fun e st' => match e with | .normal => ∃ a, Weak k0 st' (S a) id | e => Q e st') (h2 : ∀ a, Sl.SW Try.prog N k0 y (S a) Q) : Sl.SW Try.prog N k0 (.seq x y) st Q := by
  refine SW.seq (h1.mono fun e st' h => ?_)
  cases e <;> first
    | exact h
    | (obtain ⟨a, ha⟩ := h; exact SW.weak id ha (h2 a))
theorem subw {i j : Nat} (h : j ≤ i) (hi : i < 256) : IntKind.i64.wrap ((i : Int) - (j : Int)) = ((i - j : Nat) : Int) := by
  rw [show (i : Int) - (j : Int) = ((i - j : Nat) : Int) by omega]
  exact wrap_i64 _ (by omega)
theorem subw1 {i : Nat} (h : 1 ≤ i) (hi : i < 256) : IntKind.i64.wrap ((i : Int) - 1) = ((i - 1 : Nat) : Int) := subw h hi
theorem dT {p : Prop} [Decidable p] (h : p) : decide p = true := decide_eq_true h
theorem dF {p : Prop} [Decidable p] (h : ¬ p) : decide p = false := decide_eq_false h
section
variable {g : Nat} {first : List SV} {H0 : Hp} {c : Nat → Nat → Int} {D : Nat → Prop} {n k : Nat}
variable (hc : CmpC Try.prog g first H0 c D) (ha : At H0 n k)
include hc ha
set_option maxHeartbeats 4000000 in
theorem part_sb {m : Nat} {R : List Nat} (hR : Rw D R) (hm : R.length = m) (a b p : Nat) (hap : a ≤ p) (hpb : p < b) (hb : b ≤ m) (hl : m < 256) :
    SB Try.prog slices_partitionCmpFunc_int.f [.gs n m, i64 a, i64 b, i64 p, cfn g first] (prow n m R :: H0) k 0 fun r F => ∃ q ap R', r = .tup [i64 (q : Nat), bl ap] ∧ a ≤ q ∧ q < b ∧ Swt a b R R' ∧ Spl c R' a q b ∧ F = prow n m R' :: H0 := by
  have o1 := ha.fo hc
  have hn := ha.lt
  refine slices_partitionCmpFunc_int.enter (by simp [SV.ok, SV.oks, o1, hn]) (ha.okr m R) (by simp [SV.oks]) ?_
  dsimp only [slices_partitionCmpFunc_int.s, Co.M, Co.G, Co.J, Co.H, Co.N, Co.F, Co.C, Co.Z, Co.B, Co.b8, Co.b32, Co.b64, Co.i6, Co.z8, Co.z29]
  have hx := ge_some (R := R) (i := a) (by omega)
  have hy := ge_some (R := R) (i := p) (by omega)
  have e3 : spl (pc R) a [i64 (ge R p : Nat)] = pc (R.set a (ge R p)) := pc_set _ _ _
  have e4 : spl (pc (R.set a (ge R p))) p [i64 (ge R a : Nat)] = pc (swp R a p) := pc_set _ _ _
  have w1 := subw1 (i := b) (by omega) (by omega)
  have hs0 : Swt a b R (swp R a p) := Swt.one (Nat.le_refl _) (by omega) hap hpb
  refine SW.seq ?_
  refine SW.g0 [0, 1, 2, 3, 4, 10, 11, 12, 13, 47, 66, 71, 120, 139, 144] mixed bq_tt ?_
  refine SW.seq ?_
  refine SW.g0 [0, 1, 2, 3, 4, 10, 11, 12, 13, 47, 66, 71, 120, 139, 144] mixed (And.intro (pc_get hx) (And.intro (pc_get hy) (And.intro (e3) (e4)))) ?_
  refine SW.seq ?_
  refine SW.g0 [0, 1, 2, 3, 4, 10, 11, 12, 13, 47, 66, 71, 120, 139, 144] mixed (w1) ?_
  generalize swp R a p = R0 at hs0
  have hl0 : R0.length = R.length := hs0.len
  have hRR : Rw D R0 := hR.swt hs0 (by omega)
  generalize hj0 : b - 1 = j0
  refine SW.cutE (α := {i : Nat // (a + 1) ≤ i ∧ i ≤ j0 + 1 ∧ Par c R0 a i j0 b ∧ (j0 < i ∨ ¬ Lt c R0 i a)}) (fun i => ⟨[(12, i64 (i.1 : Nat)), (13, i64 j0), (10, .d (.int .i64 0)), (11, .d (.bool false)), (0, .gs n m), (1, i64 a), (4, cfn g first)], (n, .arr 3 1 m (pc R0)) :: H0, k⟩) ?_ ?_
  · refine SW.block ?_
    refine SW.loop (α := {i : Nat // (a + 1) ≤ i ∧ i ≤ j0 + 1 ∧ Par c R0 a i j0 b}) (fun i => ⟨[(12, i64 (i.1 : Nat)), (13, i64 j0), (10, .d (.int .i64 0)), (11, .d (.bool false)), (0, .gs n m), (1, i64 a), (4, cfn g first)], (n, .arr 3 1 m (pc R0)) :: H0, k⟩) (fun i => j0 + 1 - i.1) ⟨(a + 1), Nat.le_refl _, by omega, by rw [← hj0]; exact Par.start⟩ id ?_ ?_
    · exact ha.weak hc m R0 (by simp [EnvW, List.lookup, SV.ren, SV.rens_id, SV.rens, SV.ok, SV.oks, o1, hn])
    rintro ⟨i, q1, q2, q3⟩
    dsimp only
    by_cases h : i ≤ j0
    · have h1 := dT (p := (i : Int) ≤ (j0 : Nat)) (by omega)
      have hx := ge_some (R := R0) (i := i) (by omega)
      have hy := ge_some (R := R0) (i := a) (by omega)
      have hcall := hc.call (ge R0 i) (ge R0 a) k (hRR.all _ (ge_mem (by omega))) (hRR.all _ (ge_mem (by omega))) ha.ok
      refine SW.seq (SW.seq ?_)
      rcases hbb : decide (c (ge R0 i) (ge R0 a) < 0) with _ | _
      · refine SW.g1 [0, 1, 2, 3, 4, 10, 11, 12, 13, 47, 66, 71, 120, 139, 144] mixed (And.intro (h1) (And.intro (pc_get hx) (And.intro (pc_get hy) (hbb)))) hcall ?_
        refine SW.condF rfl (SW.exit ?_)
        refine ⟨⟨i, q1, q2, q3, .inr (by unfold Lt; simpa using hbb)⟩, ?_⟩
        exact ha.weak hc m R0 (by simp [EnvW, List.lookup, SV.ren, SV.rens_id, SV.rens, SV.ok, SV.oks, o1, hn])
      · refine SW.g1 [0, 1, 2, 3, 4, 10, 11, 12, 13, 47, 66, 71, 120, 139, 144] mixed (And.intro (h1) (And.intro (pc_get hx) (And.intro (pc_get hy) (hbb)))) hcall ?_
        refine SW.condT rfl (SW.skip ?_)
        refine SW.block ?_
        refine SW.g0 [0, 1, 2, 3, 4, 10, 11, 12, 13, 47, 66, 71, 120, 139, 144] mixed bq_tt ?_
        refine ⟨⟨i + 1, by omega, by omega, q3.up (by unfold Lt; simpa using hbb)⟩, id, by show j0 + 1 - (i + 1) < j0 + 1 - i; omega, ?_⟩
        exact ha.weak hc m R0 (by simp [EnvW, List.lookup, SV.ren, SV.rens_id, SV.rens, SV.ok, SV.oks, o1, hn])
    · have h1 := dF (p := (i : Int) ≤ (j0 : Nat)) (by omega)
      refine SW.seq (SW.seq ?_)
      refine SW.g0 [0, 1, 2, 3, 4, 10, 11, 12, 13, 47, 66, 71, 120, 139, 144] mixed (h1) ?_
      refine SW.condF rfl (SW.exit ?_)
      refine ⟨⟨i, q1, q2, q3, .inl (by omega)⟩, ?_⟩
      exact ha.weak hc m R0 (by simp [EnvW, List.lookup, SV.ren, SV.rens_id, SV.rens, SV.ok, SV.oks, o1, hn])
  rintro ⟨i, i1, i2, i3, i4⟩
  dsimp only
  refine SW.cutE (α := {j : Nat // j ≤ j0 ∧ a ≤ j ∧ i ≤ j + 1 ∧ Par c R0 a i j b ∧ (j < i ∨ Lt c R0 j a)}) (fun j => ⟨[(12, i64 i), (13, i64 (j.1 : Nat)), (10, .d (.int .i64 0)), (11, .d (.bool false)), (0, .gs n m), (1, i64 a), (4, cfn g first)], (n, .arr 3 1 m (pc R0)) :: H0, k⟩) ?_ ?_
  · refine SW.block ?_
    refine SW.loop (α := {j : Nat // j ≤ j0 ∧ a ≤ j ∧ i ≤ j + 1 ∧ Par c R0 a i j b}) (fun j => ⟨[(12, i64 i), (13, i64 (j.1 : Nat)), (10, .d (.int .i64 0)), (11, .d (.bool false)), (0, .gs n m), (1, i64 a), (4, cfn g first)], (n, .arr 3 1 m (pc R0)) :: H0, k⟩) (fun j => j.1) ⟨j0, Nat.le_refl _, by omega, by omega, i3⟩ id ?_ ?_
    · exact ha.weak hc m R0 (by simp [EnvW, List.lookup, SV.ren, SV.rens_id, SV.rens, SV.ok, SV.oks, o1, hn])
    rintro ⟨j, q1, q2, q3, q4⟩
    dsimp only
    by_cases h : i ≤ j
    · have h1 := dT (p := ((i : Nat) : Int) ≤ (j : Nat)) (by omega)
      have hx := ge_some (R := R0) (i := j) (by omega)
      have hy := ge_some (R := R0) (i := a) (by omega)
      have hcall := hc.call (ge R0 j) (ge R0 a) k (hRR.all _ (ge_mem (by omega))) (hRR.all _ (ge_mem (by omega))) ha.ok
      have w3 := subw1 (i := j) (by omega) (by omega)
      refine SW.seq (SW.seq ?_)
      rcases hbb : decide (c (ge R0 j) (ge R0 a) < 0) with _ | _
      · refine SW.g1 [0, 1, 2, 3, 4, 10, 11, 12, 13, 47, 66, 71, 120, 139, 144] mixed (And.intro (h1) (And.intro (pc_get hx) (And.intro (pc_get hy) (hbb)))) hcall ?_
        refine SW.condT rfl (SW.skip ?_)
        refine SW.block ?_
        refine SW.g0 [0, 1, 2, 3, 4, 10, 11, 12, 13, 47, 66, 71, 120, 139, 144] mixed (w3) ?_
        have hd : Par c R0 a i (j - 1) b := Par.down hc.tot (j := j - 1) hRR (by rw [Nat.sub_add_cancel (by omega)]; exact q4) (by omega) (by omega) (by rw [Nat.sub_add_cancel (by omega)]; unfold Lt; simpa using hbb)
        refine ⟨⟨j - 1, by omega, by omega, by omega, hd⟩, id, by show j - 1 < j; omega, ?_⟩
        exact ha.weak hc m R0 (by simp [EnvW, List.lookup, SV.ren, SV.rens_id, SV.rens, SV.ok, SV.oks, o1, hn])
      · refine SW.g1 [0, 1, 2, 3, 4, 10, 11, 12, 13, 47, 66, 71, 120, 139, 144] mixed (And.intro (h1) (And.intro (pc_get hx) (And.intro (pc_get hy) (hbb)))) hcall ?_
        refine SW.condF rfl (SW.exit ?_)
        refine ⟨⟨j, q1, q2, q3, q4, .inr (by unfold Lt; simpa using hbb)⟩, ?_⟩
        exact ha.weak hc m R0 (by simp [EnvW, List.lookup, SV.ren, SV.rens_id, SV.rens, SV.ok, SV.oks, o1, hn])
    · have h1 := dF (p := ((i : Nat) : Int) ≤ (j : Nat)) (by omega)
      refine SW.seq (SW.seq ?_)
      refine SW.g0 [0, 1, 2, 3, 4, 10, 11, 12, 13, 47, 66, 71, 120, 139, 144] mixed (h1) ?_
      refine SW.condF rfl (SW.exit ?_)
      refine ⟨⟨j, q1, q2, q3, q4, .inl (by omega)⟩, ?_⟩
      exact ha.weak hc m R0 (by simp [EnvW, List.lookup, SV.ren, SV.rens_id, SV.rens, SV.ok, SV.oks, o1, hn])
  rintro ⟨j, j1, j2, j3, j4, j5⟩
  dsimp only
  by_cases hij : j < i
  · have h1 := dT (p := (i : Int) > (j : Nat)) (by omega)
    have hx2 := ge_some (R := R0) (i := a) (by omega)
    have hy2 := ge_some (R := R0) (i := j) (by omega)
    have e5 : spl (pc R0) j [i64 (ge R0 a : Nat)] = pc (R0.set j (ge R0 a)) := pc_set _ _ _
    have e6 : spl (pc (R0.set j (ge R0 a))) a [i64 (ge R0 j : Nat)] = pc (swp R0 j a) := pc_set _ _ _
    refine SW.seq (SW.seq ?_)
    refine SW.g0 [0, 1, 2, 3, 4, 10, 11, 12, 13, 47, 66, 71, 120, 139, 144] mixed (h1) ?_
    refine SW.condT rfl ?_
    refine SW.seq ?_
    refine SW.g0 [0, 1, 2, 3, 4, 10, 11, 12, 13, 47, 66, 71, 120, 139, 144] mixed (And.intro (pc_get hx2) (And.intro (pc_get hy2) (And.intro (e5) (e6)))) ?_
    refine SW.seq ?_
    refine SW.g0 [0, 1, 2, 3, 4, 10, 11, 12, 13, 47, 66, 71, 120, 139, 144] mixed bq_tt ?_
    refine SW.ret ?_
    exact End.mk (prow n m (swp R0 j a) :: H0) (h3 := fun _ _ h => h) (h4 := ⟨j, true, swp R0 j a, rfl, j2, by omega, hs0.step j2 (by omega) (Nat.le_refl _) (by omega), Par.done hc.tot hRR j4 (by omega) (by omega) (by omega) (by omega), rfl⟩) (h6 := by simpa using ha.okr m (swp R0 j a))
  · have h1 := dF (p := (i : Int) > (j : Nat)) (by omega)
    have hx2 := ge_some (R := R0) (i := i) (by omega)
    have hy2 := ge_some (R := R0) (i := j) (by omega)
    have e5 : spl (pc R0) i [i64 (ge R0 j : Nat)] = pc (R0.set i (ge R0 j)) := pc_set _ _ _
    have e6 : spl (pc (R0.set i (ge R0 j))) j [i64 (ge R0 i : Nat)] = pc (swp R0 i j) := pc_set _ _ _
    have w2 := subw1 (i := j) (by omega) (by omega)
    have hs1 : Swt a b R (swp R0 i j) := hs0.step (by omega) (by omega) (by omega) (by omega)
    have hp1 : Par c (swp R0 i j) a (i + 1) (j - 1) b := Par.swap hc.tot hRR j4 (by omega) (by omega) (by omega) (by omega) (i4.resolve_left (by omega)) (j5.resolve_left (by omega))
    have hne : i < j := by
      have h5 := j5.resolve_left (by omega)
      by_cases e : i = j
      · subst e
        exact absurd h5 (i4.resolve_left (by omega))
      · omega
    refine SW.seq (SW.seq ?_)
    refine SW.g0 [0, 1, 2, 3, 4, 10, 11, 12, 13, 47, 66, 71, 120, 139, 144] mixed (h1) ?_
    refine SW.condF rfl (SW.skip ?_)
    refine SW.seq ?_
    refine SW.g0 [0, 1, 2, 3, 4, 10, 11, 12, 13, 47, 66, 71, 120, 139, 144] mixed (And.intro (pc_get hx2) (And.intro (pc_get hy2) (And.intro (e5) (e6)))) ?_
    refine SW.seq ?_
    refine SW.g0 [0, 1, 2, 3, 4, 10, 11, 12, 13, 47, 66, 71, 120, 139, 144] mixed bq_tt ?_
    refine SW.seq ?_
    refine SW.g0 [0, 1, 2, 3, 4, 10, 11, 12, 13, 47, 66, 71, 120, 139, 144] mixed (w2) ?_
    refine SW.cutE (α := {x : Nat × Nat × List Nat // a + 1 ≤ x.1 ∧ x.1 = x.2.1 + 1 ∧ x.2.1 < b ∧ a ≤ x.2.1 ∧ Swt a b R x.2.2 ∧ Par c x.2.2 a x.1 x.2.1 b}) (fun x => ⟨[(12, i64 (x.1.1 : Nat)), (13, i64 (x.1.2.1 : Nat)), (10, .d (.int .i64 0)), (11, .d (.bool false)), (0, .gs n m), (1, i64 a), (4, cfn g first)], (n, .arr 3 1 m (pc x.1.2.2)) :: H0, k⟩) ?_ ?_
    · refine SW.block ?_
      refine SW.loop (α := {x : Nat × Nat × List Nat // a + 1 ≤ x.1 ∧ x.1 ≤ x.2.1 + 1 ∧ x.2.1 < b ∧ a ≤ x.2.1 ∧ Swt a b R x.2.2 ∧ Par c x.2.2 a x.1 x.2.1 b}) (fun x => ⟨[(12, i64 (x.1.1 : Nat)), (13, i64 (x.1.2.1 : Nat)), (10, .d (.int .i64 0)), (11, .d (.bool false)), (0, .gs n m), (1, i64 a), (4, cfn g first)], (n, .arr 3 1 m (pc x.1.2.2)) :: H0, k⟩) (fun x => x.1.2.1 + 1 - x.1.1) ⟨(i + 1, j - 1, swp R0 i j), by show a + 1 ≤ i + 1; omega, by show i + 1 ≤ j - 1 + 1; omega, by show j - 1 < b; omega, by show a ≤ j - 1; omega, hs1, hp1⟩ id ?_ ?_
      · exact ha.weak hc m (swp R0 i j) (by simp [EnvW, List.lookup, SV.ren, SV.rens_id, SV.rens, SV.ok, SV.oks, o1, hn])
      clear hs1 hp1 hne w2 e5 e6 hx2 hy2 h1 hij j5 j4 j3 j2 j1 i4 i3 i2 i1 hRR hl0 hs0
      clear i j R0
      rintro ⟨⟨i0, jj, R1⟩, q1, q2, q3, q4, hs1, hp1⟩
      simp only at q1 q2 q3 q4 hs1 hp1
      dsimp only
      have hl1 : R1.length = R.length := hs1.len
      have hRR : Rw D R1 := hR.swt hs1 (by omega)
      refine SW.block ?_
      refine SW.cutE (α := {i : Nat // i0 ≤ i ∧ i ≤ jj + 1 ∧ Par c R1 a i jj b ∧ (jj < i ∨ ¬ Lt c R1 i a)}) (fun i => ⟨[(12, i64 (i.1 : Nat)), (13, i64 jj), (10, .d (.int .i64 0)), (11, .d (.bool false)), (0, .gs n m), (1, i64 a), (4, cfn g first)], (n, .arr 3 1 m (pc R1)) :: H0, k⟩) ?_ ?_
      · refine SW.block ?_
        refine SW.loop (α := {i : Nat // i0 ≤ i ∧ i ≤ jj + 1 ∧ Par c R1 a i jj b}) (fun i => ⟨[(12, i64 (i.1 : Nat)), (13, i64 jj), (10, .d (.int .i64 0)), (11, .d (.bool false)), (0, .gs n m), (1, i64 a), (4, cfn g first)], (n, .arr 3 1 m (pc R1)) :: H0, k⟩) (fun i => jj + 1 - i.1) ⟨i0, Nat.le_refl _, by omega, hp1⟩ id ?_ ?_
        · exact ha.weak hc m R1 (by simp [EnvW, List.lookup, SV.ren, SV.rens_id, SV.rens, SV.ok, SV.oks, o1, hn])
        rintro ⟨i, q1, q2, q3⟩
        dsimp only
        by_cases h : i ≤ jj
        · have h1 := dT (p := (i : Int) ≤ (jj : Nat)) (by omega)
          have hx := ge_some (R := R1) (i := i) (by omega)
          have hy := ge_some (R := R1) (i := a) (by omega)
          have hcall := hc.call (ge R1 i) (ge R1 a) k (hRR.all _ (ge_mem (by omega))) (hRR.all _ (ge_mem (by omega))) ha.ok
          refine SW.seq (SW.seq ?_)
          rcases hbb : decide (c (ge R1 i) (ge R1 a) < 0) with _ | _
          · refine SW.g1 [0, 1, 2, 3, 4, 10, 11, 12, 13, 47, 66, 71, 120, 139, 144] mixed (And.intro (h1) (And.intro (pc_get hx) (And.intro (pc_get hy) (hbb)))) hcall ?_
            refine SW.condF rfl (SW.exit ?_)
            refine ⟨⟨i, q1, q2, q3, .inr (by unfold Lt; simpa using hbb)⟩, ?_⟩
            exact ha.weak hc m R1 (by simp [EnvW, List.lookup, SV.ren, SV.rens_id, SV.rens, SV.ok, SV.oks, o1, hn])
          · refine SW.g1 [0, 1, 2, 3, 4, 10, 11, 12, 13, 47, 66, 71, 120, 139, 144] mixed (And.intro (h1) (And.intro (pc_get hx) (And.intro (pc_get hy) (hbb)))) hcall ?_
            refine SW.condT rfl (SW.skip ?_)
            refine SW.block ?_
            refine SW.g0 [0, 1, 2, 3, 4, 10, 11, 12, 13, 47, 66, 71, 120, 139, 144] mixed bq_tt ?_
            refine ⟨⟨i + 1, by omega, by omega, q3.up (by unfold Lt; simpa using hbb)⟩, id, by show jj + 1 - (i + 1) < jj + 1 - i; omega, ?_⟩
            exact ha.weak hc m R1 (by simp [EnvW, List.lookup, SV.ren, SV.rens_id, SV.rens, SV.ok, SV.oks, o1, hn])
        · have h1 := dF (p := (i : Int) ≤ (jj : Nat)) (by omega)
          refine SW.seq (SW.seq ?_)
          refine SW.g0 [0, 1, 2, 3, 4, 10, 11, 12, 13, 47, 66, 71, 120, 139, 144] mixed (h1) ?_
          refine SW.condF rfl (SW.exit ?_)
          refine ⟨⟨i, q1, q2, q3, .inl (by omega)⟩, ?_⟩
          exact ha.weak hc m R1 (by simp [EnvW, List.lookup, SV.ren, SV.rens_id, SV.rens, SV.ok, SV.oks, o1, hn])
      rintro ⟨i, i1, i2, i3, i4⟩
      dsimp only
      refine SW.cutE (α := {j : Nat // j ≤ jj ∧ a ≤ j ∧ i ≤ j + 1 ∧ Par c R1 a i j b ∧ (j < i ∨ Lt c R1 j a)}) (fun j => ⟨[(12, i64 i), (13, i64 (j.1 : Nat)), (10, .d (.int .i64 0)), (11, .d (.bool false)), (0, .gs n m), (1, i64 a), (4, cfn g first)], (n, .arr 3 1 m (pc R1)) :: H0, k⟩) ?_ ?_
      · refine SW.block ?_
        refine SW.loop (α := {j : Nat // j ≤ jj ∧ a ≤ j ∧ i ≤ j + 1 ∧ Par c R1 a i j b}) (fun j => ⟨[(12, i64 i), (13, i64 (j.1 : Nat)), (10, .d (.int .i64 0)), (11, .d (.bool false)), (0, .gs n m), (1, i64 a), (4, cfn g first)], (n, .arr 3 1 m (pc R1)) :: H0, k⟩) (fun j => j.1) ⟨jj, Nat.le_refl _, by omega, by omega, i3⟩ id ?_ ?_
        · exact ha.weak hc m R1 (by simp [EnvW, List.lookup, SV.ren, SV.rens_id, SV.rens, SV.ok, SV.oks, o1, hn])
        rintro ⟨j, q1, q2, q3, q4⟩
        dsimp only
        by_cases h : i ≤ j
        · have h1 := dT (p := ((i : Nat) : Int) ≤ (j : Nat)) (by omega)
          have hx := ge_some (R := R1) (i := j) (by omega)
          have hy := ge_some (R := R1) (i := a) (by omega)
          have hcall := hc.call (ge R1 j) (ge R1 a) k (hRR.all _ (ge_mem (by omega))) (hRR.all _ (ge_mem (by omega))) ha.ok
          have w3 := subw1 (i := j) (by omega) (by omega)
          refine SW.seq (SW.seq ?_)
          rcases hbb : decide (c (ge R1 j) (ge R1 a) < 0) with _ | _
          · refine SW.g1 [0, 1, 2, 3, 4, 10, 11, 12, 13, 47, 66, 71, 120, 139, 144] mixed (And.intro (h1) (And.intro (pc_get hx) (And.intro (pc_get hy) (hbb)))) hcall ?_
            refine SW.condT rfl (SW.skip ?_)
            refine SW.block ?_
            refine SW.g0 [0, 1, 2, 3, 4, 10, 11, 12, 13, 47, 66, 71, 120, 139, 144] mixed (w3) ?_
            have hd : Par c R1 a i (j - 1) b := Par.down hc.tot (j := j - 1) hRR (by rw [Nat.sub_add_cancel (by omega)]; exact q4) (by omega) (by omega) (by rw [Nat.sub_add_cancel (by omega)]; unfold Lt; simpa using hbb)
            refine ⟨⟨j - 1, by omega, by omega, by omega, hd⟩, id, by show j - 1 < j; omega, ?_⟩
            exact ha.weak hc m R1 (by simp [EnvW, List.lookup, SV.ren, SV.rens_id, SV.rens, SV.ok, SV.oks, o1, hn])
          · refine SW.g1 [0, 1, 2, 3, 4, 10, 11, 12, 13, 47, 66, 71, 120, 139, 144] mixed (And.intro (h1) (And.intro (pc_get hx) (And.intro (pc_get hy) (hbb)))) hcall ?_
            refine SW.condF rfl (SW.exit ?_)
            refine ⟨⟨j, q1, q2, q3, q4, .inr (by unfold Lt; simpa using hbb)⟩, ?_⟩
            exact ha.weak hc m R1 (by simp [EnvW, List.lookup, SV.ren, SV.rens_id, SV.rens, SV.ok, SV.oks, o1, hn])
        · have h1 := dF (p := ((i : Nat) : Int) ≤ (j : Nat)) (by omega)
          refine SW.seq (SW.seq ?_)
          refine SW.g0 [0, 1, 2, 3, 4, 10, 11, 12, 13, 47, 66, 71, 120, 139, 144] mixed (h1) ?_
          refine SW.condF rfl (SW.exit ?_)
          refine ⟨⟨j, q1, q2, q3, q4, .inl (by omega)⟩, ?_⟩
          exact ha.weak hc m R1 (by simp [EnvW, List.lookup, SV.ren, SV.rens_id, SV.rens, SV.ok, SV.oks, o1, hn])
      rintro ⟨j, j1, j2, j3, j4, j5⟩
      dsimp only
      by_cases hij : j < i
      · have h1 := dT (p := (i : Int) > (j : Nat)) (by omega)
        refine SW.seq (SW.seq ?_)
        refine SW.g0 [0, 1, 2, 3, 4, 10, 11, 12, 13, 47, 66, 71, 120, 139, 144] mixed (h1) ?_
        refine SW.condT rfl (SW.exit ?_)
        refine ⟨⟨(i, j, R1), by show a + 1 ≤ i; omega, by show i = j + 1; omega, by show j < b; omega, j2, hs1, j4⟩, ?_⟩
        exact ha.weak hc m R1 (by simp [EnvW, List.lookup, SV.ren, SV.rens_id, SV.rens, SV.ok, SV.oks, o1, hn])
      · have h1 := dF (p := (i : Int) > (j : Nat)) (by omega)
        have hx2 := ge_some (R := R1) (i := i) (by omega)
        have hy2 := ge_some (R := R1) (i := j) (by omega)
        have e5 : spl (pc R1) i [i64 (ge R1 j : Nat)] = pc (R1.set i (ge R1 j)) := pc_set _ _ _
        have e6 : spl (pc (R1.set i (ge R1 j))) j [i64 (ge R1 i : Nat)] = pc (swp R1 i j) := pc_set _ _ _
        have w2 := subw1 (i := j) (by omega) (by omega)
        have hp2 : Par c (swp R1 i j) a (i + 1) (j - 1) b := Par.swap hc.tot hRR j4 (by omega) (by omega) (by omega) (by omega) (i4.resolve_left (by omega)) (j5.resolve_left (by omega))
        have hne : i < j := by
          have h5 := j5.resolve_left (by omega)
          by_cases e : i = j
          · subst e
            exact absurd h5 (i4.resolve_left (by omega))
          · omega
        refine SW.seq (SW.seq ?_)
        refine SW.g0 [0, 1, 2, 3, 4, 10, 11, 12, 13, 47, 66, 71, 120, 139, 144] mixed (h1) ?_
        refine SW.condF rfl (SW.skip ?_)
        refine SW.seq ?_
        refine SW.g0 [0, 1, 2, 3, 4, 10, 11, 12, 13, 47, 66, 71, 120, 139, 144] mixed (And.intro (pc_get hx2) (And.intro (pc_get hy2) (And.intro (e5) (e6)))) ?_
        refine SW.seq ?_
        refine SW.g0 [0, 1, 2, 3, 4, 10, 11, 12, 13, 47, 66, 71, 120, 139, 144] mixed bq_tt ?_
        refine SW.g0 [0, 1, 2, 3, 4, 10, 11, 12, 13, 47, 66, 71, 120, 139, 144] mixed (w2) ?_
        refine ⟨⟨(i + 1, j - 1, swp R1 i j), by show a + 1 ≤ i + 1; omega, by show i + 1 ≤ j - 1 + 1; omega, by show j - 1 < b; omega, by show a ≤ j - 1; omega, hs1.step (by omega) (by omega) (by omega) (by omega), hp2⟩, id, by show j - 1 + 1 - (i + 1) < jj + 1 - i0; omega, ?_⟩
        exact ha.weak hc m (swp R1 i j) (by simp [EnvW, List.lookup, SV.ren, SV.rens_id, SV.rens, SV.ok, SV.oks, o1, hn])
    clear hs1 hp1 hne w2 e5 e6 hx2 hy2 h1 hij j5 j4 j3 j2 j1 i4 i3 i2 i1 hRR hl0 hs0
    clear i j R0
    rintro ⟨⟨i, j, R1⟩, q1, q2, q3, q4, hs1, hp1⟩
    simp only at q1 q2 q3 q4 hs1 hp1
    dsimp only
    have hl1 : R1.length = R.length := hs1.len
    have hRR : Rw D R1 := hR.swt hs1 (by omega)
    have hx2 := ge_some (R := R1) (i := a) (by omega)
    have hy2 := ge_some (R := R1) (i := j) (by omega)
    have e5 : spl (pc R1) j [i64 (ge R1 a : Nat)] = pc (R1.set j (ge R1 a)) := pc_set _ _ _
    have e6 : spl (pc (R1.set j (ge R1 a))) a [i64 (ge R1 j : Nat)] = pc (swp R1 j a) := pc_set _ _ _
    refine SW.seq ?_
    refine SW.g0 [0, 1, 2, 3, 4, 10, 11, 12, 13, 47, 66, 71, 120, 139, 144] mixed (And.intro (pc_get hx2) (And.intro (pc_get hy2) (And.intro (e5) (e6)))) ?_
    refine SW.seq ?_
    refine SW.g0 [0, 1, 2, 3, 4, 10, 11, 12, 13, 47, 66, 71, 120, 139, 144] mixed bq_tt ?_
    refine SW.ret ?_
    exact End.mk (prow n m (swp R1 j a) :: H0) (h3 := fun _ _ h => h) (h4 := ⟨j, false, swp R1 j a, rfl, q4, q3, hs1.step q4 q3 (Nat.le_refl _) (by omega), Par.done hc.tot hRR hp1 (by omega) q2 (by omega) (by omega), rfl⟩) (h6 := by simpa using ha.okr m (swp R1 j a))
theorem part_at {m : Nat} {R : List Nat} (hR : Rw D R) (hm : R.length = m) (a b p : Nat) (hap : a ≤ p) (hpb : p < b) (hb : b ≤ m) (hl : m < 256) :
    SC Try.prog slices_partitionCmpFunc_int.f [.gs n m, i64 a, i64 b, i64 p, cfn g first] (prow n m R :: H0) k 0 fun r F => ∃ q ap R', r = .tup [i64 (q : Nat), bl ap] ∧ a ≤ q ∧ q < b ∧ Swt a b R R' ∧ Spl c R' a q b ∧ F = prow n m R' :: H0 :=
  ha.here hc (part_sb hc ha hR hm a b p hap hpb hb hl) (by have h := cok ha hc m R; simp only [lk_cons] at h; simp [SV.oks, SV.ok, lk_cons, h]) fun r F ⟨q, ap, R', h1, _, _, _, _, h2⟩ => ⟨by rw [h1]; intro q; rfl, R', h2⟩
end
end Go.Proofs.Ytamokhfmnhpnlaa

/-
  Sorting places by a function: a heap.
-/
set_option linter.unusedSectionVars false
set_option linter.unusedVariables false
set_option linter.unusedSimpArgs false
namespace Go.Proofs.Ytamokhfmnhpnlaa
open Go.Sl Go.Proofs
attribute [local irreducible] SW RW SCd SC CallP Pruned
theorem wrapm1 {q : Nat} (h : q < 256) : IntKind.i64.wrap ((q : Int) - 1) = (q : Int) - 1 := by
  rcases q with _ | q
  · decide
  · rw [show ((q + 1 : Nat) : Int) - 1 = (q : Int) by omega]
    exact wrap_i64 _ (by omega)
section
variable {g : Nat} {first : List SV} {H0 : Hp} {c : Nat → Nat → Int} {D : Nat → Prop} {n k : Nat}
theorem pmrg {m : Nat} {R R' : List Nat} (hc : CmpC Try.prog g first H0 c D) (ha : At H0 n k) : hmrg false (prow n m R :: H0) (prow n m R :: H0) (prow n m R' :: H0) = prow n m R' :: H0 := mrg_tail (pre := []) rfl (nd_cons ha.no hc.nd)
variable (hc : CmpC Try.prog g first H0 c D) (ha : At H0 n k)
include hc ha
set_option maxHeartbeats 4000000 in
theorem sift_sb {m : Nat} {R : List Nat} (hR : Rw D R) (hm : R.length = m) (lo hi f : Nat) (hlo : lo < 256) (hf : f + hi ≤ m) (hl : m < 256) (hh : Hea c R f (lo + 1) hi) :
    SB Try.prog slices_siftDownCmpFunc_int.f [.gs n m, i64 lo, i64 hi, i64 f, cfn g first] (prow n m R :: H0) k 0 fun r F => r = .tup [] ∧ ∃ R', Swt (f + lo) (f + hi) R R' ∧ Hea c R' f lo hi ∧ F = prow n m R' :: H0 := by
  have o1 := ha.fo hc
  have hn := ha.lt
  refine slices_siftDownCmpFunc_int.enter (by simp [SV.ok, SV.oks, o1, hn]) (ha.okr m R) (by simp [SV.oks]) ?_
  dsimp only [slices_siftDownCmpFunc_int.s, Co.M, Co.G, Co.J, Co.H, Co.N, Co.F, Co.C, Co.Z, Co.B, Co.b8, Co.b32, Co.b64, Co.i6, Co.z8, Co.z29]
  refine SW.seq ?_
  refine SW.g0 [0, 1, 2, 3, 4, 10, 11, 18, 40, 58] mixed bq_tt ?_
  refine SW.block ?_
  refine SW.loop (α := {x : Nat × List Nat // lo ≤ x.1 ∧ x.1 < 256 ∧ Swt (f + lo) (f + hi) R x.2 ∧ Sif c x.2 f lo hi x.1})
    (fun x => ⟨[(10, i64 (x.1.1 : Nat)), (0, .gs n m), (2, i64 hi), (3, i64 f), (4, cfn g first)], (n, .arr 3 1 m (pc x.1.2)) :: H0, k⟩) (fun x => 256 - x.1.1)
    ⟨(lo, R), Nat.le_refl _, hlo, .refl, Sif.start hh⟩ id ?_ ?_
  · exact ha.weak hc m R (by simp [EnvW, List.lookup, SV.ren, SV.rens_id, SV.rens, SV.ok, SV.oks, o1, hn])
  rintro ⟨⟨root, R1⟩, q1, q2, hs, hsi⟩
  simp only at q1 q2 hs hsi
  dsimp only
  have hl1 : R1.length = R.length := hs.len
  have hRR : Rw D R1 := hR.swt hs (by omega)
  have fin : ∀ env, Hea c R1 f lo hi → Go.Sl.Fin k 0 slices_siftDownCmpFunc_int.rv (fun r F => r = .tup [] ∧ ∃ R', Swt (f + lo) (f + hi) R R' ∧ Hea c R' f lo hi ∧ F = prow n m R' :: H0) ⟨env, (n, .arr 3 1 m (pc R1)) :: H0, k⟩ := fun env hd =>
    End.mk (prow n m R1 :: H0) (h3 := fun _ _ h => h) (h4 := ⟨rfl, R1, hs, hd, rfl⟩) (h6 := by simpa using ha.okr m R1)
  have mu : IntKind.i64.wrap (2 * (root : Int)) = ((2 * root : Nat) : Int) := by
    rw [show 2 * (root : Int) = ((2 * root : Nat) : Int) by omega]
    exact wrap_i64 _ (by omega)
  refine SW.block ?_
  refine SW.seq ?_
  refine SW.g0 [0, 1, 2, 3, 4, 10, 11, 18, 40, 58] mixed (mu) ?_
  by_cases h : hi ≤ 2 * root + 1
  · have h1 := dT (p := ((2 * root + 1 : Nat) : Int) ≥ (hi : Nat)) (by omega)
    refine SW.seq (SW.seq ?_)
    refine SW.g0 [0, 1, 2, 3, 4, 10, 11, 18, 40, 58] mixed (h1) ?_
    refine SW.condT rfl (SW.exit ?_)
    exact fin _ (hsi.leaf h)
  have h1 := dF (p := ((2 * root + 1 : Nat) : Int) ≥ (hi : Nat)) (by omega)
  refine SW.seq (SW.seq ?_)
  refine SW.g0 [0, 1, 2, 3, 4, 10, 11, 18, 40, 58] mixed (h1) ?_
  refine SW.condF rfl (SW.skip ?_)
  refine SW.cutE (α := {ch : Nat // Big c R1 f hi root ch}) (fun ch => ⟨[(11, i64 (ch.1 : Nat)), (10, i64 root), (0, .gs n m), (2, i64 hi), (3, i64 f), (4, cfn g first)], (n, .arr 3 1 m (pc R1)) :: H0, k⟩) ?_ ?_
  · refine SW.seq ?_
    by_cases h2 : 2 * root + 2 < hi
    · have h3 := dT (p := ((2 * root + 1 + 1 : Nat) : Int) < (hi : Nat)) (by omega)
      have hx := ge_some (R := R1) (i := f + (2 * root + 1)) (by omega)
      have hy := ge_some (R := R1) (i := f + (2 * root + 1) + 1) (by omega)
      have hcall := hc.call (ge R1 (f + (2 * root + 1))) (ge R1 (f + (2 * root + 1) + 1)) k (hRR.all _ (ge_mem (by omega))) (hRR.all _ (ge_mem (by omega))) ha.ok
      rcases hbb : decide (c (ge R1 (f + (2 * root + 1))) (ge R1 (f + (2 * root + 1) + 1)) < 0) with _ | _
      · refine SW.g1 [0, 1, 2, 3, 4, 10, 11, 18, 40, 58] mixed (And.intro (h3) (And.intro (pc_get hx) (And.intro (pc_get hy) (hbb)))) hcall ?_
        refine SW.condF rfl (SW.skip ?_)
        refine ⟨⟨2 * root + 1, .inl rfl, by omega, fun z hz1 hz2 hz3 => ?_⟩, ?_⟩
        · have : z = 2 * root + 1 + 1 := by omega
          subst this
          exact Lt.tot hc.tot hRR (by omega) (by omega) (by omega) (by unfold Lt; simpa [Nat.add_assoc] using hbb)
        · exact ha.weak hc m R1 (by simp [EnvW, List.lookup, SV.ren, SV.rens_id, SV.rens, SV.ok, SV.oks, o1, hn])
      · refine SW.g1 [0, 1, 2, 3, 4, 10, 11, 18, 40, 58] mixed (And.intro (h3) (And.intro (pc_get hx) (And.intro (pc_get hy) (hbb)))) hcall ?_
        refine SW.condT rfl ?_
        refine SW.g0 [0, 1, 2, 3, 4, 10, 11, 18, 40, 58] mixed bq_tt ?_
        refine ⟨⟨2 * root + 1 + 1, .inr rfl, by omega, fun z hz1 hz2 hz3 => ?_⟩, ?_⟩
        · have : z = 2 * root + 1 := by omega
          subst this
          unfold Lt
          simpa [Nat.add_assoc] using hbb
        · exact ha.weak hc m R1 (by simp [EnvW, List.lookup, SV.ren, SV.rens_id, SV.rens, SV.ok, SV.oks, o1, hn])
    · have h3 := dF (p := ((2 * root + 1 + 1 : Nat) : Int) < (hi : Nat)) (by omega)
      refine SW.g0 [0, 1, 2, 3, 4, 10, 11, 18, 40, 58] mixed (h3) ?_
      refine SW.condF rfl (SW.skip ?_)
      refine ⟨⟨2 * root + 1, .inl rfl, by omega, fun z hz1 hz2 hz3 => by omega⟩, ?_⟩
      exact ha.weak hc m R1 (by simp [EnvW, List.lookup, SV.ren, SV.rens_id, SV.rens, SV.ok, SV.oks, o1, hn])
  rintro ⟨ch, hch⟩
  dsimp only
  have hc1 := hch.1
  have hc2 := hch.2.1
  have hx := ge_some (R := R1) (i := f + root) (by omega)
  have hy := ge_some (R := R1) (i := f + ch) (by omega)
  have hcall := hc.call (ge R1 (f + root)) (ge R1 (f + ch)) k (hRR.all _ (ge_mem (by omega))) (hRR.all _ (ge_mem (by omega))) ha.ok
  have e5 : spl (pc R1) (f + root) [i64 (ge R1 (f + ch) : Nat)] = pc (R1.set (f + root) (ge R1 (f + ch))) := pc_set _ _ _
  have e6 : spl (pc (R1.set (f + root) (ge R1 (f + ch)))) (f + ch) [i64 (ge R1 (f + root) : Nat)] = pc (swp R1 (f + root) (f + ch)) := pc_set _ _ _
  refine SW.seq (SW.seq ?_)
  rcases hbb : decide (c (ge R1 (f + root)) (ge R1 (f + ch)) < 0) with _ | _
  · refine SW.g1 [0, 1, 2, 3, 4, 10, 11, 18, 40, 58] mixed (And.intro (pc_get hx) (And.intro (pc_get hy) (hbb))) hcall ?_
    refine SW.condT rfl (SW.ret ?_)
    exact fin _ (hsi.stop hc.tot hRR (by omega) hch (by omega) (by unfold Lt; simpa using hbb))
  · refine SW.g1 [0, 1, 2, 3, 4, 10, 11, 18, 40, 58] mixed (And.intro (pc_get hx) (And.intro (pc_get hy) (hbb))) hcall ?_
    refine SW.condF rfl (SW.skip ?_)
    refine SW.seq ?_
    refine SW.g0 [0, 1, 2, 3, 4, 10, 11, 18, 40, 58] mixed (And.intro (pc_get hx) (And.intro (pc_get hy) (And.intro (e5) (e6)))) ?_
    refine SW.g0 [0, 1, 2, 3, 4, 10, 11, 18, 40, 58] mixed bq_tt ?_
    refine ⟨⟨(ch, swp R1 (f + root) (f + ch)), by show lo ≤ ch; omega, by show ch < 256; omega, hs.step (by omega) (by omega) (by omega) (by omega), hsi.next (by omega) q1 hch (by omega) (by unfold Lt; simpa using hbb)⟩, id, by show 256 - ch < 256 - root; omega, ?_⟩
    exact ha.weak hc m (swp R1 (f + root) (f + ch)) (by simp [EnvW, List.lookup, SV.ren, SV.rens_id, SV.rens, SV.ok, SV.oks, o1, hn])
theorem sift_at {m : Nat} {R : List Nat} (hR : Rw D R) (hm : R.length = m) (lo hi f : Nat) (hlo : lo < 256) (hf : f + hi ≤ m) (hl : m < 256) (hh : Hea c R f (lo + 1) hi) :
    SC Try.prog slices_siftDownCmpFunc_int.f [.gs n m, i64 lo, i64 hi, i64 f, cfn g first] (prow n m R :: H0) k 0 fun r F => r = .tup [] ∧ ∃ R', Swt (f + lo) (f + hi) R R' ∧ Hea c R' f lo hi ∧ F = prow n m R' :: H0 :=
  ha.here hc (sift_sb hc ha hR hm lo hi f hlo hf hl hh) (by have h := cok ha hc m R; simp only [lk_cons] at h; simp [SV.oks, SV.ok, lk_cons, h]) fun r F ⟨h1, R', _, _, h2⟩ => ⟨by rw [h1]; intro q; rfl, R', h2⟩
set_option maxHeartbeats 4000000 in
theorem heap_sb {m : Nat} {R : List Nat} (hR : Rw D R) (hm : R.length = m) (a b : Nat) (hab : a < b) (hb : b ≤ m) (hl : m < 256) :
    SB Try.prog slices_heapSortCmpFunc_int.f [.gs n m, i64 a, i64 b, cfn g first] (prow n m R :: H0) k 0 fun r F => r = .tup [] ∧ ∃ R', Swt a b R R' ∧ Srt c R' a b ∧ F = prow n m R' :: H0 := by
  have o1 := ha.fo hc
  have hn := ha.lt
  refine slices_heapSortCmpFunc_int.enter (by simp [SV.ok, SV.oks, o1, hn]) (ha.okr m R) (by simp [SV.oks]) ?_
  dsimp only [slices_heapSortCmpFunc_int.s, Co.M, Co.G, Co.J, Co.H, Co.N, Co.F, Co.C, Co.Z, Co.B, Co.b8, Co.b32, Co.b64, Co.i6, Co.z8, Co.z29]
  have w1 := subw (i := b) (j := a) (by omega) (by omega)
  obtain ⟨hi, hhi⟩ : ∃ hi, hi = b - a := ⟨_, rfl⟩
  rw [← hhi] at w1
  have w2 := subw1 (i := hi) (by omega) (by omega)
  have w3 : IntKind.i64.wrap (((hi - 1 : Nat) : Int).tdiv 2) = (((hi - 1) / 2 : Nat) : Int) := by
    show IntKind.i64.wrap (((hi - 1) / 2 : Nat) : Int) = _
    exact wrap_i64 _ (by omega)
  have hab2 : a + hi = b := by omega
  refine SW.seq ?_
  refine SW.g0 [0, 1, 2, 3, 8, 9, 10, 11, 12, 21, 33] mixed bq_tt ?_
  refine SW.seq ?_
  refine SW.g0 [0, 1, 2, 3, 8, 9, 10, 11, 12, 21, 33] mixed bq_tt ?_
  refine SW.seq ?_
  refine SW.g0 [0, 1, 2, 3, 8, 9, 10, 11, 12, 21, 33] mixed (w1) ?_
  refine SW.cutE (α := {R1 : List Nat // Swt a b R R1 ∧ Hea c R1 a 0 hi}) (fun x => ⟨[(8, i64 a), (9, .d (.int .i64 0)), (10, i64 hi), (0, .gs n m), (3, cfn g first)], (n, .arr 3 1 m (pc x.1)) :: H0, k⟩) ?_ ?_
  · refine SW.seq ?_
    refine SW.g0 [0, 1, 2, 3, 8, 9, 10, 11, 12, 21, 33] mixed (And.intro (w2) (w3)) ?_
    refine SW.block ?_
    refine SW.loop (α := {x : Nat × List Nat // x.1 ≤ (hi - 1) / 2 + 1 ∧ Swt a b R x.2 ∧ Hea c x.2 a x.1 hi})
      (fun x => ⟨[(11, i64 ((x.1.1 : Int) - 1)), (8, i64 a), (9, .d (.int .i64 0)), (10, i64 hi), (0, .gs n m), (3, cfn g first)], (n, .arr 3 1 m (pc x.1.2)) :: H0, k⟩) (fun x => x.1.1)
      ⟨((hi - 1) / 2 + 1, R), Nat.le_refl _, .refl, fun p ch z1 z2 z3 => by simp only at z1; omega⟩ id ?_ ?_
    · refine ha.weak hc m R ?_
      have : (((hi - 1) / 2 + 1 : Nat) : Int) - 1 = (((hi - 1) / 2 : Nat) : Int) := by omega
      simp only [this]
      simp [EnvW, List.lookup, SV.ren, SV.rens_id, SV.rens, SV.ok, SV.oks, o1, hn]
    rintro ⟨⟨q, R1⟩, q1, hs, hh⟩
    simp only at q1 hs hh
    dsimp only
    have hl1 : R1.length = R.length := hs.len
    have hRR : Rw D R1 := hR.swt hs (by omega)
    rcases q with _ | q
    · have h1 := dF (p := ((0 : Nat) : Int) - 1 ≥ 0) (by omega)
      refine SW.seq (SW.seq ?_)
      refine SW.g0 [0, 1, 2, 3, 8, 9, 10, 11, 12, 21, 33] mixed (h1) ?_
      refine SW.condF rfl (SW.exit ?_)
      refine ⟨⟨R1, hs, hh⟩, ?_⟩
      exact ha.weak hc m R1 (by simp [EnvW, List.lookup, SV.ren, SV.rens_id, SV.rens, SV.ok, SV.oks, o1, hn])
    · have h1 := dT (p := (q : Int) ≥ 0) (by omega)
      have w4 : IntKind.i64.wrap ((q : Int) - 1) = (q : Int) - 1 := wrapm1 (by omega)
      rw [show ((q + 1 : Nat) : Int) - 1 = (q : Int) by omega]
      refine SW.seq (SW.seq ?_)
      refine SW.g0 [0, 1, 2, 3, 8, 9, 10, 11, 12, 21, 33] mixed (h1) ?_
      refine SW.condT rfl (SW.skip ?_)
      refine SW.seq (SW.block (SW.ofN ?_))
      (repeat (first | refine SWn.op bq_tt (h := ?_) | refine SWn.opN bq_tt (h := ?_) | refine SWn.skip (h := ?_)))
      refine SWn.callC (sift_at hc ha hRR (by omega) q hi a (by omega) (by omega) hl hh) (fun _ _ h => h) (h := ?_)
      rintro _ _ ⟨rfl, R2, hs2, hh2, rfl⟩
      rw [pmrg hc ha]
      refine SWn.nil ?_
      refine SW.g0 [0, 1, 2, 3, 8, 9, 10, 11, 12, 21, 33] mixed (w4) ?_
      refine ⟨⟨(q, R2), by show q ≤ (hi - 1) / 2 + 1; omega, hs.trans (hs2.mono (by omega) (by omega)), hh2⟩, id, by show q < q + 1; omega, ?_⟩
      exact ha.weak hc m R2 (by simp [EnvW, List.lookup, SV.ren, SV.rens_id, SV.rens, SV.ok, SV.oks, o1, hn])
  rintro ⟨R0, hs0, hh0⟩
  dsimp only
  refine SW.seq ?_
  refine SW.g0 [0, 1, 2, 3, 8, 9, 10, 11, 12, 21, 33] mixed (w2) ?_
  refine SW.block ?_
  refine SW.loop (α := {x : Nat × List Nat // x.1 ≤ hi ∧ Swt a b R x.2 ∧ Hea c x.2 a 0 x.1 ∧ Tail c x.2 a (a + x.1) b})
    (fun x => ⟨[(12, i64 ((x.1.1 : Int) - 1)), (8, i64 a), (9, .d (.int .i64 0)), (0, .gs n m), (3, cfn g first)], (n, .arr 3 1 m (pc x.1.2)) :: H0, k⟩) (fun x => x.1.1)
    ⟨(hi, R0), Nat.le_refl _, hs0, hh0, by simp only; rw [hab2]; exact Tail.start⟩ id ?_ ?_
  · refine ha.weak hc m R0 ?_
    have : (hi : Int) - 1 = ((hi - 1 : Nat) : Int) := by omega
    simp only [this]
    simp [EnvW, List.lookup, SV.ren, SV.rens_id, SV.rens, SV.ok, SV.oks, o1, hn]
  rintro ⟨⟨q, R1⟩, q1, hs, hh, ht⟩
  simp only at q1 hs hh ht
  dsimp only
  have hl1 : R1.length = R.length := hs.len
  have hRR : Rw D R1 := hR.swt hs (by omega)
  rcases q with _ | q
  · have h1 := dF (p := ((0 : Nat) : Int) - 1 ≥ 0) (by omega)
    refine SW.seq (SW.seq ?_)
    refine SW.g0 [0, 1, 2, 3, 8, 9, 10, 11, 12, 21, 33] mixed (h1) ?_
    refine SW.condF rfl (SW.exit ?_)
    have fin : ∀ env, Go.Sl.Fin k 0 slices_heapSortCmpFunc_int.rv (fun r F => r = .tup [] ∧ ∃ R', Swt a b R R' ∧ Srt c R' a b ∧ F = prow n m R' :: H0) ⟨env, (n, .arr 3 1 m (pc R1)) :: H0, k⟩ := fun env =>
      End.mk (prow n m R1 :: H0) (h3 := fun _ _ h => h) (h4 := ⟨rfl, R1, hs, ht.1, rfl⟩) (h6 := by simpa using ha.okr m R1)
    exact fin _
  · have h1 := dT (p := (q : Int) ≥ 0) (by omega)
    have w4 : IntKind.i64.wrap ((q : Int) - 1) = (q : Int) - 1 := wrapm1 (by omega)
    have hx := ge_some (R := R1) (i := a) (by omega)
    have hy := ge_some (R := R1) (i := a + q) (by omega)
    have e5 : spl (pc R1) a [i64 (ge R1 (a + q) : Nat)] = pc (R1.set a (ge R1 (a + q))) := pc_set _ _ _
    have e6 : spl (pc (R1.set a (ge R1 (a + q)))) (a + q) [i64 (ge R1 a : Nat)] = pc (swp R1 a (a + q)) := pc_set _ _ _
    have hs1 : Swt a b R (swp R1 a (a + q)) := hs.step (Nat.le_refl _) (by omega) (by omega) (by omega)
    have ht1 : Tail c (swp R1 a (a + q)) a (a + q) b := Tail.pop hc.tot hRR (by omega) (by omega) ht hh rfl
    have hh1 : Hea c (swp R1 a (a + q)) a (0 + 1) q := Hea.popped (b := b) (by omega) hh
    rw [show ((q + 1 : Nat) : Int) - 1 = (q : Int) by omega]
    refine SW.seq (SW.seq ?_)
    refine SW.g0 [0, 1, 2, 3, 8, 9, 10, 11, 12, 21, 33] mixed (h1) ?_
    refine SW.condT rfl (SW.skip ?_)
    refine SW.seq (SW.block (SW.seq ?_))
    refine SW.g0 [0, 1, 2, 3, 8, 9, 10, 11, 12, 21, 33] mixed (And.intro (pc_get hx) (And.intro (pc_get hy) (And.intro (e5) (e6)))) ?_
    generalize swp R1 a (a + q) = R3 at hs1 ht1 hh1
    have hl3 : R3.length = R.length := hs1.len
    have hR3 : Rw D R3 := hR.swt hs1 (by omega)
    refine SW.ofN ?_
    (repeat (first | refine SWn.op bq_tt (h := ?_) | refine SWn.opN bq_tt (h := ?_) | refine SWn.skip (h := ?_)))
    refine SWn.callC (sift_at hc ha hR3 (by omega) 0 q a (by omega) (by omega) hl hh1) (fun _ _ h => h) (h := ?_)
    rintro _ _ ⟨rfl, R2, hs2, hh2, rfl⟩
    rw [pmrg hc ha]
    refine SWn.nil ?_
    refine SW.g0 [0, 1, 2, 3, 8, 9, 10, 11, 12, 21, 33] mixed (w4) ?_
    refine ⟨⟨(q, R2), by show q ≤ hi; omega, hs1.trans (hs2.mono (by omega) (by omega)), hh2, ht1.keep (by simpa using hs2) (by omega) (by omega)⟩, id, by show q < q + 1; omega, ?_⟩
    exact ha.weak hc m R2 (by simp [EnvW, List.lookup, SV.ren, SV.rens_id, SV.rens, SV.ok, SV.oks, o1, hn])
theorem heap_at {m : Nat} {R : List Nat} (hR : Rw D R) (hm : R.length = m) (a b : Nat) (hab : a < b) (hb : b ≤ m) (hl : m < 256) :
    SC Try.prog slices_heapSortCmpFunc_int.f [.gs n m, i64 a, i64 b, cfn g first] (prow n m R :: H0) k 0 fun r F => r = .tup [] ∧ ∃ R', Swt a b R R' ∧ Srt c R' a b ∧ F = prow n m R' :: H0 :=
  ha.here hc (heap_sb hc ha hR hm a b hab hb hl) (by have h := cok ha hc m R; simp only [lk_cons] at h; simp [SV.oks, SV.ok, lk_cons, h]) fun r F ⟨h1, R', _, _, h2⟩ => ⟨by rw [h1]; intro q; rfl, R', h2⟩
end
end Go.Proofs.Ytamokhfmnhpnlaa
