/-
  Walks: the pieces that a program prints; the simplifier's rules stand in the default proofs.
-/
import Derived.Test.YtdnjkeeiopcipaaSlR
set_option linter.unusedVariables false
set_option linter.unusedSimpArgs false
set_option linter.unusedSectionVars false
namespace Go.Sl
variable {P : Program}

theorem HSub.cons {F h : Hp} {n : Nat} {ob : Ob} (h1 : lk h n = some ob) (h2 : HSub F h) : HSub ((n, ob) :: F) h := fun m ob' hm => by
  rw [lk_cons] at hm
  split at hm
  · rename_i e; subst e; injection hm with hm; subst hm; exact h1
  · exact h2 m ob' hm
theorem wrap_i64 (n : Int) (h : -9223372036854775808 ≤ n ∧ n < 9223372036854775808) : IntKind.i64.wrap n = n := wrap_i n h.1 h.2
theorem wrap_u64' (n : Int) (h : 0 ≤ n ∧ n < 18446744073709551616) : IntKind.u64.wrap n = n := by
  have := wrap_u64 n.toNat (by omega)
  rwa [show ((n.toNat : Nat) : Int) = n by omega] at this
theorem wrap_u32' (n : Int) (h : 0 ≤ n ∧ n < 4294967296) : IntKind.u32.wrap n = n := by
  have := wrap_u32 n.toNat (by omega)
  rwa [show ((n.toNat : Nat) : Int) = n by omega] at this
theorem wrap_u8' (n : Int) (h : 0 ≤ n ∧ n < 256) : IntKind.u8.wrap n = n := by
  have := wrap_u8 n.toNat (by omega)
  rwa [show ((n.toNat : Nat) : Int) = n by omega] at this
theorem bq_tt : (true == true) = true := rfl
theorem bq_ff : (false == false) = true := rfl
theorem Dt.bldI (c : Dt) (a b : Int) (h : 0 ≤ a ∧ 0 ≤ b) : spl (spl c.cells 0 [.d (.int .u8 a)]) 1 [.d (.int .u32 b)] = (Dt.mk a.toNat b.toNat).cells := by
  have := Dt.bld c a.toNat b.toNat
  rwa [show ((a.toNat : Nat) : Int) = a by omega, show ((b.toNat : Nat) : Int) = b by omega] at this
theorem Dt.bldN (c : Dt) (b : Int) (h : 0 ≤ b) : spl c.cells 1 [.d (.int .u32 b)] = (Dt.mk c.r b.toNat).cells := by
  rw [show b = ((b.toNat : Nat) : Int) by omega]; rfl
theorem cast_lit (n k : Nat) : (n : Int) + (no_index (OfNat.ofNat k) : Int) = ((n + OfNat.ofNat k : Nat) : Int) := rfl
theorem cast_add (n k : Nat) : (n : Int) + (k : Int) = ((n + k : Nat) : Int) := rfl

/-- Fewer slots. -/
def Pruned (L : List Nat) (st : St) (R : St → Prop) : Prop := R ⟨st.env.filter (fun x => L.contains x.1), st.hp, st.k⟩
theorem Pruned.mk {L : List Nat} {env : List (Nat × SV)} {hp : Hp} {k : Nat} {R : St → Prop} {env' : List (Nat × SV)}
    (he : env.filter (fun x => L.contains x.1) = env' := by (simp only [List.filter, List.contains_cons, List.contains_nil, Nat.reduceBEq, Bool.or_false, Bool.or_true, Bool.true_or, Bool.false_or, BEq.rfl, beq_self_eq_true] <;> with_reducible rfl)) (h : R ⟨env', hp, k⟩) : Pruned L ⟨env, hp, k⟩ R := by
  show R ⟨env.filter _, hp, k⟩; rw [he]; exact h
theorem lookup_keep (L : List Nat) : ∀ (env : List (Nat × SV)) (t : Nat) (s : SV), (env.filter (fun x => L.contains x.1)).lookup t = some s → env.lookup t = some s
  | [], t, s, h => by simp at h
  | (u, x) :: env, t, s, h => by
    simp only [List.filter] at h
    by_cases hu : L.contains u = true
    · rw [hu] at h
      simp only [List.lookup] at h ⊢
      split at h
      · exact h
      · exact lookup_keep L env t s h
    · rw [show L.contains u = false by simpa using hu] at h
      have h2 := lookup_keep L env t s h
      simp only [List.lookup]
      by_cases e : t = u
      · subst e
        exfalso
        have : ∀ (env : List (Nat × SV)), (env.filter (fun x => L.contains x.1)).lookup t = none := by
          intro env
          induction env with
          | nil => rfl
          | cons y env ih =>
            simp only [List.filter]
            by_cases hy : L.contains y.1 = true
            · rw [hy]
              simp only [List.lookup]
              have : (t == y.1) = false := by
                simp only [beq_eq_false_iff_ne]; intro e; rw [← e] at hy; exact hu hy
              rw [this]; exact ih
            · rw [show L.contains y.1 = false by simpa using hy]; exact ih
        rw [this] at h; cases h
      · rw [show (t == u) = false by simpa using e]; exact h2
theorem SW.regL {N k0 : Nat} {st : St} {Q : Exit → St → Prop} {sis : List SI} {bs : List Nat} {draw : Bool} (L : List Nat) (hm : P.follows .mixedOrders = true) (h : RW P sis st fun st' ts => (!draw || noConf bs ts) = true ∧ Pruned L st' (Q .normal)) : SW P N k0 (.reg sis bs draw) st Q := by
  have h' : RW P sis st fun st' ts => (!draw || noConf bs ts) = true ∧ (fun e st' => ∃ st2, Q e st2 ∧ st2 = ⟨st'.env.filter (fun x => L.contains x.1), st'.hp, st'.k⟩) Exit.normal st' := by
    obtain ⟨crs, st', ob, ts, hr, ho, hn, hk⟩ := h
    exact ⟨crs, st', ob, ts, hr, ho, hn, _, hk, rfl⟩
  have := SW.regR (N := N) (k0 := k0) (bs := bs) (draw := draw) (Q := fun e st' => ∃ st2, Q e st2 ∧ st2 = ⟨st'.env.filter (fun x => L.contains x.1), st'.hp, st'.k⟩) hm h'
  intro c hc μ0 M0 w0 c0 a w hSt
  refine wp_mono (this c hc μ0 M0 w0 c0 a w hSt) ?_
  rintro e a' w' ⟨st', ⟨st2, hq, rfl⟩, hst'⟩
  obtain ⟨h1, h2, h3, μ, M, h4, h5, h6⟩ := hst'
  exact ⟨_, hq, h1, h2, h3, μ, M, fun t s hl => h4 t s (lookup_keep L _ t s hl), h5, h6⟩
/-- Code that ends at one place, whatever way it goes. -/
theorem SW.cut {N k0 : Nat} {st : St} {Q : Exit → St → Prop} {x y : SCo} (stM : St) (ρ : Nat → Nat) (h1 : SW P N k0 x st fun e st' => match e with | .normal => Weak k0 st' stM ρ | _ => False) (h2 : SW P N k0 y stM Q) : SW P N k0 (.seq x y) st Q := by
  refine SW.seq (h1.mono fun e st' h => ?_)
  cases e <;> first | exact h.elim | exact SW.weak ρ h h2

section
variable {sis rest r : List SI} {st st' : St} {ob : Prop} {ts : List (Bool × List Nat)} {K : St → List (Bool × List Nat) → Prop}
/-- A plain operation that changes no object. -/
theorem RW.ro {d : Nat} {op : SO} {g : Option (Nat × Bool)} {env : List (Nat × SV)} {hp F F' : Hp} {k : Nat} {v : SV} {nk : Nat} {ob : Prop} {Φ : Prop} (φ : Φ)
    (hr : roOf op = true := by rfl) (hc : isCall op = false := by rfl) (hb : isBsl op = false := by rfl)
    (hg : g = none ∨ ∃ t w, g = some (t, w) ∧ env.lookup t = some (.d (.bool w)) := by first | exact .inl rfl | exact .inr ⟨_, _, rfl, rfl⟩)
    (he : Φ → goOp P ⟨env, hp, k⟩ op [] = some (⟨v, F, F', nk, ob⟩, []) := by
      intro φ
      simp (disch := omega) only [Go.Sl.seg, argE, isCall, goOp, sop, ev, evs, evp, upd, List.lookup, Nat.reduceBEq, Nat.reduceAdd, Nat.reduceMul, Nat.zero_add, SV.cells, if_true, if_false, reduceIte, Bool.false_eq_true, roOf, hmrg, hsets, hdels, hset, hdel, lk, List.filter, Nat.reduceBNe, bne_self_eq_false, eq_self, ldv, ldo, cellsAt, binV, binK, mvp, Vec.cells_one, BEq.rfl, beq_self_eq_true, Bool.true_or, Nat.reduceEqDiff, List.map_cons, List.map_nil, List.nil_append, List.cons_append, List.append_nil, Int.toNat_natCast, Nat.mul_one, Nat.add_zero, findS, keyOk, isAggS, msetS, mdelS, lookS, lookOk, Option.isSome_some, Option.isSome_none, Option.isNone_some, Option.isNone_none, Nat.zero_ne_one, Nat.one_ne_zero, Bool.and_false, Bool.and_true, List.drop_zero, Vec.zero_cells, Vec.take_all, Vec.spl_all, Dt.cells_one, Dt.take_all, Dt.get0, Dt.get1, Dt.spl_all, Dt.zero_cells, Dt.bldI, Dt.bldN, bldS, datas, appB, appX, List.all_cons, List.all_nil, SV.isOne, Int.cast_ofNat_Int, Int.reduceBNe, Int.reduceBEq, Int.reduceLT, Int.reduceLE, Int.reduceGT, Int.reduceGE, one_map, bq_ft, bq_tf, Bool.not_true, Bool.not_false, Bool.or_false, Bool.or_true, Bool.false_or, Bool.or_self, Vec.row0, Vec.row8, Vec.row16, Vec.row24, Vec.datas_app, Vec.datas_one, Dt.row0, Dt.row2, Dt.datas_app, Dt.datas_one, List.all_append, Vec.eqb8, Dt.eqb, Bool.cond_true, Bool.cond_false, wrap_i64, wrap_u64', wrap_u32', wrap_u8', bq_tt, bq_ff, cast_lit, cast_add, Int.reduceToNat, List.length_nil, List.getElem?_cons_zero, List.getElem?_cons_succ, List.take_succ_cons, List.take_zero, List.drop_succ_cons, decide_true, decide_false, Bool.true_and, Bool.and_self, Bool.false_and, φ]
      with_reducible rfl)
    (hob : ob := by first | trivial | (repeat' (first | exact trivial | omega | apply And.intro | (simp [-List.length_flatMap, -Int.natCast_add]; done) | (simp [-List.length_flatMap, -Int.natCast_add] <;> omega))))
    (hk : nk = 0 := by rfl)
    (h : RW P r ⟨(d, v) :: env, hp, k⟩ fun st' ts => K st' ((true, F.map (·.1) ++ F'.map (·.1)) :: ts)) : RW P (⟨some d, op, g⟩ :: r) ⟨env, hp, k⟩ K := RW.ro_aux hr hc hb hg (he φ) hob hk h
/-- A plain operation. -/
theorem RW.op {d : Nat} {op : SO} {g : Option (Nat × Bool)} {env : List (Nat × SV)} {hp hp' F F' : Hp} {k k' : Nat} {v : SV} {nk : Nat} {ob : Prop} {Φ : Prop} (φ : Φ)
    (hc : isCall op = false := by rfl)
    (hg : g = none ∨ ∃ t w, g = some (t, w) ∧ env.lookup t = some (.d (.bool w)) := by first | exact .inl rfl | exact .inr ⟨_, _, rfl, rfl⟩)
    (he : Φ → goOp P ⟨env, hp, k⟩ op [] = some (⟨v, F, F', nk, ob⟩, []) := by
      intro φ
      simp (disch := omega) only [Go.Sl.seg, argE, isCall, goOp, sop, ev, evs, evp, upd, List.lookup, Nat.reduceBEq, Nat.reduceAdd, Nat.reduceMul, Nat.zero_add, SV.cells, if_true, if_false, reduceIte, Bool.false_eq_true, roOf, hmrg, hsets, hdels, hset, hdel, lk, List.filter, Nat.reduceBNe, bne_self_eq_false, eq_self, ldv, ldo, cellsAt, binV, binK, mvp, Vec.cells_one, BEq.rfl, beq_self_eq_true, Bool.true_or, Nat.reduceEqDiff, List.map_cons, List.map_nil, List.nil_append, List.cons_append, List.append_nil, Int.toNat_natCast, Nat.mul_one, Nat.add_zero, findS, keyOk, isAggS, msetS, mdelS, lookS, lookOk, Option.isSome_some, Option.isSome_none, Option.isNone_some, Option.isNone_none, Nat.zero_ne_one, Nat.one_ne_zero, Bool.and_false, Bool.and_true, List.drop_zero, Vec.zero_cells, Vec.take_all, Vec.spl_all, Dt.cells_one, Dt.take_all, Dt.get0, Dt.get1, Dt.spl_all, Dt.zero_cells, Dt.bldI, Dt.bldN, bldS, datas, appB, appX, List.all_cons, List.all_nil, SV.isOne, Int.cast_ofNat_Int, Int.reduceBNe, Int.reduceBEq, Int.reduceLT, Int.reduceLE, Int.reduceGT, Int.reduceGE, one_map, bq_ft, bq_tf, Bool.not_true, Bool.not_false, Bool.or_false, Bool.or_true, Bool.false_or, Bool.or_self, Vec.row0, Vec.row8, Vec.row16, Vec.row24, Vec.datas_app, Vec.datas_one, Dt.row0, Dt.row2, Dt.datas_app, Dt.datas_one, List.all_append, Vec.eqb8, Dt.eqb, Bool.cond_true, Bool.cond_false, wrap_i64, wrap_u64', wrap_u32', wrap_u8', bq_tt, bq_ff, cast_lit, cast_add, Int.reduceToNat, List.length_nil, List.getElem?_cons_zero, List.getElem?_cons_succ, List.take_succ_cons, List.take_zero, List.drop_succ_cons, decide_true, decide_false, Bool.true_and, Bool.and_self, Bool.false_and, φ]
      with_reducible rfl)
    (hob : ob := by first | trivial | (repeat' (first | exact trivial | omega | apply And.intro | (simp [-List.length_flatMap, -Int.natCast_add]; done) | (simp [-List.length_flatMap, -Int.natCast_add] <;> omega))))
    (hh : hmrg (roOf op) hp F F' = hp' := by (simp only [roOf, hmrg, hsets, hdels, hset, hdel, lk, List.lookup, Nat.reduceBEq, BEq.rfl, beq_self_eq_true, if_true, if_false, reduceIte, Nat.reduceEqDiff, Bool.false_eq_true, Option.isSome_some, Option.isSome_none] <;> with_reducible rfl))
    (hk : k + nk = k' := by (simp only [Nat.add_zero, Nat.reduceAdd] <;> rfl))
    (h : RW P r ⟨(d, v) :: env, hp', k'⟩ fun st' ts => K st' ((roOf op, F.map (·.1) ++ F'.map (·.1)) :: ts)) : RW P (⟨some d, op, g⟩ :: r) ⟨env, hp, k⟩ K := RW.op_aux hc hg (he φ) hob hh hk h
theorem RW.opN {op : SO} {g : Option (Nat × Bool)} {env : List (Nat × SV)} {hp hp' F F' : Hp} {k k' : Nat} {v : SV} {nk : Nat} {ob : Prop} {Φ : Prop} (φ : Φ)
    (hc : isCall op = false := by rfl)
    (hg : g = none ∨ ∃ t w, g = some (t, w) ∧ env.lookup t = some (.d (.bool w)) := by first | exact .inl rfl | exact .inr ⟨_, _, rfl, rfl⟩)
    (he : Φ → goOp P ⟨env, hp, k⟩ op [] = some (⟨v, F, F', nk, ob⟩, []) := by
      intro φ
      simp (disch := omega) only [Go.Sl.seg, argE, isCall, goOp, sop, ev, evs, evp, upd, List.lookup, Nat.reduceBEq, Nat.reduceAdd, Nat.reduceMul, Nat.zero_add, SV.cells, if_true, if_false, reduceIte, Bool.false_eq_true, roOf, hmrg, hsets, hdels, hset, hdel, lk, List.filter, Nat.reduceBNe, bne_self_eq_false, eq_self, ldv, ldo, cellsAt, binV, binK, mvp, Vec.cells_one, BEq.rfl, beq_self_eq_true, Bool.true_or, Nat.reduceEqDiff, List.map_cons, List.map_nil, List.nil_append, List.cons_append, List.append_nil, Int.toNat_natCast, Nat.mul_one, Nat.add_zero, findS, keyOk, isAggS, msetS, mdelS, lookS, lookOk, Option.isSome_some, Option.isSome_none, Option.isNone_some, Option.isNone_none, Nat.zero_ne_one, Nat.one_ne_zero, Bool.and_false, Bool.and_true, List.drop_zero, Vec.zero_cells, Vec.take_all, Vec.spl_all, Dt.cells_one, Dt.take_all, Dt.get0, Dt.get1, Dt.spl_all, Dt.zero_cells, Dt.bldI, Dt.bldN, bldS, datas, appB, appX, List.all_cons, List.all_nil, SV.isOne, Int.cast_ofNat_Int, Int.reduceBNe, Int.reduceBEq, Int.reduceLT, Int.reduceLE, Int.reduceGT, Int.reduceGE, one_map, bq_ft, bq_tf, Bool.not_true, Bool.not_false, Bool.or_false, Bool.or_true, Bool.false_or, Bool.or_self, Vec.row0, Vec.row8, Vec.row16, Vec.row24, Vec.datas_app, Vec.datas_one, Dt.row0, Dt.row2, Dt.datas_app, Dt.datas_one, List.all_append, Vec.eqb8, Dt.eqb, Bool.cond_true, Bool.cond_false, wrap_i64, wrap_u64', wrap_u32', wrap_u8', bq_tt, bq_ff, cast_lit, cast_add, Int.reduceToNat, List.length_nil, List.getElem?_cons_zero, List.getElem?_cons_succ, List.take_succ_cons, List.take_zero, List.drop_succ_cons, decide_true, decide_false, Bool.true_and, Bool.and_self, Bool.false_and, φ]
      with_reducible rfl)
    (hob : ob := by first | trivial | (repeat' (first | exact trivial | omega | apply And.intro | (simp [-List.length_flatMap, -Int.natCast_add]; done) | (simp [-List.length_flatMap, -Int.natCast_add] <;> omega))))
    (hh : hmrg (roOf op) hp F F' = hp' := by (simp only [roOf, hmrg, hsets, hdels, hset, hdel, lk, List.lookup, Nat.reduceBEq, BEq.rfl, beq_self_eq_true, if_true, if_false, reduceIte, Nat.reduceEqDiff, Bool.false_eq_true, Option.isSome_some, Option.isSome_none] <;> with_reducible rfl))
    (hk : k + nk = k' := by (simp only [Nat.add_zero, Nat.reduceAdd] <;> rfl))
    (h : RW P r ⟨env, hp', k'⟩ fun st' ts => K st' ((roOf op, F.map (·.1) ++ F'.map (·.1)) :: ts)) : RW P (⟨none, op, g⟩ :: r) ⟨env, hp, k⟩ K := RW.op_aux hc hg (he φ) hob hh hk h
theorem RW.lit {d : Nat} {e sz len : Nat} {z : List SV} {parts : List (Nat × Nat × X)} {g : Option (Nat × Bool)} {env : List (Nat × SV)} {hp hp' F F' : Hp} {k k' : Nat} {v : SV} {nk : Nat} {ob : Prop} {Φ : Prop} (φ : Φ)
    (hg : g = none ∨ ∃ t w, g = some (t, w) ∧ env.lookup t = some (.d (.bool w)) := by first | exact .inl rfl | exact .inr ⟨_, _, rfl, rfl⟩)
    (he : Φ → goOp P ⟨env, hp, k⟩ (.bsl e sz len z parts) [.own] = some (⟨v, F, F', nk, ob⟩, []) := by
      intro φ
      simp (disch := omega) only [Go.Sl.seg, argE, isCall, goOp, sop, ev, evs, evp, upd, List.lookup, Nat.reduceBEq, Nat.reduceAdd, Nat.reduceMul, Nat.zero_add, SV.cells, if_true, if_false, reduceIte, Bool.false_eq_true, roOf, hmrg, hsets, hdels, hset, hdel, lk, List.filter, Nat.reduceBNe, bne_self_eq_false, eq_self, ldv, ldo, cellsAt, binV, binK, mvp, Vec.cells_one, BEq.rfl, beq_self_eq_true, Bool.true_or, Nat.reduceEqDiff, List.map_cons, List.map_nil, List.nil_append, List.cons_append, List.append_nil, Int.toNat_natCast, Nat.mul_one, Nat.add_zero, findS, keyOk, isAggS, msetS, mdelS, lookS, lookOk, Option.isSome_some, Option.isSome_none, Option.isNone_some, Option.isNone_none, Nat.zero_ne_one, Nat.one_ne_zero, Bool.and_false, Bool.and_true, List.drop_zero, Vec.zero_cells, Vec.take_all, Vec.spl_all, Dt.cells_one, Dt.take_all, Dt.get0, Dt.get1, Dt.spl_all, Dt.zero_cells, Dt.bldI, Dt.bldN, bldS, datas, appB, appX, List.all_cons, List.all_nil, SV.isOne, Int.cast_ofNat_Int, Int.reduceBNe, Int.reduceBEq, Int.reduceLT, Int.reduceLE, Int.reduceGT, Int.reduceGE, one_map, bq_ft, bq_tf, Bool.not_true, Bool.not_false, Bool.or_false, Bool.or_true, Bool.false_or, Bool.or_self, Vec.row0, Vec.row8, Vec.row16, Vec.row24, Vec.datas_app, Vec.datas_one, Dt.row0, Dt.row2, Dt.datas_app, Dt.datas_one, List.all_append, Vec.eqb8, Dt.eqb, Bool.cond_true, Bool.cond_false, wrap_i64, wrap_u64', wrap_u32', wrap_u8', bq_tt, bq_ff, cast_lit, cast_add, Int.reduceToNat, List.length_nil, List.getElem?_cons_zero, List.getElem?_cons_succ, List.take_succ_cons, List.take_zero, List.drop_succ_cons, decide_true, decide_false, Bool.true_and, Bool.and_self, Bool.false_and, φ]
      with_reducible rfl)
    (hob : ob := by first | trivial | (repeat' (first | exact trivial | omega | apply And.intro | (simp [-List.length_flatMap, -Int.natCast_add]; done) | (simp [-List.length_flatMap, -Int.natCast_add] <;> omega))))
    (hh : hmrg false hp F F' = hp' := by (simp only [roOf, hmrg, hsets, hdels, hset, hdel, lk, List.lookup, Nat.reduceBEq, BEq.rfl, beq_self_eq_true, if_true, if_false, reduceIte, Nat.reduceEqDiff, Bool.false_eq_true, Option.isSome_some, Option.isSome_none] <;> with_reducible rfl))
    (hk : k + nk = k' := by (simp only [Nat.add_zero, Nat.reduceAdd] <;> rfl))
    (h : RW P r ⟨(d, v) :: env, hp', k'⟩ fun st' ts => K st' ((false, F.map (·.1) ++ F'.map (·.1)) :: ts)) : RW P (⟨some d, .bsl e sz len z parts, g⟩ :: r) ⟨env, hp, k⟩ K := RW.own_aux hg (he φ) hob hh hk h
theorem RW.skip {d : Nat} {op : SO} {t : Nat} {w : Bool} {env : List (Nat × SV)} {hp : Hp} {k : Nat} {s : SV}
    (hg : env.lookup t = some s := by rfl) (hs : skips w s = true := by rfl)
    (h : RW P r ⟨(d, .tup []) :: env, hp, k⟩ fun st' ts => K st' ((roOf op, []) :: ts)) : RW P (⟨some d, op, some (t, w)⟩ :: r) ⟨env, hp, k⟩ K := RW.skip_aux hg hs h
theorem RW.skip0 {op : SO} {t : Nat} {w : Bool} {env : List (Nat × SV)} {hp : Hp} {k : Nat} {s : SV}
    (hg : env.lookup t = some s := by rfl) (hs : skips w s = true := by rfl)
    (h : RW P r ⟨env, hp, k⟩ fun st' ts => K st' ((roOf op, []) :: ts)) : RW P (⟨none, op, some (t, w)⟩ :: r) ⟨env, hp, k⟩ K := RW.skip0_aux hg hs h
/-- A call that comes up: there is a contract of it. -/
def CallP (P : Program) (fid : FuncId) (as' : List SV) (d : Option Nat) (r : List SI) (env : List (Nat × SV)) (hp : Hp) (k : Nat) (K : St → List (Bool × List Nat) → Prop) : Prop :=
  ∃ F F' v nk, SCd P fid as' F k nk v F' ∧ HSub F hp ∧ RW P r ⟨consO d v env, hmrg false hp F F', k + nk⟩ fun st' ts => K st' ((false, F.map (·.1) ++ F'.map (·.1)) :: ts)
theorem RW.callC {d : Option Nat} {f : X} {args : List X} {g : Option (Nat × Bool)} {fid : FuncId} {as first cap as' : List SV} {env : List (Nat × SV)} {hp : Hp} {k : Nat}
    (hf : ev (fun t => env.lookup t) f = some (.fn (.func fid) first cap) := by (simp only [ev, List.lookup, Nat.reduceBEq] <;> rfl))
    (ha : evs (fun t => env.lookup t) args = some as := by (simp only [ev, evs, List.lookup, Nat.reduceBEq] <;> rfl))
    (has : first ++ as ++ cap = as' := by (simp only [List.nil_append, List.cons_append, List.append_nil] <;> rfl))
    (hg : g = none ∨ ∃ t w, g = some (t, w) ∧ env.lookup t = some (.d (.bool w)) := by first | exact .inl rfl | exact .inr ⟨_, _, rfl, rfl⟩)
    (h : CallP P fid as' d r env hp k K) : RW P (⟨d, .call f args, g⟩ :: r) ⟨env, hp, k⟩ K := by
  obtain ⟨F, F', v, nk, hc, hs, h⟩ := h
  exact RW.call_aux hf ha has hc hs hg h
theorem CallP.mk {fid : FuncId} {as' : List SV} {F F' hp' : Hp} {v v' : SV} {nk k' : Nat} {d : Nat} {env : List (Nat × SV)} {hp : Hp} {k : Nat} {Φ : Prop} (φ : Φ)
    (hs : HSub F hp := by first | exact HSub.nil _ | (repeat (first | exact HSub.nil _ | refine HSub.cons (by rfl) ?_)))
    (hc : SCd P fid as' F k nk v F')
    (hv : Φ → v = v' := by intro φ; first | ((simp only [φ]) <;> with_reducible rfl) | with_reducible rfl)
    (hh : hmrg false hp F F' = hp' := by (simp only [roOf, hmrg, hsets, hdels, hset, hdel, lk, List.lookup, Nat.reduceBEq, BEq.rfl, beq_self_eq_true, if_true, if_false, reduceIte, Nat.reduceEqDiff, Bool.false_eq_true, Option.isSome_some, Option.isSome_none] <;> with_reducible rfl))
    (hk : k + nk = k' := by (simp only [Nat.add_zero, Nat.reduceAdd] <;> rfl))
    (h : RW P r ⟨(d, v') :: env, hp', k'⟩ fun st' ts => K st' ((false, F.map (·.1) ++ F'.map (·.1)) :: ts)) : CallP P fid as' (some d) r env hp k K := ⟨F, F', v, nk, hc, hs, by rw [hv φ, hh, hk]; exact h⟩
theorem CallP.mkN {fid : FuncId} {as' : List SV} {F F' hp' : Hp} {v : SV} {nk k' : Nat} {env : List (Nat × SV)} {hp : Hp} {k : Nat} {Φ : Prop} (φ : Φ)
    (hs : HSub F hp := by first | exact HSub.nil _ | (repeat (first | exact HSub.nil _ | refine HSub.cons (by rfl) ?_)))
    (hc : SCd P fid as' F k nk v F')
    (hh : hmrg false hp F F' = hp' := by (simp only [roOf, hmrg, hsets, hdels, hset, hdel, lk, List.lookup, Nat.reduceBEq, BEq.rfl, beq_self_eq_true, if_true, if_false, reduceIte, Nat.reduceEqDiff, Bool.false_eq_true, Option.isSome_some, Option.isSome_none] <;> with_reducible rfl))
    (hk : k + nk = k' := by (simp only [Nat.add_zero, Nat.reduceAdd] <;> rfl))
    (h : RW P r ⟨env, hp', k'⟩ fun st' ts => K st' ((false, F.map (·.1) ++ F'.map (·.1)) :: ts)) : CallP P fid as' none r env hp k K := ⟨F, F', v, nk, hc, hs, by rw [hh, hk]; exact h⟩
end

theorem SB.mono {f : FuncId} {args : List SV} {F : Hp} {k nk : Nat} {Q Q' : SV → Hp → Prop} (h : SB P f args F k nk Q) (hq : ∀ r F, Q r F → Q' r F) : SB P f args F k nk Q' :=
  ⟨h.1, h.2.1, h.2.2.1, fun μ M w vals h1 h2 => (h.2.2.2 μ M w vals h1 h2).mono fun _ _ ⟨r, F', μ', M', u, e, hQ, x⟩ => ⟨r, F', μ', M', u, e, hq r F' hQ, x⟩⟩
/-- Arguments that say more. -/
theorem SB.args {f : FuncId} {args args' : List SV} {F : Hp} {k nk : Nat} {Q : SV → Hp → Prop} (h : SB P f args F k nk Q) (hok : SV.oks (fun n => decide (n < k)) args' = true)
    (ha : ∀ (p : Nat → Prop) (μ : Nat → Nm) (M : Mem) (vs : List Value), Rps p μ M args' vs → Rps p μ M args vs) : SB P f args' F k nk Q :=
  ⟨h.1, hok, h.2.2.1, fun μ M w vals h1 h2 => h.2.2.2 μ M w vals (ha _ μ M _ h1) h2⟩
/-- Where a body ends. -/
theorem End.mk {k nk : Nat} {rvs : List RV} {Q : SV → Hp → Prop} {st : St} {ss : List SV} {ob : Prop} (F' : Hp)
    (h1 : rvV st rvs = some (ss, ob) := by rfl)
    (h2 : ob := by simp [ldo])
    (h3 : HSub F' st.hp := by first | exact HSub.nil _ | (repeat (first | exact HSub.nil _ | refine HSub.cons (by rfl) ?_)))
    (h4 : Q (retV ss) F')
    (h5 : (retV ss).ok (fun n => decide (n < k + nk)) = true := by first | rfl | simp [retV, SV.ok, SV.oks, Vec.cells_ok, SV.oks_d])
    (h6 : F'.ok (fun n => decide (n < k + nk)) = true := by first | rfl | simp [Hp.ok, Ob.ok, SV.ok, SV.oks, Vec.cells_ok, SV.oks_d])
    (h7 : k + nk ≤ st.k := by simp) : Go.Sl.Fin k nk rvs Q st := ⟨ss, ob, F', h1, h2, h3, h4, h5, h6, h7⟩

theorem SW.condD {N k0 : Nat} {st : St} {Q : Exit → St → Prop} {x : X} {y z : SCo} {p : Prop} [Decidable p] (hx : ev (fun t => st.env.lookup t) x = some (.d (.bool (decide p)))) (h1 : p → SW P N k0 y st Q) (h2 : ¬ p → SW P N k0 z st Q) : SW P N k0 (.cond x y z) st Q :=
  SW.cond hx (fun h => h1 (by simpa using h)) (fun h => h2 (by simpa using h))
theorem SW.condT {N k0 : Nat} {st : St} {Q : Exit → St → Prop} {x : X} {y z : SCo} (hx : ev (fun t => st.env.lookup t) x = some (.d (.bool true))) (h1 : SW P N k0 y st Q) : SW P N k0 (.cond x y z) st Q :=
  SW.cond hx (fun _ => h1) (fun h => by cases h)
theorem SW.condF {N k0 : Nat} {st : St} {Q : Exit → St → Prop} {x : X} {y z : SCo} (hx : ev (fun t => st.env.lookup t) x = some (.d (.bool false))) (h1 : SW P N k0 z st Q) : SW P N k0 (.cond x y z) st Q :=
  SW.cond hx (fun h => by cases h) (fun _ => h1)
/-- At a loop's head. -/
theorem SW.loopA {N k0 : Nat} {st : St} {Q : Exit → St → Prop} {α : Type} {x : SCo} (I : α → St) (m : α → Nat) (i0 : α) (ρ0 : Nat → Nat) {Φ : Prop} (φ : Φ)
    (h0 : Φ → Weak k0 st (I i0) ρ0 := by intro φ; simp [Go.Sl.Weak, EnvW, HpW, InjW, SV.ren, SV.rens, SV.ok, SV.oks, Ob.ren, Ob.ok, lk, List.lookup, Vec.cells_ren, Dt.cells_ren, SV.rens_d, SV.oks_d, SV.rens_append, SV.oks_append, Vec.cells_ok, φ])
    (round : ∀ i, SW P N k0 x (I i) fun e st' => match e with | .normal => ∃ j ρ, m j < m i ∧ Weak k0 st' (I j) ρ | e => Q e st') : SW P N k0 (.loop x) st Q := SW.loop I m i0 ρ0 (h0 φ) round
theorem Weak.mk {k0 : Nat} {st st1 : St} {ρ : Nat → Nat} {Φ : Prop} (φ : Φ) (h0 : Φ → Weak k0 st st1 ρ := by intro φ; simp [Go.Sl.Weak, EnvW, HpW, InjW, SV.ren, SV.rens, SV.ok, SV.oks, Ob.ren, Ob.ok, lk, List.lookup, Vec.cells_ren, Dt.cells_ren, SV.rens_d, SV.oks_d, SV.rens_append, SV.oks_append, Vec.cells_ok, φ]) : Weak k0 st st1 ρ := h0 φ
theorem Next.mk {k0 : Nat} {st' : St} {α : Type} {I : α → St} {m : α → Nat} {i : α} (j : α) (ρ : Nat → Nat) {Φ : Prop} (φ : Φ)
    (hm : m j < m i := by first | omega | (simp; done) | (simp; omega))
    (h0 : Φ → Weak k0 st' (I j) ρ := by intro φ; simp [Go.Sl.Weak, EnvW, HpW, InjW, SV.ren, SV.rens, SV.ok, SV.oks, Ob.ren, Ob.ok, lk, List.lookup, Vec.cells_ren, Dt.cells_ren, SV.rens_d, SV.oks_d, SV.rens_append, SV.oks_append, Vec.cells_ok, φ]) : ∃ j ρ, m j < m i ∧ Weak k0 st' (I j) ρ := ⟨j, ρ, hm, h0 φ⟩

end Go.Sl
