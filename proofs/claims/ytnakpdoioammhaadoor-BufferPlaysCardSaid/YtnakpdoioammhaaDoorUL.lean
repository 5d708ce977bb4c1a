/-
  Histories: what a row knows, counted; the program's own test of a history is the document's.
-/
import Derived.Test.YtnakpdoioammhaaDoorU8
import Derived.Test.YtnakpdoioammhaaDoorUK
import Derived.Test.YtnakpdoioammhaaDoorU9
import Derived.Test.YtnakpdoioammhaaDoorU7
set_option linter.unusedSectionVars false
set_option linter.unusedVariables false
set_option linter.unusedSimpArgs false
namespace Go.Sl
def insL (out : List OpD) (x : OpD) : List OpD := out.takeWhile (fun y => y.lt x) ++ x :: out.dropWhile (fun y => y.lt x)
def sortedR (l : List OpD) : List OpD := l.foldl insL []
theorem insL_perm (out : List OpD) (x : OpD) : (insL out x).Perm (x :: out) := by
  unfold insL
  refine List.perm_middle.trans ?_
  rw [List.takeWhile_append_dropWhile]
theorem insL_rises {out : List OpD} {x : OpD} (h : Rises out) (hx : ∀ y, y ∈ out → y.dot ≠ x.dot) : Rises (insL out x) := by
  unfold insL
  induction out with
  | nil => exact List.pairwise_singleton _ _
  | cons y out ih =>
    have h1 := List.pairwise_cons.1 h
    by_cases e : y.lt x = true
    · simp only [List.takeWhile_cons, List.dropWhile_cons, e, if_true, List.cons_append]
      refine List.pairwise_cons.2 ⟨fun z hz => ?_, ih h1.2 fun z hz => hx z (List.mem_cons_of_mem _ hz)⟩
      rcases List.mem_append.1 hz with hz | hz
      · exact h1.1 z ((List.takeWhile_sublist _).subset hz)
      · rcases List.mem_cons.1 hz with rfl | hz
        · exact e
        · exact h1.1 z ((List.dropWhile_sublist _).subset hz)
    · have e' : y.lt x = false := Bool.eq_false_iff.2 e
      simp only [List.takeWhile_cons, List.dropWhile_cons, e', Bool.false_eq_true, if_false, List.nil_append]
      have hxy : x.lt y = true := (OpD.lt_total fun e => hx y (by simp) e.symm).resolve_right e
      exact List.pairwise_cons.2 ⟨fun z hz => by
        rcases List.mem_cons.1 hz with rfl | hz
        · exact hxy
        · exact OpD.lt_trans hxy (h1.1 z hz), h⟩
theorem sortedR_snoc (l : List OpD) (x : OpD) : sortedR (l ++ [x]) = insL (sortedR l) x := by unfold sortedR; rw [List.foldl_append]; rfl
theorem foldl_insL : ∀ (l out : List OpD), (l.foldl insL out).Perm (l ++ out)
  | [], out => List.Perm.refl _
  | x :: l, out => (foldl_insL l (insL out x)).trans ((List.Perm.append_left l (insL_perm out x)).trans List.perm_middle)
theorem sortedR_perm (l : List OpD) : (sortedR l).Perm l := by
  have := foldl_insL l []
  rwa [List.append_nil] at this
theorem foldl_rises : ∀ (l out : List OpD), Uniq (l ++ out) → Rises out → Rises (l.foldl insL out)
  | [], out, _, h => h
  | x :: l, out, hu, h => by
    have hp : (x :: l ++ out).Perm (l ++ x :: out) := List.perm_middle.symm
    have hu2 : Uniq (l ++ x :: out) := hu.perm hp.symm
    refine foldl_rises l (insL out x) (hu2.perm (List.Perm.append_left l (insL_perm out x))) (insL_rises h fun y hy e => ?_)
    unfold Uniq at hu
    rw [List.cons_append, List.map_cons, List.nodup_cons] at hu
    exact hu.1 (List.mem_map.2 ⟨y, List.mem_append.2 (.inr hy), e⟩)
theorem sortedR_eq {l : List OpD} (h : Uniq l) : sortedR l = osorted l := by
  have h1 : Rises (sortedR l) := foldl_rises l [] (by rwa [List.append_nil]) List.Pairwise.nil
  exact h1.unique (osorted_rises h) ((sortedR_perm l).trans (osorted_perm l).symm)
end Go.Sl
namespace Go.Sl
open Go.RowKit
variable {P : Program}
end Go.Sl
namespace Go.Sl
open Go.RowKit
theorem cO_eqnil {P : Program} {op : Op} {neg : Bool} {kd : Nat} {x' : X} (hc : cO P op = some (.eqnil neg kd x')) : ∃ b t x y t', op = .binOp b t x y t' ∧ isEq b = true ∧ isNeq b = neg ∧ nilKd P t y = some kd ∧ cX x = some x' := by
  cases op <;> simp only [cO] at hc <;> try (cases hc; done)
  case binOp b t x y t' =>
    refine ⟨b, t, x, y, t', rfl, ?_⟩
    by_cases hq : isEq b = true
    · rw [if_pos hq] at hc
      split at hc
      · repeat' (first | contradiction | (cases hc; done) | split at hc)
      · repeat' (first | contradiction | (cases hc; done) | split at hc)
      · repeat' (first | contradiction | (cases hc; done) | split at hc)
      · repeat' (first | contradiction | (cases hc; done) | split at hc)
      · split at hc <;> first | (cases hc; done) | skip
        rename_i h1 h2
        injection hc with hc
        injection hc with e1 e2 e3
        subst e2; subst e3
        exact ⟨hq, e1, h1, h2⟩
    · rw [if_neg hq] at hc
      repeat' (first | contradiction | (cases hc; done) | split at hc)
  all_goals (repeat' (first | contradiction | (cases hc; done) | (obtain ⟨_, _, hh⟩ := Option.map_eq_some_iff.1 hc; cases hh; done) | split at hc))
theorem sq_eqnilS {P : Program} {o : Oper} {E : Nat → Option SV} {H : Nat → Option Ob} {k : Nat} {neg : Bool} {x' : X} {n : Nat} {cs : List DV} (hc : cO P o.op = some (.eqnil neg 3 x')) (hx : ev E x' = some (.d (.sl n cs))) :
    SoundQ P o E H k 0 [] (fun v F' => F' = [] ∧ (v = .d (.bool neg) ∨ (n = 0 ∧ v = .d (.bool !neg)))) := by
  obtain ⟨op, t, x, y, t', ho, hop, hneg, hy, hcx⟩ := cO_eqnil hc
  subst hneg
  refine ⟨sub_nil, fun rd p μ M a w K QQ hnew hk hS hK => ?_⟩
  obtain ⟨A, c, e1, e2, e3, e4⟩ := (by simpa [RepD] using Rp.d_iff.1 (hk.get (by simp [ho, Op.operands]) hcx hx) : ∃ A cp, a.eval x = .slice A n cp ∧ n ≤ cp ∧ (n = 0 → cs = []) ∧ (0 < n → ∃ b q, A = some ⟨b, q, none⟩ ∧ RepR M b q cs))
  have hty : ∃ e, P.underlying t = some (.slice e) ∧ a.eval y = .slice none 0 0 := by
    unfold nilKd at hy
    split at hy <;> first | (cases hy; done) | skip
    all_goals first
      | (injection hy with hy; cases hy; done)
      | exact ⟨_, by assumption, rfl⟩
  obtain ⟨el, hty, hyv⟩ := hty
  have h0 : ∀ d, (Op.equalIn (d + 1) t (a.eval x) (a.eval y)).run P w = .ok A.isNone w := fun d => by
    rw [e1, hyv]; cases A <;> simp [Op.equalIn, run_underlying hty]
  have h1 := h0 9999
  clear h0
  have n5 : eqGuard op t x y (a.eval x) (a.eval y) = Pure.pure () := by rw [e1]; simp [eqGuard_at_slice]
  have hb : (binOp op t (a.eval x) (a.eval y)).run P w = .ok (.bool (bif isNeq op then !A.isNone else A.isNone)) w := by
    rw [e1, hyv] at h1 ⊢
    rcases isEq_cases hop with rfl | rfl <;> simp [binOp, Op.equal, Op.maxDepth, h1, isNeq]
  have hex : (execOp a.eval o).run P w = .ok (.value (.bool (bif isNeq op then !A.isNone else A.isNone))) w := by
    simp only [execOp, ho, Sem.run_bind, n5, Sem.run_pure, Result.andThen_ok, hb]
  refine wp_value hex (hK (.d (.bool (bif isNeq op then !A.isNone else A.isNone))) [] _ μ M w ⟨rfl, ?_⟩ (Rp.bool_iff.2 rfl) (hS.more fun _ h => .inl h) (Ev.refl _ _ _ _ _ fun n h => by simp [lk_nil] at h))
  by_cases hn : n = 0
  · cases A <;> cases isNeq op <;> simp [hn]
  · obtain ⟨b, q, rfl, _⟩ := e4 (by omega)
    left
    cases isNeq op <;> rfl
theorem SWn.manyR {P : Program} {N k0 : Nat} {st : St} {K : St → Prop} {si : SI} {r : List SI} {F : Hp} {nk : Nat} {Q : SV → Hp → Prop} (hg : si.g = none) (hq : ∀ o : Oper, cO P o.op = some si.op → SoundQ P o (fun t => st.env.lookup t) (lk st.hp) st.k nk F Q)
    (hro : ∀ v F', Q v F' → F' = F) (h : ∀ v F', Q v F' → SWn P N k0 r (upd st si ⟨v, F, F', nk, True⟩) K) : SWn P N k0 (si :: r) st K := by
  refine SWn.cons fun ops o hc hN rd μ0 M0 w0 c0 a w hSt i ho Q' KK hKK => ?_
  obtain ⟨g1, g2, g3⟩ := cOper_spec hc
  have hgn : o.guard = none := by
    rcases g3 with ⟨h, _⟩ | ⟨j, w, t, h, _, h'⟩
    · exact h
    · rw [hg] at h'; cases h'
  unfold wpOpIn
  simp only [ho, Region.wanted, hgn, if_true]
  exact (StA.step g2 (fun d hd => hN d (by rw [g2]; exact hd)) (hq o g1) (fun v F' hQ hr => hro v F' hQ) hSt fun v F' hQ a' w' hSt' => hKK _ a' w' (h v F' hQ) hSt')
theorem SW.nilS {P : Program} {N k0 : Nat} {st : St} {Q : Exit → St → Prop} {d s t n : Nat} {cs : List DV} {neg : Bool} {bs : List Nat} (hl : st.env.lookup s = some (.d (.sl n cs)))
    (h1 : Q .normal ⟨(d, .d (.bool neg)) :: (t, .d (.sl n cs)) :: st.env, st.hp, st.k⟩) (h2 : n = 0 → Q .normal ⟨(d, .d (.bool !neg)) :: (t, .d (.sl n cs)) :: st.env, st.hp, st.k⟩) :
    SW P N k0 (.reg [⟨some t, .mv (.t s), none⟩, ⟨some d, .eqnil neg 3 (.t t), none⟩] bs false) st Q := by
  refine SW.ofN (SWn.one (crs := []) (c2 := []) (e := ⟨.d (.sl n cs), [], [], 0, True⟩) (by simp only [runOp, goOp, sop, ev, hl]) trivial ?_)
  refine SWn.manyR rfl (fun o hc => sq_eqnilS (n := n) (cs := cs) hc (by simp [upd, ev])) (fun v F' h => h.1) fun v F' hv => SWn.nil ?_
  obtain ⟨rfl, rfl | ⟨h0, rfl⟩⟩ := hv
  · exact h1
  · exact h2 h0
end Go.Sl
namespace Go.Sl
open Go.RowKit
variable {P : Program}
theorem SWn.manyG {N k0 : Nat} {st : St} {K : St → Prop} {si : SI} {r : List SI} {t : Nat} {b : Bool} {F : Hp} {nk : Nat} {Q : SV → Hp → Prop} (hg : si.g = some (t, b)) (hgv : st.env.lookup t = some (.d (.bool b))) (hq : ∀ o : Oper, cO P o.op = some si.op → SoundQ P o (fun t => st.env.lookup t) (lk st.hp) st.k nk F Q)
    (hro : roOf si.op = false) (h : ∀ v F', Q v F' → SWn P N k0 r (upd st si ⟨v, F, F', nk, True⟩) K) : SWn P N k0 (si :: r) st K := by
  refine SWn.cons fun ops o hc hN rd μ0 M0 w0 c0 a w hSt i ho Q' KK hKK => ?_
  obtain ⟨g1, g2, g3⟩ := cOper_spec hc
  obtain ⟨hk0, hdf, hsz, μ, M, hsl, hS, hE⟩ := hSt
  have hSt : StA N μ0 M0 w0 c0 k0 st a w := ⟨hk0, hdf, hsz, μ, M, hsl, hS, hE⟩
  have hw : Region.wanted o (yielded ops a.tmps) = true := by
    rcases g3 with ⟨_, h'⟩ | ⟨j, w, t', hg', hd, h'⟩
    · rw [hg] at h'; cases h'
    · rw [hg] at h'
      injection h' with h'
      injection h' with e1 e2
      subst e1; subst e2
      have hv := Rp.bool_iff.1 (hsl t _ hgv)
      simp only [Region.wanted, hg', yielded_of hd hv]
      simp
  unfold wpOpIn
  simp only [ho, hw, if_true]
  exact (StA.step g2 (fun d hd => hN d (by rw [g2]; exact hd)) (hq o g1) (fun v F' _ hr => by rw [hro] at hr; cases hr) hSt fun v F' hQ a' w' hSt' => hKK _ a' w' (h v F' hQ) hSt')
end Go.Sl
namespace Go.Sl
open Go.RowKit
end Go.Sl
namespace Go.Sl
open Go.RowKit
variable {P : Program}
section
variable {σ : Type} {G : Hp} {Fh : σ → Hp} {s : σ} {kk : Nat}
end
section
variable {N k0 : Nat} {K : St → Prop}
end
end Go.Sl
namespace Go.Sl
open Go.RowKit
def Ob.frz (n len : Nat) (ds : List DV) : Ob → Ob
  | .box t cs => .box t (SV.frzs n len ds cs)
  | .map es c => .map (es.map fun e => (e.1, e.2.1, e.2.2.frz n len ds)) c
  | o => o
theorem RpE.frz {p : Nat → Prop} {μ : Nat → Nm} {M : Mem} {n len : Nat} {ds : List DV} (hg : ∀ v, Rp p μ M (.gs n len) v → Rp p μ M (.d (.sl len ds)) v) : ∀ (r : List (Nat × SV × SV)) (es : List MapEntry), RpE p μ M r es → RpE p μ M (r.map fun e => (e.1, e.2.1, e.2.2.frz n len ds)) es
  | [], es, h => h
  | (b, k, v) :: r, es, ⟨e, es', h1, h2, h3, h4, h5⟩ => ⟨e, es', h1, h2, h3, SV.frz_rep hg v _ h4, RpE.frz hg r es' h5⟩
def frzH (n len : Nat) (ds : List DV) (h : Hp) : Hp := h.map fun x => (x.1, x.2.frz n len ds)
theorem lk_frzH (n len : Nat) (ds : List DV) : ∀ (h : Hp) (m : Nat), lk (frzH n len ds h) m = (lk h m).map (Ob.frz n len ds)
  | [], m => rfl
  | (q, o) :: h, m => by
    have ih := lk_frzH n len ds h m
    unfold frzH at ih ⊢
    rw [List.map_cons, lk_cons, lk_cons]
    split
    · rfl
    · exact ih
abbrev FrzOk (φ : Ob → Ob) (n len : Nat) (ds : List DV) : Prop := ∀ (p : Nat → Prop) (μ : Nat → Nm) (M : Mem) (w : World), (∀ v, Rp p μ M (.gs n len) v → Rp p μ M (.d (.sl len ds)) v) → ∀ m o, ObRep p μ M w m o → ObRep p μ M w m (φ o)
abbrev mapH_ (φ : Ob → Ob) (h : Hp) : Hp := h.map fun x => (x.1, φ x.2)
theorem lk_mapH_ (φ : Ob → Ob) : ∀ (h : Hp) (m : Nat), lk (mapH_ φ h) m = (lk h m).map φ
  | [], m => rfl
  | (q, o) :: h, m => by
    have ih := lk_mapH_ φ h m
    unfold mapH_ at ih ⊢
    rw [List.map_cons, lk_cons, lk_cons]
    split
    · rfl
    · exact ih
theorem SatF.frzd {p : Nat → Prop} {μ : Nat → Nm} {M : Mem} {w : World} {h : Hp} {n len : Nat} {ds : List DV} {φ : Ob → Ob} (hφ : FrzOk φ n len ds) (hS : SatF p μ M (lk h) w) (hg : ∀ v, Rp p μ M (.gs n len) v → Rp p μ M (.d (.sl len ds)) v) : SatF p μ M (lk (mapH_ φ h)) w := by
  refine ⟨⟨hS.mem.cell, hS.mem.glob⟩, fun m ob hm => ?_, fun m m' hm hm' => ?_⟩
  · rw [lk_mapH_] at hm
    obtain ⟨o, ho, rfl⟩ := Option.map_eq_some_iff.1 hm
    obtain ⟨a1, a2, a3⟩ := hS.obs m o ho
    exact ⟨a1, hφ p μ M w hg _ _ a2, a3⟩
  · have key : ∀ m, lk (mapH_ φ h) m ≠ none → lk h m ≠ none := fun m hm hn => hm (by rw [lk_mapH_, hn]; rfl)
    exact hS.inj m m' (key m hm) (key m' hm')
theorem frz_ok (n len : Nat) (ds : List DV) : FrzOk (Ob.frz n len ds) n len ds := fun p μ M w hg m o a2 => by
  cases o with
  | box t cs =>
    simp only [ObRep, Ob.frz] at a2 ⊢
    obtain ⟨b1, vs, b2, b3⟩ := a2
    exact ⟨b1, vs, b2, SV.frzs_rep hg cs _ b3⟩
  | map es c =>
    simp only [ObRep, Ob.frz] at a2 ⊢
    obtain ⟨b1, vs, b2, b3⟩ := a2
    exact ⟨b1, vs, b2, RpE.frz hg es _ b3⟩
  | _ => exact a2
section
variable {P : Program} {N k0 : Nat} {st : St} {Q : Exit → St → Prop}
theorem StA.freezeG {φ : Ob → Ob} {μ0 : Nat → Nm} {M0 : Mem} {w0 : World} {c0 : Nat → Option Ob} {a : Act} {w : World} (n : Nat) {e sz len : Nat} {cs : List SV} {ds : List DV} (hφ : FrzOk φ n len ds) (hn : lk st.hp n = some (.arr e sz len cs)) (hcs : cs = ds.map .d)
    (h : StA N μ0 M0 w0 c0 k0 st a w) : StA N μ0 M0 w0 c0 k0 ⟨frzE n len ds st.env, mapH_ φ (hdel st.hp n), st.k⟩ a w := by
  subst hcs
  obtain ⟨hk0, hdf, hsz, μ, M, hsl, hS, hE⟩ := h
  obtain ⟨hpn, hob, hMn⟩ := hS.obs n _ hn
  rcases hob with ⟨hdead, hl0, hds⟩ | ⟨hlive, vs, hb, hl1, hl2, hl3, hl4, hr⟩
  · have hd0 : ds = [] := by simpa using hds
    subst hd0; subst hl0
    have hg : ∀ v, Rp (· < st.k) μ M (.gs n 0) v → Rp (· < st.k) μ M (.d (.sl 0 [])) v := fun v hv => by
      refine Rp.d_iff.2 ?_
      simp only [RepD]
      obtain ⟨h, _⟩ | ⟨_, _, A, e1⟩ := hv.gs_of
      · rw [hdead] at h; cases h
      · exact ⟨A, 0, e1, Nat.le_refl _, fun _ => trivial, fun h => absurd h (Nat.lt_irrefl _)⟩
    have hsub : ∀ m ob, lk (hdel st.hp n) m = some ob → lk st.hp m = some ob := fun m ob hm => by
      rw [lk_hdel] at hm
      split at hm
      · cases hm
      · exact hm
    refine ⟨hk0, hdf, hsz, μ, M, fun t s hs => ?_, (hS.sub hsub).frzd hφ hg, hE.fewer fun m hm => ?_⟩
    · rw [lookup_frz] at hs
      obtain ⟨s', hs', rfl⟩ := Option.map_eq_some_iff.1 hs
      exact SV.frz_rep hg s' _ (hsl t s' hs')
    · obtain ⟨o1, ho1⟩ := Option.ne_none_iff_exists'.1 hm
      rw [lk_mapH_] at ho1
      obtain ⟨o2, ho2, _⟩ := Option.map_eq_some_iff.1 ho1
      rw [hsub m o2 ho2]; simp
  have hMn := hMn hlive
  have hlen : ds.length = len * sz := by simpa using hl1
  let M' : Mem := fun b o => if b = (μ n).blk then (if o < len * sz then vs[o]? else none) else M b o
  have hne : ∀ b, b ≠ (μ n).blk → ∀ o, M' b o = M b o := fun b hb o => by simp [M', hb]
  have hle : Mem.le M M' := fun b o v hv => by
    have : b ≠ (μ n).blk := fun e => by rw [e, hMn] at hv; cases hv
    rw [hne b this]; exact hv
  have hoth : ∀ m, lk st.hp m ≠ none → m ≠ n → (μ m).live = true → (μ m).blk ≠ (μ n).blk := fun m hm hmn lm e => hmn (hS.inj m n hm (by rw [hn]; simp) lm hlive e)
  have hsub : ∀ m ob, lk (hdel st.hp n) m = some ob → lk st.hp m = some ob ∧ m ≠ n := fun m ob hm => by
    rw [lk_hdel] at hm
    split at hm
    · cases hm
    · rename_i e; exact ⟨hm, e⟩
  have hg : ∀ v, Rp (· < st.k) μ M' (.gs n len) v → Rp (· < st.k) μ M' (.d (.sl len ds)) v := fun v hv => by
    obtain ⟨_, e1⟩ | ⟨h, _⟩ := hv.gs_of
    rotate_left
    · rw [hlive] at h; cases h
    refine Rp.d_iff.2 ?_
    simp only [RepD]
    refine ⟨_, _, e1, hl2, fun h0 => ?_, fun _ => ⟨_, _, rfl, RepR.mk fun i c hi => ?_⟩⟩
    · subst h0
      simp at hlen
      exact hlen
    · obtain ⟨u, hu, hru⟩ := hr.d_get hi
      have hil : i < len * sz := by rw [← hlen]; exact (List.getElem?_eq_some_iff.1 hi).1
      refine ⟨u, ?_, RepD.mono hle _ _ hru⟩
      rw [List.getElem?_take_of_lt hil] at hu
      simp only [M', if_true, Nat.zero_add, hil]
      simpa using hu
  have hS2 : SatF (· < st.k) μ M' (lk (hdel st.hp n)) w := by
    refine ⟨⟨fun b o v hv => ?_, hS.mem.glob.le hle⟩, fun m ob hm => ?_, fun m m' hm hm' lm lm' e => ?_⟩
    · by_cases hbn : b = (μ n).blk
      · subst hbn
        simp only [M', if_true] at hv
        split at hv
        · rw [cell_of hb]; exact hv
        · cases hv
      · rw [hne b hbn] at hv
        exact hS.mem b o v hv
    · obtain ⟨hm1, hmn⟩ := hsub m ob hm
      obtain ⟨a1, a2, a3⟩ := hS.obs m ob hm1
      refine ⟨a1, a2.more (fun _ h => h) (fun _ _ => rfl) hle fun _ => rfl, fun lm o => ?_⟩
      rw [hne _ (hoth m (by rw [hm1]; simp) hmn lm)]
      exact a3 lm o
    · obtain ⟨o1, ho1⟩ := Option.ne_none_iff_exists'.1 hm
      obtain ⟨o2, ho2⟩ := Option.ne_none_iff_exists'.1 hm'
      exact hS.inj m m' (by rw [(hsub m o1 ho1).1]; simp) (by rw [(hsub m' o2 ho2).1]; simp) lm lm' e
  refine ⟨hk0, hdf, hsz, μ, M', fun t s hs => ?_, hS2.frzd hφ hg, ⟨hE.old, Mem.le_trans hE.mem hle, fun b hb0 hf => ?_, hE.size, fun m hm => ?_, hE.os, hE.tape, hE.output⟩⟩
  · rw [lookup_frz] at hs
    obtain ⟨s', hs', rfl⟩ := Option.map_eq_some_iff.1 hs
    exact SV.frz_rep hg s' _ ((hsl t s' hs').more (fun _ h => h) (fun _ _ => rfl) hle)
  · have hbn : b ≠ (μ n).blk := fun e => by
      rcases hE.names n (by rw [hn]; simp) with ⟨_, hh⟩ | ⟨h, h'⟩
      · rcases hh hlive with h | ⟨m, hm, lm, e'⟩
        · omega
        · exact hf m hm lm (e'.trans e.symm)
      · rw [hE.old n h] at e hlive
        exact hf n h' hlive e.symm
    obtain ⟨f1, f2⟩ := hE.frame b hb0 hf
    exact ⟨f1, fun o => by rw [hne b hbn]; exact f2 o⟩
  · obtain ⟨o1, ho1⟩ := Option.ne_none_iff_exists'.1 hm
    rw [lk_mapH_] at ho1
    obtain ⟨o2, ho2, _⟩ := Option.map_eq_some_iff.1 ho1
    exact hE.names m (by rw [(hsub m o2 ho2).1]; simp)
theorem StA.freezeB {μ0 : Nat → Nm} {M0 : Mem} {w0 : World} {c0 : Nat → Option Ob} {a : Act} {w : World} (n : Nat) {e sz len : Nat} {cs : List SV} {ds : List DV} (hn : lk st.hp n = some (.arr e sz len cs)) (hcs : cs = ds.map .d)
    (h : StA N μ0 M0 w0 c0 k0 st a w) : StA N μ0 M0 w0 c0 k0 ⟨frzE n len ds st.env, frzH n len ds (hdel st.hp n), st.k⟩ a w := h.freezeG n (frz_ok n len ds) hn hcs
theorem SW.freezeB {s : SCo} (n : Nat) {e sz len : Nat} {cs : List SV} (ds : List DV) (hn : lk st.hp n = some (.arr e sz len cs)) (hcs : cs = ds.map .d) (h : SW P N k0 s ⟨frzE n len ds st.env, frzH n len ds (hdel st.hp n), st.k⟩ Q) : SW P N k0 s st Q :=
  fun c hc rd hrf μ0 M0 w0 c0 a w hSt => h c hc rd hrf μ0 M0 w0 c0 a w (hSt.freezeB n hn hcs)
end
end Go.Sl
