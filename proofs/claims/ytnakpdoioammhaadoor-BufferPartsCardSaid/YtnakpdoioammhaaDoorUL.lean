/-
  Histories: what a row knows, counted; the program's own test of a history is the document's.
-/
import Derived.Test.YtnakpdoioammhaaDoorU8
import Derived.Test.YtnakpdoioammhaaDoorUK
import Derived.Test.YtnakpdoioammhaaDoorU9
import Derived.Test.YtnakpdoioammhaaDoorU7
set_option linter.unusedSectionVars false
set_option linter.unusedVariables false
set_option linter.unusedSimpArgs false
namespace Go.Sl
end Go.Sl
namespace Go.Sl
open Go.RowKit
variable {P : Program}
end Go.Sl
namespace Go.Sl
open Go.RowKit
theorem cO_eqnil {P : Program} {op : Op} {neg : Bool} {kd : Nat} {x' : X} (hc : cO P op = some (.eqnil neg kd x')) : ∃ b t x y t', op = .binOp b t x y t' ∧ isEq b = true ∧ isNeq b = neg ∧ nilKd P t y = some kd ∧ cX x = some x' := by
  cases op <;> simp only [cO] at hc <;> try (cases hc; done)
  case binOp b t x y t' =>
    refine ⟨b, t, x, y, t', rfl, ?_⟩
    by_cases hq : isEq b = true
    · rw [if_pos hq] at hc
      split at hc
      · repeat' (first | contradiction | (cases hc; done) | split at hc)
      · repeat' (first | contradiction | (cases hc; done) | split at hc)
      · repeat' (first | contradiction | (cases hc; done) | split at hc)
      · repeat' (first | contradiction | (cases hc; done) | split at hc)
      · split at hc <;> first | (cases hc; done) | skip
        rename_i h1 h2
        injection hc with hc
        injection hc with e1 e2 e3
        subst e2; subst e3
        exact ⟨hq, e1, h1, h2⟩
    · rw [if_neg hq] at hc
      repeat' (first | contradiction | (cases hc; done) | split at hc)
  all_goals (repeat' (first | contradiction | (cases hc; done) | (obtain ⟨_, _, hh⟩ := Option.map_eq_some_iff.1 hc; cases hh; done) | split at hc))
theorem sq_eqnilS {P : Program} {o : Oper} {E : Nat → Option SV} {H : Nat → Option Ob} {k : Nat} {neg : Bool} {x' : X} {n : Nat} {cs : List DV} (hc : cO P o.op = some (.eqnil neg 3 x')) (hx : ev E x' = some (.d (.sl n cs))) :
    SoundQ P o E H k 0 [] (fun v F' => F' = [] ∧ (v = .d (.bool neg) ∨ (n = 0 ∧ v = .d (.bool !neg)))) := by
  obtain ⟨op, t, x, y, t', ho, hop, hneg, hy, hcx⟩ := cO_eqnil hc
  subst hneg
  refine ⟨sub_nil, fun rd p μ M a w K QQ hnew hk hS hK => ?_⟩
  obtain ⟨A, c, e1, e2, e3, e4⟩ := (by simpa [RepD] using Rp.d_iff.1 (hk.get (by simp [ho, Op.operands]) hcx hx) : ∃ A cp, a.eval x = .slice A n cp ∧ n ≤ cp ∧ (n = 0 → cs = []) ∧ (0 < n → ∃ b q, A = some ⟨b, q, none⟩ ∧ RepR M b q cs))
  have hty : ∃ e, P.underlying t = some (.slice e) ∧ a.eval y = .slice none 0 0 := by
    unfold nilKd at hy
    split at hy <;> first | (cases hy; done) | skip
    all_goals first
      | (injection hy with hy; cases hy; done)
      | exact ⟨_, by assumption, rfl⟩
  obtain ⟨el, hty, hyv⟩ := hty
  have h0 : ∀ d, (Op.equalIn (d + 1) t (a.eval x) (a.eval y)).run P w = .ok A.isNone w := fun d => by
    rw [e1, hyv]; cases A <;> simp [Op.equalIn, run_underlying hty]
  have h1 := h0 9999
  clear h0
  have n5 : eqGuard op t x y (a.eval x) (a.eval y) = Pure.pure () := by rw [e1]; simp [eqGuard_at_slice]
  have hb : (binOp op t (a.eval x) (a.eval y)).run P w = .ok (.bool (bif isNeq op then !A.isNone else A.isNone)) w := by
    rw [e1, hyv] at h1 ⊢
    rcases isEq_cases hop with rfl | rfl <;> simp [binOp, Op.equal, Op.maxDepth, h1, isNeq]
  have hex : (execOp a.eval o).run P w = .ok (.value (.bool (bif isNeq op then !A.isNone else A.isNone))) w := by
    simp only [execOp, ho, Sem.run_bind, n5, Sem.run_pure, Result.andThen_ok, hb]
  refine wp_value hex (hK (.d (.bool (bif isNeq op then !A.isNone else A.isNone))) [] _ μ M w ⟨rfl, ?_⟩ (Rp.bool_iff.2 rfl) (hS.more fun _ h => .inl h) (Ev.refl _ _ _ _ _ fun n h => by simp [lk_nil] at h))
  by_cases hn : n = 0
  · cases A <;> cases isNeq op <;> simp [hn]
  · obtain ⟨b, q, rfl, _⟩ := e4 (by omega)
    left
    cases isNeq op <;> rfl
theorem SWn.manyR {P : Program} {N k0 : Nat} {st : St} {K : St → Prop} {si : SI} {r : List SI} {F : Hp} {nk : Nat} {Q : SV → Hp → Prop} (hg : si.g = none) (hq : ∀ o : Oper, cO P o.op = some si.op → SoundQ P o (fun t => st.env.lookup t) (lk st.hp) st.k nk F Q)
    (hro : ∀ v F', Q v F' → F' = F) (h : ∀ v F', Q v F' → SWn P N k0 r (upd st si ⟨v, F, F', nk, True⟩) K) : SWn P N k0 (si :: r) st K := by
  refine SWn.cons fun ops o hc hN rd μ0 M0 w0 c0 a w hSt i ho Q' KK hKK => ?_
  obtain ⟨g1, g2, g3⟩ := cOper_spec hc
  have hgn : o.guard = none := by
    rcases g3 with ⟨h, _⟩ | ⟨j, w, t, h, _, h'⟩
    · exact h
    · rw [hg] at h'; cases h'
  unfold wpOpIn
  simp only [ho, Region.wanted, hgn, if_true]
  exact (StA.step g2 (fun d hd => hN d (by rw [g2]; exact hd)) (hq o g1) (fun v F' hQ hr => hro v F' hQ) hSt fun v F' hQ a' w' hSt' => hKK _ a' w' (h v F' hQ) hSt')
theorem SW.nilS {P : Program} {N k0 : Nat} {st : St} {Q : Exit → St → Prop} {d s t n : Nat} {cs : List DV} {neg : Bool} {bs : List Nat} (hl : st.env.lookup s = some (.d (.sl n cs)))
    (h1 : Q .normal ⟨(d, .d (.bool neg)) :: (t, .d (.sl n cs)) :: st.env, st.hp, st.k⟩) (h2 : n = 0 → Q .normal ⟨(d, .d (.bool !neg)) :: (t, .d (.sl n cs)) :: st.env, st.hp, st.k⟩) :
    SW P N k0 (.reg [⟨some t, .mv (.t s), none⟩, ⟨some d, .eqnil neg 3 (.t t), none⟩] bs false) st Q := by
  refine SW.ofN (SWn.one (crs := []) (c2 := []) (e := ⟨.d (.sl n cs), [], [], 0, True⟩) (by simp only [runOp, goOp, sop, ev, hl]) trivial ?_)
  refine SWn.manyR rfl (fun o hc => sq_eqnilS (n := n) (cs := cs) hc (by simp [upd, ev])) (fun v F' h => h.1) fun v F' hv => SWn.nil ?_
  obtain ⟨rfl, rfl | ⟨h0, rfl⟩⟩ := hv
  · exact h1
  · exact h2 h0
end Go.Sl
namespace Go.Sl
open Go.RowKit
variable {P : Program}
theorem SWn.manyG {N k0 : Nat} {st : St} {K : St → Prop} {si : SI} {r : List SI} {t : Nat} {b : Bool} {F : Hp} {nk : Nat} {Q : SV → Hp → Prop} (hg : si.g = some (t, b)) (hgv : st.env.lookup t = some (.d (.bool b))) (hq : ∀ o : Oper, cO P o.op = some si.op → SoundQ P o (fun t => st.env.lookup t) (lk st.hp) st.k nk F Q)
    (hro : roOf si.op = false) (h : ∀ v F', Q v F' → SWn P N k0 r (upd st si ⟨v, F, F', nk, True⟩) K) : SWn P N k0 (si :: r) st K := by
  refine SWn.cons fun ops o hc hN rd μ0 M0 w0 c0 a w hSt i ho Q' KK hKK => ?_
  obtain ⟨g1, g2, g3⟩ := cOper_spec hc
  obtain ⟨hk0, hdf, hsz, μ, M, hsl, hS, hE⟩ := hSt
  have hSt : StA N μ0 M0 w0 c0 k0 st a w := ⟨hk0, hdf, hsz, μ, M, hsl, hS, hE⟩
  have hw : Region.wanted o (yielded ops a.tmps) = true := by
    rcases g3 with ⟨_, h'⟩ | ⟨j, w, t', hg', hd, h'⟩
    · rw [hg] at h'; cases h'
    · rw [hg] at h'
      injection h' with h'
      injection h' with e1 e2
      subst e1; subst e2
      have hv := Rp.bool_iff.1 (hsl t _ hgv)
      simp only [Region.wanted, hg', yielded_of hd hv]
      simp
  unfold wpOpIn
  simp only [ho, hw, if_true]
  exact (StA.step g2 (fun d hd => hN d (by rw [g2]; exact hd)) (hq o g1) (fun v F' _ hr => by rw [hro] at hr; cases hr) hSt fun v F' hQ a' w' hSt' => hKK _ a' w' (h v F' hQ) hSt')
end Go.Sl
namespace Go.Sl
open Go.RowKit
end Go.Sl
namespace Go.Sl
open Go.RowKit
variable {P : Program}
section
variable {σ : Type} {G : Hp} {Fh : σ → Hp} {s : σ} {kk : Nat}
end
section
variable {N k0 : Nat} {K : St → Prop}
end
end Go.Sl
namespace Go.Sl
open Go.RowKit
section
variable {P : Program} {N k0 : Nat} {st : St} {Q : Exit → St → Prop}
end
end Go.Sl
