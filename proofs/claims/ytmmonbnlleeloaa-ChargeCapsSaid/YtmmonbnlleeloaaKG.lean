/-
  Spends: the law that charges are the document's.
-/
import Derived.Test.YtmmonbnlleeloaaKE
import Derived.Test.YtmmonbnlleeloaaKD
import Derived.Test.YtmmonbnlleeloaaKC
set_option linter.unusedSectionVars false
set_option linter.unusedVariables false
set_option linter.unusedSimpArgs false
namespace Go.Proofs.Ytmmonbnlleeloaa
open Go.Sl Go.Proofs
attribute [local irreducible] SW RW SCd SC CallP Pruned
theorem room0_ok (s : List Sp) (d : Dt) : Go.Sl.Pure Try.prog charge_Room.f [.d .nilp, sps s, .agg d.cells] (.tup [.d (.int .u64 0), .d (.int .i64 1)]) := by
  refine charge_Room.enter (by first | rfl | simp [SV.ok, SV.oks]) (by first | rfl | simp [Hp.ok, Ob.ok, SV.ok, SV.oks, Vec.cells_ok]) (by simp) ?_
  unfold charge_Room.s
  (repeat (first | refine SW.seq ?_ | refine SW.block ?_ | (refine SW.regL [0, 1, 2, 5, 6, 7, 8, 9, 11, 19] mixed ?_; (repeat (first | refine RW.ro bq_tt (h := ?_) | refine RW.skip (h := ?_) | refine RW.op bq_tt (h := ?_) | refine RW.opN bq_tt (h := ?_) | refine RW.skip0 (h := ?_) | (refine RW.callC (h := ?_); (first | refine CallP.mk bq_tt (hc := tchain0_at _ _) (h := ?_))))); refine RW.nil ⟨by kernel_rfl, Pruned.mk (h := ?_)⟩) | refine SW.skip ?_ | refine SW.exit ?_ | refine SW.ret ?_ | refine SW.condT rfl ?_ | refine SW.condF rfl ?_))
  exact End.mk [] (h4 := ⟨rfl, rfl⟩)
theorem room0_at (s : List Sp) (d : Dt) (k : Nat) : SCd Try.prog charge_Room.f [.d .nilp, sps s, .agg d.cells] [] k 0 (.tup [.d (.int .u64 0), .d (.int .i64 1)]) [] := (room0_ok s d).sc rfl k
theorem charge0_ok (s : List Sp) (d : Dt) (n : Int) : Go.Sl.Pure Try.prog charge_Charge.f [.d .nilp, sps s, .agg d.cells, .d (.int .u64 n)] (.tup [.d .nils, .d (.int .i64 1)]) := by
  refine charge_Charge.enter (by first | rfl | simp [SV.ok, SV.oks]) (by first | rfl | simp [Hp.ok, Ob.ok, SV.ok, SV.oks, Vec.cells_ok]) (by simp) ?_
  unfold charge_Charge.s
  (repeat (first | refine SW.seq ?_ | refine SW.block ?_ | (refine SW.regL [0, 1, 2, 3, 6, 8, 9, 10, 11, 12, 14, 16, 24, 37, 40, 41, 42, 43] mixed ?_; (repeat (first | refine RW.ro bq_tt (h := ?_) | refine RW.skip (h := ?_) | refine RW.op bq_tt (h := ?_) | refine RW.opN bq_tt (h := ?_) | refine RW.skip0 (h := ?_) | (refine RW.callC (h := ?_); (first | refine CallP.mk bq_tt (hc := tchain0_at _ _) (h := ?_))))); refine RW.nil ⟨by kernel_rfl, Pruned.mk (h := ?_)⟩) | refine SW.skip ?_ | refine SW.exit ?_ | refine SW.ret ?_ | refine SW.condT rfl ?_ | refine SW.condF rfl ?_))
  exact End.mk [] (h4 := ⟨rfl, rfl⟩)
theorem charge0_at (s : List Sp) (d : Dt) (n : Int) (k : Nat) : SCd Try.prog charge_Charge.f [.d .nilp, sps s, .agg d.cells, .d (.int .u64 n)] [] k 0 (.tup [.d .nils, .d (.int .i64 1)]) [] := (charge0_ok s d n).sc rfl k
def rV (f : Dt → Nat) : List Dt → Nat
  | [] => 0
  | d :: r => f (minAt f d r)
def tD (f : Dt → Nat) : List Dt → Dt
  | [] => ⟨0, 0⟩
  | d :: r => minAt f d r
def eV : List Dt → Int
  | [] => 7
  | _ :: _ => 0
def cS (f : Dt → Nat) (amount : Nat) (s : List Sp) : List Dt → SV
  | [] => .d .nils
  | d :: r => if f (minAt f d r) < amount then sps (plainR s) else sps (plainR (moreR amount s (d :: r)))
def cE (f : Dt → Nat) (amount : Nat) : List Dt → Int
  | [] => 7
  | d :: r => if f (minAt f d r) < amount then 279 else 0
theorem roomS_two (f : Dt → Nat) (D : List Dt) : roomS f D = .tup [.d (.int .u64 ((rV f D : Nat) : Int)), .d (.int .i64 (eV D))] := by cases D <;> rfl
theorem tightP_two (f : Dt → Nat) (D : List Dt) : tightP f D = .tup [.agg (tD f D).cells, .d (.int .i64 (eV D))] := by cases D <;> rfl
theorem tightS_three (f : Dt → Nat) (D : List Dt) : tightS f D = .tup [.agg (tD f D).cells, .d (.int .u64 ((rV f D : Nat) : Int)), .d (.int .i64 (eV D))] := by cases D <;> rfl
theorem chargeS_two (f : Dt → Nat) (amount : Nat) (s : List Sp) (D : List Dt) : chargeS f amount s D = .tup [cS f amount s D, .d (.int .i64 (cE f amount D))] := by
  cases D with
  | nil => rfl
  | cons d r => by_cases h : f (minAt f d r) < amount <;> simp only [chargeS, cS, cE, h, if_true, if_false]
theorem cS_ok (f : Dt → Nat) (amount : Nat) (s : List Sp) (D : List Dt) (q : Nat → Bool) : (cS f amount s D).ok q = true := by
  cases D with
  | nil => rfl
  | cons d r => by_cases h : f (minAt f d r) < amount <;> simp only [cS, h, if_true, if_false] <;> rfl
theorem cS_ren (f : Dt → Nat) (amount : Nat) (s : List Sp) (D : List Dt) (r : Nat → Nat) : (cS f amount s D).ren r = cS f amount s D := by
  cases D with
  | nil => rfl
  | cons d r' => by_cases h : f (minAt f d r') < amount <;> simp only [cS, h, if_true, if_false] <;> rfl
theorem spsame_nils (k : Nat) : SCd Try.prog ref22_Same.f [.d .nils, .d .nils] [] k 0 (.d (.bool true)) [] := by
  have h : Go.Sl.Pure Try.prog ref22_Same.f [.d .nils, .d .nils] (.d (.bool true)) :=
    SB.args (spsame_ok [] [] (by decide) (by decide)) rfl fun p μ M vs => rps_nil_row (fun _ => rps_nil_row (fun _ h => h) _) vs
  exact h.sc rfl k
theorem cS_same (f : Dt → Nat) (amount : Nat) (s : List Sp) (D : List Dt) (hs : s.length < 100000) (hD : D.length < 100000) (k : Nat) : SCd Try.prog ref22_Same.f [cS f amount s D, cS f amount s D] [] k 0 (.d (.bool true)) [] := by
  cases D with
  | nil => exact spsame_nils k
  | cons d r =>
    have h1 := plainR_len s
    have h2 := plainR_len (moreR amount s (d :: r))
    have h3 := moreR_len amount s (d :: r)
    by_cases h : f (minAt f d r) < amount <;> simp only [cS, h, if_true, if_false]
    · have := spsame_at (plainR s) (plainR s) (by omega) (by omega) k
      rwa [decide_eq_true rfl] at this
    · have := spsame_at (plainR (moreR amount s (d :: r))) (plainR (moreR amount s (d :: r))) (by omega) (by omega) k
      rwa [decide_eq_true rfl] at this
end Go.Proofs.Ytmmonbnlleeloaa
namespace Go.Proofs.Ytmmonbnlleeloaa
open Go.Sl Go.Proofs
attribute [local irreducible] SW RW SCd SC CallP Pruned
section
variable {l : List OpD} {a : MM Dt Cr} {ca : Nat} {m : MM Dt OpD} {cm : Nat} (h : Tn l a ca m cm)
include h
theorem Tn.tok0 : TOk l (tr0 a ca m cm) := ⟨h.tok.cr, h.tok.no⟩
variable (s : List Sp) (hs : s.length < 10000) (d : Dt) (L : List Cr) (hL : Ups a (MM.get a d) L) (hlL : L.length < 10000)
include hs hL hlL
theorem Tn.roomC (k : Nat) : SCd Try.prog charge_Room.f [.ptr 2 0, sps s, .agg d.cells] (H2 a ca m cm) k 0 (.tup [.d (.int .u64 ((rV (leftF a s) (L.map (·.dot)) : Nat) : Int)), .d (.int .i64 (eV (L.map (·.dot))))]) (H2 a ca m cm) := by
  have := SB.atL [2, 0, 1] (room_sb h.tok0 s hs d L hL hlL) (by decide) (hp0_ne _ _ _ _) k
  rw [show Hp.ren (atN [2, 0, 1] k) (hp0 a ca m cm) = H2 a ca m cm from hp0_ren (tr2 a ca m cm) k, roomS_two] at this
  simpa [SV.rens, SV.ren, atN, Dt.cells_ren] using this
theorem Tn.tightC (k : Nat) : SCd Try.prog charge_Tight.f [.ptr 2 0, sps s, .agg d.cells] (H2 a ca m cm) k 0 (.tup [.agg (tD (leftF a s) (L.map (·.dot))).cells, .d (.int .i64 (eV (L.map (·.dot))))]) (H2 a ca m cm) := by
  have := SB.atL [2, 0, 1] (ptight_sb h.tok0 s hs d L hL hlL) (by decide) (hp0_ne _ _ _ _) k
  rw [show Hp.ren (atN [2, 0, 1] k) (hp0 a ca m cm) = H2 a ca m cm from hp0_ren (tr2 a ca m cm) k, tightP_two] at this
  simpa [SV.rens, SV.ren, atN, Dt.cells_ren] using this
theorem Tn.chargeC (hn : ∀ x, x ∈ s → x.n < 18446744073709551616) (amount : Nat) (k : Nat) : SCd Try.prog charge_Charge.f [.ptr 2 0, sps s, .agg d.cells, .d (.int .u64 (amount : Int))] (H2 a ca m cm) k 0 (.tup [cS (leftF a s) amount s (L.map (·.dot)), .d (.int .i64 (cE (leftF a s) amount (L.map (·.dot))))]) (H2 a ca m cm) := by
  have := SB.atL [2, 0, 1] (charge_sb h.tok0 s hs hn d L hL hlL amount) (by decide) (hp0_ne _ _ _ _) k
  rw [show Hp.ren (atN [2, 0, 1] k) (hp0 a ca m cm) = H2 a ca m cm from hp0_ren (tr2 a ca m cm) k, chargeS_two] at this
  simpa [SV.rens, SV.ren, atN, Dt.cells_ren, cS_ren] using this
end
end Go.Proofs.Ytmmonbnlleeloaa
namespace Go.Proofs.Ytmmonbnlleeloaa
open Go.Sl Go.Proofs
attribute [local irreducible] SW RW SCd SC CallP Pruned
section
variable {l : List OpD} {a : MM Dt Cr} {ca : Nat} {m : MM Dt OpD} {cm : Nat} (h : Tn l a ca m cm) (d : Dt) (L : List Cr) (hL : Ups a (MM.get a d) L) (hlL : L.length < 10000)
include h hL hlL
theorem Tn.roomC0 (k : Nat) : SCd Try.prog charge_Room.f [.ptr 2 0, .d .nils, .agg d.cells] (H2 a ca m cm) k 0 (.tup [.d (.int .u64 ((rV (leftF a []) (L.map (·.dot)) : Nat) : Int)), .d (.int .i64 (eV (L.map (·.dot))))]) (H2 a ca m cm) := by
  have h0 := room_sb h.tok0 [] (by decide) d L hL hlL
  have h1 := SB.args (args' := [.ptr 0 0, .d .nils, .agg d.cells]) h0 rfl fun p μ M vs => rps_keep (rps_nil_row (fun _ h => h)) vs
  have := SB.atL [2, 0, 1] h1 (by decide) (hp0_ne _ _ _ _) k
  rw [show Hp.ren (atN [2, 0, 1] k) (hp0 a ca m cm) = H2 a ca m cm from hp0_ren (tr2 a ca m cm) k, roomS_two] at this
  simpa [SV.rens, SV.ren, atN, Dt.cells_ren] using this
theorem Tn.tightC0 (k : Nat) : SCd Try.prog charge_Tight.f [.ptr 2 0, .d .nils, .agg d.cells] (H2 a ca m cm) k 0 (.tup [.agg (tD (leftF a []) (L.map (·.dot))).cells, .d (.int .i64 (eV (L.map (·.dot))))]) (H2 a ca m cm) := by
  have h0 := ptight_sb h.tok0 [] (by decide) d L hL hlL
  have h1 := SB.args (args' := [.ptr 0 0, .d .nils, .agg d.cells]) h0 rfl fun p μ M vs => rps_keep (rps_nil_row (fun _ h => h)) vs
  have := SB.atL [2, 0, 1] h1 (by decide) (hp0_ne _ _ _ _) k
  rw [show Hp.ren (atN [2, 0, 1] k) (hp0 a ca m cm) = H2 a ca m cm from hp0_ren (tr2 a ca m cm) k, tightP_two] at this
  simpa [SV.rens, SV.ren, atN, Dt.cells_ren] using this
theorem Tn.chargeC0 (amount : Nat) (k : Nat) : SCd Try.prog charge_Charge.f [.ptr 2 0, .d .nils, .agg d.cells, .d (.int .u64 (amount : Int))] (H2 a ca m cm) k 0 (.tup [cS (leftF a []) amount [] (L.map (·.dot)), .d (.int .i64 (cE (leftF a []) amount (L.map (·.dot))))]) (H2 a ca m cm) := by
  have h0 := charge_sb h.tok0 [] (by decide) (fun x hx => by cases hx) d L hL hlL amount
  have h1 := SB.args (args' := [.ptr 0 0, .d .nils, .agg d.cells, .d (.int .u64 (amount : Int))]) h0 rfl fun p μ M vs => rps_keep (rps_nil_row (fun _ h => h)) vs
  have := SB.atL [2, 0, 1] h1 (by decide) (hp0_ne _ _ _ _) k
  rw [show Hp.ren (atN [2, 0, 1] k) (hp0 a ca m cm) = H2 a ca m cm from hp0_ren (tr2 a ca m cm) k, chargeS_two] at this
  simpa [SV.rens, SV.ren, atN, Dt.cells_ren, cS_ren] using this
end
def aN : OpD := ⟨⟨0, 2⟩, vec1 1, 2, 1, ⟨0, 1⟩, 1, ⟨0, 1⟩, 2, 7, 3, 500, ⟨0, 0⟩, ⟨0, 0⟩, 0, 0, 0, .nils⟩
def bN : OpD := ⟨⟨0, 3⟩, vec1 2, 3, 2, ⟨0, 1⟩, 1, ⟨0, 2⟩, 3, 2, 0, 100, ⟨0, 0⟩, ⟨0, 0⟩, 0, 0, 0, .nils⟩
abbrev hn3 : List OpD := [gO, aN, bN]
def e2 : Cr := ⟨⟨0, 2⟩, ⟨0, 1⟩, ⟨0, 1⟩, 2, 7, 3, 500, 1⟩
def e3 : Cr := ⟨⟨0, 3⟩, ⟨0, 1⟩, ⟨0, 2⟩, 3, 2, 0, 100, 2⟩
abbrev hA : MM Dt Cr := [(0, ⟨0, 1⟩, c1), (1, ⟨0, 2⟩, e2), (2, ⟨0, 3⟩, e3)]
theorem headA (k : Nat) : (newTr' hn3 k).at_ = hA := by
  show (newTr hn3).at_ = _
  kernel_rfl
theorem bldAN : spl (spl (spl (spl (spl (spl (spl (spl (spl (spl (spl OpD.zero.cells 0 (Dt.mk 0 2).cells) 2 (vec1 1).cells) 10 [.d (.int .u64 2)]) 11 [.d (.int .u32 1)]) 12 (Dt.mk 0 1).cells) 14 [.d (.int .u8 1)]) 15 (Dt.mk 0 1).cells) 17 [.d (.int .u32 2)]) 18 [.d (.int .u8 7)]) 19 [.d (.int .u8 3)]) 20 [.d (.int .u64 500)] = aN.cells := rfl
theorem bldBN : spl (spl (spl (spl (spl (spl (spl (spl (spl (spl OpD.zero.cells 0 (Dt.mk 0 3).cells) 2 (vec1 2).cells) 10 [.d (.int .u64 3)]) 11 [.d (.int .u32 2)]) 12 (Dt.mk 0 1).cells) 14 [.d (.int .u8 1)]) 15 (Dt.mk 0 2).cells) 17 [.d (.int .u32 3)]) 18 [.d (.int .u8 2)]) 20 [.d (.int .u64 100)] = bN.cells := rfl
theorem row22_ok : Go.Sl.Pure Try.prog law22_row.f [] (ops hn3) := by
  refine law22_row.enter (by first | rfl | simp [SV.ok, SV.oks]) (by first | rfl | simp [Hp.ok, Ob.ok, SV.ok, SV.oks, Vec.cells_ok]) (by simp) ?_
  unfold law22_row.s
  refine SW.seq ?_
  (refine SW.regL [0, 1] mixed ?_; (repeat (first | refine RW.ro bq_tt (h := ?_) | refine RW.skip (h := ?_) | refine RW.op bq_tt (h := ?_) | refine RW.opN bq_tt (h := ?_) | refine RW.skip0 (h := ?_))); refine RW.nil ⟨by kernel_rfl, Pruned.mk (h := ?_)⟩)
  refine SW.seq ?_
  (refine SW.regL [0, 1] mixed ?_; (repeat (first | refine RW.ro bq_tt (h := ?_) | refine RW.skip (h := ?_) | refine RW.op bq_tt (h := ?_) | refine RW.opN bq_tt (h := ?_) | refine RW.skip0 (h := ?_))); refine RW.nil ⟨by kernel_rfl, Pruned.mk (h := ?_)⟩)
  refine SW.seq ?_
  (have fx := (And.intro (bldG) (And.intro (bldAN) (And.intro (bldBN) (And.intro (bldV1) (bldV2))))); refine SW.regL [0, 1] mixed ?_; (repeat (first | refine RW.ro fx (h := ?_) | refine RW.skip (h := ?_) | refine RW.op fx (h := ?_) | refine RW.opN fx (h := ?_) | refine RW.skip0 (h := ?_) | refine lit3 rfl rfl rfl rfl (h := ?_))); refine RW.nil ⟨by kernel_rfl, Pruned.mk (h := ?_)⟩)
  refine SW.ret ?_
  exact End.mk [] (h4 := ⟨rfl, rfl⟩)
theorem row22_at (k : Nat) : SCd Try.prog law22_row.f [] [] k 0 (ops hn3) [] := row22_ok.sc rfl k
abbrev s1 : List Sp := [⟨⟨0, 1⟩, 60⟩, ⟨⟨0, 2⟩, 60⟩, ⟨⟨0, 3⟩, 60⟩]
abbrev s2 : List Sp := [⟨⟨0, 1⟩, 500⟩, ⟨⟨0, 2⟩, 500⟩, ⟨⟨0, 3⟩, 60⟩]
section
variable {a : MM Dt Cr} {ca : Nat} {m : MM Dt OpD} {cm : Nat} (h : Tn hn3 a ca m cm)
include h
theorem Tn.hA : a = Go.Proofs.Ytmmonbnlleeloaa.hA := by
  have := headA 0
  rw [h.new] at this; exact this
theorem Tn.v3 : Ups a (MM.get a ⟨0, 3⟩) [e3, e2, c1] := by
  rw [h.hA]
  exact .more e3 _ (by decide) (.more e2 _ (by decide) (.root c1 (by decide)))
theorem Tn.v2 : Ups a (MM.get a ⟨0, 2⟩) [e2, c1] := by
  rw [h.hA]
  exact .more e2 _ (by decide) (.root c1 (by decide))
theorem Tn.v1 : Ups a (MM.get a ⟨0, 1⟩) [c1] := by
  rw [h.hA]
  exact .root c1 (by decide)
theorem Tn.v4 : Ups a (MM.get a ⟨0, 4⟩) [] := by
  rw [h.hA]
  exact .none
theorem Tn.r1 (k : Nat) : SCd Try.prog charge_Room.f [.ptr 2 0, .d .nils, .agg (Dt.mk 0 3).cells] (H2 a ca m cm) k 0 (.tup [.d (.int .u64 100), .d (.int .i64 0)]) (H2 a ca m cm) := by
  have := h.roomC0 ⟨0, 3⟩ _ h.v3 (by decide) k
  rwa [show rV (leftF a []) ([e3, e2, c1].map (·.dot)) = 100 by rw [h.hA]; kernel_rfl] at this
theorem Tn.r2 (k : Nat) : SCd Try.prog charge_Tight.f [.ptr 2 0, .d .nils, .agg (Dt.mk 0 3).cells] (H2 a ca m cm) k 0 (.tup [.agg (Dt.mk 0 3).cells, .d (.int .i64 0)]) (H2 a ca m cm) := by
  have := h.tightC0 ⟨0, 3⟩ _ h.v3 (by decide) k
  rwa [show tD (leftF a []) ([e3, e2, c1].map (·.dot)) = ⟨0, 3⟩ by rw [h.hA]; kernel_rfl] at this
theorem Tn.r3 (k : Nat) : SCd Try.prog charge_Charge.f [.ptr 2 0, .d .nils, .agg (Dt.mk 0 3).cells, .d (.int .u64 60)] (H2 a ca m cm) k 0 (.tup [sps s1, .d (.int .i64 0)]) (H2 a ca m cm) := by
  have := h.chargeC0 ⟨0, 3⟩ _ h.v3 (by decide) 60 k
  rwa [show cS (leftF a []) 60 [] ([e3, e2, c1].map (·.dot)) = sps s1 by rw [h.hA]; kernel_rfl, show cE (leftF a []) 60 ([e3, e2, c1].map (·.dot)) = 0 by rw [h.hA]; kernel_rfl] at this
theorem Tn.r4 (k : Nat) : SCd Try.prog charge_Room.f [.ptr 2 0, sps s1, .agg (Dt.mk 0 3).cells] (H2 a ca m cm) k 0 (.tup [.d (.int .u64 40), .d (.int .i64 0)]) (H2 a ca m cm) := by
  have := h.roomC s1 (by decide) ⟨0, 3⟩ _ h.v3 (by decide) k
  rwa [show rV (leftF a s1) ([e3, e2, c1].map (·.dot)) = 40 by rw [h.hA]; kernel_rfl] at this
theorem Tn.r5 (k : Nat) : SCd Try.prog charge_Room.f [.ptr 2 0, sps s1, .agg (Dt.mk 0 2).cells] (H2 a ca m cm) k 0 (.tup [.d (.int .u64 440), .d (.int .i64 0)]) (H2 a ca m cm) := by
  have := h.roomC s1 (by decide) ⟨0, 2⟩ _ h.v2 (by decide) k
  rwa [show rV (leftF a s1) ([e2, c1].map (·.dot)) = 440 by rw [h.hA]; kernel_rfl] at this
theorem Tn.r6 (k : Nat) : SCd Try.prog charge_Room.f [.ptr 2 0, sps s1, .agg (Dt.mk 0 1).cells] (H2 a ca m cm) k 0 (.tup [.d (.int .u64 1099511627716), .d (.int .i64 0)]) (H2 a ca m cm) := by
  have := h.roomC s1 (by decide) ⟨0, 1⟩ _ h.v1 (by decide) k
  rwa [show rV (leftF a s1) ([c1].map (·.dot)) = 1099511627716 by rw [h.hA]; kernel_rfl] at this
theorem Tn.r7 (k : Nat) : SCd Try.prog charge_Charge.f [.ptr 2 0, sps s1, .agg (Dt.mk 0 3).cells, .d (.int .u64 41)] (H2 a ca m cm) k 0 (.tup [sps s1, .d (.int .i64 279)]) (H2 a ca m cm) := by
  have := h.chargeC s1 (by decide) ⟨0, 3⟩ _ h.v3 (by decide) (by decide) 41 k
  rwa [show cS (leftF a s1) 41 s1 ([e3, e2, c1].map (·.dot)) = sps s1 by rw [h.hA]; kernel_rfl, show cE (leftF a s1) 41 ([e3, e2, c1].map (·.dot)) = 279 by rw [h.hA]; kernel_rfl] at this
theorem Tn.r8 (k : Nat) : SCd Try.prog charge_Charge.f [.ptr 2 0, sps s1, .agg (Dt.mk 0 2).cells, .d (.int .u64 440)] (H2 a ca m cm) k 0 (.tup [sps s2, .d (.int .i64 0)]) (H2 a ca m cm) := by
  have := h.chargeC s1 (by decide) ⟨0, 2⟩ _ h.v2 (by decide) (by decide) 440 k
  rwa [show cS (leftF a s1) 440 s1 ([e2, c1].map (·.dot)) = sps s2 by rw [h.hA]; kernel_rfl, show cE (leftF a s1) 440 ([e2, c1].map (·.dot)) = 0 by rw [h.hA]; kernel_rfl] at this
theorem Tn.r9 (k : Nat) : SCd Try.prog charge_Room.f [.ptr 2 0, sps s2, .agg (Dt.mk 0 3).cells] (H2 a ca m cm) k 0 (.tup [.d (.int .u64 0), .d (.int .i64 0)]) (H2 a ca m cm) := by
  have := h.roomC s2 (by decide) ⟨0, 3⟩ _ h.v3 (by decide) k
  rwa [show rV (leftF a s2) ([e3, e2, c1].map (·.dot)) = 0 by rw [h.hA]; kernel_rfl] at this
theorem Tn.r10 (k : Nat) : SCd Try.prog charge_Tight.f [.ptr 2 0, sps s2, .agg (Dt.mk 0 3).cells] (H2 a ca m cm) k 0 (.tup [.agg (Dt.mk 0 2).cells, .d (.int .i64 0)]) (H2 a ca m cm) := by
  have := h.tightC s2 (by decide) ⟨0, 3⟩ _ h.v3 (by decide) k
  rwa [show tD (leftF a s2) ([e3, e2, c1].map (·.dot)) = ⟨0, 2⟩ by rw [h.hA]; kernel_rfl] at this
theorem Tn.r11 (k : Nat) : SCd Try.prog charge_Room.f [.ptr 2 0, .d .nils, .agg (Dt.mk 0 4).cells] (H2 a ca m cm) k 0 (.tup [.d (.int .u64 0), .d (.int .i64 7)]) (H2 a ca m cm) := h.roomC0 ⟨0, 4⟩ _ h.v4 (by decide) k
end
set_option maxHeartbeats 4000000 in
theorem head22_ok : Go.Sl.Pure Try.prog law22_head.f [] (bl true) := by
  obtain ⟨a, ca, m, cm, h⟩ := tn_of hn3
  refine law22_head.enter (by first | rfl | simp [SV.ok, SV.oks]) (by first | rfl | simp [Hp.ok, Ob.ok, SV.ok, SV.oks, Vec.cells_ok]) (by simp) ?_
  unfold law22_head.s
  refine SW.seq ?_
  (refine SW.regL [0, 1, 2, 3, 4, 6, 7, 8, 10, 12, 15, 16, 17, 18, 20, 23] mixed ?_; (repeat (first | refine RW.ro bq_tt (h := ?_) | refine RW.skip (h := ?_) | refine RW.op bq_tt (h := ?_) | refine RW.opN bq_tt (h := ?_) | refine RW.skip0 (h := ?_))); refine RW.nil ⟨by kernel_rfl, Pruned.mk (h := ?_)⟩)
  refine SW.seq ?_
  (refine SW.regL [0, 1, 2, 3, 4, 6, 7, 8, 10, 12, 15, 16, 17, 18, 20, 23] mixed ?_; (repeat (first | refine RW.ro bq_tt (h := ?_) | refine RW.skip (h := ?_) | refine RW.op bq_tt (h := ?_) | refine RW.opN bq_tt (h := ?_) | refine RW.skip0 (h := ?_) | (refine RW.callC (h := ?_); (first | refine CallP.mk bq_tt (hc := row22_at _) (h := ?_) | refine CallP.mk bq_tt (hc := h.newC (by decide)) (h := ?_))))); refine RW.nil ⟨by kernel_rfl, Pruned.mk (h := ?_)⟩)
  refine SW.seq ?_
  (refine SW.regL [0, 1, 2, 3, 4, 6, 7, 8, 10, 12, 15, 16, 17, 18, 20, 23] mixed ?_; (repeat (first | refine RW.ro bq_tt (h := ?_) | refine RW.skip (h := ?_) | refine RW.op bq_tt (h := ?_) | refine RW.opN bq_tt (h := ?_) | refine RW.skip0 (h := ?_) | (refine RW.callC (h := ?_); (first | refine CallP.mk bq_tt (hc := h.r1 _) (h := ?_) | refine CallP.mk bq_tt (hc := h.r2 _) (h := ?_) | refine CallP.mk bq_tt (hc := h.r3 _) (h := ?_) | refine CallP.mk bq_tt (hc := h.r4 _) (h := ?_) | refine CallP.mk bq_tt (hc := h.r5 _) (h := ?_) | refine CallP.mk bq_tt (hc := h.r6 _) (h := ?_) | refine CallP.mk bq_tt (hc := h.r7 _) (h := ?_) | refine CallP.mk bq_tt (hc := h.r8 _) (h := ?_) | refine CallP.mk bq_tt (hc := h.r9 _) (h := ?_) | refine CallP.mk bq_tt (hc := h.r10 _) (h := ?_) | refine CallP.mk bq_tt (hc := h.r11 _) (h := ?_))))); refine RW.nil ⟨by kernel_rfl, Pruned.mk (h := ?_)⟩)
  refine SW.seq ?_
  (refine SW.regL [0, 1, 2, 3, 4, 6, 7, 8, 10, 12, 15, 16, 17, 18, 20, 23] mixed ?_; (repeat (first | refine RW.ro bq_tt (h := ?_) | refine RW.skip (h := ?_) | refine RW.op bq_tt (h := ?_) | refine RW.opN bq_tt (h := ?_) | refine RW.skip0 (h := ?_) | (refine RW.callC (h := ?_); (first | refine CallP.mk bq_tt (hc := h.r1 _) (h := ?_) | refine CallP.mk bq_tt (hc := h.r2 _) (h := ?_) | refine CallP.mk bq_tt (hc := h.r3 _) (h := ?_) | refine CallP.mk bq_tt (hc := h.r4 _) (h := ?_) | refine CallP.mk bq_tt (hc := h.r5 _) (h := ?_) | refine CallP.mk bq_tt (hc := h.r6 _) (h := ?_) | refine CallP.mk bq_tt (hc := h.r7 _) (h := ?_) | refine CallP.mk bq_tt (hc := h.r8 _) (h := ?_) | refine CallP.mk bq_tt (hc := h.r9 _) (h := ?_) | refine CallP.mk bq_tt (hc := h.r10 _) (h := ?_) | refine CallP.mk bq_tt (hc := h.r11 _) (h := ?_))))); refine RW.nil ⟨by kernel_rfl, Pruned.mk (h := ?_)⟩)
  refine SW.seq ?_
  (refine SW.regL [0, 1, 2, 3, 4, 6, 7, 8, 10, 12, 15, 16, 17, 18, 20, 23] mixed ?_; (repeat (first | refine RW.ro bq_tt (h := ?_) | refine RW.skip (h := ?_) | refine RW.op bq_tt (h := ?_) | refine RW.opN bq_tt (h := ?_) | refine RW.skip0 (h := ?_) | (refine RW.callC (h := ?_); (first | refine CallP.mk bq_tt (hc := h.r1 _) (h := ?_) | refine CallP.mk bq_tt (hc := h.r2 _) (h := ?_) | refine CallP.mk bq_tt (hc := h.r3 _) (h := ?_) | refine CallP.mk bq_tt (hc := h.r4 _) (h := ?_) | refine CallP.mk bq_tt (hc := h.r5 _) (h := ?_) | refine CallP.mk bq_tt (hc := h.r6 _) (h := ?_) | refine CallP.mk bq_tt (hc := h.r7 _) (h := ?_) | refine CallP.mk bq_tt (hc := h.r8 _) (h := ?_) | refine CallP.mk bq_tt (hc := h.r9 _) (h := ?_) | refine CallP.mk bq_tt (hc := h.r10 _) (h := ?_) | refine CallP.mk bq_tt (hc := h.r11 _) (h := ?_))))); refine RW.nil ⟨by kernel_rfl, Pruned.mk (h := ?_)⟩)
  refine SW.seq ?_
  (refine SW.regL [0, 1, 2, 3, 4, 6, 7, 8, 10, 12, 15, 16, 17, 18, 20, 23] mixed ?_; (repeat (first | refine RW.ro bq_tt (h := ?_) | refine RW.skip (h := ?_) | refine RW.op bq_tt (h := ?_) | refine RW.opN bq_tt (h := ?_) | refine RW.skip0 (h := ?_) | (refine RW.callC (h := ?_); (first | refine CallP.mk bq_tt (hc := h.r1 _) (h := ?_) | refine CallP.mk bq_tt (hc := h.r2 _) (h := ?_) | refine CallP.mk bq_tt (hc := h.r3 _) (h := ?_) | refine CallP.mk bq_tt (hc := h.r4 _) (h := ?_) | refine CallP.mk bq_tt (hc := h.r5 _) (h := ?_) | refine CallP.mk bq_tt (hc := h.r6 _) (h := ?_) | refine CallP.mk bq_tt (hc := h.r7 _) (h := ?_) | refine CallP.mk bq_tt (hc := h.r8 _) (h := ?_) | refine CallP.mk bq_tt (hc := h.r9 _) (h := ?_) | refine CallP.mk bq_tt (hc := h.r10 _) (h := ?_) | refine CallP.mk bq_tt (hc := h.r11 _) (h := ?_))))); refine RW.nil ⟨by kernel_rfl, Pruned.mk (h := ?_)⟩)
  refine SW.seq ?_
  (refine SW.regL [0, 1, 2, 3, 4, 6, 7, 8, 10, 12, 15, 16, 17, 18, 20, 23] mixed ?_; (repeat (first | refine RW.ro bq_tt (h := ?_) | refine RW.skip (h := ?_) | refine RW.op bq_tt (h := ?_) | refine RW.opN bq_tt (h := ?_) | refine RW.skip0 (h := ?_) | (refine RW.callC (h := ?_); (first | refine CallP.mk bq_tt (hc := h.r1 _) (h := ?_) | refine CallP.mk bq_tt (hc := h.r2 _) (h := ?_) | refine CallP.mk bq_tt (hc := h.r3 _) (h := ?_) | refine CallP.mk bq_tt (hc := h.r4 _) (h := ?_) | refine CallP.mk bq_tt (hc := h.r5 _) (h := ?_) | refine CallP.mk bq_tt (hc := h.r6 _) (h := ?_) | refine CallP.mk bq_tt (hc := h.r7 _) (h := ?_) | refine CallP.mk bq_tt (hc := h.r8 _) (h := ?_) | refine CallP.mk bq_tt (hc := h.r9 _) (h := ?_) | refine CallP.mk bq_tt (hc := h.r10 _) (h := ?_) | refine CallP.mk bq_tt (hc := h.r11 _) (h := ?_))))); refine RW.nil ⟨by kernel_rfl, Pruned.mk (h := ?_)⟩)
  refine SW.seq ?_
  (refine SW.regL [0, 1, 2, 3, 4, 6, 7, 8, 10, 12, 15, 16, 17, 18, 20, 23] mixed ?_; (repeat (first | refine RW.ro bq_tt (h := ?_) | refine RW.skip (h := ?_) | refine RW.op bq_tt (h := ?_) | refine RW.opN bq_tt (h := ?_) | refine RW.skip0 (h := ?_) | (refine RW.callC (h := ?_); (first | refine CallP.mk bq_tt (hc := h.r1 _) (h := ?_) | refine CallP.mk bq_tt (hc := h.r2 _) (h := ?_) | refine CallP.mk bq_tt (hc := h.r3 _) (h := ?_) | refine CallP.mk bq_tt (hc := h.r4 _) (h := ?_) | refine CallP.mk bq_tt (hc := h.r5 _) (h := ?_) | refine CallP.mk bq_tt (hc := h.r6 _) (h := ?_) | refine CallP.mk bq_tt (hc := h.r7 _) (h := ?_) | refine CallP.mk bq_tt (hc := h.r8 _) (h := ?_) | refine CallP.mk bq_tt (hc := h.r9 _) (h := ?_) | refine CallP.mk bq_tt (hc := h.r10 _) (h := ?_) | refine CallP.mk bq_tt (hc := h.r11 _) (h := ?_))))); refine RW.nil ⟨by kernel_rfl, Pruned.mk (h := ?_)⟩)
  refine SW.seq ?_
  (refine SW.regL [0, 1, 2, 3, 4, 6, 7, 8, 10, 12, 15, 16, 17, 18, 20, 23] mixed ?_; (repeat (first | refine RW.ro bq_tt (h := ?_) | refine RW.skip (h := ?_) | refine RW.op bq_tt (h := ?_) | refine RW.opN bq_tt (h := ?_) | refine RW.skip0 (h := ?_) | (refine RW.callC (h := ?_); (first | refine CallP.mk bq_tt (hc := h.r1 _) (h := ?_) | refine CallP.mk bq_tt (hc := h.r2 _) (h := ?_) | refine CallP.mk bq_tt (hc := h.r3 _) (h := ?_) | refine CallP.mk bq_tt (hc := h.r4 _) (h := ?_) | refine CallP.mk bq_tt (hc := h.r5 _) (h := ?_) | refine CallP.mk bq_tt (hc := h.r6 _) (h := ?_) | refine CallP.mk bq_tt (hc := h.r7 _) (h := ?_) | refine CallP.mk bq_tt (hc := h.r8 _) (h := ?_) | refine CallP.mk bq_tt (hc := h.r9 _) (h := ?_) | refine CallP.mk bq_tt (hc := h.r10 _) (h := ?_) | refine CallP.mk bq_tt (hc := h.r11 _) (h := ?_))))); refine RW.nil ⟨by kernel_rfl, Pruned.mk (h := ?_)⟩)
  refine SW.seq ?_
  (refine SW.regL [0, 1, 2, 3, 4, 6, 7, 8, 10, 12, 15, 16, 17, 18, 20, 23] mixed ?_; (repeat (first | refine RW.ro bq_tt (h := ?_) | refine RW.skip (h := ?_) | refine RW.op bq_tt (h := ?_) | refine RW.opN bq_tt (h := ?_) | refine RW.skip0 (h := ?_) | (refine RW.callC (h := ?_); (first | refine CallP.mk bq_tt (hc := h.r1 _) (h := ?_) | refine CallP.mk bq_tt (hc := h.r2 _) (h := ?_) | refine CallP.mk bq_tt (hc := h.r3 _) (h := ?_) | refine CallP.mk bq_tt (hc := h.r4 _) (h := ?_) | refine CallP.mk bq_tt (hc := h.r5 _) (h := ?_) | refine CallP.mk bq_tt (hc := h.r6 _) (h := ?_) | refine CallP.mk bq_tt (hc := h.r7 _) (h := ?_) | refine CallP.mk bq_tt (hc := h.r8 _) (h := ?_) | refine CallP.mk bq_tt (hc := h.r9 _) (h := ?_) | refine CallP.mk bq_tt (hc := h.r10 _) (h := ?_) | refine CallP.mk bq_tt (hc := h.r11 _) (h := ?_))))); refine RW.nil ⟨by kernel_rfl, Pruned.mk (h := ?_)⟩)
  refine SW.seq ?_
  (refine SW.regL [0, 1, 2, 3, 4, 6, 7, 8, 10, 12, 15, 16, 17, 18, 20, 23] mixed ?_; (repeat (first | refine RW.ro bq_tt (h := ?_) | refine RW.skip (h := ?_) | refine RW.op bq_tt (h := ?_) | refine RW.opN bq_tt (h := ?_) | refine RW.skip0 (h := ?_) | (refine RW.callC (h := ?_); (first | refine CallP.mk bq_tt (hc := h.r1 _) (h := ?_) | refine CallP.mk bq_tt (hc := h.r2 _) (h := ?_) | refine CallP.mk bq_tt (hc := h.r3 _) (h := ?_) | refine CallP.mk bq_tt (hc := h.r4 _) (h := ?_) | refine CallP.mk bq_tt (hc := h.r5 _) (h := ?_) | refine CallP.mk bq_tt (hc := h.r6 _) (h := ?_) | refine CallP.mk bq_tt (hc := h.r7 _) (h := ?_) | refine CallP.mk bq_tt (hc := h.r8 _) (h := ?_) | refine CallP.mk bq_tt (hc := h.r9 _) (h := ?_) | refine CallP.mk bq_tt (hc := h.r10 _) (h := ?_) | refine CallP.mk bq_tt (hc := h.r11 _) (h := ?_))))); refine RW.nil ⟨by kernel_rfl, Pruned.mk (h := ?_)⟩)
  refine SW.seq ?_
  (refine SW.regL [0, 1, 2, 3, 4, 6, 7, 8, 10, 12, 15, 16, 17, 18, 20, 23] mixed ?_; (repeat (first | refine RW.ro bq_tt (h := ?_) | refine RW.skip (h := ?_) | refine RW.op bq_tt (h := ?_) | refine RW.opN bq_tt (h := ?_) | refine RW.skip0 (h := ?_) | (refine RW.callC (h := ?_); (first | refine CallP.mk bq_tt (hc := h.r1 _) (h := ?_) | refine CallP.mk bq_tt (hc := h.r2 _) (h := ?_) | refine CallP.mk bq_tt (hc := h.r3 _) (h := ?_) | refine CallP.mk bq_tt (hc := h.r4 _) (h := ?_) | refine CallP.mk bq_tt (hc := h.r5 _) (h := ?_) | refine CallP.mk bq_tt (hc := h.r6 _) (h := ?_) | refine CallP.mk bq_tt (hc := h.r7 _) (h := ?_) | refine CallP.mk bq_tt (hc := h.r8 _) (h := ?_) | refine CallP.mk bq_tt (hc := h.r9 _) (h := ?_) | refine CallP.mk bq_tt (hc := h.r10 _) (h := ?_) | refine CallP.mk bq_tt (hc := h.r11 _) (h := ?_))))); refine RW.nil ⟨by kernel_rfl, Pruned.mk (h := ?_)⟩)
  refine SW.seq ?_
  (refine SW.regL [0, 1, 2, 3, 4, 6, 7, 8, 10, 12, 15, 16, 17, 18, 20, 23] mixed ?_; (repeat (first | refine RW.ro bq_tt (h := ?_) | refine RW.skip (h := ?_) | refine RW.op bq_tt (h := ?_) | refine RW.opN bq_tt (h := ?_) | refine RW.skip0 (h := ?_) | (refine RW.callC (h := ?_); (first | refine CallP.mk bq_tt (hc := h.r1 _) (h := ?_) | refine CallP.mk bq_tt (hc := h.r2 _) (h := ?_) | refine CallP.mk bq_tt (hc := h.r3 _) (h := ?_) | refine CallP.mk bq_tt (hc := h.r4 _) (h := ?_) | refine CallP.mk bq_tt (hc := h.r5 _) (h := ?_) | refine CallP.mk bq_tt (hc := h.r6 _) (h := ?_) | refine CallP.mk bq_tt (hc := h.r7 _) (h := ?_) | refine CallP.mk bq_tt (hc := h.r8 _) (h := ?_) | refine CallP.mk bq_tt (hc := h.r9 _) (h := ?_) | refine CallP.mk bq_tt (hc := h.r10 _) (h := ?_) | refine CallP.mk bq_tt (hc := h.r11 _) (h := ?_))))); refine RW.nil ⟨by kernel_rfl, Pruned.mk (h := ?_)⟩)
  refine SW.seq ?_
  (refine SW.regL [0, 1, 2, 3, 4, 6, 7, 8, 10, 12, 15, 16, 17, 18, 20, 23] mixed ?_; (repeat (first | refine RW.ro bq_tt (h := ?_) | refine RW.skip (h := ?_) | refine RW.op bq_tt (h := ?_) | refine RW.opN bq_tt (h := ?_) | refine RW.skip0 (h := ?_) | (refine RW.callC (h := ?_); (first | refine CallP.mk bq_tt (hc := h.r1 _) (h := ?_) | refine CallP.mk bq_tt (hc := h.r2 _) (h := ?_) | refine CallP.mk bq_tt (hc := h.r3 _) (h := ?_) | refine CallP.mk bq_tt (hc := h.r4 _) (h := ?_) | refine CallP.mk bq_tt (hc := h.r5 _) (h := ?_) | refine CallP.mk bq_tt (hc := h.r6 _) (h := ?_) | refine CallP.mk bq_tt (hc := h.r7 _) (h := ?_) | refine CallP.mk bq_tt (hc := h.r8 _) (h := ?_) | refine CallP.mk bq_tt (hc := h.r9 _) (h := ?_) | refine CallP.mk bq_tt (hc := h.r10 _) (h := ?_) | refine CallP.mk bq_tt (hc := h.r11 _) (h := ?_))))); refine RW.nil ⟨by kernel_rfl, Pruned.mk (h := ?_)⟩)
  refine SW.ret ?_
  exact End.mk [] (h4 := ⟨rfl, rfl⟩)
theorem head22_at (k : Nat) : SCd Try.prog law22_head.f [] [] k 0 (.d (.bool true)) [] := head22_ok.sc rfl k
end Go.Proofs.Ytmmonbnlleeloaa
namespace Go.Proofs.Ytmmonbnlleeloaa
open Go.Sl Go.Proofs
attribute [local irreducible] SW RW SCd SC CallP Pruned
theorem plainR_mem {s : List Sp} {x : Sp} (h : x ∈ plainR s) : x.d ∈ s.map (·.d) := by
  unfold plainR rowD at h
  obtain ⟨d, hd, rfl⟩ := List.mem_map.1 h
  exact Dt.mem_setR.1 (List.mem_filter.1 hd).1
theorem moreR_mem {amount : Nat} {s : List Sp} {D : List Dt} {x : Sp} (h : x ∈ moreR amount s D) : x.d ∈ s.map (·.d) ∨ x.d ∈ D := by
  induction D using snocRec generalizing x with
  | nil => exact .inl (plainR_mem h)
  | snoc D d ih =>
    rw [moreR_snoc] at h
    unfold moreS butOf at h
    rw [List.mem_append] at h
    rcases h with h | h
    · rcases ih (List.mem_filter.1 h).1 with h | h
      · exact .inl h
      · exact .inr (List.mem_append_left _ h)
    · simp only [List.mem_singleton] at h
      rw [h]; exact .inr (by simp)
theorem TOk.upsNd {l : List OpD} {T : Tr} (h : TOk l T) {d : Dt} {L : List Cr} (hL : Ups T.at_ (MM.get T.at_ d) L) : (L.map (·.dot)).Nodup := by
  rw [List.nodup_iff_pairwise_ne, List.pairwise_iff_getElem]
  intro i j hi hj hij e
  rw [List.length_map] at hi hj
  have := h.upsInj (d := d) hL (List.getElem?_eq_getElem hi) (List.getElem?_eq_getElem hj) (by simpa using e)
  omega
theorem TOk.dotWf {l : List OpD} {T : Tr} (h : TOk l T) (hwf : ∀ o, o ∈ l → o.dot.wf) {d : Dt} {c : Cr} (hc : MM.get T.at_ d = some c) : d.wf := by
  obtain ⟨o, _, ho⟩ := h.cr d c hc
  have := hwf o (findO_mem ho.fd)
  rwa [findO_dot ho.fd] at this
theorem TOk.upsWf {l : List OpD} {T : Tr} (h : TOk l T) (hwf : ∀ o, o ∈ l → o.dot.wf) {d : Dt} {L : List Cr} (hL : Ups T.at_ (MM.get T.at_ d) L) : ∀ x, x ∈ L.map (·.dot) → x.wf := fun x hx => by
  obtain ⟨y, hy, rfl⟩ := List.mem_map.1 hx
  exact h.dotWf hwf (h.upsGet (d := d) hL y hy)
section
variable {l : List OpD} (hlen : l.length < 4611686018427387904) (hl : ∀ x, x ∈ l → x.roles < 256) (hwo : ∀ o, o ∈ l → o.dot.wf) {a : MM Dt Cr} {ca : Nat} {m : MM Dt OpD} {cm : Nat} (h : Tn l a ca m cm)
include hlen hl hwo h
theorem Tn.chargeR (s : List Sp) (hs : s.length < 10000) (hn : ∀ x, x ∈ s → x.n < 18446744073709551616) (hwf : ∀ x, x ∈ s → x.d.wf) (d : Dt) (L : List Cr) (hL : Ups a (MM.get a d) L) (hlL : L.length < 10000) (amount : Nat) (k : Nat) :
    SCd Try.prog ref22_Charge.f [ops l, sps s, .agg d.cells, .d (.int .u64 (amount : Int))] [] k 0 (.tup [cS (leftF a s) amount s (L.map (·.dot)), .d (.int .i64 (cE (leftF a s) amount (L.map (·.dot))))]) [] := by
  have hp := rcharge_ok hlen hl h.tok0 s hs hwf d L hL hlL amount (fun hle j x hx => ?_) (fun x hx => ?_)
  · rw [show (tr0 a ca m cm).at_ = a from rfl, chargeS_two] at hp
    exact hp.sc (by simp [SV.ok, SV.oks, cS_ok]) k
  · have hnd := h.tok0.upsNd hL
    have hm := List.mem_of_getElem? hx
    obtain ⟨y, hy, hy2⟩ := List.mem_map.1 hm
    have hg := h.tok0.upsGet (d := d) hL y hy
    rw [hy2] at hg
    rw [spent_moreR amount s x _ (hnd.sublist (List.take_sublist _ _)), if_neg, Nat.add_zero]
    · exact charge_bound h.tok0 s hn hg (hle x hm)
    · intro hmt
      have h1 : (List.take (j + 1) (L.map (·.dot))).Nodup := hnd.sublist (List.take_sublist _ _)
      rw [take_snoc hx, List.nodup_append] at h1
      exact h1.2.2 x hmt x (by simp) rfl
  · rcases moreR_mem hx with h1 | h1
    · obtain ⟨y, hy, e⟩ := List.mem_map.1 h1
      rw [← e]; exact hwf y hy
    · exact h.tok0.upsWf hwo hL _ h1
theorem Tn.tightR (s : List Sp) (hs : s.length < 10000) (d : Dt) (L : List Cr) (hL : Ups a (MM.get a d) L) (hlL : L.length < 10000) (k : Nat) :
    SCd Try.prog ref22_Tight.f [ops l, sps s, .agg d.cells] [] k 0 (.tup [.agg (tD (leftF a s) (L.map (·.dot))).cells, .d (.int .u64 ((rV (leftF a s) (L.map (·.dot)) : Nat) : Int)), .d (.int .i64 (eV (L.map (·.dot))))]) [] := by
  have := rtight_at hlen hl h.tok0 s (by omega) d L hL (by omega) k
  rwa [show (tr0 a ca m cm).at_ = a from rfl, tightS_three] at this
end
end Go.Proofs.Ytmmonbnlleeloaa
namespace Go.Proofs.Ytmmonbnlleeloaa
open Go.Sl Go.Proofs
attribute [local irreducible] SW RW SCd SC CallP Pruned
end Go.Proofs.Ytmmonbnlleeloaa
