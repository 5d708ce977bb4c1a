/-
 Gossip: the law of ends: for every input the law answers true, the table of kinds read as the text of the program lays it (tied to that text by the given tie).
-/
import Derived.Test.YtnakpdoioammhaaGreatDoorUQ
import Derived.Test.YtnakpdoioammhaaGreatDoorUR
set_option linter.unusedSectionVars false
set_option linter.unusedVariables false
set_option linter.unusedSimpArgs false
namespace Go.Proofs.YtnakpdoioammhaaGreatDoor
open Go.Sl Go.Proofs
set_option maxRecDepth 100000 in
theorem rN:∀ rP,og Tryz.prog 7 Tryz.f3.params.toList rP→(∀ ds,ds∈rP→dM reachBytes ds)→SB Tryz.prog 3 (qu Tryz.prog Tryz.f3.params.toList rP) [] 0 0 fun r F=>r=bl true:=by
 intro rP h hs
 have hp: Tryz.f3.params.toList=[iZ,Hq,i_]:=by kernel_rfl
 rw [hp] at h ⊢
 obtain ⟨x0,x1,x2,rfl,h0,h1,h2⟩:=Et h
 obtain ⟨y,l,rfl,hl,hw⟩:=zS (d:=1) h0 (hs _ (by simp))
 obtain ⟨n1,tY,rfl⟩:=xJ (d:=6) Tryz.underlying3 h1
 obtain ⟨b0,b1,hb0,hb1,rfl⟩:=Gt (d:=5) h2
 simp only [qu,Er,Ex,Gu]
 exact SB.mono (SB.args (xl l hl n1 tY.1 tY.2 b0 b1 hb0 hb1) rfl (fun p μ M vs hv=>(hw p μ M _ _ (uZ (uZ (fun _ h=>h)))) vs hv)) fun r F h=>h.1
open Go.ChangeShapes Go.WideShapes Go.ChangeAt Go.RowKit
theorem oN (os:Os){H:Type}(enc:TypeId×Value→H):∃ places,DataW.whole enc Tryz.prog ((oM os).forCall (fun _ _=>0) ⟨#[],#[.slice none 0 0,.int .i64 0,.agg #[.int .u8 0,.int .u8 0]],[]⟩).memory Tryz.f3.params.toList Rows.gossipEndsSpec.vars false (#[.slice none 0 0,.int .i64 0,.agg #[.int .u8 0,.int .u8 0]]:Array Value).toList 8=some ([.nil,.lit (.int .i64 0),.agg [.lit (.int .u8 0),.lit (.int .u8 0)]],[],places):=
 ⟨[],by kernel_rfl⟩
theorem pO (os:Os):laidMet Tryz.prog Rows.gossipEndsRow.laid ((oM os).forCall (fun _ _=>0) ⟨#[],#[.slice none 0 0,.int .i64 0,.agg #[.int .u8 0,.int .u8 0]],[]⟩).memory:=
 laidMet_of_run' 8 (by kernel_rfl) (by kernel_rfl)
set_option maxRecDepth 100000 in
theorem nQ (os:Os)(started:os.Started)(H:Type)(enc:TypeId×Value→H)(F:Stop.Interp):
  ReturnsInHanded {} Tryz.checked os 3 .any ((OpenSpec.ofChange Rows.gossipEndsSpec).preRow enc Tryz.prog Tryz.f3 Rows.gossipEndsRow.domain false Rows.gossipEndsRow.laid) (((OpenSpec.ofChange Rows.gossipEndsSpec).at F).post enc Tryz.prog Tryz.f3 false true false false):=by
 obtain ⟨places,hx⟩:=oN os enc
 refine returnsInHanded_of_row (C:= Tryz.checked) (s:=OpenSpec.ofChange Rows.gossipEndsSpec) own started (by kernel_rfl) Tryz.func3
  (witness_row_at (enc:=enc) (C:= Tryz.checked) false (oM os) #[.slice none 0 0,.int .i64 0,.agg #[.int .u8 0,.int .u8 0]] rfl (by kernel_rfl) (by kernel_rfl) (by kernel_rfl)
   (OpenSpec.preRow_of_cond 8 hx (by kernel_rfl) (fun k hk=>by cases hk) (by kernel_rfl) (pO os))) ?_
 intro W base args ds gs before hval hW _ _ hsz hL _ _
 refine yB (f:=3) (fn:= Tryz.f3) (spec:=Rows.gossipEndsSpec) (tb:=FF) 7 (by kernel_rfl) (by kernel_rfl) rfl (by kernel_rfl) rfl (fun ds hl=> ?_) reachBytes (fun rP hf hs=> ?_) W base args ds gs before hval hW (Ey hL) (fun n hn=>by simpa using List.all_eq_true.1 hsz n (jZ hn))
 ·rw [show Tryz.f3.params.toList.length=3 from by kernel_rfl] at hl
  match ds,hl with
  | [d0,d1,d2],_=>exact ⟨rfl,rfl,rfl⟩
 ·exact rN rP hf hs
theorem pP:Rows.GossipEndsSaid:=
 OpenClaim.holds_of_cond 3 Tryz.f3 rfl rfl rfl rfl rfl rfl rfl ⟨rfl,rfl,rfl,rfl,rfl⟩ rfl rfl rfl rfl rfl (by kernel_rfl) Tryz.func3 (by kernel_rfl)
  (of_decide_eq_true (by kernel_rfl)) (by unfold Func.isWrapper;first | (rw [if_pos (by decide +kernel)];kernel_rfl) | (rw [if_neg (by decide +kernel)];exact ⟨rfl,rfl⟩))
  (fun os started H enc _ F=>by rw [OpenClaim.pre_eq_preRow];exact nQ os started H enc F)
theorem oO (f:FuncId)(fn:Func)(hf: Tryz.pinned.checked.prog.funcNamed "tranter/tranterlaw14.GossipEnds" =some f)(hfn: Tryz.pinned.checked.prog.funcs[f]? =some fn):
  false= Tryz.pinned.checked.prog.looks []∧∀ (j:Nat) t,fn.params[j]? =some t→ Tryz.pinned.checked.prog.wantsStandIn t=false:=by
 obtain rfl:f=3:=Option.some.inj ((show Tryz.prog.funcNamed "tranter/tranterlaw14.GossipEnds" =some 3 by kernel_rfl).symm.trans hf) |>.symm
 obtain rfl:fn= Tryz.f3:=(Option.some.inj (Tryz.func3.symm.trans hfn)).symm
 refine ⟨by kernel_rfl,fun j t ht=> ?_⟩
 rw [Tryz.params3] at ht
 have h:t=22∨t=3∨t=23:=by simpa using Array.mem_of_getElem? ht
 rcases h with rfl | rfl | rfl
 ·exact (show Tryz.prog.wantsStandIn 22=false by kernel_rfl)
 ·exact (show Tryz.prog.wantsStandIn 3=false by kernel_rfl)
 ·exact (show Tryz.prog.wantsStandIn 23=false by kernel_rfl)
theorem gossipEnds_holds:Rows.GossipEndsCardSaid:=
 Claim7.holds_tied_plain_at .later [] _ _ _ _ pP (fun _ h=>by cases h) (by kernel_rfl) (fun _ h=>by cases h) gossipEnds_row_tie rfl ⟨rfl,rfl⟩ (by kernel_rfl) rfl oO (by kernel_rfl)
end Go.Proofs.YtnakpdoioammhaaGreatDoor
