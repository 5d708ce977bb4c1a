/-
 For every row of operations, every desk and every operation the law that it does not matter how claims stand, answers true: the statement.
-/
import Derived.Test.YtefjaphfnkbbkaaUA
import Derived.Test.YtefjaphfnkbbkaaRows
import Derived.SizedLaws
import Derived.Test.YtefjaphfnkbbkaaUS
set_option linter.unusedSectionVars false
set_option linter.unusedVariables false
set_option linter.unusedSimpArgs false
namespace Go.Proofs.Ytefjaphfnkbbkaa
open Go.Sl Go.Proofs
set_option maxRecDepth 100000 in
theorem qQ:∀ lY,l9 Try.prog 8 Try.f5.params.toList lY→(∀ ds,ds∈lY→dY reachBytes ds)→SB Try.prog 5 (kT Try.prog Try.f5.params.toList lY) [] 0 0 fun r F=>r=bl true:=by
 intro lY h hs
 have hp: Try.f5.params.toList=[gE,dZ,bF]:=by kernel_rfl
 rw [hp] at h ⊢
 obtain ⟨x0,x1,x2,rfl,h0,h1,h2⟩:=vA h
 obtain ⟨y,l0,rfl,hl0,ho,hw⟩:=sO (d:=2) h0
 obtain ⟨l,s,hg,ha,hdw⟩:=sP (d:=2) h1 (hs _ (by simp))
 obtain ⟨o,hof,rfl⟩:=vw (d:=3) h2
 have hz:=hof.nz
 simp only [kT,vz,ha,yK]
 exact SB.mono (SB.args (vT l0 (fun o h=>(ho o h).1.bn) (fun o h=>(ho o h).1.dot) (fun o h=>vB (ho o h).2) hl0 l hg.hl s hg.hs hg.hn hg.hd o.nz hz.2) (by simp [SV.aI,SV.ok,SV.bt,aq.aj])
  (fun p μ M vs hv=>hw p μ M _ _ (hdw p μ M _ _ fun vs hv=>by
   have:=vj (ds:=o.ds) (fun _ h=>h) vs hv
   rwa [← aq.zG] at this) vs hv)) fun r F h=>h
open Go.ChangeShapes Go.WideShapes Go.ChangeAt Go.RowKit in
set_option maxRecDepth 100000 in
theorem qn (os:Os)(started:os.Started)(H:Type)(enc:TypeId×Value→H):
  ReturnsInHanded {} Try.checked os 5 .any (Rows.claimTurnedSpec.pre6 enc Try.prog Try.f5 Rows.claimTurnedRow.domain false) (Rows.claimTurnedSpec.post enc Try.prog Try.f5 false true false false):=by
 refine returnsInHanded_of_change_sized (C:= Try.checked) own started (by kernel_rfl) Try.func5
  (ChangeSpec.witness6 (enc:=enc) (C:= Try.checked) false ⟨#[],#[.slice none 0 0,.agg #[.slice none 0 0,.slice none 0 0],.agg #[.int .u8 0,.int .u32 0,.int .u32 0,.int .u32 0,.int .u32 0,.int .u32 0,.int .u32 0,.int .u32 0,.int .u32 0,.int .u32 0,.int .u64 0,.int .u32 0,.int .u8 0,.int .u32 0,.int .u8 0,.int .u8 0,.int .u32 0,.int .u32 0,.int .u8 0,.int .u8 0,.int .u64 0,.int .u8 0,.int .u32 0,.int .u8 0,.int .u32 0,.int .u32 0,.int .u32 0,.int .u32 0,.slice none 0 0]],[]⟩ 8 (by kernel_rfl) (by kernel_rfl) (by kernel_rfl) (by kernel_rfl)) ?_
 intro W base args ds gs before hval hW hcnd hsz _
 refine pU (f:=5) (fn:= Try.f5) (spec:=Rows.claimTurnedSpec) (tb:=yI) 8 (by kernel_rfl) (by kernel_rfl) rfl (by kernel_rfl) rfl (fun ds hl=> ?_) reachBytes (fun lY hf hs=> ?_) W base args ds gs before hval hW (n9 _) (fun n hn=>by simpa using List.all_eq_true.1 hsz n (fT hn))
 ·rw [show Try.f5.params.toList.length=3 from by kernel_rfl] at hl
  match ds,hl with
  | [d0,d1,d2],_=>exact ⟨rfl,rfl,rfl⟩
 ·exact qQ lY hf hs
theorem claimTurned_holds:Rows.ClaimTurnedSaid:=
 OpenClaim.holds_of_wide 5 Try.f5 rfl rfl rfl rfl rfl rfl rfl ⟨rfl,rfl,rfl,rfl,rfl⟩ rfl rfl rfl rfl rfl (by kernel_rfl) Try.func5 (by kernel_rfl)
  (of_decide_eq_true (by kernel_rfl)) (by unfold Func.isWrapper;first | (rw [if_pos (by decide +kernel)];kernel_rfl) | (rw [if_neg (by decide +kernel)];exact ⟨rfl,rfl⟩))
  (fun os started H enc _=>qn os started H enc)
end Go.Proofs.Ytefjaphfnkbbkaa
