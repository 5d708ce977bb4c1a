/-
 For every row of operations, every desk and every operation the law that lines are claimed under four eyes, answers true: the statement.
-/
import Derived.Test.YtefjaphfnkbbkaaUA
import Derived.Test.YtefjaphfnkbbkaaRows
import Derived.SizedLaws
import Derived.Test.YtefjaphfnkbbkaaUT
set_option linter.unusedSectionVars false
set_option linter.unusedVariables false
set_option linter.unusedSimpArgs false
namespace Go.Proofs.Ytefjaphfnkbbkaa
open Go.Sl Go.Proofs
set_option maxRecDepth 100000 in
theorem tR:∀ lY,l9 Try.prog 8 Try.f4.params.toList lY→(∀ ds,ds∈lY→dY reachBytes ds)→SB Try.prog 4 (kT Try.prog Try.f4.params.toList lY) [] 0 0 fun r F=>r=bl true:=by
 intro lY h hs
 have hp: Try.f4.params.toList=[gE,dZ,bF]:=by kernel_rfl
 rw [hp] at h ⊢
 obtain ⟨x0,x1,x2,rfl,h0,h1,h2⟩:=vA h
 obtain ⟨y,l0,rfl,hl0,ho,hw⟩:=sO (d:=2) h0
 obtain ⟨l,s,hg,ha,hdw⟩:=sP (d:=2) h1 (hs _ (by simp))
 obtain ⟨o,hof,rfl⟩:=vw (d:=3) h2
 have hz:=hof.nz
 simp only [kT,vz,ha,yK]
 exact SB.mono (SB.args (zk l0 (fun o h=>(ho o h).1.bn) (fun o h=>(ho o h).1.dot) (fun o h=>vB (ho o h).2) hl0 l hg.hl s hg.hs hg.hn hg.hd o.nz hz.2) (by simp [SV.aI,SV.ok,SV.bt,aq.aj])
  (fun p μ M vs hv=>hw p μ M _ _ (hdw p μ M _ _ fun vs hv=>by
   have:=vj (ds:=o.ds) (fun _ h=>h) vs hv
   rwa [← aq.zG] at this) vs hv)) fun r F h=>h
open Go.ChangeShapes Go.WideShapes Go.ChangeAt Go.RowKit in
set_option maxRecDepth 100000 in
theorem tF (os:Os)(started:os.Started)(H:Type)(enc:TypeId×Value→H):
  ReturnsInHanded {} Try.checked os 4 .any (Rows.claimEyesSpec.pre6 enc Try.prog Try.f4 Rows.claimEyesRow.domain false) (Rows.claimEyesSpec.post enc Try.prog Try.f4 false true false false):=by
 refine returnsInHanded_of_change_sized (C:= Try.checked) own started (by kernel_rfl) Try.func4
  (ChangeSpec.witness6 (enc:=enc) (C:= Try.checked) false ⟨#[],#[.slice none 0 0,.agg #[.slice none 0 0,.slice none 0 0],.agg #[.int .u8 0,.int .u32 0,.int .u32 0,.int .u32 0,.int .u32 0,.int .u32 0,.int .u32 0,.int .u32 0,.int .u32 0,.int .u32 0,.int .u64 0,.int .u32 0,.int .u8 0,.int .u32 0,.int .u8 0,.int .u8 0,.int .u32 0,.int .u32 0,.int .u8 0,.int .u8 0,.int .u64 0,.int .u8 0,.int .u32 0,.int .u8 0,.int .u32 0,.int .u32 0,.int .u32 0,.int .u32 0,.slice none 0 0]],[]⟩ 8 (by kernel_rfl) (by kernel_rfl) (by kernel_rfl) (by kernel_rfl)) ?_
 intro W base args ds gs before hval hW hcnd hsz _
 refine pU (f:=4) (fn:= Try.f4) (spec:=Rows.claimEyesSpec) (tb:=yI) 8 (by kernel_rfl) (by kernel_rfl) rfl (by kernel_rfl) rfl (fun ds hl=> ?_) reachBytes (fun lY hf hs=> ?_) W base args ds gs before hval hW (n9 _) (fun n hn=>by simpa using List.all_eq_true.1 hsz n (fT hn))
 ·rw [show Try.f4.params.toList.length=3 from by kernel_rfl] at hl
  match ds,hl with
  | [d0,d1,d2],_=>exact ⟨rfl,rfl,rfl⟩
 ·exact tR lY hf hs
theorem claimEyes_holds:Rows.ClaimEyesSaid:=
 OpenClaim.holds_of_wide 4 Try.f4 rfl rfl rfl rfl rfl rfl rfl ⟨rfl,rfl,rfl,rfl,rfl⟩ rfl rfl rfl rfl rfl (by kernel_rfl) Try.func4 (by kernel_rfl)
  (of_decide_eq_true (by kernel_rfl)) (by unfold Func.isWrapper;first | (rw [if_pos (by decide +kernel)];kernel_rfl) | (rw [if_neg (by decide +kernel)];exact ⟨rfl,rfl⟩))
  (fun os started H enc _=>tF os started H enc)
end Go.Proofs.Ytefjaphfnkbbkaa
