/-
 Final: whose verdicts are final.
-/
import Derived.Test.YtaelhkkjgfobhaaGreatUY
set_option linter.unusedSectionVars false
set_option linter.unusedVariables false
set_option linter.unusedSimpArgs false
namespace Go.Proofs.YtaelhkkjgfobhaaGreat
open Go.Sl Go.Proofs
section
attribute [local irreducible] SW RW aG SC ai ak jQ tH
noncomputable def dS (l:List ag)(d:Dt):List Dt:=if bW l d then (jW l).filter (zA l d) else []
abbrev xR (l:List ag):List Dt:=Dt.set (l.map (·.dot))
section
variable {l:List ag} {S:Sh} (h:dh l S)
include h
theorem dh.BN:h.X.jT=dS l:=by
 funext d
 unfold Ix.jT dS;rw [h.F8,h.sQ];cases hg:bW l d with
 | false=>rfl
 | true=>
  have hg':S.good d=true:=by rw [h.sQ];exact hg
  simp only [if_true];exact h.N8 hg'
theorem dh.Oc (d:Dt):h.X.nY d<10:=by
 cases hg:S.good d with
 | true=>
  unfold Ix.nY;rw [h.IP hg];have:=h.BL (S.op d);omega
 | false=>unfold Ix.nY;rw [h.J1 hg];decide
theorem dh.J6 (hl:l.length<=80)(d:Dt):(h.X.jT d).length<1000000000:=by
 unfold Ix.jT
 split
 .exact h.tG hl _
 .decide
end
end
section
attribute [local irreducible] SW RW aG SC ai ak jQ tH
theorem BO {l:List ag}{d:Dt}:d∈xR l↔(aF l d).isSome=true:=by
 rw [Dt.mem_set,List.mem_map,iY]
theorem Gj {l:List ag}{d:Dt}(h:bW l d=true):d∈xR l:=by
 rw [BO];unfold bW at h;cases hf:aF l d with
 | none=>rw [hf] at h;cases h
 | some o=>rfl
theorem AN {l:List ag}{d t:Dt}(h:t∈dS l d):bW l t=true:=by
 unfold dS at h
 split at h
 .exact jD.1 (List.mem_filter.1 h).1
 .cases h
end
section
attribute [local irreducible] SW RW aG SC ai ak
end
section
attribute [local irreducible] SW RW aG SC ai ak jQ tH
end
end Go.Proofs.YtaelhkkjgfobhaaGreat
namespace Go.Proofs.YtaelhkkjgfobhaaGreat
open Go.Sl Go.Proofs
section
attribute [local irreducible] SW RW aG SC ai ak jQ tH
section
variable {l:List ag} {S:Sh} (h:dh l S) (hl:l.length<=80) (hs:oF S) (st:aB)
end
end
section
attribute [local irreducible] SW RW aG SC ai ak jQ tH
end
end Go.Proofs.YtaelhkkjgfobhaaGreat
namespace Go.Proofs.YtaelhkkjgfobhaaGreat
open Go.Sl Go.Proofs
section
attribute [local irreducible] SW RW aG SC ai ak
theorem pN {P:Program}{env:List (Nat×SV)}{hp:Hp}{k d p:Nat}{r:List SI}{K:St->List (Bool×List Nat)->Prop}{a:ag}{z:List SV}(hz:z=Bb)
  (ha:env.lookup p=some (.agg a.cells))
  (h:RW P r ⟨(d,ops [a])::env,hp,k⟩ λ st' ts=>K st' ((false,[])::ts)):RW P (⟨some d,.od 43 29 1 z [(0,29,.t p)],none⟩::r) ⟨env,hp,k⟩ K:=by
 subst hz;refine RW.cons (e:=⟨ops [a],[],[],0,((29=29/\0+29<=29/\True))⟩) (λ dK=>⟨.iw::dK,gG (.inl rfl) ?_⟩) (by show 29=29/\0+29<=29/\True;decide) ?_
 .have h1:xV (λ t=>env.lookup t) [(0,29,X.t p)]=some [(0,29,.agg a.cells)]:=by
   simp only [xV,ev,ha]
  have h2:mN Bb [(0,29,.agg a.cells)]=some (a.cells,((29=29/\0+29<=29/\True))):=rfl;have h3:eY a.cells=some ([a].flatMap ag.ds):=rfl;have h4:a.cells.all SV.dM=true:=rfl;simp only [ff,dz,h1,h2,h3,h4,if_true,Bool.false_or];rfl
 .exact h
end
section
attribute [local irreducible] SW RW aG SC ai ak
section
variable {l:List ag} (hl:l.length<=80) (hd:∀ x,x∈l->x.aT<256/\x.nT/\x.dot.wf)
include hl hd
end
end
section
attribute [local irreducible] SW RW aG SC ai ak
section
variable {l:List ag} (hl:l.length<=80) (hd:∀ x,x∈l->x.aT<256/\x.nT/\x.dot.wf)
include hl hd
end
end
section
attribute [local irreducible] SW RW aG SC ai ak
section
variable {l:List ag} (hl:l.length<=80) (hd:∀ x,x∈l->x.aT<256/\x.nT/\x.dot.wf)
include hl hd
end
end
end Go.Proofs.YtaelhkkjgfobhaaGreat
namespace Go.Proofs.YtaelhkkjgfobhaaGreat
open Go.Sl Go.Proofs
section
def Od (a b:Nat):aB:=⟨a,b,0,0,0,0,0,0⟩
theorem Oz:l5 bh ⟨0,1⟩=p1:=bz (by kernel_rfl)
theorem OA:l5 bh ⟨0,2⟩=p2:=bz (by kernel_rfl)
theorem OB:l5 bh ⟨0,3⟩=p3:=bz (by kernel_rfl)
theorem OC:l5 bh ⟨0,4⟩=p4:=bz (by kernel_rfl)
theorem OD:l5 bh ⟨1,1⟩=p5:=bz (by kernel_rfl)
theorem oO {l:List ag}{d:Dt}{o:ag}(h:aF l d=some o)(hw:eW l o=0):bW l d=true:=by
 unfold bW;rw [h];simp [hw]
theorem Oe:bW bh ⟨0,1⟩=true:=oO (o:=p1) (by kernel_rfl) JV
theorem Of:bW bh ⟨0,2⟩=true:=oO (o:=p2) (by kernel_rfl) JW
theorem Og:bW bh ⟨0,3⟩=true:=oO (o:=p3) (by kernel_rfl) JX
theorem Nv:bW bh ⟨0,4⟩=true:=oO (o:=p4) (by kernel_rfl) JY
theorem Nw:bW bh ⟨1,1⟩=true:=oO (o:=p5) (by kernel_rfl) JZ
theorem Gk:jW bh=[⟨0,1⟩,⟨0,2⟩,⟨0,3⟩,⟨0,4⟩,⟨1,1⟩]:=by
 have e:zz bh=bh.map (·.dot):=by
  unfold zz;rw [List.filter_eq_self.2];intro o ho;simp only [bh,List.mem_cons,List.not_mem_nil,or_false] at ho;rcases ho with rfl | rfl | rfl | rfl | rfl
  .exact Oe
  .exact Of
  .exact Og
  .exact Nv
  .exact Nw
 unfold jW;rw [e];exact J2
theorem Lx:fO bh p1=[]:=by unfold fO;rw [if_pos (by decide)]
theorem Ly:fO bh p2=[⟨0,1⟩]:=by unfold fO;rw [if_neg (by decide)];exact congrArg (List.map (·.dot)) (fm JU)
theorem Lz:fO bh p3=[⟨0,2⟩,⟨0,1⟩]:=by unfold fO;rw [if_neg (by decide)];exact congrArg (List.map (·.dot)) (fm F6)
theorem LA:fO bh p4=[⟨0,2⟩,⟨0,1⟩]:=by unfold fO;rw [if_neg (by decide)];exact congrArg (List.map (·.dot)) (fm F6)
theorem LC:fO bh p5=[⟨0,1⟩]:=by unfold fO;rw [if_neg (by decide)];exact congrArg (List.map (·.dot)) (fm JU)
theorem oP {d:Dt}{o:ag}{C:List Dt}(hg:bW bh d=true)(ho:l5 bh d=o)(hc:fO bh o=C):dS bh d=if decide ((⟨0,2⟩:Dt)∈C) && !o.before p5 then [⟨1,1⟩] else []:=by
 have k1:decide (p1.kind=2)=false:=rfl;have k2:decide (p2.kind=2)=false:=rfl;have k3:decide (p3.kind=2)=false:=rfl;have k4:decide (p4.kind=2)=false:=rfl;have k5:decide (p5.kind=2)=true:=rfl;have a5:p5.at_=⟨0,2⟩:=rfl;unfold dS;rw [if_pos hg,Gk];simp only [List.filter_cons,List.filter_nil,zA,rz,Oz,OA,OB,OC,OD,ho,hc,k1,k2,k3,k4,k5,a5,Bool.false_and,Bool.true_and,if_false,Bool.false_eq_true]
theorem O1:dS bh ⟨0,1⟩=[]:=(oP Oe Oz Lx).trans (by decide)
theorem O2:dS bh ⟨0,2⟩=[]:=(oP Of OA Ly).trans (by decide)
theorem O3:dS bh ⟨0,3⟩=[]:=(oP Og OB Lz).trans (by decide)
theorem OE:dS bh ⟨0,4⟩=[⟨1,1⟩]:=(oP Nv OC LA).trans (by decide)
theorem OF:dS bh ⟨1,1⟩=[]:=(oP Nw OD LC).trans (by decide)
theorem AO:xR bh=[⟨0,1⟩,⟨0,2⟩,⟨0,3⟩,⟨0,4⟩,⟨1,1⟩]:=J2
theorem set_nil:Dt.set []=[]:=(Dt.BB _).symm.trans (by kernel_rfl)
theorem IZ (d:Dt):Dt.set [d]=[d]:=by
 refine Dt.gY (Dt.gZ _) (List.pairwise_singleton _ _) λ v=>by rw [Dt.mem_set]
end
section
attribute [local irreducible] SW RW aG SC ai ak jQ tH
end
section
attribute [local irreducible] SW RW aG SC ai ak jQ tH
theorem u_:oN bh:=zu
theorem v4:bX aB.zero.cells 0 [.d (.int .u32 4)]=(vt 4).cells:=rfl
theorem v3:bX aB.zero.cells 0 [.d (.int .u32 3)]=(vt 3).cells:=rfl
theorem e5:bX (Dt.mk 0 0).cells 1 [.d (.int .u32 5)]=(Dt.mk 0 5).cells:=rfl
theorem Nc:bX (bX (Dt.mk 0 0).cells 0 [.d (.int .u8 1)]) 1 [.d (.int .u32 1)]=(Dt.mk 1 1).cells:=rfl
theorem O4 (k:Nat):aG Tryz.prog ref03_Same.f [bE [⟨1,1⟩],.d (.sl 1 (Dt.mk 1 1).ds)] [] k 0 (.d (.bool true)) []:=Bk [⟨1,1⟩] [⟨1,1⟩] (by decide) (by decide) k
end
end Go.Proofs.YtaelhkkjgfobhaaGreat
namespace Go.Proofs.YtaelhkkjgfobhaaGreat
open Go.Sl Go.Proofs
section
attribute [local irreducible] SW RW aG SC ai ak
end
section
attribute [local irreducible] SW RW aG SC ai ak
end
section
attribute [local irreducible] SW RW aG SC ai ak
end
end Go.Proofs.YtaelhkkjgfobhaaGreat
namespace Go.Proofs.YtaelhkkjgfobhaaGreat
open Go.Sl Go.Proofs Go.RowKit
attribute [local irreducible] SW RW aG SC ai ak
theorem J7 {l:List Cm}{i:Nat}{x:Cm}(h:l[i]? =some x):List.take 4 (List.drop (i*4) (List.map SV.d (l.flatMap Cm.ds)))=x.line.cells++x.jR.cells:=by
 rw [<- List.map_drop,<- List.map_take,jq Cm.ds 4 (λ _=>rfl) l i x h];rfl
end Go.Proofs.YtaelhkkjgfobhaaGreat
namespace Go.Proofs.YtaelhkkjgfobhaaGreat
open Go.Sl Go.Proofs
section
attribute [local irreducible] SW RW aG SC ai ak
end
section
attribute [local irreducible] SW RW aG SC ai ak
end
section
attribute [local irreducible] SW RW aG SC ai ak
end
end Go.Proofs.YtaelhkkjgfobhaaGreat
namespace Go.Proofs.YtaelhkkjgfobhaaGreat
open Go.Sl Go.Proofs
section
attribute [local irreducible] SW RW aG SC ai ak
end
section
attribute [local irreducible] SW RW aG SC ai ak
end
section
attribute [local irreducible] SW RW aG SC ai ak
end
section
attribute [local irreducible] SW RW aG SC ai ak
end
end Go.Proofs.YtaelhkkjgfobhaaGreat
namespace Go.Proofs.YtaelhkkjgfobhaaGreat
open Go.Sl Go.Proofs
attribute [local irreducible] SW RW aG SC ai ak
end Go.Proofs.YtaelhkkjgfobhaaGreat
namespace Go.Proofs.YtaelhkkjgfobhaaGreat
open Go.Sl Go.Proofs
section
attribute [local irreducible] SW RW aG SC ai ak
end
section
attribute [local irreducible] SW RW aG SC ai ak
end
end Go.Proofs.YtaelhkkjgfobhaaGreat
