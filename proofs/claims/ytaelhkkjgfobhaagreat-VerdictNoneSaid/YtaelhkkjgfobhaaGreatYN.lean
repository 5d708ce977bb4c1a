/-
 Engines that are none (mk48.py).
-/
import Derived.Test.YtaelhkkjgfobhaaGreatRows
import Derived.SizedLaws
import Derived.Test.YtaelhkkjgfobhaaGreatS8
import Derived.Test.YtaelhkkjgfobhaaGreatSH
set_option linter.unusedSectionVars false
set_option linter.unusedVariables false
set_option linter.unusedSimpArgs false
namespace Go.Proofs.YtaelhkkjgfobhaaGreat
open Go.Sl Go.Proofs
section
attribute [local irreducible] SW RW aH SC aj ak js sG
def zE:List SV:=[.d .aL,.d .gP,u32 0,u32 0,u32 0,u32 0,u32 0,u32 0,u32 0,u32 0]
theorem zE.g1:zE[1]? =some (.d .gP):=rfl
theorem zE.gl:(1+1<=zE.length)=True:=eq_true (by decide)
theorem Nj (ρ:Nat->Nat):SV.aN ρ zE=zE:=rfl
theorem DL (q:Nat->Bool):SV.ax q zE=true:=rfl
abbrev zH (e:Nat):Hp:=[(e,.box 98 zE)]
theorem tO (ρ:Nat->Nat)(e:Nat):(zH e).aC ρ=zH (ρ e):=by simp[Hp.aC,Ob.aC,Nj]
theorem jD {q:Nat->Bool}{e:Nat}(h:q e=true):(zH e).ok q=true:=aA h (DL _) rfl
set_option maxHeartbeats 4000000 in
theorem CA:SB Tryz.prog verdict_Engine_none.f [.d .dZ] [] 0 0 λ r F=>r=bl true/\F=[]:=by
 refine verdict_Engine_none.enter (by simp[SV.ax,SV.ok,ag.ah,Dt.ah]) (by first|rfl|exact jD (by decide)) (by simp) ?_;dsimp only[verdict_Engine_none.s,Co.M,Co.G,Co.J,Co.H,Co.F,Co.B,Co.S];refine SW.seq (SW.g0 fv Zm aa ?_);refine SW.seq (SW.g0 fv Zm aa ?_);refine SW.ret ?_;exact End.mk ([]) (h4:=⟨rfl,rfl⟩)
theorem lP (k:Nat):aH Tryz.prog verdict_Engine_none.f [.d .dZ] [] k 0 (bl true) []:=by
 have:=SB.new (CA) k
 simpa[SV.aN,SV.aC,eu,ag.aq,Dt.aq,ay.aq,Hp.aC] using this
set_option maxHeartbeats 4000000 in
theorem CB:SB Tryz.prog verdict_Engine_none.f [.ptr 0 0] (zH 0) 1 0 λ r F=>r=bl true/\F=zH 0:=by
 refine verdict_Engine_none.enter (by simp[SV.ax,SV.ok,ag.ah,Dt.ah]) (by first|rfl|exact jD (by decide)) (by simp) ?_;dsimp only[verdict_Engine_none.s,Co.M,Co.G,Co.J,Co.H,Co.F,Co.B,Co.S];refine SW.seq (SW.g0 fv Zm aa ?_);refine SW.seq (SW.g0 fv Zm (Zq zE.g1 zE.gl) ?_);refine SW.ret ?_;exact End.mk (zH 0) (h4:=⟨rfl,rfl⟩) (h6:=jD (by decide))
theorem lQ (e:Nat)(k:Nat):aH Tryz.prog verdict_Engine_none.f [.ptr e 0] (zH e) k 0 (bl true) (zH e):=by
 have:=SB.lR [e] (CB) (by simp) (λ i hi=>by
  match i,hi with
  | 0,_=>simp[af]) k
 rw[tO] at this
 simpa[SV.aN,SV.aC,eu,ag.aq,Dt.aq,ay.aq] using this
set_option maxHeartbeats 4000000 in
theorem EW (o:ag):SB Tryz.prog verdict_Engine_Put.f [.d .dZ,.agg o.cells] [] 0 0 λ r F=>r= .dL [.d .aL,i64 1]/\F=[]:=by
 refine verdict_Engine_Put.enter (by simp[SV.ax,SV.ok,ag.ah,Dt.ah]) (by first|rfl|exact jD (by decide)) (by simp) ?_;dsimp only[verdict_Engine_Put.s,Co.M,Co.J,Co.H,Co.F,Co.C,Co.Z,Co.B,Co.b8,Co.aB,Co.z8,Co.bH,Co.T,Co.K,Co.E,Co.P,Co.Q,Co.x,Co.W,Co.Y,Co.D,Co.A,Co.S];have cN:=λ k=>lP k
 refine SW.seq (SW.g0 ba Zm aa ?_);refine SW.seq (SW.seq (SW.g1 ba Zm aa cN ?_));refine SW.ai rfl (SW.seq (SW.g0 ba Zm aa ?_));refine SW.ret ?_;exact End.mk ([]) (h4:=⟨rfl,rfl⟩)
theorem EX (o:ag)(k:Nat):aH Tryz.prog verdict_Engine_Put.f [.d .dZ,.agg o.cells] [] k 0 (.dL [.d .aL,i64 1]) []:=by
 have:=SB.new (EW o) k
 simpa[SV.aN,SV.aC,eu,ag.aq,Dt.aq,ay.aq,Hp.aC] using this
set_option maxHeartbeats 4000000 in
theorem EY (o:ag):SB Tryz.prog verdict_Engine_Put.f [.ptr 0 0,.agg o.cells] (zH 0) 1 0 λ r F=>r= .dL [.d .aL,i64 1]/\F=zH 0:=by
 refine verdict_Engine_Put.enter (by simp[SV.ax,SV.ok,ag.ah,Dt.ah]) (by first|rfl|exact jD (by decide)) (by simp) ?_;dsimp only[verdict_Engine_Put.s,Co.M,Co.J,Co.H,Co.F,Co.C,Co.Z,Co.B,Co.b8,Co.aB,Co.z8,Co.bH,Co.T,Co.K,Co.E,Co.P,Co.Q,Co.x,Co.W,Co.Y,Co.D,Co.A,Co.S];have cN:=λ k=>lQ 0 k
 refine SW.seq (SW.g0 ba Zm aa ?_);refine SW.seq (SW.seq (SW.g1 ba Zm aa cN ?_));refine SW.ai rfl (SW.seq (SW.g0 ba Zm aa ?_));refine SW.ret ?_;exact End.mk (zH 0) (h4:=⟨rfl,rfl⟩) (h6:=jD (by decide))
theorem EZ (e:Nat)(o:ag)(k:Nat):aH Tryz.prog verdict_Engine_Put.f [.ptr e 0,.agg o.cells] (zH e) k 0 (.dL [.d .aL,i64 1]) (zH e):=by
 have:=SB.lR [e] (EY o) (by simp) (λ i hi=>by
  match i,hi with
  | 0,_=>simp[af]) k
 rw[tO] at this
 simpa[SV.aN,SV.aC,eu,ag.aq,Dt.aq,ay.aq] using this
set_option maxHeartbeats 4000000 in
theorem xx (d:Dt):SB Tryz.prog verdict_Engine_Verdict.f [.d .dZ,.agg d.cells] [] 0 0 λ r F=>r= .dL [.d (.int .u8 0),i64 1]/\F=[]:=by
 refine verdict_Engine_Verdict.enter (by simp[SV.ax,SV.ok,ag.ah,Dt.ah]) (by first|rfl|exact jD (by decide)) (by simp) ?_;dsimp only[verdict_Engine_Verdict.s,Co.M,Co.J,Co.F,Co.Z,Co.b8,Co.T,Co.K,Co.E,Co.P,Co.x,Co.O,Co.D,Co.A,Co.S];have cN:=λ k=>lP k
 refine SW.seq (SW.g0 dp Zm aa ?_);refine SW.seq (SW.seq (SW.g1 dp Zm aa cN ?_));refine SW.ai rfl (SW.seq (SW.g0 dp Zm aa ?_));refine SW.ret ?_;exact End.mk ([]) (h4:=⟨rfl,rfl⟩)
theorem xy (d:Dt)(k:Nat):aH Tryz.prog verdict_Engine_Verdict.f [.d .dZ,.agg d.cells] [] k 0 (.dL [.d (.int .u8 0),i64 1]) []:=by
 have:=SB.new (xx d) k
 simpa[SV.aN,SV.aC,eu,ag.aq,Dt.aq,ay.aq,Hp.aC] using this
set_option maxHeartbeats 4000000 in
theorem xz (d:Dt):SB Tryz.prog verdict_Engine_Verdict.f [.ptr 0 0,.agg d.cells] (zH 0) 1 0 λ r F=>r= .dL [.d (.int .u8 0),i64 1]/\F=zH 0:=by
 refine verdict_Engine_Verdict.enter (by simp[SV.ax,SV.ok,ag.ah,Dt.ah]) (by first|rfl|exact jD (by decide)) (by simp) ?_;dsimp only[verdict_Engine_Verdict.s,Co.M,Co.J,Co.F,Co.Z,Co.b8,Co.T,Co.K,Co.E,Co.P,Co.x,Co.O,Co.D,Co.A,Co.S];have cN:=λ k=>lQ 0 k
 refine SW.seq (SW.g0 dp Zm aa ?_);refine SW.seq (SW.seq (SW.g1 dp Zm aa cN ?_));refine SW.ai rfl (SW.seq (SW.g0 dp Zm aa ?_));refine SW.ret ?_;exact End.mk (zH 0) (h4:=⟨rfl,rfl⟩) (h6:=jD (by decide))
theorem xA (e:Nat)(d:Dt)(k:Nat):aH Tryz.prog verdict_Engine_Verdict.f [.ptr e 0,.agg d.cells] (zH e) k 0 (.dL [.d (.int .u8 0),i64 1]) (zH e):=by
 have:=SB.lR [e] (xz d) (by simp) (λ i hi=>by
  match i,hi with
  | 0,_=>simp[af]) k
 rw[tO] at this
 simpa[SV.aN,SV.aC,eu,ag.aq,Dt.aq,ay.aq] using this
set_option maxHeartbeats 4000000 in
theorem E2:SB Tryz.prog verdict_Engine_Ops.f [.d .dZ] [] 0 0 λ r F=>r= .d .aL/\F=[]:=by
 refine verdict_Engine_Ops.enter (by simp[SV.ax,SV.ok,ag.ah,Dt.ah]) (by first|rfl|exact jD (by decide)) (by simp) ?_;dsimp only[verdict_Engine_Ops.s,Co.M,Co.J,Co.N,Co.F,Co.C,Co.Z];have cN:=λ k=>lP k
 refine SW.seq (SW.g0 fb Zm aa ?_);refine SW.seq (SW.seq (SW.g1 fb Zm aa cN ?_));refine SW.ai rfl (SW.seq (SW.g0 fb Zm aa ?_));refine SW.ret ?_;exact End.mk ([]) (h4:=⟨rfl,rfl⟩)
theorem E3 (k:Nat):aH Tryz.prog verdict_Engine_Ops.f [.d .dZ] [] k 0 (.d .aL) []:=by
 have:=SB.new (E2) k
 simpa[SV.aN,SV.aC,eu,ag.aq,Dt.aq,ay.aq,Hp.aC] using this
set_option maxHeartbeats 4000000 in
theorem E4:SB Tryz.prog verdict_Engine_Ops.f [.ptr 0 0] (zH 0) 1 0 λ r F=>r= .d .aL/\F=zH 0:=by
 refine verdict_Engine_Ops.enter (by simp[SV.ax,SV.ok,ag.ah,Dt.ah]) (by first|rfl|exact jD (by decide)) (by simp) ?_;dsimp only[verdict_Engine_Ops.s,Co.M,Co.J,Co.N,Co.F,Co.C,Co.Z];have cN:=λ k=>lQ 0 k
 refine SW.seq (SW.g0 fb Zm aa ?_);refine SW.seq (SW.seq (SW.g1 fb Zm aa cN ?_));refine SW.ai rfl (SW.seq (SW.g0 fb Zm aa ?_));refine SW.ret ?_;exact End.mk (zH 0) (h4:=⟨rfl,rfl⟩) (h6:=jD (by decide))
theorem E5 (e:Nat)(k:Nat):aH Tryz.prog verdict_Engine_Ops.f [.ptr e 0] (zH e) k 0 (.d .aL) (zH e):=by
 have:=SB.lR [e] (E4) (by simp) (λ i hi=>by
  match i,hi with
  | 0,_=>simp[af]) k
 rw[tO] at this
 simpa[SV.aN,SV.aC,eu,ag.aq,Dt.aq,ay.aq] using this
set_option maxHeartbeats 4000000 in
theorem Bi:SB Tryz.prog verdict_Engine_Known.f [.d .dZ] [] 0 0 λ r F=>r= .agg ay.zero.cells/\F=[]:=by
 refine verdict_Engine_Known.enter (by simp[SV.ax,SV.ok,ag.ah,Dt.ah]) (by first|rfl|exact jD (by decide)) (by simp) ?_;dsimp only[verdict_Engine_Known.s,Co.M,Co.J,Co.F,Co.z8,Co.K,Co.P,Co.W,Co.D,Co.A,Co.S];have cN:=λ k=>lP k
 refine SW.seq (SW.g0 dE Zm aa ?_);refine SW.seq (SW.seq (SW.g1 dE Zm aa cN ?_));refine SW.ai rfl (SW.seq (SW.g0 dE Zm aa ?_));refine SW.ret ?_;exact End.mk ([]) (h4:=⟨rfl,rfl⟩)
theorem Bj (k:Nat):aH Tryz.prog verdict_Engine_Known.f [.d .dZ] [] k 0 (.agg ay.zero.cells) []:=by
 have:=SB.new (Bi) k
 simpa[SV.aN,SV.aC,eu,ag.aq,Dt.aq,ay.aq,Hp.aC] using this
set_option maxHeartbeats 4000000 in
theorem Bk:SB Tryz.prog verdict_Engine_Known.f [.ptr 0 0] (zH 0) 1 0 λ r F=>r= .agg ay.zero.cells/\F=zH 0:=by
 refine verdict_Engine_Known.enter (by simp[SV.ax,SV.ok,ag.ah,Dt.ah]) (by first|rfl|exact jD (by decide)) (by simp) ?_;dsimp only[verdict_Engine_Known.s,Co.M,Co.J,Co.F,Co.z8,Co.K,Co.P,Co.W,Co.D,Co.A,Co.S];have cN:=λ k=>lQ 0 k
 refine SW.seq (SW.g0 dE Zm aa ?_);refine SW.seq (SW.seq (SW.g1 dE Zm aa cN ?_));refine SW.ai rfl (SW.seq (SW.g0 dE Zm aa ?_));refine SW.ret ?_;exact End.mk (zH 0) (h4:=⟨rfl,rfl⟩) (h6:=jD (by decide))
theorem Bl (e:Nat)(k:Nat):aH Tryz.prog verdict_Engine_Known.f [.ptr e 0] (zH e) k 0 (.agg ay.zero.cells) (zH e):=by
 have:=SB.lR [e] (Bk) (by simp) (λ i hi=>by
  match i,hi with
  | 0,_=>simp[af]) k
 rw[tO] at this
 simpa[SV.aN,SV.aC,eu,ag.aq,Dt.aq,ay.aq] using this
set_option maxHeartbeats 4000000 in
theorem CC:SB Tryz.prog verdict_Engine_Copy.f [.d .dZ] [] 0 0 λ r F=>r= .d .dZ/\F=[]:=by
 refine verdict_Engine_Copy.enter (by simp[SV.ax,SV.ok,ag.ah,Dt.ah]) (by first|rfl|exact jD (by decide)) (by simp) ?_;dsimp only[verdict_Engine_Copy.s,Co.M,Co.J,Co.F,Co.C,Co.aB];have cN:=λ k=>lP k
 refine SW.seq (SW.g0 dE Zm aa ?_);refine SW.seq (SW.seq (SW.g1 dE Zm aa cN ?_));refine SW.ai rfl (SW.seq (SW.g0 dE Zm aa ?_));refine SW.ret ?_;exact End.mk ([]) (h4:=⟨rfl,rfl⟩)
theorem CD (k:Nat):aH Tryz.prog verdict_Engine_Copy.f [.d .dZ] [] k 0 (.d .dZ) []:=by
 have:=SB.new (CC) k
 simpa[SV.aN,SV.aC,eu,ag.aq,Dt.aq,ay.aq,Hp.aC] using this
set_option maxHeartbeats 4000000 in
theorem CE:SB Tryz.prog verdict_Engine_Copy.f [.ptr 0 0] (zH 0) 1 0 λ r F=>r= .d .dZ/\F=zH 0:=by
 refine verdict_Engine_Copy.enter (by simp[SV.ax,SV.ok,ag.ah,Dt.ah]) (by first|rfl|exact jD (by decide)) (by simp) ?_;dsimp only[verdict_Engine_Copy.s,Co.M,Co.J,Co.F,Co.C,Co.aB];have cN:=λ k=>lQ 0 k
 refine SW.seq (SW.g0 dE Zm aa ?_);refine SW.seq (SW.seq (SW.g1 dE Zm aa cN ?_));refine SW.ai rfl (SW.seq (SW.g0 dE Zm aa ?_));refine SW.ret ?_;exact End.mk (zH 0) (h4:=⟨rfl,rfl⟩) (h6:=jD (by decide))
theorem CF (e:Nat)(k:Nat):aH Tryz.prog verdict_Engine_Copy.f [.ptr e 0] (zH e) k 0 (.d .dZ) (zH e):=by
 have:=SB.lR [e] (CE) (by simp) (λ i hi=>by
  match i,hi with
  | 0,_=>simp[af]) k
 rw[tO] at this
 simpa[SV.aN,SV.aC,eu,ag.aq,Dt.aq,ay.aq] using this
end
section
attribute [local irreducible] SW RW aH SC aj ak js sG
set_option maxHeartbeats 16000000 in
theorem CG (o:ag):SB Tryz.prog law19_VerdictNone.f [.agg o.cells] [] 0 0 (λ r F=>r=bl true):=by
 refine law19_VerdictNone.enter (by first|rfl|simp[SV.ok,SV.ax]) (by first|rfl|simp[Hp.ok,Ob.ok,SV.ok,SV.ax,ay.ah]) (by simp) ?_;dsimp only[law19_VerdictNone.s,Co.M,Co.G,Co.J,Co.H,Co.F,Co.C,Co.Z,Co.B,Co.aB,Co.z8];have zP0:b_ [SV.d .dZ,.d .dZ] 0 [.d .dZ]=[.d .dZ,.d .dZ]:=rfl;have zP1:b_ [SV.d .dZ,.d .dZ] 1 [.ptr 1 0]=[.d .dZ,.ptr 1 0]:=rfl;have t29:List.take 29 o.cells=o.cells:=rfl;have l29:(0+29<=o.cells.length)=True:=eq_true (Nat.le_refl 29);have d0:List.take 2 o.cells=o.dot.cells:=rfl;have l0:(0+2<=o.cells.length)=True:=eq_true (by rw[show o.cells.length=29 from rfl];decide);refine SW.seq (SW.g0 da Zm aa ?_);refine SW.seq (SW.g0 da Zm aa ?_);refine SW.seq ?_
 (refine SW.di da Zm ?_;(repeat (first|refine RW.lit (Zq zP0 zP1) (h:=?_)|refine RW.ro aa (h:=?_)|refine RW.skip (h:=?_)|refine RW.op aa (h:=?_)|refine RW.dV aa (h:=?_)|refine RW.br (h:=?_)));refine RW.nil ⟨bM (by kernel_rfl),ak.mk (h:=?_)⟩)
 refine SW.weak id (st1:=⟨[(4,.gs 2 2),(1,.ptr 0 0)],[(2,.arr 90 1 2 [.d .dZ,.ptr 1 0]),(1,.box 98 zE),(0,.box 43 o.cells)],3⟩) (aG.same (Nat.zero_le _) (by simp[aJ,List.lookup,SV.aC,SV.ok,SV.ax]) (by simp[Hp.ok,Ob.ok,DL,ag.ah,SV.ax,SV.ok]) (λ y hy=> ?_)) ?_
 .simp only[List.mem_cons,List.not_mem_nil,or_false] at hy
  rcases hy with rfl|rfl|rfl<;>rfl
 refine SW.seq (SW.seq ?_);refine SW.g0 da Zm aa ?_;refine SW.block ?_;refine SW.loop (α:={i:Nat // i<=2}) (λ i=>⟨[(5,i64 i.1),(4,.gs 2 2),(1,.ptr 0 0)],[(2,.arr 90 1 2 [.d .dZ,.ptr 1 0]),(1,.box 98 zE),(0,.box 43 o.cells)],3⟩) (λ i=>2 - i.1) ⟨0,by decide⟩ id (aG.same (Nat.zero_le _) (by simp[aJ,List.lookup,SV.aC,SV.ok,SV.ax]) (by simp[Hp.ok,Ob.ok,DL,ag.ah,SV.ax,SV.ok]) (λ y hy=>by
  simp only[List.mem_cons,List.not_mem_nil,or_false] at hy;rcases hy with rfl|rfl|rfl<;>rfl)) ?_
 rintro⟨i,hi⟩;dsimp only;have next:∀ (env:List (Nat×SV)) (hp:Hp) (kz:Nat),i<2->(∀ z,z∈([(2,.arr 90 1 2 [.d .dZ,.ptr 1 0]),(1,.box 98 zE),(0,.box 43 o.cells)]:Hp)->lk hp z.1=some z.2)->aJ id 3 env [(5,i64 ((i+1:Nat):Int)),(4,.gs 2 2),(1,.ptr 0 0)]->
   ∃ (j:{i:Nat // i<=2}) (ρ:Nat->Nat),2 - j.1<2 - i/\aG 0 ⟨env,hp,kz⟩ ⟨[(5,i64 j.1),(4,.gs 2 2),(1,.ptr 0 0)],[(2,.arr 90 1 2 [.d .dZ,.ptr 1 0]),(1,.box 98 zE),(0,.box 43 o.cells)],3⟩ ρ:=λ env hp kz h2 g1 g2=>
  ⟨⟨i+1,by omega⟩,id,by show 2 - (i+1)<2 - i;omega,aG.same (Nat.zero_le _) g2 (by simp[Hp.ok,Ob.ok,DL,ag.ah,SV.ax,SV.ok]) g1⟩
 by_cases h:i<2
 .have h1:decide ((i:Int)<2)=true:=by simp only[decide_eq_true_eq];omega
  have e2:IntKind.i64.wrap ((i:Int)+1)=((i+1:Nat):Int):=wrap_i64 _ (by omega);refine SW.seq (SW.seq (SW.g0 da Zm h1 ?_));refine SW.ai rfl (SW.skip (SW.seq (SW.block (SW.seq ?_))))
  by_cases NN:i=0
  .subst NN
   refine SW.g0 da Zm aa ?_;refine SW.seq ?_;refine SW.g1 da Zm (Zq t29 l29) (EX o) ?_;refine SW.seq ?_;refine SW.g1 da Zm (Zq d0 l0) (xy o.dot) ?_;refine SW.seq ?_;refine SW.g4 da Zm aa E3 Bj CD trivial ?_;refine SW.an rfl (SW.skip ?_);refine SW.g0 da Zm e2 ?_;exact next _ _ _ h (λ z hz=>by
    simp only[List.mem_cons,List.not_mem_nil,or_false] at hz;rcases hz with rfl|rfl|rfl<;>rfl) (by simp[aJ,List.lookup,SV.aC,SV.ok,SV.ax])
  .obtain rfl:i=1:=by omega
   refine SW.g0 da Zm aa ?_;refine SW.seq ?_;refine SW.g1 da Zm (Zq t29 l29) (EZ 1 o) ?_;refine SW.seq ?_;refine SW.g1 da Zm (Zq d0 l0) (xA 1 o.dot) ?_;refine SW.seq ?_;refine SW.g4 da Zm aa (E5 1) (Bl 1) (CF 1) trivial ?_;refine SW.an rfl (SW.skip ?_);refine SW.g0 da Zm e2 ?_;exact next _ _ _ h (λ z hz=>by
    simp only[List.mem_cons,List.not_mem_nil,or_false] at hz;rcases hz with rfl|rfl|rfl<;>rfl) (by simp[aJ,List.lookup,SV.aC,SV.ok,SV.ax])
 have h1:decide ((i:Int)<2)=false:=by simp only[decide_eq_false_iff_not];omega
 refine SW.seq (SW.seq (SW.g0 da Zm h1 ?_));refine SW.an rfl (SW.exit ?_);refine(?_:Sl.SW _ _ _ _ _ _);refine SW.seq (SW.g1 da Zm aa bY ?_);refine SW.ret ?_;exact End.mk [] (h4:=rfl)
end
end Go.Proofs.YtaelhkkjgfobhaaGreat
namespace Go.Proofs.YtaelhkkjgfobhaaGreat
open Go.Sl Go.Proofs
theorem KO {P:Program}{d:Nat}{t1:TypeId}{nu:List (List DV)}(h:mB P d [t1] nu):∃ x0,nu=[x0]/\Fit P d t1 x0:=by
 match nu,h with
 | [x0],h=>
  simp only[mB] at h;exact⟨x0,rfl,h.1⟩
set_option maxRecDepth 100000 in
theorem Nk (o:ag):kB Tryz.prog cg o.ds= .agg o.cells:=by rw[yC (n:=29) (by kernel_rfl)];rfl
set_option maxRecDepth 100000 in
theorem uB:∀ nu,mB Tryz.prog 7 Tryz.f13.params.toList nu->(∀ ds,ds∈nu->ew reachBytes ds)->SB Tryz.prog 13 (nL Tryz.prog Tryz.f13.params.toList nu) [] 0 0 λ r F=>r=bl true:=by
 intro nu h hs;have hp: Tryz.f13.params.toList=[cg]:=by kernel_rfl
 rw[hp] at h ⊢;obtain⟨x0,rfl,h0⟩:=KO h;obtain⟨o,_,rfl⟩:=IC (d:=2) h0;simp only[nL,Nk];exact CG o
open Go.ChangeShapes Go.WideShapes Go.ChangeAt Go.RowKit in
set_option maxRecDepth 100000 in
theorem tP (os:Os)(started:os.Started)(H:Type)(enc:TypeId×Value->H):
  ReturnsInHanded {} Tryz.checked os 13 .any (Rows.verdictNoneSpec.pre6 enc Tryz.prog Tryz.f13 Rows.verdictNoneRow.domain false) (Rows.verdictNoneSpec.post enc Tryz.prog Tryz.f13 false true false false):=by
 refine returnsInHanded_of_change_sized (C:= Tryz.checked) own started (by kernel_rfl) Tryz.func13
  (ChangeSpec.witness6 (enc:=enc) (C:= Tryz.checked) false ⟨#[],#[.agg #[.int .u8 0,.int .u32 0,.int .u32 0,.int .u32 0,.int .u32 0,.int .u32 0,.int .u32 0,.int .u32 0,.int .u32 0,.int .u32 0,.int .u64 0,.int .u32 0,.int .u8 0,.int .u32 0,.int .u8 0,.int .u8 0,.int .u32 0,.int .u32 0,.int .u8 0,.int .u8 0,.int .u64 0,.int .u8 0,.int .u32 0,.int .u8 0,.int .u32 0,.int .u32 0,.int .u32 0,.int .u32 0,.slice none 0 0]],[]⟩ 8 (by kernel_rfl) (by kernel_rfl) (by kernel_rfl) (by kernel_rfl)) ?_
 intro W base args ds gs before hval hW hcnd hsz _;refine sZ (f:=13) (fn:= Tryz.f13) (spec:=Rows.verdictNoneSpec) (tb:=BS) 7 (by kernel_rfl) (by kernel_rfl) rfl (by kernel_rfl) rfl (λ ds hl=> ?_) reachBytes (λ nu hf hs=> ?_) W base args ds gs before hval hW (qZ _) (λ n hn=>by simpa using List.all_eq_true.1 hsz n (iB hn))
 .rw[show Tryz.f13.params.toList.length=1 from by kernel_rfl] at hl
  match ds,hl with
  | [d0],_=>exact⟨rfl,rfl,rfl⟩
 .exact uB nu hf hs
theorem verdictNone_holds:Rows.VerdictNoneSaid:=
 OpenClaim.holds_of_wide 13 Tryz.f13 rfl rfl rfl rfl rfl rfl rfl ⟨rfl,rfl,rfl,rfl,rfl⟩ rfl rfl rfl rfl rfl (by kernel_rfl) Tryz.func13 (by kernel_rfl)
  (of_decide_eq_true (by kernel_rfl)) (by unfold Func.isWrapper;first|(rw[if_pos (by decide +kernel)];kernel_rfl)|(rw[if_neg (by decide +kernel)];exact⟨rfl,rfl⟩))
  (λ os started H enc _=>tP os started H enc)
end Go.Proofs.YtaelhkkjgfobhaaGreat
