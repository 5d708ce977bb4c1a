/-
 What the vectors' functions compute: merged, above, the next dot, put.
-/
import Derived.Test.YtaelhkkjgfobhaaGreatSE
set_option linter.unusedSectionVars false
set_option linter.unusedVariables false
set_option linter.unusedSimpArgs false
namespace Go.Proofs.YtaelhkkjgfobhaaGreat
open Go.Sl Go.Proofs
section
attribute [local irreducible] SW RW aH SC aj ak
theorem Na (a b:Nat):Go.Sl.Pure Tryz.prog vector_Merge_1.f [u32 a,u32 b] (u32 (max a b)):=by
 refine vector_Merge_1.enter (by first|rfl|simp[SV.ok,SV.ax]) (by first|rfl|simp[Hp.ok,Ob.ok,SV.ok,SV.ax,ay.ah]) (by simp) ?_;dsimp only[vector_Merge_1.s,Co.M,Co.J,Co.F,Co.aB,Co.S];refine SW.seq (SW.g0 [0,1,4] Zm aa ?_);refine SW.seq (SW.g0 [0,1,4] Zm aa ?_);refine SW.ret ?_;refine End.mk [] (h4:=⟨?_,rfl⟩);simp only[fB,u32]
 congr 2
 split<;>omega
theorem Nb (a b k:Nat):aH Tryz.prog vector_Merge_1.f [.d (.int .u32 (a:Int)),.d (.int .u32 (b:Int))] [] k 0 (.d (.int .u32 ((max a b:Nat):Int))) []:=(Na a b).sc rfl k
abbrev qW:Ob:= .box kH [.fn (.func vector_Merge_1.f) [] []]
abbrev Qo (a b:ay)(i:Nat):Hp:=[(0,qW),(1,.box 39 a.cells),(2,.box 39 b.cells),(3,.box 39 (ay.upto i (ay.zip max a b) ay.zero).cells)]
set_option maxHeartbeats 4000000 in
theorem Ir (a b:ay):SB Tryz.prog vector_each_1.f [.agg a.cells,.agg b.cells,.ptr 0 0] [(0,qW)] 1 0 λ r F=>r= .agg (ay.zip max a b).cells/\F=[(0,qW)]:=by
 refine vector_each_1.enter (by simp[SV.ax,SV.ok,ay.ah]) (by simp[Hp.ok,Ob.ok,SV.ax,SV.ok]) (by simp) ?_;dsimp only[vector_each_1.s,Co.M,Co.J,Co.F,Co.Z,Co.z8,Co.T,Co.K,Co.x,Co.W,Co.Y,Co.S];refine SW.seq ?_;refine SW.g0 eJ Zm aa ?_;refine SW.seq (SW.seq ?_);refine SW.g0 eJ Zm aa ?_;refine SW.block ?_;refine SW.loop (α:={i:Nat // i<=8}) (λ i=>⟨[(7,i64 i.1),(2,.ptr 0 0),(3,.ptr 1 0),(4,.ptr 2 0),(5,.ptr 3 0)],Qo a b i.1,4⟩) (λ i=>8 - i.1) ⟨0,by omega⟩ id (aG.same (by show 1<=4;decide) (by simp[aJ,List.lookup,SV.aC,SV.ok,SV.ax]) (by simp[Hp.ok,Ob.ok,SV.ax,SV.ok,ay.ah]) (λ y hy=>by
  simp only[ay.DR,List.mem_cons,List.not_mem_nil,or_false] at hy;rcases hy with rfl|rfl|rfl|rfl<;>rfl)) ?_
 rintro⟨i,hi⟩;dsimp only
 by_cases h:i<8
 .have h1:decide ((i:Int)<8)=true:=by simp only[decide_eq_true_eq];omega
  have e2:IntKind.i64.wrap ((i:Int)+1)=((i+1:Nat):Int):=wrap_i64 _ (by omega);have ga:=a.eE h;have gb:=b.eE h;have e:b_ (ay.upto i (ay.zip max a b) ay.zero).cells i [.d (.int .u32 ((max (a.get i) (b.get i):Nat):Int))]=(ay.upto (i+1) (ay.zip max a b) ay.zero).cells:=by
   rw[ay.CT _ h,<- ay.DS _ _ h];congr 2;simp[ay.zip,ay.sW _ h]
  have cM:=Nb (a.get i) (b.get i);have l8:((i:Int).toNat+1<=8)=True:=eq_true (by omega);refine SW.seq ?_;refine SW.g0 eJ Zm h1 ?_;refine SW.seq (SW.ai rfl (SW.skip ?_));refine SW.seq (SW.block (SW.seq ?_));refine SW.g0 eJ Zm aa ?_;refine SW.g1 eJ Zm (Zq ga (Zq gb e)) cM ?_;refine SW.g0 eJ Zm e2 ?_;exact⟨⟨i+1,by omega⟩,id,by show 8 - (i+1)<8 - i;omega,aG.same (by show 1<=4;decide) (by simp[aJ,List.lookup,SV.aC,SV.ok,SV.ax]) (by simp[Hp.ok,Ob.ok,SV.ax,SV.ok,ay.ah]) (λ y hy=>by
   simp only[List.mem_cons,List.not_mem_nil,or_false] at hy;rcases hy with rfl|rfl|rfl|rfl<;>rfl)⟩
 have h1:decide ((i:Int)<8)=false:=by simp only[decide_eq_false_iff_not];omega
 have h8:i=8:=by omega
 subst h8;refine SW.seq (SW.g0 eJ Zm h1 ?_);refine SW.seq (SW.an rfl (SW.exit ?_));refine(?_:Sl.SW _ _ _ _ _ _);simp only[Qo,ay.FL];refine SW.seq (SW.g0 eJ Zm aa ?_);refine SW.ret ?_;exact End.mk [(0,qW)] (h4:=⟨rfl,rfl⟩)
theorem Bf (a b:ay)(n k:Nat):aH Tryz.prog vector_each_1.f [.agg a.cells,.agg b.cells,.ptr n 0] [(n,qW)] k 0 (.agg (ay.zip max a b).cells) [(n,qW)]:=by
 have:=SB.lR [n] (Ir a b) (by simp) (λ i hi=>by cases i with|zero=>simp[af]|succ i=>simp at hi) k
 simpa[SV.aN,SV.aC,eu,Hp.aC,Ob.aC,ay.aq] using this
theorem Kr:SB Tryz.prog vector_each.f [.fn (.func vector_Merge_1.f) [] []] [] 0 1 λ r F=>r= .fn (.func vector_each_1.f) [] [.ptr 0 0]/\F=[(0,qW)]:=by
 refine vector_each.enter rfl rfl (by simp) ?_;dsimp only[vector_each.s,Co.M,Co.J,Co.F,Co.x,Co.S];refine SW.seq (SW.g0 du Zm aa ?_);refine SW.seq (SW.g0 du Zm aa ?_);refine SW.ret ?_;exact End.mk [(0,qW)] (h4:=⟨rfl,rfl⟩)
theorem Ks (k:Nat):aH Tryz.prog vector_each.f [.fn (.func vector_Merge_1.f) [] []] [] k 1 (.fn (.func vector_each_1.f) [] [.ptr k 0]) [(k,qW)]:=by
 have:=SB.new Kr k
 simpa[SV.aC,SV.aN,Hp.aC,Ob.aC,eu] using this
abbrev QL (a b:ay)(i:Nat):ay:=if i=0 then ay.zero else if i=1 then a else ay.zip max a b
abbrev QM (a b:ay)(i:Nat):Hp:=[(0,qW),(1,.box 39 (QL a b i).cells)]
abbrev O2 (a b:ay):SV:= .d (.sl 2 (a.ds++b.ds))
set_option maxHeartbeats 4000000 in
theorem Kt (a b:ay):SB Tryz.prog vector_all_api_Vector.f [.fn (.func vector_each_1.f) [] [.ptr 0 0],O2 a b] [(0,qW)] 1 0
  λ r F=>r= .agg (ay.zip max a b).cells/\F=[(0,qW)]:=by
 refine vector_all_api_Vector.enter (by simp[SV.ax,SV.ok]) (by simp[Hp.ok,Ob.ok,SV.ax,SV.ok]) (by simp) ?_;dsimp only[vector_all_api_Vector.s,Co.M,Co.J,Co.F,Co.Z,Co.z8,Co.K,Co.L,Co.W,Co.Y,Co.V,Co.I,Co.S];refine SW.seq ?_;refine SW.g0 dd Zm aa ?_;refine SW.seq (SW.seq ?_);refine SW.g0 dd Zm aa ?_;refine SW.block ?_;refine SW.loop (α:={i:Nat // i<=2}) (λ i=>⟨[(9,i64 i.1),(8,i64 2),(7,O2 a b),(4,.ptr 1 0),(0,.fn (.func vector_each_1.f) [] [.ptr 0 0])],QM a b i.1,2⟩) (λ i=>2 - i.1) ⟨0,by omega⟩ id (aG.same (by show 1<=2;decide) (by simp[aJ,List.lookup,SV.aC,SV.aN,SV.ok,SV.ax]) (by simp[Hp.ok,Ob.ok,SV.ax,SV.ok,ay.ah]) (λ y hy=>by
  simp only[List.mem_cons,List.not_mem_nil,or_false] at hy;rcases hy with rfl|rfl<;>rfl)) ?_
 rintro⟨i,hi⟩;dsimp only;have fin:∀ (st:St),∀ y,y∈([]:Hp)->lk st.hp y.1=some y.2:=λ st y hy=>by cases hy
 match i,hi with
 | 0,_=>
  have t0:List.take 8 (List.map SV.d (a.ds++b.ds))=a.cells:=rfl;have cE:=Bf ay.zero a 0;refine SW.seq ?_;refine SW.g0 dd Zm aa ?_;refine SW.seq (SW.ai rfl (SW.skip ?_));refine SW.seq (SW.block (SW.seq ?_));refine SW.g0 dd Zm t0 ?_;refine SW.seq ?_;refine SW.g1 dd Zm aa cE ?_;refine SW.seq ?_;refine SW.g0 dd Zm aa ?_;refine SW.ai rfl ?_;refine SW.g0 dd Zm aa ?_;refine SW.g0 dd Zm aa ?_;exact⟨⟨1,by omega⟩,id,by show 2 - 1<2 - 0;decide,aG.same (by show 1<=2;decide) (by simp[aJ,List.lookup,SV.aC,SV.aN,SV.ok,SV.ax]) (by simp[Hp.ok,Ob.ok,SV.ax,SV.ok,ay.ah]) (λ y hy=>by
   simp only[List.mem_cons,List.not_mem_nil,or_false] at hy;rcases hy with rfl|rfl<;>rfl)⟩
 | 1,_=>
  have t1:List.take 8 (List.drop 8 (List.map SV.d (a.ds++b.ds)))=b.cells:=rfl;have cE:=Bf a b 0;refine SW.seq ?_;refine SW.g0 dd Zm aa ?_;refine SW.seq (SW.ai rfl (SW.skip ?_));refine SW.seq (SW.block (SW.seq ?_));refine SW.g0 dd Zm t1 ?_;refine SW.seq ?_;refine SW.g1 dd Zm aa cE ?_;refine SW.seq ?_;refine SW.g0 dd Zm aa ?_;refine SW.an rfl (SW.skip ?_);refine SW.g0 dd Zm aa ?_;exact⟨⟨2,by omega⟩,id,by show 2 - 2<2 - 1;decide,aG.same (by show 1<=2;decide) (by simp[aJ,List.lookup,SV.aC,SV.aN,SV.ok,SV.ax]) (by simp[Hp.ok,Ob.ok,SV.ax,SV.ok,ay.ah]) (λ y hy=>by
   simp only[List.mem_cons,List.not_mem_nil,or_false] at hy;rcases hy with rfl|rfl<;>rfl)⟩
 | 2,_=>
  refine SW.seq (SW.g0 dd Zm aa ?_);refine SW.seq (SW.an rfl (SW.exit ?_));refine(?_:Sl.SW _ _ _ _ _ _);refine SW.seq (SW.g0 dd Zm aa ?_);refine SW.ret ?_;exact End.mk [(0,qW)] (h4:=⟨rfl,rfl⟩)
theorem Ku (a b:ay)(n k:Nat):aH Tryz.prog vector_all_api_Vector.f [.fn (.func vector_each_1.f) [] [.ptr n 0],O2 a b] [(n,qW)] k 0 (.agg (ay.zip max a b).cells) [(n,qW)]:=by
 have:=SB.lR [n] (Kt a b) (by simp) (λ i hi=>by cases i with|zero=>simp[af]|succ i=>simp at hi) k
 simpa[SV.aN,SV.aC,eu,Hp.aC,Ob.aC,ay.aq] using this
theorem EH (a b:ay):Go.Sl.Pure Tryz.prog vector_Merge.f [O2 a b] (.agg (ay.zip max a b).cells):=by
 refine vector_Merge.enter (by first|rfl|simp[SV.ok,SV.ax]) (by first|rfl|simp[Hp.ok,Ob.ok,SV.ok,SV.ax,ay.ah]) (by simp) ?_;dsimp only[vector_Merge.s,Co.M,Co.J,Co.F,Co.C,Co.z8,Co.Q,Co.W,Co.S];refine SW.seq (SW.g0 fv Zm aa ?_);refine SW.seq (SW.g2 fv Zm aa (Ks 1) (Ku a b 1) ?_);refine SW.ret ?_;exact End.mk [] (h4:=⟨rfl,rfl⟩)
theorem EI (a b:ay)(k:Nat):aH Tryz.prog vector_Merge.f [O2 a b] [] k 0 (.agg (ay.zip max a b).cells) []:=(EH a b).sc rfl k
theorem Is (a b:ay):Go.Sl.Pure Tryz.prog vector_Above.f [.agg a.cells,.agg b.cells] (bl (a.above b)):=by
 refine vector_Above.enter (by first|rfl|simp[SV.ok,SV.ax]) (by first|rfl|simp[Hp.ok,Ob.ok,SV.ok,SV.ax,ay.ah]) (by simp) ?_;dsimp only[vector_Above.s,Co.M,Co.J,Co.F,Co.B,Co.aB,Co.K,Co.P,Co.x,Co.S];have cM:=EI a b;rw[<- ay.Aj];refine SW.seq (SW.g0 ci Zm aa ?_);refine SW.seq (SW.g1 ci Zm aa cM ?_);refine SW.ret ?_;exact End.mk [] (h4:=⟨rfl,rfl⟩)
theorem yz (a b:ay)(k:Nat):aH Tryz.prog vector_Above.f [.agg a.cells,.agg b.cells] [] k 0 (bl (a.above b)) []:=(Is a b).sc rfl k
set_option maxHeartbeats 4000000 in
theorem It (v:ay)(hv:v.wf)(r:Nat)(hr:r<8):Go.Sl.Pure Tryz.prog vector_Next.f [.agg v.cells,u8 r] (.dL [.agg (v.next r).1.cells,i64 (v.next r).2]):=by
 refine vector_Next.enter (by first|rfl|simp[SV.ok,SV.ax]) (by first|rfl|simp[Hp.ok,Ob.ok,SV.ok,SV.ax,ay.ah]) (by simp) ?_;dsimp only[vector_Next.s,Co.M,Co.J,Co.F,Co.Z,Co.b8,Co.aB,Co.T,Co.x,Co.W,Co.Y,Co.S];have hb:=hv r hr;have w1:IntKind.i64.wrap (r:Int)=(r:Int):=wrap_i64 r (by omega);have g1:decide ((r:Int)>=8)=false:=by simp only[decide_eq_false_iff_not];omega
 have gg:=v.eE hr;refine SW.seq (SW.g0 fy Zm aa ?_);refine SW.seq (SW.block (SW.seq (SW.g0 fy Zm (Zq w1 g1) ?_)));refine SW.an rfl (SW.seq ?_)
 by_cases hf:v.get r=4294967295
 .have e:v.next r=(Dt.zero,6):=by simp[ay.next,show ¬ 8<=r by omega,hf]
  rw[e];have e1:IntKind.u32.wrap ((v.get r+1:Nat):Int)=0:=by rw[hf];rfl
  refine SW.g0 fy Zm (Zq gg e1) ?_;refine SW.ai rfl (SW.seq (SW.g0 fy Zm aa ?_));refine SW.ret ?_;exact End.mk [] (h4:=⟨rfl,rfl⟩)
 .have e:v.next r=(⟨r,v.get r+1⟩,0):=by simp[ay.next,show ¬ 8<=r by omega,hf]
  rw[e];have e1:IntKind.u32.wrap ((v.get r+1:Nat):Int)=((v.get r+1:Nat):Int):=wrap_u32 (v.get r+1) (by omega);have e3:(((v.get r+1:Nat):Int) == 0)=false:=by
   have:((v.get r+1:Nat):Int)≠0:=by omega
   simpa using this
  refine SW.g0 fy Zm (Zq gg (Zq e1 e3)) ?_;refine SW.an rfl (SW.skip (SW.seq (SW.g0 fy Zm (Zq gg e1) ?_)));refine SW.ret ?_;exact End.mk [] (h4:=⟨rfl,rfl⟩)
theorem Iu (v:ay)(hv:v.wf)(r:Nat)(hr:r<8)(k:Nat):aH Tryz.prog vector_Next.f [.agg v.cells,.d (.int .u8 (r:Int))] [] k 0 (.dL [.agg (v.next r).1.cells,i64 (v.next r).2]) []:=(It v hv r hr).sc rfl k
set_option maxHeartbeats 4000000 in
theorem Kv (v:ay)(hv:v.wf)(d:Dt)(hd:d.wf):Go.Sl.Pure Tryz.prog vector_Put.f [.agg v.cells,.agg d.cells] (.dL [.agg (v.put d).1.cells,i64 (v.put d).2]):=by
 have cM:=vO d;refine vector_Put.enter (by first|rfl|simp[SV.ok,SV.ax]) (by first|rfl|simp[Hp.ok,Ob.ok,SV.ok,SV.ax,ay.ah]) (by simp) ?_;dsimp only[vector_Put.s,Co.M,Co.J,Co.H,Co.F,Co.Z,Co.B,Co.b8,Co.aB,Co.z8,Co.T,Co.K,Co.E,Co.P,Co.Q,Co.x,Co.W,Co.Y,Co.O,Co.D,Co.S];have z8:b_ ay.zero.cells 0 ay.zero.cells=ay.zero.cells:=rfl;refine SW.seq (SW.g0 dj Zm aa ?_);refine SW.seq (SW.seq ?_);rcases hm:d.may with _|_
 .rw[hm] at cM
  have e:v.put d=(ay.zero,2):=by simp[ay.put,hm]
  rw[e];refine SW.g1 dj Zm aa cM ?_;refine SW.ai rfl (SW.seq (SW.g0 dj Zm aa ?_));refine SW.ret ?_;exact End.mk [] (h4:=⟨rfl,rfl⟩)
 rw[hm] at cM;refine SW.g1 dj Zm aa cM ?_;refine SW.an rfl (SW.skip ?_);have hr:d.r<8:=by simp[Dt.may] at hm;exact hm.1
 have hb:=hv d.r hr;have cN:=Iu v hv d.r hr;have gr:d.cells[0]? =some (.d (.int .u8 (d.r:Int))):=rfl;have gn:d.cells[1]? =some (.d (.int .u32 (d.n:Int))):=rfl;have dl:(0+1<=d.cells.length)=True:=eq_true (by rw[show d.cells.length=2 from rfl];decide);have dl1:(1+1<=d.cells.length)=True:=eq_true (by rw[show d.cells.length=2 from rfl];decide);refine SW.seq (SW.seq ?_)
 by_cases hf:v.get d.r=4294967295
 .have e:v.next d.r=(Dt.zero,6):=by simp[ay.next,show ¬ 8<=d.r by omega,hf]
  have ep:v.put d=(ay.zero,9):=by
   have:d.n≠v.get d.r+1:=by have:=hd.2;omega
   simp[ay.put,hm,this]
  rw[ep];rw[e] at cN;refine SW.g1 dj Zm (Zq gr dl) cN ?_;refine SW.seq (SW.g0 dj Zm aa ?_);refine SW.ai rfl (SW.seq (SW.g0 dj Zm aa ?_));refine SW.ret ?_;exact End.mk [] (h4:=⟨rfl,rfl⟩)
 have e:v.next d.r=(⟨d.r,v.get d.r+1⟩,0):=by simp[ay.next,show ¬ 8<=d.r by omega,hf]
 rw[e] at cN;obtain⟨x,hx⟩:∃ x:Dt,x=⟨d.r,v.get d.r+1⟩:=⟨_,rfl⟩;have cN':∀ k,aH Tryz.prog vector_Next.f [.agg v.cells,.d (.int .u8 (d.r:Int))] [] k 0 (.dL [.agg x.cells,i64 0]) []:=λ k=>by rw[hx];exact cN k
 refine SW.g1 dj Zm (Zq gr dl) cN' ?_;refine SW.seq ?_;rcases hq:decide (x=d) with _|_
 .have ep:v.put d=(ay.zero,9):=by
   have:d.n≠v.get d.r+1:=λ e=>by
    have:x=d:=by rw[hx,<- e]
    rw[decide_eq_false_iff_not] at hq;exact hq this
   simp[ay.put,hm,this]
  rw[ep];refine SW.g0 dj Zm hq ?_;refine SW.ai rfl (SW.seq (SW.g0 dj Zm aa ?_));refine SW.ret ?_;exact End.mk [] (h4:=⟨rfl,rfl⟩)
 .have hn:d.n=v.get d.r+1:=by
   rw[decide_eq_true_eq] at hq;rw[hx] at hq;exact(congrArg Dt.n hq).symm
  have ep:v.put d=(v.set d.r d.n,0):=by simp[ay.put,hm,hn]
  rw[ep];have es:=ay.CT v hr d.n;refine SW.g0 dj Zm hq ?_;refine SW.an rfl (SW.skip (SW.seq (SW.g0 dj Zm (Zq gr (Zq gn (Zq dl (Zq dl1 es)))) ?_)));refine SW.seq (SW.g0 dj Zm aa ?_);refine SW.ret ?_;exact End.mk [] (h4:=⟨rfl,rfl⟩)
theorem DA (v:ay)(hv:v.wf)(d:Dt)(hd:d.wf)(k:Nat):aH Tryz.prog vector_Put.f [.agg v.cells,.agg d.cells] [] k 0 (.dL [.agg (v.put d).1.cells,i64 (v.put d).2]) []:=(Kv v hv d hd).sc rfl k
end
section
attribute [local irreducible] SW RW aH SC aj ak js sG
structure En where
 l:List ag
 K:KM
 kn:ay
def jg (r m n:Nat)(v:ay):List SV:= .gs r n:: .mp m::v.cells
theorem jg.g0 (r m n:Nat)(v:ay):(jg r m n v)[0]? =some (.gs r n):=rfl
theorem jg.g1 (r m n:Nat)(v:ay):(jg r m n v)[1]? =some (.mp m):=rfl
theorem jg.g2 (r m n:Nat)(v:ay):List.take 8 (List.drop 2 (jg r m n v))=v.cells:=rfl
theorem jg.len (r m n:Nat)(v:ay):(jg r m n v).length=10:=rfl
theorem jg.s0 (r m n r' n':Nat)(v:ay):b_ (jg r m n v) 0 [.gs r' n']=jg r' m n' v:=rfl
theorem jg.s1 (r m n m':Nat)(v:ay):b_ (jg r m n v) 1 [.mp m']=jg r m' n v:=rfl
theorem jg.s2 (r m n:Nat)(v v':ay):b_ (jg r m n v) 2 v'.cells=jg r m n v':=rfl
theorem oA (ρ:Nat->Nat)(r m n:Nat)(v:ay):SV.aN ρ (jg r m n v)=jg (ρ r) (ρ m) n v:=by
 unfold jg;simp[SV.aN,SV.aC,ay.aq]
theorem qX (q:Nat->Bool)(r m n:Nat)(v:ay)(h:q r=true/\q m=true):SV.ax q (jg r m n v)=true:=by
 unfold jg;simp[SV.ax,SV.ok,ay.ah,h.1,h.2]
abbrev eH (e r m:Nat)(E:En):Hp:=[(e,.box 98 (jg r m E.l.length E.kn)),(r,.arr 43 29 E.l.length (qt E.l)),(m,uf E.K)]
theorem gq {q:Nat->Bool}{e r m:Nat}(E:En)(h:q e=true/\q r=true/\q m=true):(eH e r m E).ok q=true:=
 aA h.1 (qX _ _ _ _ _ ⟨h.2.1,h.2.2⟩) (aA h.2.1 (SV.aW _) (aA h.2.2 (dH _ _) rfl))
theorem qY (ρ:Nat->Nat)(e r m:Nat)(E:En):(eH e r m E).aC ρ=eH (ρ e) (ρ r) (ρ m) E:=by
 simp[Hp.aC,Ob.aC,oA,fP,SV.dy]
theorem Bg (E:En):∀ i,i<3->lk (eH 0 1 2 E) i≠none:=λ i hi=>by
 match i,hi with
 | 0,_|1,_|2,_=>simp[af]
set_option maxHeartbeats 4000000 in
theorem Iv (E:En):SB Tryz.prog verdict_Engine_none.f [.ptr 0 0] (eH 0 1 2 E) 3 0 λ r F=>r=bl false/\F=eH 0 1 2 E:=by
 refine verdict_Engine_none.enter (by simp[SV.ax,SV.ok]) (gq E (by decide)) (by simp) ?_;dsimp only[verdict_Engine_none.s,Co.M,Co.G,Co.J,Co.H,Co.F,Co.B,Co.S];have g1:=jg.g1 1 2 E.l.length E.kn;have gl:(1+1<=(jg 1 2 E.l.length E.kn).length)=True:=eq_true (by rw[jg.len];decide);refine SW.seq (SW.g0 fv Zm aa ?_);refine SW.seq (SW.g0 fv Zm (Zq g1 gl) ?_);refine SW.ret ?_;exact End.mk (eH 0 1 2 E) (h4:=⟨rfl,rfl⟩) (h6:=gq E (by decide))
theorem sB (e r m:Nat)(hd:[e,r,m].Nodup)(E:En)(k:Nat):aH Tryz.prog verdict_Engine_none.f [.ptr e 0] (eH e r m E) k 0 (bl false) (eH e r m E):=by
 have:=SB.lR [e,r,m] (Iv E) hd (λ i hi=>Bg E i hi) k;rw[qY] at this
 simpa[SV.aN,SV.aC,eu] using this
def pN (E:En)(d:Dt):SV:=if MM.has E.K.m d then .dL [.d (.int .u8 (E.K.get d:Nat)),i64 0] else .dL [.d (.int .u8 0),i64 7]
set_option maxHeartbeats 4000000 in
theorem Kw (E:En)(d:Dt):SB Tryz.prog verdict_Engine_Verdict.f [.ptr 0 0,.agg d.cells] (eH 0 1 2 E) 3 0 λ r F=>r=pN E d/\F=eH 0 1 2 E:=by
 refine verdict_Engine_Verdict.enter (by simp[SV.ax,SV.ok,Dt.ah]) (gq E (by decide)) (by simp) ?_;dsimp only[verdict_Engine_Verdict.s,Co.M,Co.J,Co.F,Co.Z,Co.b8,Co.T,Co.K,Co.E,Co.P,Co.x,Co.O,Co.D,Co.A,Co.S];have cN:=sB 0 1 2 (by decide) E;have g1:=jg.g1 1 2 E.l.length E.kn;have gl:(1+1<=(jg 1 2 E.l.length E.kn).length)=True:=eq_true (by rw[jg.len];decide);have hlk:=kJ E.K.m d;change _=SV.d (.int .u8 ((E.K.get d:Nat):Int)) at hlk;refine SW.seq (SW.g0 dp Zm aa ?_);refine SW.seq (SW.seq (SW.g1 dp Zm aa cN ?_));refine SW.an rfl (SW.skip (SW.seq (SW.g0 dp Zm (Zq g1 (Zq gl hlk)) ?_)));refine SW.seq (SW.seq ?_);unfold pN;rcases hh:MM.has E.K.m d with _|_
 .refine SW.g0 dp Zm aa ?_
  refine SW.ai rfl (SW.seq (SW.g0 dp Zm aa ?_));refine SW.ret ?_;exact End.mk (eH 0 1 2 E) (h4:=⟨rfl,rfl⟩) (h6:=gq E (by decide))
 .refine SW.g0 dp Zm aa ?_
  refine SW.an rfl (SW.skip (SW.seq (SW.g0 dp Zm aa ?_)));refine SW.ret ?_;exact End.mk (eH 0 1 2 E) (h4:=⟨rfl,rfl⟩) (h6:=gq E (by decide))
theorem DB (e r m:Nat)(hd:[e,r,m].Nodup)(E:En)(d:Dt)(k:Nat):aH Tryz.prog verdict_Engine_Verdict.f [.ptr e 0,.agg d.cells] (eH e r m E) k 0 (pN E d) (eH e r m E):=by
 have:=SB.lR [e,r,m] (Kw E d) hd (λ i hi=>Bg E i hi) k;rw[qY,show(pN E d).aC (eu [e,r,m] k)=pN E d by unfold pN;split<;>simp[SV.aN,SV.aC]] at this
 simpa[SV.aN,SV.aC,eu,Dt.aq] using this
def En.zero:En:=⟨[],⟨[],0⟩,ay.zero⟩
theorem Kx:SB Tryz.prog verdict_New.f [] [] 0 3 λ r F=>r= .ptr 1 0/\F=eH 1 2 0 En.zero:=by
 refine verdict_New.enter rfl rfl (by simp) ?_;dsimp only[verdict_New.s,Co.M,Co.J,Co.F,Co.aB,Co.x,Co.S];have s1:b_ (SV.d .aL:: .d .gP::ay.zero.cells) 1 [.mp 0]=SV.d .aL:: .mp 0::ay.zero.cells:=rfl;have l1:(SV.d .aL::SV.mp 0::ay.zero.cells).all SV.dX=true:=rfl;refine SW.seq (SW.g0 [0] Zm aa ?_);refine SW.seq (SW.g0 [0] Zm (Zq s1 l1) ?_);refine SW.y2 1 98 0 43 29 rfl rfl ?_;refine SW.ret ?_;exact End.mk (eH 1 2 0 En.zero) (h4:=⟨rfl,rfl⟩) (h6:=gq _ (by decide))
theorem DC (k:Nat):aH Tryz.prog verdict_New.f [] [] k 3 (.ptr (k+1) 0) (eH (k+1) (k+2) k En.zero):=by
 have:=SB.new Kx k;rw[qY] at this;have e1:eu [] k 1=k+1:=by simp[eu];omega
 have e2:eu [] k 2=k+2:=by simp[eu];omega
 have e0:eu [] k 0=k:=by simp[eu]
 rw[e0,e1,e2] at this
 simpa[SV.aC,e1] using this
end
section
attribute [local irreducible] SW RW aH SC aj ak js sG
def oI (K0 K1:KM)(d:Dt):Bool:=MM.has K0.m d && !decide (K0.get d=K1.get d)
abbrev IV (e r m w b c:Nat)(K0:KM)(E:En):Hp:=(b,.box 76 [.mp w])::(c,.box 90 [.ptr e 0])::(w,uf K0)::eH e r m E
theorem zB {q:Nat->Bool}{e r m w b c:Nat}(K0:KM)(E:En)(h:q e=true/\q r=true/\q m=true/\q w=true/\q b=true/\q c=true):(IV e r m w b c K0 E).ok q=true:=
 aA h.2.2.2.2.1 (by simp[Ob.ok,SV.ax,SV.ok,h.2.2.2.1]) (aA h.2.2.2.2.2 (by simp[Ob.ok,SV.ax,SV.ok,h.1]) (aA h.2.2.2.1 (dH _ _) (gq E ⟨h.1,h.2.1,h.2.2.1⟩)))
set_option maxHeartbeats 4000000 in
theorem Ky (K0:KM)(E:En)(d:Dt):SB Tryz.prog verdict_Engine_Put_1.f [.agg d.cells,.ptr 4 0,.ptr 5 0] (IV 0 1 2 3 4 5 K0 E) 6 0 λ r F=>r=bl (oI K0 E.K d)/\F=IV 0 1 2 3 4 5 K0 E:=by
 refine verdict_Engine_Put_1.enter (by simp[SV.ax,SV.ok,Dt.ah]) (zB K0 E (by decide)) (by simp) ?_;dsimp only[verdict_Engine_Put_1.s,Co.M,Co.G,Co.J,Co.H,Co.F,Co.B,Co.b8,Co.T,Co.K,Co.E,Co.x,Co.U,Co.S];have g1:=jg.g1 1 2 E.l.length E.kn;have gl:(1+1<=(jg 1 2 E.l.length E.kn).length)=True:=eq_true (by rw[jg.len];decide);have k0:=kJ K0.m d;change _=SV.d (.int .u8 ((K0.get d:Nat):Int)) at k0;have k1:=kJ E.K.m d;change _=SV.d (.int .u8 ((E.K.get d:Nat):Int)) at k1;have g2:(((K0.get d:Nat):Int) != ((E.K.get d:Nat):Int))= !decide (K0.get d=E.K.get d):=by
  by_cases h:K0.get d=E.K.get d
  .rw[h];simp
  .have:((K0.get d:Nat):Int)≠((E.K.get d:Nat):Int):=by omega
   simp[h,this]
 refine SW.seq (SW.g0 im Zm aa ?_);refine SW.seq (SW.g0 im Zm k0 ?_);refine SW.seq ?_;unfold oI;rcases hh:MM.has K0.m d with _|_
 .refine SW.g0 im Zm aa ?_
  refine SW.ret ?_;exact End.mk (IV 0 1 2 3 4 5 K0 E) (h4:=⟨rfl,rfl⟩) (h6:=zB K0 E (by decide))
 .refine SW.g0 im Zm (Zq g1 (Zq gl (Zq k1 g2))) ?_
  refine SW.ret ?_;exact End.mk (IV 0 1 2 3 4 5 K0 E) (h4:=⟨rfl,rfl⟩) (h6:=zB K0 E (by decide))
theorem Kz (e r m w b c:Nat)(hd:[e,r,m,w,b,c].Nodup)(K0:KM)(E:En)(d:Dt)(k:Nat):aH Tryz.prog verdict_Engine_Put_1.f [.agg d.cells,.ptr b 0,.ptr c 0] (IV e r m w b c K0 E) k 0 (bl (oI K0 E.K d)) (IV e r m w b c K0 E):=by
 have:=SB.lR [e,r,m,w,b,c] (Ky K0 E d) hd (λ i hi=>by
  match i,hi with
  | 0,_|1,_|2,_|3,_|4,_|5,_=>simp[af]) k
 have e1:(IV 0 1 2 3 4 5 K0 E).aC (eu [e,r,m,w,b,c] k)=IV e r m w b c K0 E:=by
  simp[Hp.aC,Ob.aC,oA,fP,SV.dy,SV.aN,SV.aC,eu]
 rw[e1] at this
 simpa[SV.aN,SV.aC,eu,Dt.aq] using this
end
section
attribute [local irreducible] SW RW aH SC aj ak js sG
def En.may (E:En)(o:ag):Bool:=decide ((E.kn.put o.dot).2=0) && E.kn.above o.dep
noncomputable def En.put (E:En)(o:ag):En:=⟨E.l++[o],dQ (E.l++[o]),(E.kn.put o.dot).1⟩
abbrev eG (E:En)(o:ag):Hp:=(4,.box 43 o.cells)::(3,.box 90 [.ptr 0 0])::eH 0 1 2 E
set_option maxHeartbeats 8000000 in
theorem KA (E:En)(hw:E.kn.wf)(o:ag)(ho:o.dot.wf)(hm:E.may o=false):SB Tryz.prog verdict_Engine_Put.f [.ptr 0 0,.agg o.cells] (eH 0 1 2 E) 3 0 λ r F=>r= .dL [.d .aL,i64 9]/\F=eH 0 1 2 E:=by
 refine verdict_Engine_Put.enter (by simp[SV.ax,SV.ok,ag.ah]) (gq E (by decide)) (by simp) ?_;dsimp only[verdict_Engine_Put.s,Co.M,Co.J,Co.H,Co.F,Co.C,Co.Z,Co.B,Co.b8,Co.aB,Co.z8,Co.bH,Co.T,Co.K,Co.E,Co.P,Co.Q,Co.x,Co.W,Co.Y,Co.D,Co.A,Co.S];have cN:=sB 0 1 2 (by decide) E;have g2:=jg.g2 1 2 E.l.length E.kn;have gl:(2+8<=(jg 1 2 E.l.length E.kn).length)=True:=eq_true (by rw[jg.len];decide);have cP:=DA E.kn hw o.dot ho;have cA:=yz E.kn o.dep;have d0:List.take 2 o.cells=o.dot.cells:=rfl;have d2:List.take 8 (List.drop 2 o.cells)=o.dep.cells:=rfl;have l0:(0+2<=o.cells.length)=True:=eq_true (by rw[show o.cells.length=29 from rfl];decide);have l2:(2+8<=o.cells.length)=True:=eq_true (by rw[show o.cells.length=29 from rfl];decide);refine SW.seq (SW.g0 ba Zm aa ?_);refine SW.seq (SW.seq (SW.g1 ba Zm aa cN ?_));refine SW.an rfl (SW.skip (SW.seq ?_));rcases hv:E.kn.put o.dot with⟨v',e⟩;rw[hv] at cP;have hmay:(decide (e=0) && E.kn.above o.dep)=false:=by unfold En.may at hm;rw[hv] at hm;exact hm
 dsimp only at cP;refine SW.g1 ba Zm (Zq g2 (Zq gl (Zq d0 l0))) cP ?_;refine SW.seq (SW.seq ?_);rcases he:decide ((e:Int)≠0) with _|_
 .have he0:e=0:=by simpa using he
  subst he0;have ha:E.kn.above o.dep=false:=by simpa using hmay
  rw[ha] at cA;refine SW.g1 ba Zm (Zq g2 (Zq gl (Zq d2 l2))) cA ?_;refine SW.ai rfl (SW.seq (SW.g0 ba Zm aa ?_));refine SW.ret ?_;exact End.mk (eH 0 1 2 E) (h4:=⟨rfl,rfl⟩) (h6:=gq E (by decide))
 .have he1:((e:Int) != 0)=true:=by simpa using he
  refine SW.g0 ba Zm he1 ?_;refine SW.ai rfl (SW.seq (SW.g0 ba Zm aa ?_));refine SW.ret ?_;exact End.mk (eH 0 1 2 E) (h4:=⟨rfl,rfl⟩) (h6:=gq E (by decide))
end
section
attribute [local irreducible] SW RW aH SC aj ak js sG
def EJ (K0 K1:KM)(xs:MM Dt Nat):List Dt:=(xs.map (·.2.1)).filter (oI K0 K1)
theorem Iw (K0 K1:KM)(xs:MM Dt Nat)(x:Nat×Dt×Nat):EJ K0 K1 (xs++[x])=if oI K0 K1 x.2.1 then EJ K0 K1 xs++[x.2.1] else EJ K0 K1 xs:=by
 unfold EJ;rw[List.map_append,List.filter_append];cases h:oI K0 K1 x.2.1<;>simp[h]
theorem EK {M xs:MM Dt Nat}{c:Nat}(hwf:MM.wf M c)(p1:∀ x,x∈xs->x∈M)(hall:∀ e,e∈au Dt.cells kv M->(xs.map (·.1)).contains e.1=true):∀ x,x∈xs↔x∈M:=λ x=>⟨p1 x,λ hx=>by
 have:=hall _ (List.mem_map.2 ⟨x,hx,rfl⟩);simp only[List.contains_iff_mem] at this;obtain⟨z,hz,e⟩:=List.mem_map.1 this;rw[<- MM.rQ hwf.times (p1 z hz) hx e];exact hz⟩
theorem Cu {M xs:MM Dt Nat}(p1:∀ x,x∈xs->x∈M)(p2:(xs.map (·.1)).Nodup){x:Nat×Dt×Nat}(hx:x∈M)(hs:(xs.map (·.1)).contains x.1=false):(∀ z,z∈xs++[x]->z∈M)/\((xs++[x]).map (·.1)).Nodup:=by
 have hxt:x.1∉xs.map (·.1):=λ h=>by
  have:(xs.map (·.1)).contains x.1=true:=by simpa only[List.contains_iff_mem] using h
  rw[this] at hs;cases hs
 refine⟨λ z hz=> ?_,?_⟩
 .rcases List.mem_append.1 hz with hz|hz
  .exact p1 z hz
  .rw[List.mem_singleton.1 hz];exact hx
 .rw[List.map_append,List.nodup_append]
  refine⟨p2,by simp,λ a ha b' hb'=> ?_⟩;simp only[List.map_cons,List.map_nil,List.mem_singleton] at hb';intro e;exact hxt (by rw[<- hb',<- e];exact ha)
structure TU (M:MM Dt Nat)(xs:MM Dt Nat):Prop where
 sub:∀ x,x∈xs->x∈M
 nd:(xs.map (·.1)).Nodup
def oJ (K0 K1:KM):List Dt:=Dt.set ((MM.keys K1.m).filter (oI K0 K1))
abbrev pL (K0:KM)(E:En)(seen:List Nat)(R:List Dt):Hp:=(10,.iter (some 8) E.K.c seen E.K.c)::(9,uz R 9)::IV 0 7 8 2 6 3 K0 E
theorem LA (K0:KM)(E:En)(seen:List Nat)(R:List Dt):(pL K0 E seen R).ok (λ n=>decide (n<11))=true:=
 aA (by decide) (Dv _ _ _ _ _ (by decide)) (aA (by decide) (SV.aW _) (zB K0 E (by decide)))
theorem Qp (K0:KM)(E:En)(seen:List Nat)(R:List Dt):∀ y,y∈pL K0 E seen R->lk (pL K0 E seen R) y.1=some y.2:=λ y hy=>by
 simp only[List.mem_cons,List.not_mem_nil,or_false] at hy;rcases hy with rfl|rfl|rfl|rfl|rfl|rfl|rfl|rfl<;>rfl
theorem DD {K0 K1:KM}{xs:MM Dt Nat}(p:TU K1.m xs)(h:K1.m.length<=80):(EJ K0 K1 xs).length<=80:=by
 have h1:=List.length_filter_le (oI K0 K1) (xs.map (·.2.1));have h2:=p.nd.length_le_of_subset (l₂:=K1.m.map (·.1)) λ n hn=>by
  obtain⟨z,hz,rfl⟩:=List.mem_map.1 hn;exact List.mem_map.2 ⟨z,p.sub z hz,rfl⟩
 simp only[List.length_map] at h1 h2;unfold EJ;omega
theorem Iy (l:List ag):(dQ l).m.length<=l.length:=by
 have h:=qm l;have h1:=h.wf.keys.length_le_of_subset (l₂:=qB l) λ d hd=>(h.keys d).1 (MM.iu.2 hd)
 have h2:(qB l).length<=(l.map (·.dot)).length:=Dt.Cb _;have h3:(MM.keys (dQ l).m).length=(dQ l).m.length:=by simp[MM.keys]
 rw[List.length_map] at h2;omega
theorem zC (K:KM):∀ e,e∈au Dt.cells kv K.m->SV.Plain e.2.1/\SV.Plain e.2.2:=λ e he=>by
 obtain⟨x,hx,rfl⟩:=eM he;refine⟨SV.DZ λ c hc=> ?_,λ p p' μ bh M M' u h=> ?_⟩
 .simp only[Dt.cells,List.mem_cons,List.not_mem_nil,or_false] at hc
  rcases hc with rfl|rfl
  .intro p p' μ bh M M' u h
   rw[Rp.aR] at h ⊢;exact h
  .exact SV.DY _
 .unfold kv at h ⊢
  rw[Rp.aR] at h ⊢;exact h
set_option maxHeartbeats 16000000 in
theorem KB (E:En)(hw:E.kn.wf)(o:ag)(ho:o.dot.wf)(hm:E.may o=true)(zD:(E.l++[o]).length<=80)(hrow:lN (E.l++[o]))(mz:∀ k,aH Tryz.prog slices_Clone_Lapi_Claim_api_Claim.f [.d o.lines] [] k 0 (.d o.lines) []):
  SB Tryz.prog verdict_Engine_Put.f [.ptr 0 0,.agg o.cells] (eH 0 1 2 E) 3 6 λ r F=>r= .dL [bN (oJ E.K (E.put o).K),i64 0]/\F=eH 0 7 8 (E.put o):=by
 refine verdict_Engine_Put.enter (by simp[SV.ax,SV.ok,ag.ah]) (gq E (by decide)) (by simp) ?_;dsimp only[verdict_Engine_Put.s,Co.M,Co.J,Co.H,Co.F,Co.C,Co.Z,Co.B,Co.b8,Co.aB,Co.z8,Co.bH,Co.T,Co.K,Co.E,Co.P,Co.Q,Co.x,Co.W,Co.Y,Co.D,Co.A,Co.S];have cN:=sB 0 1 2 (by decide) E;have g2:=jg.g2 1 2 E.l.length E.kn;have gl:(2+8<=(jg 1 2 E.l.length E.kn).length)=True:=eq_true (by rw[jg.len];decide);have cP:=DA E.kn hw o.dot ho;have cA:=yz E.kn o.dep;have d0:List.take 2 o.cells=o.dot.cells:=rfl;have d2:List.take 8 (List.drop 2 o.cells)=o.dep.cells:=rfl;have l0:(0+2<=o.cells.length)=True:=eq_true (by rw[show o.cells.length=29 from rfl];decide);have l2:(2+8<=o.cells.length)=True:=eq_true (by rw[show o.cells.length=29 from rfl];decide);refine SW.seq ?_
 (refine SW.di ba Zm ?_;(repeat (first|refine RW.ro aa (h:=?_)|refine RW.skip (h:=?_)|refine RW.op aa (h:=?_)|refine RW.dV aa (h:=?_)|refine RW.br (h:=?_)|refine oQ rfl rfl (h:=?_)));refine RW.nil ⟨bM (by kernel_rfl),ak.mk (h:=?_)⟩)
 refine SW.seq (SW.seq ?_)
 (refine SW.di ba Zm ?_;(repeat (first|refine RW.ro aa (h:=?_)|refine RW.skip (h:=?_)|refine RW.op aa (h:=?_)|refine RW.dV aa (h:=?_)|refine RW.br (h:=?_)|refine oQ rfl rfl (h:=?_)|(refine RW.bC (h:=?_);(first|refine aj.mk aa (hc:=cN _) (h:=?_)))));refine RW.nil ⟨bM (by kernel_rfl),ak.mk (h:=?_)⟩)
 refine SW.an rfl (SW.skip (SW.seq ?_));rcases hv:E.kn.put o.dot with⟨v',e⟩;rw[hv] at cP;have hmay:(decide (e=0) && E.kn.above o.dep)=true:=by unfold En.may at hm;rw[hv] at hm;exact hm
 rw[Bool.and_eq_true,decide_eq_true_eq] at hmay;obtain⟨rfl,ha⟩:=hmay;rw[ha] at cA;have hE:E.put o=⟨E.l++[o],dQ (E.l++[o]),v'⟩:=by unfold En.put;rw[hv]
 rw[hE];dsimp only at cP
 (have fx:=(Zq g2 (Zq gl (Zq d0 l0)));refine SW.di ba Zm ?_;(repeat (first|refine RW.ro fx (h:=?_)|refine RW.skip (h:=?_)|refine RW.op fx (h:=?_)|refine RW.dV fx (h:=?_)|refine RW.br (h:=?_)|refine oQ rfl rfl (h:=?_)|(refine RW.bC (h:=?_);(first|refine aj.mk fx (hc:=cP _) (h:=?_)))));refine RW.nil ⟨bM (by kernel_rfl),ak.mk (h:=?_)⟩)
 refine SW.seq (SW.seq ?_)
 (have fx:=(Zq g2 (Zq gl (Zq d2 l2)));refine SW.di ba Zm ?_;(repeat (first|refine RW.ro fx (h:=?_)|refine RW.skip (h:=?_)|refine RW.op fx (h:=?_)|refine RW.dV fx (h:=?_)|refine RW.br (h:=?_)|refine oQ rfl rfl (h:=?_)|(refine RW.bC (h:=?_);(first|refine aj.mk fx (hc:=cA _) (h:=?_)))));refine RW.nil ⟨bM (by kernel_rfl),ak.mk (h:=?_)⟩)
 refine SW.an rfl (SW.skip ?_);have Pd:=Lj o;have c28:o.cells[28]? =some (.d o.lines):=rfl;have l28:(28+1<=o.cells.length)=True:=eq_true (by rw[show o.cells.length=29 from rfl];decide);refine SW.seq ?_
 (have fx:=(Zq Pd (Zq c28 l28));refine SW.di ba Zm ?_;(repeat (first|refine RW.ro fx (h:=?_)|refine RW.skip (h:=?_)|refine RW.op fx (h:=?_)|refine RW.dV fx (h:=?_)|refine RW.br (h:=?_)|refine oQ rfl rfl (h:=?_)|(refine RW.bC (h:=?_);(first|refine aj.mk fx (hc:=mz _) (h:=?_)))));refine RW.nil ⟨bM (by kernel_rfl),ak.mk (h:=?_)⟩)
 have g1:=jg.g1 1 2 E.l.length E.kn;have gl1:(1+1<=(jg 1 2 E.l.length E.kn).length)=True:=eq_true (by rw[jg.len];decide);have sm:b_ [SV.d .gP] 0 [.mp 2]=[.mp 2]:=rfl;refine SW.seq ?_
 (have fx:=(Zq g1 (Zq gl1 sm));refine SW.di ba Zm ?_;(repeat (first|refine RW.ro fx (h:=?_)|refine RW.skip (h:=?_)|refine RW.op fx (h:=?_)|refine RW.dV fx (h:=?_)|refine RW.br (h:=?_)|refine oQ rfl rfl (h:=?_)));refine RW.nil ⟨bM (by kernel_rfl),ak.mk (h:=?_)⟩)
 have g0:=jg.g0 1 2 E.l.length E.kn;have gl0:(0+1<=(jg 1 2 E.l.length E.kn).length)=True:=eq_true (by rw[jg.len];decide);have t29:List.take 29 o.cells=o.cells:=rfl;have l29:(0+29<=o.cells.length)=True:=eq_true (by rw[show o.cells.length=29 from rfl];decide);have hln:E.l.length<80:=by rw[List.length_append,List.length_singleton] at zD;omega
 have q0:=jg.s0 1 2 E.l.length 7 (E.l.length+ [o].length) E.kn;have q2:=jg.s2 7 2 (E.l.length+ [o].length) E.kn v';have ql:(10<=(jg 7 2 (E.l.length+ [o].length) E.kn).length)=True:=eq_true (by rw[jg.len];decide);refine SW.seq ?_
 (have fx:=(Zq g0 (Zq gl0 (Zq t29 (Zq l29 (Zq q0 (Zq q2 ql))))));refine SW.di ba Zm ?_;(repeat (first|refine RW.ro fx (h:=?_)|refine RW.skip (h:=?_)|refine RW.op fx (h:=?_)|refine RW.dV fx (h:=?_)|refine RW.br (h:=?_)|refine oQ rfl rfl (h:=?_)));refine RW.nil ⟨bM (by kernel_rfl),ak.mk (h:=?_)⟩)
 obtain⟨l',hl'⟩:∃ l',E.l++[o]=l':=⟨_,rfl⟩;rw[hl'] at zD hrow ⊢;have e5:E.l.length+ [o].length=l'.length:=by rw[<- hl'];simp
 have e6:qt E.l++List.map SV.d ([o].flatMap ag.ds)=qt l':=by rw[<- hl'];simp[qt]
 clear hl' hE hv cP cA g2 g0 g1 q0 q2 ql;have hKl:=Iy l';have hKw:=(qm l').wf;have cO:=SC.F3 (m:=7) (t:=43) (sz:=29) (Bb l' zD hrow 8) (by decide) (zC (dQ l')) (by simp) (fV l') (by decide);generalize dQ l'=K1 at*;obtain⟨E',hE'⟩:∃ E':En,E'=⟨l',K1,v'⟩:=⟨_,rfl⟩;refine SW.weak id (st1:=⟨[(8,.ptr 6 0),(2,.ptr 3 0)],[(7,.arr 43 29 l'.length (qt l')),(6,.box 76 [.mp 2]),(3,.box 90 [.ptr 0 0]),(2,uf E.K),(0,.box 98 (jg 7 2 l'.length v'))],8⟩) (aG.same (by show 3<=8;decide) (by simp[aJ,List.lookup,SV.aC,SV.ok,SV.ax]) (by simp[Hp.ok,Ob.ok,SV.ax,SV.ok,SV.aW,dH,qX]) (λ y hy=> ?_)) ?_
 .rw[<- e5,<- e6] at hy
  simp only[List.mem_cons,List.not_mem_nil,or_false] at hy;rcases hy with rfl|rfl|rfl|rfl|rfl<;>rfl
 have r0:=jg.g0 7 2 l'.length v';have rl0:(0+1<=(jg 7 2 l'.length v').length)=True:=eq_true (by rw[jg.len];decide);have rl1:(1+1<=(jg 7 2 l'.length v').length)=True:=eq_true (by rw[jg.len];decide);have rs:=jg.s1 7 2 l'.length 8 v';refine SW.seq ?_
 (have fx:=(Zq r0 (Zq rl0 (Zq rl1 rs)));refine SW.di ba Zm ?_;(repeat (first|refine RW.ro fx (h:=?_)|refine RW.skip (h:=?_)|refine RW.op fx (h:=?_)|refine RW.dV fx (h:=?_)|refine RW.br (h:=?_)|refine oQ rfl rfl (h:=?_)|(refine RW.bC (h:=?_);(first|refine aj.mk fx (hc:=cO) (h:=?_)))));refine RW.nil ⟨bM (by kernel_rfl),ak.mk (h:=?_)⟩)
 refine SW.seq ?_
 (refine SW.di ba Zm ?_;(repeat (first|refine RW.ro aa (h:=?_)|refine RW.skip (h:=?_)|refine RW.op aa (h:=?_)|refine RW.dV aa (h:=?_)|refine RW.br (h:=?_)|refine oQ rfl rfl (h:=?_)));refine RW.nil ⟨bM (by kernel_rfl),ak.mk (h:=?_)⟩)
 refine SW.seq ?_
 (refine SW.di ba Zm ?_;(repeat (first|refine RW.ro aa (h:=?_)|refine RW.skip (h:=?_)|refine RW.op aa (h:=?_)|refine RW.dV aa (h:=?_)|refine RW.br (h:=?_)|refine oQ rfl rfl (h:=?_)));refine RW.nil ⟨bM (by kernel_rfl),ak.mk (h:=?_)⟩)
 refine SW.qK 10 37 2 rfl ?_;refine SW.seq (SW.seq ?_);have r1:=jg.g1 7 8 l'.length v';have rl2:(1+1<=(jg 7 8 l'.length v').length)=True:=eq_true (by rw[jg.len];decide)
 (refine SW.di ba Zm ?_;(repeat (first|refine RW.ro (Zq r1 rl2) (h:=?_)|refine RW.skip (h:=?_)|refine RW.op (Zq r1 rl2) (h:=?_)|refine RW.dV (Zq r1 rl2) (h:=?_)|refine RW.br (h:=?_)|refine oQ rfl rfl (h:=?_)));refine RW.nil ⟨bM (by kernel_rfl),ak.mk (h:=?_)⟩)
 refine SW.block ?_;have cT:=λ d=>Kz 0 7 8 2 6 3 (by decide) E.K ⟨l',K1,v'⟩ d
 refine SW.pX (es:=λ _=>au Dt.cells kv K1.m) (c:=λ _=>K1.c) (uJ:=λ _=>10) (nm:=λ _=>8) (since:=λ _=>K1.c) (BL:=λ _=>K1.c)
  (α:={xs:MM Dt Nat // TU K1.m xs})
  (λ p=>⟨[(71,.it 10),(10,.gs 9 (EJ E.K K1 p.1).length),(9,.fn (.func verdict_Engine_Put_1.f) [] [.ptr 6 0,.ptr 3 0])],pL E.K ⟨l',K1,v'⟩ (p.1.map (·.1)) (EJ E.K K1 p.1),11⟩)
  (λ p=>gy (au Dt.cells kv K1.m) (p.1.map (·.1))) ⟨[],by simp,by simp⟩ id (seen:=λ p=>p.1.map (·.1)) ?_ (λ p=>by simp[List.lookup]) (λ p=>by simp[af]) (λ p=>by simp[af]) (λ p=>by decide) (λ p e' he=> ?_) (λ p=>Nat.le_refl _) (λ p hall=> ?_) (λ p e' he hs=> ?_)
 .refine aG.same (by show 3<=11;decide) (by simp[aJ,List.lookup,SV.aC,SV.ok,SV.ax,SV.aN,EJ]) (LA _ _ _ _) (λ y hy=> ?_)
  simp only[List.mem_cons,List.not_mem_nil,or_false] at hy;rcases hy with rfl|rfl|rfl|rfl|rfl|rfl|rfl|rfl<;>rfl
 .obtain⟨x,hx,rfl⟩:=eM he
  exact hKw.old x hx
 .obtain⟨xs,p⟩:=p
  dsimp only at*;have hxs:=EK hKw p.sub hall;have hRl:=DD (K0:=E.K) p (by omega);have gf:Dt.set (EJ E.K K1 xs)=oJ E.K K1:=by
   refine Dt.zw λ v=> ?_
   unfold EJ;rw[List.mem_filter,List.mem_filter];unfold MM.keys;simp only[List.mem_map,hxs]
  rw[<- gf];generalize EJ E.K K1 xs=R at hRl ⊢;refine⟨⟨[(10,.gs 9 R.length)],(9,uz R 9)::eH 0 7 8 ⟨l',K1,v'⟩,11⟩,id,aG.same (by show 3<=11;decide) (by simp[aJ,List.lookup,SV.aC,SV.ok,SV.ax]) (aA (by simp) (SV.aW _) (gq _ (by simp))) (λ y hy=>by
   simp only[List.mem_cons,List.not_mem_nil,or_false] at hy;rcases hy with rfl|rfl|rfl|rfl<;>rfl),?_⟩
  rw[if_pos rfl];refine SW.freeze 9 (R.flatMap Dt.ds) rfl rfl ?_;simp only[k9,SV.iJ,List.map_cons,List.map_nil,if_true,if_false,reduceIte,c_,Nat.reduceEqDiff];have cS:=zm R (by omega);refine SW.seq ?_
  (refine SW.di ba Zm ?_;(repeat (first|refine RW.ro aa (h:=?_)|refine RW.skip (h:=?_)|refine RW.op aa (h:=?_)|refine RW.dV aa (h:=?_)|refine RW.br (h:=?_)|refine oQ rfl rfl (h:=?_)|(refine RW.bC (h:=?_);(first|refine aj.mk aa (hc:=cS _) (h:=?_)))));refine RW.nil ⟨bM (by kernel_rfl),ak.mk (h:=?_)⟩)
  refine SW.ret ?_;exact End.mk (eH 0 7 8 ⟨l',K1,v'⟩) (h4:=⟨rfl,rfl⟩) (h6:=gq _ (by decide))
 .obtain⟨xs,p⟩:=p
  dsimp only at*;obtain⟨x,hx,rfl⟩:=eM he;dsimp only at hs;have g5:(xs.map (·.1)++[x.1]).getLast? =some x.1:=by simp
  have g6:=kM (kc:=Dt.cells) (vs:=kv) hKw.times hx;obtain⟨q1,q2⟩:=Cu p.sub p.nd hx hs;have em:(xs++[x]).map (·.1)=xs.map (·.1)++[x.1]:=by simp
  have hm:=kN he hs;have hsn:=Iw E.K K1 xs x;have hRl:=DD (K0:=E.K) p (by omega);obtain⟨v,hv⟩:∃ v,x.2.1=v:=⟨_,rfl⟩;rw[hv] at hsn;have cT':=cT v;rw[je];refine SW.block (SW.seq ?_)
  (have fx:=(Zq g5 (Zq g6 hv));refine SW.di ba Zm ?_;(repeat (first|refine RW.ro fx (h:=?_)|refine RW.skip (h:=?_)|refine RW.op fx (h:=?_)|refine RW.dV fx (h:=?_)|refine RW.br (h:=?_)|refine oQ rfl rfl (h:=?_)));refine RW.nil ⟨bM (by kernel_rfl),ak.mk (h:=?_)⟩)
  refine SW.seq ?_;cases hcv:oI E.K K1 v with
  | false=>
   rw[hcv] at cT' hsn
   (refine SW.di ba Zm ?_;(repeat (first|refine RW.ro aa (h:=?_)|refine RW.skip (h:=?_)|refine RW.op aa (h:=?_)|refine RW.dV aa (h:=?_)|refine RW.br (h:=?_)|refine oQ rfl rfl (h:=?_)|(refine RW.bC (h:=?_);(first|refine aj.mk aa (hc:=cT' _) (h:=?_)))));refine RW.nil ⟨bM (by kernel_rfl),ak.mk (h:=?_)⟩)
   refine SW.an rfl (SW.skip ?_);refine⟨⟨xs++[x],q1,q2⟩,id,by show gy _ ((xs++[x]).map (·.1))<_;rw[em];exact hm,?_⟩;dsimp only;rw[em,hsn,if_neg (by decide)];refine aG.same (by show 3<=11;decide) (by simp[aJ,List.lookup,SV.aC,SV.ok,SV.ax,SV.aN]) (LA _ _ _ _) (λ y hy=> ?_);simp only[List.mem_cons,List.not_mem_nil,or_false] at hy;rcases hy with rfl|rfl|rfl|rfl|rfl|rfl|rfl|rfl<;>rfl
  | true=>
   rw[hcv] at cT' hsn
   (refine SW.di ba Zm ?_;(repeat (first|refine RW.ro aa (h:=?_)|refine RW.skip (h:=?_)|refine RW.op aa (h:=?_)|refine RW.dV aa (h:=?_)|refine RW.br (h:=?_)|refine oQ rfl rfl (h:=?_)|(refine RW.bC (h:=?_);(first|refine aj.mk aa (hc:=cT' _) (h:=?_)))));refine RW.nil ⟨bM (by kernel_rfl),ak.mk (h:=?_)⟩)
   refine SW.ai rfl ?_;generalize EJ E.K K1 xs=R at hRl hsn ⊢
   (refine SW.di ba Zm ?_;(repeat (first|refine RW.ro aa (h:=?_)|refine RW.skip (h:=?_)|refine RW.op aa (h:=?_)|refine RW.dV aa (h:=?_)|refine RW.br (h:=?_)|refine oQ rfl rfl (h:=?_)));refine RW.nil ⟨bM (by kernel_rfl),ak.mk (h:=?_)⟩)
   refine⟨⟨xs++[x],q1,q2⟩,λ n=>if n=9 then 12 else n,by show gy _ ((xs++[x]).map (·.1))<_;rw[em];exact hm,?_⟩;dsimp only;rw[em,hsn,if_pos rfl];have a1:=Ke R v;have a2:=MQ R v;refine⟨by show 3<=11;decide,λ n hn=>if_neg (by omega),?_,?_,?_⟩
   .simp[aJ,List.lookup,SV.aC,SV.ok,SV.aN,SV.ax]
   .simp[sV,af,Ob.aC,Ob.ok,oA,qX,fP,dH,SV.aN,SV.aC,SV.dy,SV.ax,SV.ok,SV.aW]
    rw[<- List.map_append];exact⟨(SV.dy _).symm,SV.aW _⟩
   .intro a ha b hb e
    simp only[List.map_cons,List.map_nil,List.mem_cons,List.not_mem_nil,or_false] at ha hb;rcases ha with rfl|rfl|rfl|rfl|rfl|rfl|rfl|rfl<;>rcases hb with rfl|rfl|rfl|rfl|rfl|rfl|rfl|rfl<;>simp at e<;>rfl
end
end Go.Proofs.YtaelhkkjgfobhaaGreat
