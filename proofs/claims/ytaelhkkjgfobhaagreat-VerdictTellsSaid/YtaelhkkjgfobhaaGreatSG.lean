/-
 What the vectors' functions compute: merged, above, the next dot, put.
-/
import Derived.Test.YtaelhkkjgfobhaaGreatSE
set_option linter.unusedSectionVars false
set_option linter.unusedVariables false
set_option linter.unusedSimpArgs false
namespace Go.Proofs.YtaelhkkjgfobhaaGreat
open Go.Sl Go.Proofs
section
attribute [local irreducible] SW RW aF SC ai ak
theorem MJ (a b:Nat):Go.Sl.Pure Tryz.prog vector_Merge_1.f [u32 a,u32 b] (u32 (max a b)):=by
 refine vector_Merge_1.enter (by first|rfl|simp[SV.ok,SV.au]) (by first|rfl|simp[Hp.ok,Ob.ok,SV.ok,SV.au,aB.aj]) (by simp) ?_;dsimp only[vector_Merge_1.s,Co.M,Co.J,Co.F,Co.ay,Co.S];refine SW.seq (SW.g0 [0,1,4] Zm af ?_);refine SW.seq (SW.g0 [0,1,4] Zm af ?_);refine SW.ret ?_;refine End.mk [] (h4:=⟨?_,rfl⟩);simp only[ez,u32]
 congr 2
 split<;>omega
theorem MK (a b k:Nat):aF Tryz.prog vector_Merge_1.f [.d (.int .u32 (a:Int)),.d (.int .u32 (b:Int))] [] k 0 (.d (.int .u32 ((max a b:Nat):Int))) []:=(MJ a b).sc rfl k
abbrev qI:Ob:= .box kC [.fn (.func vector_Merge_1.f) [] []]
abbrev PV (a b:aB)(i:Nat):Hp:=[(0,qI),(1,.box 39 a.cells),(2,.box 39 b.cells),(3,.box 39 (aB.upto i (aB.zip max a b) aB.zero).cells)]
set_option maxHeartbeats 4000000 in
theorem Hx (a b:aB):SB Tryz.prog vector_each_1.f [.agg a.cells,.agg b.cells,.ptr 0 0] [(0,qI)] 1 0 λ r F=>r= .agg (aB.zip max a b).cells/\F=[(0,qI)]:=by
 refine vector_each_1.enter (by simp[SV.au,SV.ok,aB.aj]) (by simp[Hp.ok,Ob.ok,SV.au,SV.ok]) (by simp) ?_;dsimp only[vector_each_1.s,Co.M,Co.J,Co.F,Co.Z,Co.z8,Co.T,Co.K,Co.x,Co.W,Co.Y,Co.S];refine SW.seq ?_;refine SW.g0 fv Zm af ?_;refine SW.seq (SW.seq ?_);refine SW.g0 fv Zm af ?_;refine SW.block ?_;refine SW.loop (α:={i:Nat // i<=8}) (λ i=>⟨[(7,i64 i.1),(2,.ptr 0 0),(3,.ptr 1 0),(4,.ptr 2 0),(5,.ptr 3 0)],PV a b i.1,4⟩) (λ i=>8 - i.1) ⟨0,by omega⟩ id (aH.same (by show 1<=4;decide) (by simp[aL,List.lookup,SV.aC,SV.ok,SV.au]) (by simp[Hp.ok,Ob.ok,SV.au,SV.ok,aB.aj]) (λ y hy=>by
  simp only[aB.CF,List.mem_cons,List.not_mem_nil,or_false] at hy;rcases hy with rfl|rfl|rfl|rfl<;>rfl)) ?_
 rintro⟨i,hi⟩;dsimp only
 by_cases h:i<8
 .have h1:decide ((i:Int)<8)=true:=by simp only[decide_eq_true_eq];omega
  have e2:IntKind.i64.wrap ((i:Int)+1)=((i+1:Nat):Int):=wrap_i64 _ (by omega);have ga:=a.jE h;have gb:=b.jE h;have e:cq (aB.upto i (aB.zip max a b) aB.zero).cells i [.d (.int .u32 ((max (a.get i) (b.get i):Nat):Int))]=(aB.upto (i+1) (aB.zip max a b) aB.zero).cells:=by
   rw[aB.BQ _ h,<- aB.CG _ _ h];congr 2;simp[aB.zip,aB.uI _ h]
  have cM:=MK (a.get i) (b.get i);have l8:((i:Int).toNat+1<=8)=True:=eq_true (by omega);refine SW.seq ?_;refine SW.g0 fv Zm h1 ?_;refine SW.seq (SW.an rfl (SW.skip ?_));refine SW.seq (SW.block (SW.seq ?_));refine SW.g0 fv Zm af ?_;refine SW.g1 fv Zm (Zq ga (Zq gb e)) cM ?_;refine SW.g0 fv Zm e2 ?_;exact⟨⟨i+1,by omega⟩,id,by show 8 - (i+1)<8 - i;omega,aH.same (by show 1<=4;decide) (by simp[aL,List.lookup,SV.aC,SV.ok,SV.au]) (by simp[Hp.ok,Ob.ok,SV.au,SV.ok,aB.aj]) (λ y hy=>by
   simp only[List.mem_cons,List.not_mem_nil,or_false] at hy;rcases hy with rfl|rfl|rfl|rfl<;>rfl)⟩
 have h1:decide ((i:Int)<8)=false:=by simp only[decide_eq_false_iff_not];omega
 have h8:i=8:=by omega
 subst h8;refine SW.seq (SW.g0 fv Zm h1 ?_);refine SW.seq (SW.ah rfl (SW.exit ?_));refine(?_:Sl.SW _ _ _ _ _ _);simp only[PV,aB.EO];refine SW.seq (SW.g0 fv Zm af ?_);refine SW.ret ?_;exact End.mk [(0,qI)] (h4:=⟨rfl,rfl⟩)
theorem Au (a b:aB)(n k:Nat):aF Tryz.prog vector_each_1.f [.agg a.cells,.agg b.cells,.ptr n 0] [(n,qI)] k 0 (.agg (aB.zip max a b).cells) [(n,qI)]:=by
 have:=SB.nB [n] (Hx a b) (by simp) (λ i hi=>by cases i with|zero=>simp[aa]|succ i=>simp at hi) k
 simpa[SV.aU,SV.aC,fz,Hp.aC,Ob.aC,aB.aA] using this
theorem JW:SB Tryz.prog vector_each.f [.fn (.func vector_Merge_1.f) [] []] [] 0 1 λ r F=>r= .fn (.func vector_each_1.f) [] [.ptr 0 0]/\F=[(0,qI)]:=by
 refine vector_each.enter rfl rfl (by simp) ?_;dsimp only[vector_each.s,Co.M,Co.J,Co.F,Co.x,Co.S];refine SW.seq (SW.g0 eJ Zm af ?_);refine SW.seq (SW.g0 eJ Zm af ?_);refine SW.ret ?_;exact End.mk [(0,qI)] (h4:=⟨rfl,rfl⟩)
theorem JX (k:Nat):aF Tryz.prog vector_each.f [.fn (.func vector_Merge_1.f) [] []] [] k 1 (.fn (.func vector_each_1.f) [] [.ptr k 0]) [(k,qI)]:=by
 have:=SB.new JW k
 simpa[SV.aC,SV.aU,Hp.aC,Ob.aC,fz] using this
abbrev Qi (a b:aB)(i:Nat):aB:=if i=0 then aB.zero else if i=1 then a else aB.zip max a b
abbrev Qj (a b:aB)(i:Nat):Hp:=[(0,qI),(1,.box 39 (Qi a b i).cells)]
abbrev Ot (a b:aB):SV:= .d (.sl 2 (a.ds++b.ds))
set_option maxHeartbeats 4000000 in
theorem JY (a b:aB):SB Tryz.prog vector_all_api_Vector.f [.fn (.func vector_each_1.f) [] [.ptr 0 0],Ot a b] [(0,qI)] 1 0
  λ r F=>r= .agg (aB.zip max a b).cells/\F=[(0,qI)]:=by
 refine vector_all_api_Vector.enter (by simp[SV.au,SV.ok]) (by simp[Hp.ok,Ob.ok,SV.au,SV.ok]) (by simp) ?_;dsimp only[vector_all_api_Vector.s,Co.M,Co.J,Co.F,Co.Z,Co.z8,Co.K,Co.L,Co.W,Co.Y,Co.V,Co.I,Co.S];refine SW.seq ?_;refine SW.g0 dj Zm af ?_;refine SW.seq (SW.seq ?_);refine SW.g0 dj Zm af ?_;refine SW.block ?_;refine SW.loop (α:={i:Nat // i<=2}) (λ i=>⟨[(9,i64 i.1),(8,i64 2),(7,Ot a b),(4,.ptr 1 0),(0,.fn (.func vector_each_1.f) [] [.ptr 0 0])],Qj a b i.1,2⟩) (λ i=>2 - i.1) ⟨0,by omega⟩ id (aH.same (by show 1<=2;decide) (by simp[aL,List.lookup,SV.aC,SV.aU,SV.ok,SV.au]) (by simp[Hp.ok,Ob.ok,SV.au,SV.ok,aB.aj]) (λ y hy=>by
  simp only[List.mem_cons,List.not_mem_nil,or_false] at hy;rcases hy with rfl|rfl<;>rfl)) ?_
 rintro⟨i,hi⟩;dsimp only;have fin:∀ (st:St),∀ y,y∈([]:Hp)->lk st.hp y.1=some y.2:=λ st y hy=>by cases hy
 match i,hi with
 | 0,_=>
  have t0:List.take 8 (List.map SV.d (a.ds++b.ds))=a.cells:=rfl;have cE:=Au aB.zero a 0;refine SW.seq ?_;refine SW.g0 dj Zm af ?_;refine SW.seq (SW.an rfl (SW.skip ?_));refine SW.seq (SW.block (SW.seq ?_));refine SW.g0 dj Zm t0 ?_;refine SW.seq ?_;refine SW.g1 dj Zm af cE ?_;refine SW.seq ?_;refine SW.g0 dj Zm af ?_;refine SW.an rfl ?_;refine SW.g0 dj Zm af ?_;refine SW.g0 dj Zm af ?_;exact⟨⟨1,by omega⟩,id,by show 2 - 1<2 - 0;decide,aH.same (by show 1<=2;decide) (by simp[aL,List.lookup,SV.aC,SV.aU,SV.ok,SV.au]) (by simp[Hp.ok,Ob.ok,SV.au,SV.ok,aB.aj]) (λ y hy=>by
   simp only[List.mem_cons,List.not_mem_nil,or_false] at hy;rcases hy with rfl|rfl<;>rfl)⟩
 | 1,_=>
  have t1:List.take 8 (List.drop 8 (List.map SV.d (a.ds++b.ds)))=b.cells:=rfl;have cE:=Au a b 0;refine SW.seq ?_;refine SW.g0 dj Zm af ?_;refine SW.seq (SW.an rfl (SW.skip ?_));refine SW.seq (SW.block (SW.seq ?_));refine SW.g0 dj Zm t1 ?_;refine SW.seq ?_;refine SW.g1 dj Zm af cE ?_;refine SW.seq ?_;refine SW.g0 dj Zm af ?_;refine SW.ah rfl (SW.skip ?_);refine SW.g0 dj Zm af ?_;exact⟨⟨2,by omega⟩,id,by show 2 - 2<2 - 1;decide,aH.same (by show 1<=2;decide) (by simp[aL,List.lookup,SV.aC,SV.aU,SV.ok,SV.au]) (by simp[Hp.ok,Ob.ok,SV.au,SV.ok,aB.aj]) (λ y hy=>by
   simp only[List.mem_cons,List.not_mem_nil,or_false] at hy;rcases hy with rfl|rfl<;>rfl)⟩
 | 2,_=>
  refine SW.seq (SW.g0 dj Zm af ?_);refine SW.seq (SW.ah rfl (SW.exit ?_));refine(?_:Sl.SW _ _ _ _ _ _);refine SW.seq (SW.g0 dj Zm af ?_);refine SW.ret ?_;exact End.mk [(0,qI)] (h4:=⟨rfl,rfl⟩)
theorem JZ (a b:aB)(n k:Nat):aF Tryz.prog vector_all_api_Vector.f [.fn (.func vector_each_1.f) [] [.ptr n 0],Ot a b] [(n,qI)] k 0 (.agg (aB.zip max a b).cells) [(n,qI)]:=by
 have:=SB.nB [n] (JY a b) (by simp) (λ i hi=>by cases i with|zero=>simp[aa]|succ i=>simp at hi) k
 simpa[SV.aU,SV.aC,fz,Hp.aC,Ob.aC,aB.aA] using this
theorem DQ (a b:aB):Go.Sl.Pure Tryz.prog vector_Merge.f [Ot a b] (.agg (aB.zip max a b).cells):=by
 refine vector_Merge.enter (by first|rfl|simp[SV.ok,SV.au]) (by first|rfl|simp[Hp.ok,Ob.ok,SV.ok,SV.au,aB.aj]) (by simp) ?_;dsimp only[vector_Merge.s,Co.M,Co.J,Co.F,Co.C,Co.z8,Co.Q,Co.W,Co.S];refine SW.seq (SW.g0 im Zm af ?_);refine SW.seq (SW.g2 im Zm af (JX 1) (JZ a b 1) ?_);refine SW.ret ?_;exact End.mk [] (h4:=⟨rfl,rfl⟩)
theorem DR (a b:aB)(k:Nat):aF Tryz.prog vector_Merge.f [Ot a b] [] k 0 (.agg (aB.zip max a b).cells) []:=(DQ a b).sc rfl k
theorem Hy (a b:aB):Go.Sl.Pure Tryz.prog vector_Above.f [.agg a.cells,.agg b.cells] (bl (a.above b)):=by
 refine vector_Above.enter (by first|rfl|simp[SV.ok,SV.au]) (by first|rfl|simp[Hp.ok,Ob.ok,SV.ok,SV.au,aB.aj]) (by simp) ?_;dsimp only[vector_Above.s,Co.M,Co.J,Co.F,Co.B,Co.ay,Co.K,Co.P,Co.x,Co.S];have cM:=DR a b;rw[<- aB.zo];refine SW.seq (SW.g0 eg Zm af ?_);refine SW.seq (SW.g1 eg Zm af cM ?_);refine SW.ret ?_;exact End.mk [] (h4:=⟨rfl,rfl⟩)
theorem xQ (a b:aB)(k:Nat):aF Tryz.prog vector_Above.f [.agg a.cells,.agg b.cells] [] k 0 (bl (a.above b)) []:=(Hy a b).sc rfl k
set_option maxHeartbeats 4000000 in
theorem Hz (v:aB)(hv:v.wf)(r:Nat)(hr:r<8):Go.Sl.Pure Tryz.prog vector_Next.f [.agg v.cells,u8 r] (.de [.agg (v.next r).1.cells,i64 (v.next r).2]):=by
 refine vector_Next.enter (by first|rfl|simp[SV.ok,SV.au]) (by first|rfl|simp[Hp.ok,Ob.ok,SV.ok,SV.au,aB.aj]) (by simp) ?_;dsimp only[vector_Next.s,Co.M,Co.J,Co.F,Co.Z,Co.b8,Co.ay,Co.T,Co.x,Co.W,Co.Y,Co.S];have hb:=hv r hr;have w1:IntKind.i64.wrap (r:Int)=(r:Int):=wrap_i64 r (by omega);have g1:decide ((r:Int)>=8)=false:=by simp only[decide_eq_false_iff_not];omega
 have gg:=v.jE hr;refine SW.seq (SW.g0 ib Zm af ?_);refine SW.seq (SW.block (SW.seq (SW.g0 ib Zm (Zq w1 g1) ?_)));refine SW.ah rfl (SW.seq ?_)
 by_cases hf:v.get r=4294967295
 .have e:v.next r=(Dt.zero,6):=by simp[aB.next,show ¬ 8<=r by omega,hf]
  rw[e];have e1:IntKind.u32.wrap ((v.get r+1:Nat):Int)=0:=by rw[hf];rfl
  refine SW.g0 ib Zm (Zq gg e1) ?_;refine SW.an rfl (SW.seq (SW.g0 ib Zm af ?_));refine SW.ret ?_;exact End.mk [] (h4:=⟨rfl,rfl⟩)
 .have e:v.next r=(⟨r,v.get r+1⟩,0):=by simp[aB.next,show ¬ 8<=r by omega,hf]
  rw[e];have e1:IntKind.u32.wrap ((v.get r+1:Nat):Int)=((v.get r+1:Nat):Int):=wrap_u32 (v.get r+1) (by omega);have e3:(((v.get r+1:Nat):Int) == 0)=false:=by
   have:((v.get r+1:Nat):Int)≠0:=by omega
   simpa using this
  refine SW.g0 ib Zm (Zq gg (Zq e1 e3)) ?_;refine SW.ah rfl (SW.skip (SW.seq (SW.g0 ib Zm (Zq gg e1) ?_)));refine SW.ret ?_;exact End.mk [] (h4:=⟨rfl,rfl⟩)
theorem HA (v:aB)(hv:v.wf)(r:Nat)(hr:r<8)(k:Nat):aF Tryz.prog vector_Next.f [.agg v.cells,.d (.int .u8 (r:Int))] [] k 0 (.de [.agg (v.next r).1.cells,i64 (v.next r).2]) []:=(Hz v hv r hr).sc rfl k
set_option maxHeartbeats 4000000 in
theorem J1 (v:aB)(hv:v.wf)(d:Dt)(hd:d.wf):Go.Sl.Pure Tryz.prog vector_Put.f [.agg v.cells,.agg d.cells] (.de [.agg (v.put d).1.cells,i64 (v.put d).2]):=by
 have cM:=vb d;refine vector_Put.enter (by first|rfl|simp[SV.ok,SV.au]) (by first|rfl|simp[Hp.ok,Ob.ok,SV.ok,SV.au,aB.aj]) (by simp) ?_;dsimp only[vector_Put.s,Co.M,Co.J,Co.H,Co.F,Co.Z,Co.B,Co.b8,Co.ay,Co.z8,Co.T,Co.K,Co.E,Co.P,Co.Q,Co.x,Co.W,Co.Y,Co.O,Co.D,Co.S];have z8:cq aB.zero.cells 0 aB.zero.cells=aB.zero.cells:=rfl;refine SW.seq (SW.g0 dq Zm af ?_);refine SW.seq (SW.seq ?_);rcases hm:d.may with _|_
 .rw[hm] at cM
  have e:v.put d=(aB.zero,2):=by simp[aB.put,hm]
  rw[e];refine SW.g1 dq Zm af cM ?_;refine SW.an rfl (SW.seq (SW.g0 dq Zm af ?_));refine SW.ret ?_;exact End.mk [] (h4:=⟨rfl,rfl⟩)
 rw[hm] at cM;refine SW.g1 dq Zm af cM ?_;refine SW.ah rfl (SW.skip ?_);have hr:d.r<8:=by simp[Dt.may] at hm;exact hm.1
 have hb:=hv d.r hr;have cN:=HA v hv d.r hr;have gr:d.cells[0]? =some (.d (.int .u8 (d.r:Int))):=rfl;have gn:d.cells[1]? =some (.d (.int .u32 (d.n:Int))):=rfl;have dl:(0+1<=d.cells.length)=True:=eq_true (by rw[show d.cells.length=2 from rfl];decide);have dl1:(1+1<=d.cells.length)=True:=eq_true (by rw[show d.cells.length=2 from rfl];decide);refine SW.seq (SW.seq ?_)
 by_cases hf:v.get d.r=4294967295
 .have e:v.next d.r=(Dt.zero,6):=by simp[aB.next,show ¬ 8<=d.r by omega,hf]
  have ep:v.put d=(aB.zero,9):=by
   have:d.n≠v.get d.r+1:=by have:=hd.2;omega
   simp[aB.put,hm,this]
  rw[ep];rw[e] at cN;refine SW.g1 dq Zm (Zq gr dl) cN ?_;refine SW.seq (SW.g0 dq Zm af ?_);refine SW.an rfl (SW.seq (SW.g0 dq Zm af ?_));refine SW.ret ?_;exact End.mk [] (h4:=⟨rfl,rfl⟩)
 have e:v.next d.r=(⟨d.r,v.get d.r+1⟩,0):=by simp[aB.next,show ¬ 8<=d.r by omega,hf]
 rw[e] at cN;obtain⟨x,hx⟩:∃ x:Dt,x=⟨d.r,v.get d.r+1⟩:=⟨_,rfl⟩;have cN':∀ k,aF Tryz.prog vector_Next.f [.agg v.cells,.d (.int .u8 (d.r:Int))] [] k 0 (.de [.agg x.cells,i64 0]) []:=λ k=>by rw[hx];exact cN k
 refine SW.g1 dq Zm (Zq gr dl) cN' ?_;refine SW.seq ?_;rcases hq:decide (x=d) with _|_
 .have ep:v.put d=(aB.zero,9):=by
   have:d.n≠v.get d.r+1:=λ e=>by
    have:x=d:=by rw[hx,<- e]
    rw[decide_eq_false_iff_not] at hq;exact hq this
   simp[aB.put,hm,this]
  rw[ep];refine SW.g0 dq Zm hq ?_;refine SW.an rfl (SW.seq (SW.g0 dq Zm af ?_));refine SW.ret ?_;exact End.mk [] (h4:=⟨rfl,rfl⟩)
 .have hn:d.n=v.get d.r+1:=by
   rw[decide_eq_true_eq] at hq;rw[hx] at hq;exact(congrArg Dt.n hq).symm
  have ep:v.put d=(v.set d.r d.n,0):=by simp[aB.put,hm,hn]
  rw[ep];have es:=aB.BQ v hr d.n;refine SW.g0 dq Zm hq ?_;refine SW.ah rfl (SW.skip (SW.seq (SW.g0 dq Zm (Zq gr (Zq gn (Zq dl (Zq dl1 es)))) ?_)));refine SW.seq (SW.g0 dq Zm af ?_);refine SW.ret ?_;exact End.mk [] (h4:=⟨rfl,rfl⟩)
theorem Ct (v:aB)(hv:v.wf)(d:Dt)(hd:d.wf)(k:Nat):aF Tryz.prog vector_Put.f [.agg v.cells,.agg d.cells] [] k 0 (.de [.agg (v.put d).1.cells,i64 (v.put d).2]) []:=(J1 v hv d hd).sc rfl k
end
section
attribute [local irreducible] SW RW aF SC ai ak jN tF
structure En where
 l:List ag
 K:KM
 kn:aB
def jt (r m n:Nat)(v:aB):List SV:= .gs r n:: .mp m::v.cells
theorem jt.g0 (r m n:Nat)(v:aB):(jt r m n v)[0]? =some (.gs r n):=rfl
theorem jt.g1 (r m n:Nat)(v:aB):(jt r m n v)[1]? =some (.mp m):=rfl
theorem jt.g2 (r m n:Nat)(v:aB):List.take 8 (List.drop 2 (jt r m n v))=v.cells:=rfl
theorem jt.len (r m n:Nat)(v:aB):(jt r m n v).length=10:=rfl
theorem jt.s0 (r m n r' n':Nat)(v:aB):cq (jt r m n v) 0 [.gs r' n']=jt r' m n' v:=rfl
theorem jt.s1 (r m n m':Nat)(v:aB):cq (jt r m n v) 1 [.mp m']=jt r m' n v:=rfl
theorem jt.s2 (r m n:Nat)(v v':aB):cq (jt r m n v) 2 v'.cells=jt r m n v':=rfl
theorem rY (ρ:Nat->Nat)(r m n:Nat)(v:aB):SV.aU ρ (jt r m n v)=jt (ρ r) (ρ m) n v:=by
 unfold jt;simp[SV.aU,SV.aC,aB.aA]
theorem vQ (q:Nat->Bool)(r m n:Nat)(v:aB)(h:q r=true/\q m=true):SV.au q (jt r m n v)=true:=by
 unfold jt;simp[SV.au,SV.ok,aB.aj,h.1,h.2]
abbrev eH (e r m:Nat)(E:En):Hp:=[(e,.box 98 (jt r m E.l.length E.kn)),(r,.arr 43 29 E.l.length (Hw E.l)),(m,xP E.K)]
theorem mV {q:Nat->Bool}{e r m:Nat}(E:En)(h:q e=true/\q r=true/\q m=true):(eH e r m E).ok q=true:=
 ax h.1 (vQ _ _ _ _ _ ⟨h.2.1,h.2.2⟩) (ax h.2.1 (SV.aZ _) (ax h.2.2 (eN _ _) rfl))
theorem tc (ρ:Nat->Nat)(e r m:Nat)(E:En):(eH e r m E).aC ρ=eH (ρ e) (ρ r) (ρ m) E:=by
 simp[Hp.aC,Ob.aC,rY,h_,SV.dN]
theorem Cu (E:En):∀ i,i<3->lk (eH 0 1 2 E) i≠none:=λ i hi=>by
 match i,hi with
 | 0,_|1,_|2,_=>simp[aa]
set_option maxHeartbeats 4000000 in
theorem HB (E:En):SB Tryz.prog verdict_Engine_none.f [.ptr 0 0] (eH 0 1 2 E) 3 0 λ r F=>r=bl false/\F=eH 0 1 2 E:=by
 refine verdict_Engine_none.enter (by simp[SV.au,SV.ok]) (mV E (by decide)) (by simp) ?_;dsimp only[verdict_Engine_none.s,Co.M,Co.G,Co.J,Co.H,Co.F,Co.B,Co.S];have g1:=jt.g1 1 2 E.l.length E.kn;have gl:(1+1<=(jt 1 2 E.l.length E.kn).length)=True:=eq_true (by rw[jt.len];decide);refine SW.seq (SW.g0 im Zm af ?_);refine SW.seq (SW.g0 im Zm (Zq g1 gl) ?_);refine SW.ret ?_;exact End.mk (eH 0 1 2 E) (h4:=⟨rfl,rfl⟩) (h6:=mV E (by decide))
theorem vR (e r m:Nat)(hd:[e,r,m].Nodup)(E:En)(k:Nat):aF Tryz.prog verdict_Engine_none.f [.ptr e 0] (eH e r m E) k 0 (bl false) (eH e r m E):=by
 have:=SB.nB [e,r,m] (HB E) hd (λ i hi=>Cu E i hi) k;rw[tc] at this
 simpa[SV.aU,SV.aC,fz] using this
def tJ (E:En)(d:Dt):SV:=if MM.has E.K.m d then .de [.d (.int .u8 (E.K.get d:Nat)),i64 0] else .de [.d (.int .u8 0),i64 7]
set_option maxHeartbeats 4000000 in
theorem J2 (E:En)(d:Dt):SB Tryz.prog verdict_Engine_Verdict.f [.ptr 0 0,.agg d.cells] (eH 0 1 2 E) 3 0 λ r F=>r=tJ E d/\F=eH 0 1 2 E:=by
 refine verdict_Engine_Verdict.enter (by simp[SV.au,SV.ok,Dt.aj]) (mV E (by decide)) (by simp) ?_;dsimp only[verdict_Engine_Verdict.s,Co.M,Co.J,Co.F,Co.Z,Co.b8,Co.T,Co.K,Co.E,Co.P,Co.x,Co.O,Co.D,Co.A,Co.S];have cN:=vR 0 1 2 (by decide) E;have g1:=jt.g1 1 2 E.l.length E.kn;have gl:(1+1<=(jt 1 2 E.l.length E.kn).length)=True:=eq_true (by rw[jt.len];decide);have hlk:=pX E.K.m d;change _=SV.d (.int .u8 ((E.K.get d:Nat):Int)) at hlk;refine SW.seq (SW.g0 fy Zm af ?_);refine SW.seq (SW.seq (SW.g1 fy Zm af cN ?_));refine SW.ah rfl (SW.skip (SW.seq (SW.g0 fy Zm (Zq g1 (Zq gl hlk)) ?_)));refine SW.seq (SW.seq ?_);unfold tJ;rcases hh:MM.has E.K.m d with _|_
 .refine SW.g0 fy Zm af ?_
  refine SW.an rfl (SW.seq (SW.g0 fy Zm af ?_));refine SW.ret ?_;exact End.mk (eH 0 1 2 E) (h4:=⟨rfl,rfl⟩) (h6:=mV E (by decide))
 .refine SW.g0 fy Zm af ?_
  refine SW.ah rfl (SW.skip (SW.seq (SW.g0 fy Zm af ?_)));refine SW.ret ?_;exact End.mk (eH 0 1 2 E) (h4:=⟨rfl,rfl⟩) (h6:=mV E (by decide))
theorem J3 (e r m:Nat)(hd:[e,r,m].Nodup)(E:En)(d:Dt)(k:Nat):aF Tryz.prog verdict_Engine_Verdict.f [.ptr e 0,.agg d.cells] (eH e r m E) k 0 (tJ E d) (eH e r m E):=by
 have:=SB.nB [e,r,m] (J2 E d) hd (λ i hi=>Cu E i hi) k;rw[tc,show(tJ E d).aC (fz [e,r,m] k)=tJ E d by unfold tJ;split<;>simp[SV.aU,SV.aC]] at this
 simpa[SV.aU,SV.aC,fz,Dt.aA] using this
def En.zero:En:=⟨[],⟨[],0⟩,aB.zero⟩
theorem J4:SB Tryz.prog verdict_New.f [] [] 0 3 λ r F=>r= .ptr 1 0/\F=eH 1 2 0 En.zero:=by
 refine verdict_New.enter rfl rfl (by simp) ?_;dsimp only[verdict_New.s,Co.M,Co.J,Co.F,Co.ay,Co.x,Co.S];have s1:cq (SV.d .aG:: .d .iJ::aB.zero.cells) 1 [.mp 0]=SV.d .aG:: .mp 0::aB.zero.cells:=rfl;have l1:(SV.d .aG::SV.mp 0::aB.zero.cells).all SV.dR=true:=rfl;refine SW.seq (SW.g0 [0] Zm af ?_);refine SW.seq (SW.g0 [0] Zm (Zq s1 l1) ?_);refine SW.yg 1 98 0 43 29 rfl rfl ?_;refine SW.ret ?_;exact End.mk (eH 1 2 0 En.zero) (h4:=⟨rfl,rfl⟩) (h6:=mV _ (by decide))
theorem J5 (k:Nat):aF Tryz.prog verdict_New.f [] [] k 3 (.ptr (k+1) 0) (eH (k+1) (k+2) k En.zero):=by
 have:=SB.new J4 k;rw[tc] at this;have e1:fz [] k 1=k+1:=by simp[fz];omega
 have e2:fz [] k 2=k+2:=by simp[fz];omega
 have e0:fz [] k 0=k:=by simp[fz]
 rw[e0,e1,e2] at this
 simpa[SV.aC,e1] using this
end
section
attribute [local irreducible] SW RW aF SC ai ak jN tF
def ox (K0 K1:KM)(d:Dt):Bool:=MM.has K0.m d && !decide (K0.get d=K1.get d)
abbrev HW (e r m w b c:Nat)(K0:KM)(E:En):Hp:=(b,.box 76 [.mp w])::(c,.box 90 [.ptr e 0])::(w,xP K0)::eH e r m E
theorem yR {q:Nat->Bool}{e r m w b c:Nat}(K0:KM)(E:En)(h:q e=true/\q r=true/\q m=true/\q w=true/\q b=true/\q c=true):(HW e r m w b c K0 E).ok q=true:=
 ax h.2.2.2.2.1 (by simp[Ob.ok,SV.au,SV.ok,h.2.2.2.1]) (ax h.2.2.2.2.2 (by simp[Ob.ok,SV.au,SV.ok,h.1]) (ax h.2.2.2.1 (eN _ _) (mV E ⟨h.1,h.2.1,h.2.2.1⟩)))
set_option maxHeartbeats 4000000 in
theorem J6 (K0:KM)(E:En)(d:Dt):SB Tryz.prog verdict_Engine_Put_1.f [.agg d.cells,.ptr 4 0,.ptr 5 0] (HW 0 1 2 3 4 5 K0 E) 6 0 λ r F=>r=bl (ox K0 E.K d)/\F=HW 0 1 2 3 4 5 K0 E:=by
 refine verdict_Engine_Put_1.enter (by simp[SV.au,SV.ok,Dt.aj]) (yR K0 E (by decide)) (by simp) ?_;dsimp only[verdict_Engine_Put_1.s,Co.M,Co.G,Co.J,Co.H,Co.F,Co.B,Co.b8,Co.T,Co.K,Co.E,Co.x,Co.U,Co.S];have g1:=jt.g1 1 2 E.l.length E.kn;have gl:(1+1<=(jt 1 2 E.l.length E.kn).length)=True:=eq_true (by rw[jt.len];decide);have k0:=pX K0.m d;change _=SV.d (.int .u8 ((K0.get d:Nat):Int)) at k0;have k1:=pX E.K.m d;change _=SV.d (.int .u8 ((E.K.get d:Nat):Int)) at k1;have g2:(((K0.get d:Nat):Int) != ((E.K.get d:Nat):Int))= !decide (K0.get d=E.K.get d):=by
  by_cases h:K0.get d=E.K.get d
  .rw[h];simp
  .have:((K0.get d:Nat):Int)≠((E.K.get d:Nat):Int):=by omega
   simp[h,this]
 refine SW.seq (SW.g0 lc Zm af ?_);refine SW.seq (SW.g0 lc Zm k0 ?_);refine SW.seq ?_;unfold ox;rcases hh:MM.has K0.m d with _|_
 .refine SW.g0 lc Zm af ?_
  refine SW.ret ?_;exact End.mk (HW 0 1 2 3 4 5 K0 E) (h4:=⟨rfl,rfl⟩) (h6:=yR K0 E (by decide))
 .refine SW.g0 lc Zm (Zq g1 (Zq gl (Zq k1 g2))) ?_
  refine SW.ret ?_;exact End.mk (HW 0 1 2 3 4 5 K0 E) (h4:=⟨rfl,rfl⟩) (h6:=yR K0 E (by decide))
theorem J7 (e r m w b c:Nat)(hd:[e,r,m,w,b,c].Nodup)(K0:KM)(E:En)(d:Dt)(k:Nat):aF Tryz.prog verdict_Engine_Put_1.f [.agg d.cells,.ptr b 0,.ptr c 0] (HW e r m w b c K0 E) k 0 (bl (ox K0 E.K d)) (HW e r m w b c K0 E):=by
 have:=SB.nB [e,r,m,w,b,c] (J6 K0 E d) hd (λ i hi=>by
  match i,hi with
  | 0,_|1,_|2,_|3,_|4,_|5,_=>simp[aa]) k
 have e1:(HW 0 1 2 3 4 5 K0 E).aC (fz [e,r,m,w,b,c] k)=HW e r m w b c K0 E:=by
  simp[Hp.aC,Ob.aC,rY,h_,SV.dN,SV.aU,SV.aC,fz]
 rw[e1] at this
 simpa[SV.aU,SV.aC,fz,Dt.aA] using this
end
section
attribute [local irreducible] SW RW aF SC ai ak jN tF
def En.may (E:En)(o:ag):Bool:=decide ((E.kn.put o.dot).2=0) && E.kn.above o.dep
noncomputable def En.put (E:En)(o:ag):En:=⟨E.l++[o],dY (E.l++[o]),(E.kn.put o.dot).1⟩
abbrev eG (E:En)(o:ag):Hp:=(4,.box 43 o.cells)::(3,.box 90 [.ptr 0 0])::eH 0 1 2 E
set_option maxHeartbeats 8000000 in
theorem J8 (E:En)(hw:E.kn.wf)(o:ag)(ho:o.dot.wf)(hm:E.may o=false):SB Tryz.prog verdict_Engine_Put.f [.ptr 0 0,.agg o.cells] (eH 0 1 2 E) 3 0 λ r F=>r= .de [.d .aG,i64 9]/\F=eH 0 1 2 E:=by
 refine verdict_Engine_Put.enter (by simp[SV.au,SV.ok,ag.aj]) (mV E (by decide)) (by simp) ?_;dsimp only[verdict_Engine_Put.s,Co.M,Co.J,Co.H,Co.F,Co.C,Co.Z,Co.B,Co.b8,Co.ay,Co.z8,Co.bC,Co.T,Co.K,Co.E,Co.P,Co.Q,Co.x,Co.W,Co.Y,Co.D,Co.A,Co.S];have cN:=vR 0 1 2 (by decide) E;have g2:=jt.g2 1 2 E.l.length E.kn;have gl:(2+8<=(jt 1 2 E.l.length E.kn).length)=True:=eq_true (by rw[jt.len];decide);have cP:=Ct E.kn hw o.dot ho;have cA:=xQ E.kn o.dep;have d0:List.take 2 o.cells=o.dot.cells:=rfl;have d2:List.take 8 (List.drop 2 o.cells)=o.dep.cells:=rfl;have l0:(0+2<=o.cells.length)=True:=eq_true (by rw[show o.cells.length=29 from rfl];decide);have l2:(2+8<=o.cells.length)=True:=eq_true (by rw[show o.cells.length=29 from rfl];decide);refine SW.seq (SW.g0 ap Zm af ?_);refine SW.seq (SW.seq (SW.g1 ap Zm af cN ?_));refine SW.ah rfl (SW.skip (SW.seq ?_));rcases hv:E.kn.put o.dot with⟨v',e⟩;rw[hv] at cP;have hmay:(decide (e=0) && E.kn.above o.dep)=false:=by unfold En.may at hm;rw[hv] at hm;exact hm
 dsimp only at cP;refine SW.g1 ap Zm (Zq g2 (Zq gl (Zq d0 l0))) cP ?_;refine SW.seq (SW.seq ?_);rcases he:decide ((e:Int)≠0) with _|_
 .have he0:e=0:=by simpa using he
  subst he0;have ha:E.kn.above o.dep=false:=by simpa using hmay
  rw[ha] at cA;refine SW.g1 ap Zm (Zq g2 (Zq gl (Zq d2 l2))) cA ?_;refine SW.an rfl (SW.seq (SW.g0 ap Zm af ?_));refine SW.ret ?_;exact End.mk (eH 0 1 2 E) (h4:=⟨rfl,rfl⟩) (h6:=mV E (by decide))
 .have he1:((e:Int) != 0)=true:=by simpa using he
  refine SW.g0 ap Zm he1 ?_;refine SW.an rfl (SW.seq (SW.g0 ap Zm af ?_));refine SW.ret ?_;exact End.mk (eH 0 1 2 E) (h4:=⟨rfl,rfl⟩) (h6:=mV E (by decide))
end
section
attribute [local irreducible] SW RW aF SC ai ak jN tF
def DS (K0 K1:KM)(xs:MM Dt Nat):List Dt:=(xs.map (·.2.1)).filter (ox K0 K1)
theorem HC (K0 K1:KM)(xs:MM Dt Nat)(x:Nat×Dt×Nat):DS K0 K1 (xs++[x])=if ox K0 K1 x.2.1 then DS K0 K1 xs++[x.2.1] else DS K0 K1 xs:=by
 unfold DS;rw[List.map_append,List.filter_append];cases h:ox K0 K1 x.2.1<;>simp[h]
theorem DT {M xs:MM Dt Nat}{c:Nat}(hwf:MM.wf M c)(p1:∀ x,x∈xs->x∈M)(hall:∀ e,e∈aq Dt.cells kv M->(xs.map (·.1)).contains e.1=true):∀ x,x∈xs↔x∈M:=λ x=>⟨p1 x,λ hx=>by
 have:=hall _ (List.mem_map.2 ⟨x,hx,rfl⟩);simp only[List.contains_iff_mem] at this;obtain⟨z,hz,e⟩:=List.mem_map.1 this;rw[<- MM.rz hwf.times (p1 z hz) hx e];exact hz⟩
theorem BA {M xs:MM Dt Nat}(p1:∀ x,x∈xs->x∈M)(p2:(xs.map (·.1)).Nodup){x:Nat×Dt×Nat}(hx:x∈M)(hs:(xs.map (·.1)).contains x.1=false):(∀ z,z∈xs++[x]->z∈M)/\((xs++[x]).map (·.1)).Nodup:=by
 have hxt:x.1∉xs.map (·.1):=λ h=>by
  have:(xs.map (·.1)).contains x.1=true:=by simpa only[List.contains_iff_mem] using h
  rw[this] at hs;cases hs
 refine⟨λ z hz=> ?_,?_⟩
 .rcases List.mem_append.1 hz with hz|hz
  .exact p1 z hz
  .rw[List.mem_singleton.1 hz];exact hx
 .rw[List.map_append,List.nodup_append]
  refine⟨p2,by simp,λ a ha b' hb'=> ?_⟩;simp only[List.map_cons,List.map_nil,List.mem_singleton] at hb';intro e;exact hxt (by rw[<- hb',<- e];exact ha)
structure TU (M:MM Dt Nat)(xs:MM Dt Nat):Prop where
 sub:∀ x,x∈xs->x∈M
 nd:(xs.map (·.1)).Nodup
def qk (K0 K1:KM):List Dt:=Dt.set ((MM.keys K1.m).filter (ox K0 K1))
abbrev pL (K0:KM)(E:En)(seen:List Nat)(R:List Dt):Hp:=(10,.iter (some 8) E.K.c seen E.K.c)::(9,s9 R 9)::HW 0 7 8 2 6 3 K0 E
theorem La (K0:KM)(E:En)(seen:List Nat)(R:List Dt):(pL K0 E seen R).ok (λ n=>decide (n<11))=true:=
 ax (by decide) (Cj _ _ _ _ _ (by decide)) (ax (by decide) (SV.aZ _) (yR K0 E (by decide)))
theorem PW (K0:KM)(E:En)(seen:List Nat)(R:List Dt):∀ y,y∈pL K0 E seen R->lk (pL K0 E seen R) y.1=some y.2:=λ y hy=>by
 simp only[List.mem_cons,List.not_mem_nil,or_false] at hy;rcases hy with rfl|rfl|rfl|rfl|rfl|rfl|rfl|rfl<;>rfl
theorem Cv {K0 K1:KM}{xs:MM Dt Nat}(p:TU K1.m xs)(h:K1.m.length<=80):(DS K0 K1 xs).length<=80:=by
 have h1:=List.length_filter_le (ox K0 K1) (xs.map (·.2.1));have h2:=p.nd.length_le_of_subset (l₂:=K1.m.map (·.1)) λ n hn=>by
  obtain⟨z,hz,rfl⟩:=List.mem_map.1 hn;exact List.mem_map.2 ⟨z,p.sub z hz,rfl⟩
 simp only[List.length_map] at h1 h2;unfold DS;omega
theorem HD (l:List ag):(dY l).m.length<=l.length:=by
 have h:=pZ l;have h1:=h.wf.keys.length_le_of_subset (l₂:=o9 l) λ d hd=>(h.keys d).1 (MM.ir.2 hd)
 have h2:(o9 l).length<=(l.map (·.dot)).length:=Dt.qH _;have h3:(MM.keys (dY l).m).length=(dY l).m.length:=by simp[MM.keys]
 rw[List.length_map] at h2;omega
theorem J9 (K:KM):∀ e,e∈aq Dt.cells kv K.m->SV.Plain e.2.1/\SV.Plain e.2.2:=λ e he=>by
 obtain⟨x,hx,rfl⟩:=eF he;refine⟨SV.CM λ c hc=> ?_,λ p p' μ bh M M' u h=> ?_⟩
 .simp only[Dt.cells,List.mem_cons,List.not_mem_nil,or_false] at hc
  rcases hc with rfl|rfl
  .intro p p' μ bh M M' u h
   rw[Rp.aS] at h ⊢;exact h
  .exact SV.CL _
 .unfold kv at h ⊢
  rw[Rp.aS] at h ⊢;exact h
set_option maxHeartbeats 16000000 in
theorem J_ (E:En)(hw:E.kn.wf)(o:ag)(ho:o.dot.wf)(hm:E.may o=true)(wI:(E.l++[o]).length<=80)(hrow:o8 (E.l++[o]))(lV:∀ k,aF Tryz.prog slices_Clone_Lapi_Claim_api_Claim.f [.d o.lines] [] k 0 (.d o.lines) []):
  SB Tryz.prog verdict_Engine_Put.f [.ptr 0 0,.agg o.cells] (eH 0 1 2 E) 3 6 λ r F=>r= .de [bg (qk E.K (E.put o).K),i64 0]/\F=eH 0 7 8 (E.put o):=by
 refine verdict_Engine_Put.enter (by simp[SV.au,SV.ok,ag.aj]) (mV E (by decide)) (by simp) ?_;dsimp only[verdict_Engine_Put.s,Co.M,Co.J,Co.H,Co.F,Co.C,Co.Z,Co.B,Co.b8,Co.ay,Co.z8,Co.bC,Co.T,Co.K,Co.E,Co.P,Co.Q,Co.x,Co.W,Co.Y,Co.D,Co.A,Co.S];have cN:=vR 0 1 2 (by decide) E;have g2:=jt.g2 1 2 E.l.length E.kn;have gl:(2+8<=(jt 1 2 E.l.length E.kn).length)=True:=eq_true (by rw[jt.len];decide);have cP:=Ct E.kn hw o.dot ho;have cA:=xQ E.kn o.dep;have d0:List.take 2 o.cells=o.dot.cells:=rfl;have d2:List.take 8 (List.drop 2 o.cells)=o.dep.cells:=rfl;have l0:(0+2<=o.cells.length)=True:=eq_true (by rw[show o.cells.length=29 from rfl];decide);have l2:(2+8<=o.cells.length)=True:=eq_true (by rw[show o.cells.length=29 from rfl];decide);refine SW.seq ?_
 (refine SW.bG ap Zm ?_;(repeat (first|refine RW.ro af (h:=?_)|refine RW.skip (h:=?_)|refine RW.op af (h:=?_)|refine RW.di af (h:=?_)|refine RW.aR (h:=?_)|refine qb rfl rfl (h:=?_)));refine RW.nil ⟨cB (by kernel_rfl),ak.mk (h:=?_)⟩)
 refine SW.seq (SW.seq ?_)
 (refine SW.bG ap Zm ?_;(repeat (first|refine RW.ro af (h:=?_)|refine RW.skip (h:=?_)|refine RW.op af (h:=?_)|refine RW.di af (h:=?_)|refine RW.aR (h:=?_)|refine qb rfl rfl (h:=?_)|(refine RW.aW (h:=?_);(first|refine ai.mk af (hc:=cN _) (h:=?_)))));refine RW.nil ⟨cB (by kernel_rfl),ak.mk (h:=?_)⟩)
 refine SW.ah rfl (SW.skip (SW.seq ?_));rcases hv:E.kn.put o.dot with⟨v',e⟩;rw[hv] at cP;have hmay:(decide (e=0) && E.kn.above o.dep)=true:=by unfold En.may at hm;rw[hv] at hm;exact hm
 rw[Bool.and_eq_true,decide_eq_true_eq] at hmay;obtain⟨rfl,ha⟩:=hmay;rw[ha] at cA;have hE:E.put o=⟨E.l++[o],dY (E.l++[o]),v'⟩:=by unfold En.put;rw[hv]
 rw[hE];dsimp only at cP
 (have fx:=(Zq g2 (Zq gl (Zq d0 l0)));refine SW.bG ap Zm ?_;(repeat (first|refine RW.ro fx (h:=?_)|refine RW.skip (h:=?_)|refine RW.op fx (h:=?_)|refine RW.di fx (h:=?_)|refine RW.aR (h:=?_)|refine qb rfl rfl (h:=?_)|(refine RW.aW (h:=?_);(first|refine ai.mk fx (hc:=cP _) (h:=?_)))));refine RW.nil ⟨cB (by kernel_rfl),ak.mk (h:=?_)⟩)
 refine SW.seq (SW.seq ?_)
 (have fx:=(Zq g2 (Zq gl (Zq d2 l2)));refine SW.bG ap Zm ?_;(repeat (first|refine RW.ro fx (h:=?_)|refine RW.skip (h:=?_)|refine RW.op fx (h:=?_)|refine RW.di fx (h:=?_)|refine RW.aR (h:=?_)|refine qb rfl rfl (h:=?_)|(refine RW.aW (h:=?_);(first|refine ai.mk fx (hc:=cA _) (h:=?_)))));refine RW.nil ⟨cB (by kernel_rfl),ak.mk (h:=?_)⟩)
 refine SW.ah rfl (SW.skip ?_);have OH:=KN o;have c28:o.cells[28]? =some (.d o.lines):=rfl;have l28:(28+1<=o.cells.length)=True:=eq_true (by rw[show o.cells.length=29 from rfl];decide);refine SW.seq ?_
 (have fx:=(Zq OH (Zq c28 l28));refine SW.bG ap Zm ?_;(repeat (first|refine RW.ro fx (h:=?_)|refine RW.skip (h:=?_)|refine RW.op fx (h:=?_)|refine RW.di fx (h:=?_)|refine RW.aR (h:=?_)|refine qb rfl rfl (h:=?_)|(refine RW.aW (h:=?_);(first|refine ai.mk fx (hc:=lV _) (h:=?_)))));refine RW.nil ⟨cB (by kernel_rfl),ak.mk (h:=?_)⟩)
 have g1:=jt.g1 1 2 E.l.length E.kn;have gl1:(1+1<=(jt 1 2 E.l.length E.kn).length)=True:=eq_true (by rw[jt.len];decide);have sm:cq [SV.d .iJ] 0 [.mp 2]=[.mp 2]:=rfl;refine SW.seq ?_
 (have fx:=(Zq g1 (Zq gl1 sm));refine SW.bG ap Zm ?_;(repeat (first|refine RW.ro fx (h:=?_)|refine RW.skip (h:=?_)|refine RW.op fx (h:=?_)|refine RW.di fx (h:=?_)|refine RW.aR (h:=?_)|refine qb rfl rfl (h:=?_)));refine RW.nil ⟨cB (by kernel_rfl),ak.mk (h:=?_)⟩)
 have g0:=jt.g0 1 2 E.l.length E.kn;have gl0:(0+1<=(jt 1 2 E.l.length E.kn).length)=True:=eq_true (by rw[jt.len];decide);have t29:List.take 29 o.cells=o.cells:=rfl;have l29:(0+29<=o.cells.length)=True:=eq_true (by rw[show o.cells.length=29 from rfl];decide);have hln:E.l.length<80:=by rw[List.length_append,List.length_singleton] at wI;omega
 have q0:=jt.s0 1 2 E.l.length 7 (E.l.length+ [o].length) E.kn;have q2:=jt.s2 7 2 (E.l.length+ [o].length) E.kn v';have ql:(10<=(jt 7 2 (E.l.length+ [o].length) E.kn).length)=True:=eq_true (by rw[jt.len];decide);refine SW.seq ?_
 (have fx:=(Zq g0 (Zq gl0 (Zq t29 (Zq l29 (Zq q0 (Zq q2 ql))))));refine SW.bG ap Zm ?_;(repeat (first|refine RW.ro fx (h:=?_)|refine RW.skip (h:=?_)|refine RW.op fx (h:=?_)|refine RW.di fx (h:=?_)|refine RW.aR (h:=?_)|refine qb rfl rfl (h:=?_)));refine RW.nil ⟨cB (by kernel_rfl),ak.mk (h:=?_)⟩)
 obtain⟨l',hl'⟩:∃ l',E.l++[o]=l':=⟨_,rfl⟩;rw[hl'] at wI hrow ⊢;have e5:E.l.length+ [o].length=l'.length:=by rw[<- hl'];simp
 have e6:Hw E.l++List.map SV.d ([o].flatMap ag.ds)=Hw l':=by rw[<- hl'];simp[Hw]
 clear hl' hE hv cP cA g2 g0 g1 q0 q2 ql;have hKl:=HD l';have hKw:=(pZ l').wf;have cO:=SC.NF (m:=7) (t:=43) (sz:=29) (Hv l' wI hrow 8) (by decide) (J9 (dY l')) (by simp) (jP l') (by decide);generalize dY l'=K1 at*;obtain⟨E',hE'⟩:∃ E':En,E'=⟨l',K1,v'⟩:=⟨_,rfl⟩;refine SW.weak id (st1:=⟨[(8,.ptr 6 0),(2,.ptr 3 0)],[(7,.arr 43 29 l'.length (Hw l')),(6,.box 76 [.mp 2]),(3,.box 90 [.ptr 0 0]),(2,xP E.K),(0,.box 98 (jt 7 2 l'.length v'))],8⟩) (aH.same (by show 3<=8;decide) (by simp[aL,List.lookup,SV.aC,SV.ok,SV.au]) (by simp[Hp.ok,Ob.ok,SV.au,SV.ok,SV.aZ,eN,vQ]) (λ y hy=> ?_)) ?_
 .rw[<- e5,<- e6] at hy
  simp only[List.mem_cons,List.not_mem_nil,or_false] at hy;rcases hy with rfl|rfl|rfl|rfl|rfl<;>rfl
 have r0:=jt.g0 7 2 l'.length v';have rl0:(0+1<=(jt 7 2 l'.length v').length)=True:=eq_true (by rw[jt.len];decide);have rl1:(1+1<=(jt 7 2 l'.length v').length)=True:=eq_true (by rw[jt.len];decide);have rs:=jt.s1 7 2 l'.length 8 v';refine SW.seq ?_
 (have fx:=(Zq r0 (Zq rl0 (Zq rl1 rs)));refine SW.bG ap Zm ?_;(repeat (first|refine RW.ro fx (h:=?_)|refine RW.skip (h:=?_)|refine RW.op fx (h:=?_)|refine RW.di fx (h:=?_)|refine RW.aR (h:=?_)|refine qb rfl rfl (h:=?_)|(refine RW.aW (h:=?_);(first|refine ai.mk fx (hc:=cO) (h:=?_)))));refine RW.nil ⟨cB (by kernel_rfl),ak.mk (h:=?_)⟩)
 refine SW.seq ?_
 (refine SW.bG ap Zm ?_;(repeat (first|refine RW.ro af (h:=?_)|refine RW.skip (h:=?_)|refine RW.op af (h:=?_)|refine RW.di af (h:=?_)|refine RW.aR (h:=?_)|refine qb rfl rfl (h:=?_)));refine RW.nil ⟨cB (by kernel_rfl),ak.mk (h:=?_)⟩)
 refine SW.seq ?_
 (refine SW.bG ap Zm ?_;(repeat (first|refine RW.ro af (h:=?_)|refine RW.skip (h:=?_)|refine RW.op af (h:=?_)|refine RW.di af (h:=?_)|refine RW.aR (h:=?_)|refine qb rfl rfl (h:=?_)));refine RW.nil ⟨cB (by kernel_rfl),ak.mk (h:=?_)⟩)
 refine SW.iN 10 37 2 rfl ?_;refine SW.seq (SW.seq ?_);have r1:=jt.g1 7 8 l'.length v';have rl2:(1+1<=(jt 7 8 l'.length v').length)=True:=eq_true (by rw[jt.len];decide)
 (refine SW.bG ap Zm ?_;(repeat (first|refine RW.ro (Zq r1 rl2) (h:=?_)|refine RW.skip (h:=?_)|refine RW.op (Zq r1 rl2) (h:=?_)|refine RW.di (Zq r1 rl2) (h:=?_)|refine RW.aR (h:=?_)|refine qb rfl rfl (h:=?_)));refine RW.nil ⟨cB (by kernel_rfl),ak.mk (h:=?_)⟩)
 refine SW.block ?_;have cT:=λ d=>J7 0 7 8 2 6 3 (by decide) E.K ⟨l',K1,v'⟩ d
 refine SW.pK (es:=λ _=>aq Dt.cells kv K1.m) (c:=λ _=>K1.c) (uc:=λ _=>10) (nm:=λ _=>8) (since:=λ _=>K1.c) (A1:=λ _=>K1.c)
  (α:={xs:MM Dt Nat // TU K1.m xs})
  (λ p=>⟨[(71,.it 10),(10,.gs 9 (DS E.K K1 p.1).length),(9,.fn (.func verdict_Engine_Put_1.f) [] [.ptr 6 0,.ptr 3 0])],pL E.K ⟨l',K1,v'⟩ (p.1.map (·.1)) (DS E.K K1 p.1),11⟩)
  (λ p=>gC (aq Dt.cells kv K1.m) (p.1.map (·.1))) ⟨[],by simp,by simp⟩ id (seen:=λ p=>p.1.map (·.1)) ?_ (λ p=>by simp[List.lookup]) (λ p=>by simp[aa]) (λ p=>by simp[aa]) (λ p=>by decide) (λ p e' he=> ?_) (λ p=>Nat.le_refl _) (λ p hall=> ?_) (λ p e' he hs=> ?_)
 .refine aH.same (by show 3<=11;decide) (by simp[aL,List.lookup,SV.aC,SV.ok,SV.au,SV.aU,DS]) (La _ _ _ _) (λ y hy=> ?_)
  simp only[List.mem_cons,List.not_mem_nil,or_false] at hy;rcases hy with rfl|rfl|rfl|rfl|rfl|rfl|rfl|rfl<;>rfl
 .obtain⟨x,hx,rfl⟩:=eF he
  exact hKw.old x hx
 .obtain⟨xs,p⟩:=p
  dsimp only at*;have hxs:=DT hKw p.sub hall;have hRl:=Cv (K0:=E.K) p (by omega);have gA:Dt.set (DS E.K K1 xs)=qk E.K K1:=by
   refine Dt.yM λ v=> ?_
   unfold DS;rw[List.mem_filter,List.mem_filter];unfold MM.keys;simp only[List.mem_map,hxs]
  rw[<- gA];generalize DS E.K K1 xs=R at hRl ⊢;refine⟨⟨[(10,.gs 9 R.length)],(9,s9 R 9)::eH 0 7 8 ⟨l',K1,v'⟩,11⟩,id,aH.same (by show 3<=11;decide) (by simp[aL,List.lookup,SV.aC,SV.ok,SV.au]) (ax (by simp) (SV.aZ _) (mV _ (by simp))) (λ y hy=>by
   simp only[List.mem_cons,List.not_mem_nil,or_false] at hy;rcases hy with rfl|rfl|rfl|rfl<;>rfl),?_⟩
  rw[if_pos rfl];refine SW.freeze 9 (R.flatMap Dt.ds) rfl rfl ?_;simp only[iM,SV.gz,List.map_cons,List.map_nil,if_true,if_false,reduceIte,bY,Nat.reduceEqDiff];have cS:=yD R (by omega);refine SW.seq ?_
  (refine SW.bG ap Zm ?_;(repeat (first|refine RW.ro af (h:=?_)|refine RW.skip (h:=?_)|refine RW.op af (h:=?_)|refine RW.di af (h:=?_)|refine RW.aR (h:=?_)|refine qb rfl rfl (h:=?_)|(refine RW.aW (h:=?_);(first|refine ai.mk af (hc:=cS _) (h:=?_)))));refine RW.nil ⟨cB (by kernel_rfl),ak.mk (h:=?_)⟩)
  refine SW.ret ?_;exact End.mk (eH 0 7 8 ⟨l',K1,v'⟩) (h4:=⟨rfl,rfl⟩) (h6:=mV _ (by decide))
 .obtain⟨xs,p⟩:=p
  dsimp only at*;obtain⟨x,hx,rfl⟩:=eF he;dsimp only at hs;have g5:(xs.map (·.1)++[x.1]).getLast? =some x.1:=by simp
  have g6:=kG (kc:=Dt.cells) (vs:=kv) hKw.times hx;obtain⟨q1,q2⟩:=BA p.sub p.nd hx hs;have em:(xs++[x]).map (·.1)=xs.map (·.1)++[x.1]:=by simp
  have hm:=kH he hs;have hsn:=HC E.K K1 xs x;have hRl:=Cv (K0:=E.K) p (by omega);obtain⟨v,hv⟩:∃ v,x.2.1=v:=⟨_,rfl⟩;rw[hv] at hsn;have cT':=cT v;rw[je];refine SW.block (SW.seq ?_)
  (have fx:=(Zq g5 (Zq g6 hv));refine SW.bG ap Zm ?_;(repeat (first|refine RW.ro fx (h:=?_)|refine RW.skip (h:=?_)|refine RW.op fx (h:=?_)|refine RW.di fx (h:=?_)|refine RW.aR (h:=?_)|refine qb rfl rfl (h:=?_)));refine RW.nil ⟨cB (by kernel_rfl),ak.mk (h:=?_)⟩)
  refine SW.seq ?_;cases hcv:ox E.K K1 v with
  | false=>
   rw[hcv] at cT' hsn
   (refine SW.bG ap Zm ?_;(repeat (first|refine RW.ro af (h:=?_)|refine RW.skip (h:=?_)|refine RW.op af (h:=?_)|refine RW.di af (h:=?_)|refine RW.aR (h:=?_)|refine qb rfl rfl (h:=?_)|(refine RW.aW (h:=?_);(first|refine ai.mk af (hc:=cT' _) (h:=?_)))));refine RW.nil ⟨cB (by kernel_rfl),ak.mk (h:=?_)⟩)
   refine SW.ah rfl (SW.skip ?_);refine⟨⟨xs++[x],q1,q2⟩,id,by show gC _ ((xs++[x]).map (·.1))<_;rw[em];exact hm,?_⟩;dsimp only;rw[em,hsn,if_neg (by decide)];refine aH.same (by show 3<=11;decide) (by simp[aL,List.lookup,SV.aC,SV.ok,SV.au,SV.aU]) (La _ _ _ _) (λ y hy=> ?_);simp only[List.mem_cons,List.not_mem_nil,or_false] at hy;rcases hy with rfl|rfl|rfl|rfl|rfl|rfl|rfl|rfl<;>rfl
  | true=>
   rw[hcv] at cT' hsn
   (refine SW.bG ap Zm ?_;(repeat (first|refine RW.ro af (h:=?_)|refine RW.skip (h:=?_)|refine RW.op af (h:=?_)|refine RW.di af (h:=?_)|refine RW.aR (h:=?_)|refine qb rfl rfl (h:=?_)|(refine RW.aW (h:=?_);(first|refine ai.mk af (hc:=cT' _) (h:=?_)))));refine RW.nil ⟨cB (by kernel_rfl),ak.mk (h:=?_)⟩)
   refine SW.an rfl ?_;generalize DS E.K K1 xs=R at hRl hsn ⊢
   (refine SW.bG ap Zm ?_;(repeat (first|refine RW.ro af (h:=?_)|refine RW.skip (h:=?_)|refine RW.op af (h:=?_)|refine RW.di af (h:=?_)|refine RW.aR (h:=?_)|refine qb rfl rfl (h:=?_)));refine RW.nil ⟨cB (by kernel_rfl),ak.mk (h:=?_)⟩)
   refine⟨⟨xs++[x],q1,q2⟩,λ n=>if n=9 then 12 else n,by show gC _ ((xs++[x]).map (·.1))<_;rw[em];exact hm,?_⟩;dsimp only;rw[em,hsn,if_pos rfl];have a1:=rT R v;have a2:=vE R v;refine⟨by show 3<=11;decide,λ n hn=>if_neg (by omega),?_,?_,?_⟩
   .simp[aL,List.lookup,SV.aC,SV.ok,SV.aU,SV.au]
   .simp[tS,aa,Ob.aC,Ob.ok,rY,vQ,h_,eN,SV.aU,SV.aC,SV.dN,SV.au,SV.ok,SV.aZ]
    rw[<- List.map_append];exact⟨(SV.dN _).symm,SV.aZ _⟩
   .intro a ha b hb e
    simp only[List.map_cons,List.map_nil,List.mem_cons,List.not_mem_nil,or_false] at ha hb;rcases ha with rfl|rfl|rfl|rfl|rfl|rfl|rfl|rfl<;>rcases hb with rfl|rfl|rfl|rfl|rfl|rfl|rfl|rfl<;>simp at e<;>rfl
end
end Go.Proofs.YtaelhkkjgfobhaaGreat
