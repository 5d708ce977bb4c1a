/-
 Operations' forms: what is covered, what is the same.
-/
import Derived.Test.YtnakpdoioammhaaGreatDoorUK
import Derived.Test.YtnakpdoioammhaaGreatDoorUV
import Derived.Test.YtnakpdoioammhaaGreatDoorUM
import Derived.Test.YtnakpdoioammhaaGreatDoorU8
import Derived.Test.YtnakpdoioammhaaGreatDoorUL
import Derived.Test.YtnakpdoioammhaaGreatDoorUE
set_option linter.unusedSectionVars false
set_option linter.unusedVariables false
set_option linter.unusedSimpArgs false
namespace Go.Proofs.YtnakpdoioammhaaGreatDoor
open Go.Sl Go.Proofs
section
attribute [local irreducible] SW RW bB SC ai aa
theorem yd (o:ah){r:Nat}(hr:r<8):o.cells[2+r]? =some (.d (.int .u32 (o.dep.get r))):=by
 match r,hr with
 | 0,_ | 1,_ | 2,_ | 3,_ | 4,_ | 5,_ | 6,_ | 7,_=>rfl
theorem D3 (o:ah)(d:Dt)(hd:d.r<256):Go.Sl.Pure Tryz.prog op_Covers.f [.agg o.cells,.agg d.cells] (bl (o.dep.aV d)):=by
 refine op_Covers.enter (by first | rfl | simp [SV.ok,SV.aF]) (by first | rfl | simp [Hp.ok,Ob.ok,SV.ok,SV.aF,ag.an]) (by simp) ?_
 dsimp only [op_Covers.s,Co.M,Co.G,Co.J,Co.H,Co.N,Co.F,Co.C,Co.Z,Co.B,Co.b8,Co.aJ,Co.b_,Co.i6,Co.z8,Co.cn]
 have w1:IntKind.i64.wrap (d.r:Int)=(d.r:Int):=wrap_i64 _ (by omega)
 refine SW.seq ?_
 refine SW.g0 [0,1,2,3,4] mixed U ?_
 by_cases hr:d.r<8
 ·have h1:decide ((d.r:Int)<8)=true:=by simp;omega
  by_cases hn:1≤d.n
  ·have h2:decide ((d.n:Int)>0)=true:=by simp;omega
   have e:o.dep.aV d=decide (((o.dep.get d.r:Nat):Int)≥((d.n:Nat):Int)):=by
    unfold ag.aV Dt.may
    rw [Bool.eq_iff_iff]
    simp only [Bool.and_eq_true,decide_eq_true_eq]
    omega
   rw [e]
   refine SW.seq ?_
   refine SW.g0 [0,1,2,3,4] mixed (And.intro (w1) (And.intro (h1) (And.intro (h2) (yd o hr)))) ?_
   refine SW.ret ?_
   exact End.mk [] (h4:=⟨rfl,rfl⟩)
  ·have h2:decide ((d.n:Int)>0)=false:=by simp;omega
   have e:o.dep.aV d=false:=by
    unfold ag.aV Dt.may
    rw [Bool.eq_false_iff]
    simp only [ne_eq,Bool.and_eq_true,decide_eq_true_eq]
    omega
   rw [e]
   refine SW.seq ?_
   refine SW.g0 [0,1,2,3,4] mixed (And.intro (w1) (And.intro (h1) (h2))) ?_
   refine SW.ret ?_
   exact End.mk [] (h4:=⟨rfl,rfl⟩)
 ·have h1:decide ((d.r:Int)<8)=false:=by simp;omega
  have e:o.dep.aV d=false:=by
   unfold ag.aV Dt.may
   rw [Bool.eq_false_iff]
   simp only [ne_eq,Bool.and_eq_true,decide_eq_true_eq]
   omega
  rw [e]
  refine SW.seq ?_
  refine SW.g0 [0,1,2,3,4] mixed (And.intro (w1) (h1)) ?_
  refine SW.ret ?_
  exact End.mk [] (h4:=⟨rfl,rfl⟩)
theorem kI (o:ah)(d:Dt)(hd:d.r<256)(k:Nat):bB Tryz.prog op_Covers.f [.agg o.cells,.agg d.cells] [] k 0 (bl (o.dep.aV d)) []:=(D3 o d hd).sc rfl k
def hasB (h w:Int):Bool:=bits .and .u8 h w == 0
theorem F4 (q k:Nat)(hq:q<k)(h w:Int)(b:Bool):SB Tryz.prog op_right_1.f [.d (.int .u8 w),bl b,.ptr q 0] [(q,.box 5 [.d (.int .u8 h)])] k 0 fun r F=>r=bl (hasB h w || b)∧F=[(q,.box 5 [.d (.int .u8 h)])]:=by
 refine op_right_1.enter (by simp [SV.ok,SV.aF,hq]) (by simp [Hp.ok,Ob.ok,SV.aF,SV.ok,hq]) (by simp [SV.aF]) ?_
 dsimp only [op_right_1.s,Co.M,Co.G,Co.J,Co.H,Co.N,Co.F,Co.C,Co.Z,Co.B,Co.b8,Co.aJ,Co.b_,Co.i6,Co.z8,Co.cn]
 refine SW.seq ?_
 refine SW.g0 [0,1,2,5] mixed U ?_
 refine SW.seq ?_
 rcases hh:(bits .and .u8 h w == 0) with _ | _
 ·refine SW.g0 [0,1,2,5] mixed (hh) ?_
  refine SW.ret ?_
  exact End.mk [(q,.box 5 [.d (.int .u8 h)])] (h3:=fun _ _ h=>h) (h4:=⟨by unfold hasB;rw [hh];rfl,rfl⟩) (h6:=by simp [Hp.ok,Ob.ok,SV.aF,SV.ok,hq])
 ·refine SW.g0 [0,1,2,5] mixed (hh) ?_
  refine SW.ret ?_
  exact End.mk [(q,.box 5 [.d (.int .u8 h)])] (h3:=fun _ _ h=>h) (h4:=⟨by unfold hasB;rw [hh];rfl,rfl⟩) (h6:=by simp [Hp.ok,Ob.ok,SV.aF,SV.ok,hq])
theorem oL (q k:Nat)(hq:q<k)(h w:Int)(b:Bool):bB Tryz.prog op_right_1.f [.d (.int .u8 w),bl b,.ptr q 0] [(q,.box 5 [.d (.int .u8 h)])] k 0 (bl (hasB h w || b)) [(q,.box 5 [.d (.int .u8 h)])]:=by
 have:=(F4 q k hq h w b).here (fun i=>i == q) (fun i hi=>by simp at hi;simp [hi,af]) (by simp [SV.aF,SV.ok]) (by simp [Hp.ok,Ob.ok,SV.aF,SV.ok]) (by
  rintro r F ⟨rfl,rfl⟩ _ _
  exact ⟨rfl,by simp [Hp.ok,Ob.ok,SV.aF,SV.ok]⟩)
 unfold bB
 exact this
def v7 (o:ah):List SV:=(o.ds.take 28).map SV.d
@[simp] theorem HO (o:ah):(v7 o).length=28:=rfl
abbrev Il:List SV:=[.d (.int .u8 0),.d (.int .u32 0),.d (.int .u32 0),.d (.int .u32 0),.d (.int .u32 0),.d (.int .u32 0),.d (.int .u32 0),.d (.int .u32 0),.d (.int .u32 0),.d (.int .u32 0),.d (.int .u64 0),.d (.int .u32 0),.d (.int .u8 0),.d (.int .u32 0),.d (.int .u8 0),.d (.int .u8 0),.d (.int .u32 0),.d (.int .u32 0),.d (.int .u8 0),.d (.int .u8 0),.d (.int .u64 0),.d (.int .u8 0),.d (.int .u32 0),.d (.int .u8 0),.d (.int .u32 0),.d (.int .u32 0),.d (.int .u32 0),.d (.int .u32 0)]
def partsOf (o:ah):List (Nat×Nat×SV):=[(0,2,.agg o.dot.cells),(2,8,.agg o.dep.cells),(10,1,u64 o.time),(11,1,u32 o.who),(12,2,.agg o.e_.cells),(14,1,u8 o.kind),(15,2,.agg o.gZ.cells),(17,1,u32 o.to),(18,1,u8 o.dK),(19,1,u8 o.depth),(20,1,u64 o.cap),(21,2,.agg o.at_.cells),(23,2,.agg o.ij.cells),(25,1,u32 o.item),(26,1,u32 o.qz),(27,1,u32 o.gr)]
set_option maxRecDepth 100000 in
set_option maxHeartbeats 4000000 in
theorem EZ {P:Program}{env:List (Nat×SV)}{hp:Hp}{k d:Nat}{r:List SI}{K:St→List (Bool×List Nat)→Prop}{zs:List SV}{parts:List (Nat×Nat×X)}(o:ah)(hz:zs=Il)
  (hE:gM (fun t=>env.lookup t) parts=some (partsOf o))
  (h:RW P r ⟨(d,.agg (v7 o))::env,hp,k⟩ fun st' ts=>K st' ((true,[])::ts)):RW P (⟨some d,.ec zs parts,none⟩::r) ⟨env,hp,k⟩ K:=by
 subst hz
 refine RW.cons (e:=⟨.agg (v7 o),[],[],0,(2=2∧0+2≤28∧8=8∧2+8≤28∧1=1∧10+1≤28∧1=1∧11+1≤28∧2=2∧12+2≤28∧1=1∧14+1≤28∧2=2∧15+2≤28∧1=1∧17+1≤28∧1=1∧18+1≤28∧1=1∧19+1≤28∧1=1∧20+1≤28∧2=2∧21+2≤28∧2=2∧23+2≤28∧1=1∧25+1≤28∧1=1∧26+1≤28∧1=1∧27+1≤28∧True)⟩) (fun c_=>⟨c_,fm (.inl rfl) ?_⟩) (by show (2=2∧0+2≤28∧8=8∧2+8≤28∧1=1∧10+1≤28∧1=1∧11+1≤28∧2=2∧12+2≤28∧1=1∧14+1≤28∧2=2∧15+2≤28∧1=1∧17+1≤28∧1=1∧18+1≤28∧1=1∧19+1≤28∧1=1∧20+1≤28∧2=2∧21+2≤28∧2=2∧23+2≤28∧1=1∧25+1≤28∧1=1∧26+1≤28∧1=1∧27+1≤28∧True);decide) ?_
 ·have h2:c9 Il (partsOf o)=some (v7 o,(2=2∧0+2≤28∧8=8∧2+8≤28∧1=1∧10+1≤28∧1=1∧11+1≤28∧2=2∧12+2≤28∧1=1∧14+1≤28∧2=2∧15+2≤28∧1=1∧17+1≤28∧1=1∧18+1≤28∧1=1∧19+1≤28∧1=1∧20+1≤28∧2=2∧21+2≤28∧2=2∧23+2≤28∧1=1∧25+1≤28∧1=1∧26+1≤28∧1=1∧27+1≤28∧True)):=by kernel_rfl
  simp only [bZ,bW,hE,h2]
 ·exact h
set_option maxRecDepth 100000 in
set_option maxHeartbeats 4000000 in
theorem HB (o:ah):Go.Sl.Pure Tryz.prog op_of.f [.agg o.cells] (.agg (v7 o)):=by
 refine op_of.enter (by first | rfl | simp [SV.ok,SV.aF]) (by first | rfl | simp [Hp.ok,Ob.ok,SV.ok,SV.aF,ag.an]) (by simp) ?_
 dsimp only [op_of.s,Co.M,Co.G,Co.J,Co.H,Co.N,Co.F,Co.C,Co.Z,Co.B,Co.b8,Co.aJ,Co.b_,Co.i6,Co.z8,Co.cn]
 have f1:(v7 o).all SV.aZ=true:=rfl
 have f2:(v7 o).length=28:=rfl
 have f3:bV Il 0 (v7 o)=v7 o:=rfl
 have f4:List.take 28 (v7 o)=v7 o:=rfl
 refine SW.seq ?_
 (refine SW.au [0,1,2] mixed ?_;(repeat (first | refine EZ o rfl rfl (h:= ?_) | refine RW.ro U (h:= ?_) | refine RW.skip (h:= ?_) | refine RW.op U (h:= ?_) | refine RW.aL U (h:= ?_) | refine RW.aj (h:= ?_)));refine RW.nil ⟨by kernel_rfl,aa.mk (h:= ?_)⟩)
 refine SW.seq ?_
 (have fx:=(And.intro (f1) (And.intro (f2) (And.intro (f3) (f4))));refine SW.au [0,1,2] mixed ?_;(repeat (first | refine EZ o rfl rfl (h:= ?_) | refine RW.ro fx (h:= ?_) | refine RW.skip (h:= ?_) | refine RW.op fx (h:= ?_) | refine RW.aL fx (h:= ?_) | refine RW.aj (h:= ?_)));refine RW.nil ⟨by kernel_rfl,aa.mk (h:= ?_)⟩)
 refine SW.ret ?_
 exact End.mk [] (h4:=⟨rfl,rfl⟩)
theorem ye (o:ah)(k:Nat):bB Tryz.prog op_of.f [.agg o.cells] [] k 0 (.agg (v7 o)) []:=(HB o).sc rfl k
end
section
attribute [local irreducible] SW RW bB SC ai aa
theorem yf {l:List Cm}{i:Nat}{x:Cm}(h:l[i]? =some x):List.take 4 (List.drop (i*4) (List.map SV.d (l.flatMap Cm.ds)))=x.line.cells++x.ij.cells:=by
 rw [← List.map_drop,← List.map_take,jM Cm.ds 4 (fun _=>rfl) l i x h]
 rfl
theorem rC {l:List Cm}{i:Nat}{x:Cm}(h:l[i]? =some x):(i*4+4≤(List.map SV.d (l.flatMap Cm.ds)).length)=True:=eq_true (by
 have:=dw h
 rw [List.length_map,xK]
 omega)
theorem zm (x:Cm):eZ [true,true,true,true] (x.line.cells++x.ij.cells) (x.line.cells++x.ij.cells)=some true:=by simp [eZ,yw,Dt.cells]
abbrev E1 (l:List Cm):SV:= .d (.sl l.length (l.flatMap Cm.ds))
set_option maxHeartbeats 1000000 in
theorem zn (l:List Cm)(hl:l.length<4611686018427387904):Go.Sl.Pure Tryz.prog slices_Equal_Lapi_Claim_api_Claim.f [E1 l,E1 l] (bl true):=by
 refine slices_Equal_Lapi_Claim_api_Claim.enter (by first | rfl | simp [SV.ok,SV.aF]) (by first | rfl | simp [Hp.ok,Ob.ok,SV.ok,SV.aF,ag.an]) (by simp) ?_
 dsimp only [slices_Equal_Lapi_Claim_api_Claim.s,Co.M,Co.G,Co.J,Co.H,Co.N,Co.F,Co.C,Co.Z,Co.B,Co.b8,Co.aJ,Co.b_,Co.i6,Co.z8,Co.cn]
 have h0:((l.length:Int) != (l.length:Int))=false:=by simp
 refine SW.seq ?_
 refine SW.g0 [0,1,4,5,10,12,13,14,24] mixed U ?_
 refine SW.seq (SW.seq ?_)
 refine SW.g0 [0,1,4,5,10,12,13,14,24] mixed (h0) ?_
 refine SW.ay rfl (SW.skip ?_)
 refine SW.seq (SW.seq ?_)
 refine SW.g0 [0,1,4,5,10,12,13,14,24] mixed U ?_
 refine SW.block ?_
 refine SW.fI (α:={i:Nat // i≤l.length}) (fun i=>⟨[(13,i64 i.1),(12,i64 l.length),(0,E1 l),(1,E1 l)],[],0⟩) (fun i=>l.length - i.1) ⟨0,Nat.zero_le _⟩ id U (round:= ?_)
 rintro ⟨i,hi⟩
 dsimp only
 by_cases h:i<l.length
 ·have h1:decide ((i:Int)<l.length)=true:=by simp only [decide_eq_true_eq];omega
  obtain ⟨x,hx⟩:=bR h
  have e2:IntKind.i64.wrap ((i:Int)+1)=((i+1:Nat):Int):=wrap_i64 _ (by omega)
  refine SW.seq ?_
  refine SW.g0 [0,1,4,5,10,12,13,14,24] mixed (h1) ?_
  refine SW.seq (SW.aC rfl (SW.skip ?_))
  refine SW.seq (SW.block (SW.seq ?_))
  refine SW.g0 [0,1,4,5,10,12,13,14,24] mixed U ?_
  refine SW.seq ?_
  refine SW.g0 [0,1,4,5,10,12,13,14,24] mixed (And.intro (yf hx) (And.intro (rC hx) (zm))) ?_
  refine SW.ay rfl (SW.skip ?_)
  refine SW.g0 [0,1,4,5,10,12,13,14,24] mixed (e2) ?_
  refine ⟨⟨i+1,by omega⟩,id,by show l.length - (i+1)<l.length - i;omega,?_⟩
  exact bk.mk U
 ·have h1:decide ((i:Int)<l.length)=false:=by simp only [decide_eq_false_iff_not];omega
  refine SW.seq ?_
  refine SW.g0 [0,1,4,5,10,12,13,14,24] mixed (h1) ?_
  refine SW.seq (SW.ay rfl (SW.exit ?_))
  refine SW.seq ?_
  refine SW.g0 [0,1,4,5,10,12,13,14,24] mixed U ?_
  refine SW.ret ?_
  exact End.mk [] (h4:=⟨rfl,rfl⟩)
theorem zo (l:List Cm)(hl:l.length<4611686018427387904)(k:Nat):bB Tryz.prog slices_Equal_Lapi_Claim_api_Claim.f [E1 l,E1 l] [] k 0 (bl true) []:=(zn l hl).sc rfl k
theorem B6 (l:List Cm):Go.Sl.Pure Tryz.prog slices_Equal_Lapi_Claim_api_Claim.f [.d .aY,E1 l] (bl (decide (l.length=0))):=by
 refine slices_Equal_Lapi_Claim_api_Claim.enter (by first | rfl | simp [SV.ok,SV.aF]) (by first | rfl | simp [Hp.ok,Ob.ok,SV.ok,SV.aF,ag.an]) (by simp) ?_
 dsimp only [slices_Equal_Lapi_Claim_api_Claim.s,Co.M,Co.G,Co.J,Co.H,Co.N,Co.F,Co.C,Co.Z,Co.B,Co.b8,Co.aJ,Co.b_,Co.i6,Co.z8,Co.cn]
 by_cases h:l.length=0
 ·have h0:((0:Int) != (l.length:Int))=false:=by rw [h];rfl
  have h2:decide (l.length=0)=true:=by simp [h]
  rw [h2]
  refine SW.seq ?_
  refine SW.g0 [0,1,4,5,10,12,13,14,24] mixed U ?_
  refine SW.seq (SW.seq ?_)
  refine SW.g0 [0,1,4,5,10,12,13,14,24] mixed (h0) ?_
  refine SW.ay rfl (SW.skip ?_)
  refine SW.seq (SW.seq ?_)
  refine SW.g0 [0,1,4,5,10,12,13,14,24] mixed U ?_
  refine SW.block ?_
  refine SW.fI (α:=Unit) (fun _=>⟨[(13,i64 0),(12,i64 0)],[],0⟩) (fun i=>0) () id U (round:= ?_)
  rintro _
  have h1:decide ((0:Int)<0)=false:=by decide
  refine SW.seq ?_
  refine SW.g0 [0,1,4,5,10,12,13,14,24] mixed (h1) ?_
  refine SW.seq (SW.ay rfl (SW.exit ?_))
  refine SW.seq ?_
  refine SW.g0 [0,1,4,5,10,12,13,14,24] mixed U ?_
  refine SW.ret ?_
  exact End.mk [] (h4:=⟨rfl,rfl⟩)
 ·have h0:((0:Int) != (l.length:Int))=true:=by simp;omega
  have h2:decide (l.length=0)=false:=by simp [h]
  rw [h2]
  refine SW.seq ?_
  refine SW.g0 [0,1,4,5,10,12,13,14,24] mixed U ?_
  refine SW.seq (SW.seq ?_)
  refine SW.g0 [0,1,4,5,10,12,13,14,24] mixed (h0) ?_
  refine SW.aC rfl (SW.seq ?_)
  refine SW.g0 [0,1,4,5,10,12,13,14,24] mixed U ?_
  refine SW.ret ?_
  exact End.mk [] (h4:=⟨rfl,rfl⟩)
theorem B7 (l:List Cm)(k:Nat):bB Tryz.prog slices_Equal_Lapi_Claim_api_Claim.f [.d .aY,E1 l] [] k 0 (bl (decide (l.length=0))) []:=(B6 l).sc rfl k
abbrev Iz:List Bool:=[true,true,true,true,true,true,true,true,true,true,true,true,true,true,true,true,true,true,true,true,true,true,true,true,true,true,true,true]
def E2 (a b:ah):Bool:=(eZ Iz (v7 a) (v7 b)).getD false
set_option maxRecDepth 100000 in
theorem F5 (a b:ah):eZ Iz (v7 a) (v7 b)=some (E2 a b):=by kernel_rfl
theorem lI (o:ah):o.cells[28]? =some (.d o.lines):=rfl
set_option maxHeartbeats 2000000 in
theorem B8 (a b:ah)(eL:Bool)(hL:∀ k,bB Tryz.prog slices_Equal_Lapi_Claim_api_Claim.f [.d a.lines,.d b.lines] [] k 0 (bl eL) []):Go.Sl.Pure Tryz.prog op_Same.f [.agg a.cells,.agg b.cells] (bl (E2 a b && eL)):=by
 refine op_Same.enter (by first | rfl | simp [SV.ok,SV.aF]) (by first | rfl | simp [Hp.ok,Ob.ok,SV.ok,SV.aF,ag.an]) (by simp) ?_
 dsimp only [op_Same.s,Co.M,Co.G,Co.J,Co.H,Co.N,Co.F,Co.C,Co.Z,Co.B,Co.b8,Co.aJ,Co.b_,Co.i6,Co.z8,Co.cn]
 have hq:=F5 a b
 refine SW.seq ?_
 refine SW.g0 [0,1,2,3,4] mixed U ?_
 refine SW.seq ?_
 rcases he:E2 a b with _ | _ <;> rw [he] at hq
 ·refine SW.g2 [0,1,2,3,4] mixed (And.intro (hq) (And.intro (lI a) (lI b))) (ye a) (ye b) ?_
  refine SW.ret ?_
  exact End.mk [] (h4:=⟨rfl,rfl⟩)
 ·refine SW.g4 [0,1,2,3,4] mixed (And.intro (hq) (And.intro (lI a) (lI b))) (ye a) (ye b) hL trivial ?_
  refine SW.ret ?_
  exact End.mk [] (h4:=⟨rfl,rfl⟩)
theorem B9 (a b:ah)(eL:Bool)(hL:∀ k,bB Tryz.prog slices_Equal_Lapi_Claim_api_Claim.f [.d a.lines,.d b.lines] [] k 0 (bl eL) [])(k:Nat):bB Tryz.prog op_Same.f [.agg a.cells,.agg b.cells] [] k 0 (bl (E2 a b && eL)) []:=(B8 a b eL hL).sc rfl k
end
section
attribute [local irreducible] SW RW bB SC ai aa
def F6:List Int:=[0,3,5,49,37,5,13,13,65]
def dV (k:Nat):Int:=F6.getD k 0
theorem vI {k:Nat}(h:k<9):[SV.d (.int .u8 0),.d (.int .u8 3),.d (.int .u8 5),.d (.int .u8 49),.d (.int .u8 37),.d (.int .u8 5),.d (.int .u8 13),.d (.int .u8 13),.d (.int .u8 65)][k]? =some (.d (.int .u8 (dV k))):=by
 match k,h with
 | 0,_ | 1,_ | 2,_ | 3,_ | 4,_ | 5,_ | 6,_ | 7,_ | 8,_=>rfl
def jw (h:Int)(o:ah):ah:=if hasB h 1 then { o with gZ:=⟨0,0⟩} else o
def jx (h:Int)(o:ah):ah:=if hasB h 2 then { o with to:=0,dK:=0,depth:=0,cap:=0} else o
def jy (h:Int)(o:ah):ah:=if hasB h 4 then { o with at_:=⟨0,0⟩} else o
def jA (h:Int)(o:ah):ah:=if hasB h 8 then { o with ij:=⟨0,0⟩} else o
def jB (h:Int)(o:ah):ah:=if hasB h 16 then { o with item:=0,gr:=0} else o
def jC (h:Int)(o:ah):ah:=if hasB h 32 then { o with qz:=0} else o
def jD (h:Int)(o:ah):ah:=if hasB h 64 then { o with lines:= .aY} else o
def gA (h:Int)(o:ah):ah:=jD h (jC h (jB h (jA h (jy h (jx h (jw h o))))))
set_option maxRecDepth 100000 in
set_option maxHeartbeats 8000000 in
theorem D4 (o:ah)(hk:o.kind<9):Go.Sl.Pure Tryz.prog op_bare.f [.agg o.cells] (.agg (gA (dV o.kind) o).cells):=by
 refine op_bare.enter (by first | rfl | simp [SV.ok,SV.aF]) (by first | rfl | simp [Hp.ok,Ob.ok,SV.ok,SV.aF,ag.an]) (by simp) ?_
 dsimp only [op_bare.s,Co.M,Co.G,Co.J,Co.H,Co.N,Co.F,Co.C,Co.Z,Co.B,Co.b8,Co.aJ,Co.b_,Co.i6,Co.z8,Co.cn]
 have hg:=vI hk
 unfold gA
 generalize dV o.kind=h at hg ⊢
 refine SW.seq ?_
 refine SW.g0 [0,1,2,3,10,15,22,27,32,37,41] mixed U ?_
 refine SW.seq ?_
 refine SW.g0 [0,1,2,3,10,15,22,27,32,37,41] mixed (hg) ?_
 clear hg hk
 have jg:∀ o:ah,SV.aF (fun n=>decide (n<2)) o.cells=true:=fun o=>ah.an o _
 have crn:∀ o:ah,SV.aM id o.cells=o.cells:=fun o=>SV.aH _
 refine SW.gE (α:=Unit) (fun _=>⟨[(3,.d (.int .u8 h)),(1,.ptr 0 0),(2,.ptr 1 0)],[(1,.box 51 ah.zero.cells),(0,.box 51 (jw h o).cells)],2⟩) ?_ ?_
 ·refine SW.seq ?_
  unfold jw
  rcases hb:hasB h 1 with _ | _
  ·have hb2:(bits .and .u8 h 1 == 0)=false:=hb
   refine SW.g0 [0,1,2,3,10,15,22,27,32,37,41] mixed (hb2) ?_
   refine SW.ay rfl (SW.skip ?_)
   exact ⟨(),bk.mk (And.intro jg crn)⟩
  ·have hb2:(bits .and .u8 h 1 == 0)=true:=hb
   have q0:bV o.cells 15 (⟨0,0⟩:Dt).cells=({ o with gZ:=⟨0,0⟩}:ah).cells:=rfl
   refine SW.g0 [0,1,2,3,10,15,22,27,32,37,41] mixed (hb2) ?_
   refine SW.aC rfl ?_
   refine SW.g0 [0,1,2,3,10,15,22,27,32,37,41] mixed (q0) ?_
   refine ⟨(),?_⟩
   rw [if_pos rfl]
   exact bk.mk (And.intro jg crn)
 rintro _
 generalize jw h o=o
 refine SW.gE (α:=Unit) (fun _=>⟨[(3,.d (.int .u8 h)),(1,.ptr 0 0),(2,.ptr 1 0)],[(1,.box 51 ah.zero.cells),(0,.box 51 (jx h o).cells)],2⟩) ?_ ?_
 ·refine SW.seq ?_
  unfold jx
  rcases hb:hasB h 2 with _ | _
  ·have hb2:(bits .and .u8 h 2 == 0)=false:=hb
   refine SW.g0 [0,1,2,3,10,15,22,27,32,37,41] mixed (hb2) ?_
   refine SW.ay rfl (SW.skip ?_)
   exact ⟨(),bk.mk (And.intro jg crn)⟩
  ·have hb2:(bits .and .u8 h 2 == 0)=true:=hb
   have q0:bV o.cells 17 [.d (.int .u32 0)]=({ o with to:=0}:ah).cells:=rfl
   have q1:bV ({ o with to:=0}:ah).cells 18 [.d (.int .u8 0)]=({ o with to:=0,dK:=0}:ah).cells:=rfl
   have q2:bV ({ o with to:=0,dK:=0}:ah).cells 19 [.d (.int .u8 0)]=({ o with to:=0,dK:=0,depth:=0}:ah).cells:=rfl
   have q3:bV ({ o with to:=0,dK:=0,depth:=0}:ah).cells 20 [.d (.int .u64 0)]=({ o with to:=0,dK:=0,depth:=0,cap:=0}:ah).cells:=rfl
   refine SW.g0 [0,1,2,3,10,15,22,27,32,37,41] mixed (hb2) ?_
   refine SW.aC rfl ?_
   refine SW.g0 [0,1,2,3,10,15,22,27,32,37,41] mixed (And.intro (q0) (And.intro (q1) (And.intro (q2) (q3)))) ?_
   refine ⟨(),?_⟩
   rw [if_pos rfl]
   exact bk.mk (And.intro jg crn)
 rintro _
 generalize jx h o=o
 refine SW.gE (α:=Unit) (fun _=>⟨[(3,.d (.int .u8 h)),(1,.ptr 0 0),(2,.ptr 1 0)],[(1,.box 51 ah.zero.cells),(0,.box 51 (jy h o).cells)],2⟩) ?_ ?_
 ·refine SW.seq ?_
  unfold jy
  rcases hb:hasB h 4 with _ | _
  ·have hb2:(bits .and .u8 h 4 == 0)=false:=hb
   refine SW.g0 [0,1,2,3,10,15,22,27,32,37,41] mixed (hb2) ?_
   refine SW.ay rfl (SW.skip ?_)
   exact ⟨(),bk.mk (And.intro jg crn)⟩
  ·have hb2:(bits .and .u8 h 4 == 0)=true:=hb
   have q0:bV o.cells 21 (⟨0,0⟩:Dt).cells=({ o with at_:=⟨0,0⟩}:ah).cells:=rfl
   refine SW.g0 [0,1,2,3,10,15,22,27,32,37,41] mixed (hb2) ?_
   refine SW.aC rfl ?_
   refine SW.g0 [0,1,2,3,10,15,22,27,32,37,41] mixed (q0) ?_
   refine ⟨(),?_⟩
   rw [if_pos rfl]
   exact bk.mk (And.intro jg crn)
 rintro _
 generalize jy h o=o
 refine SW.gE (α:=Unit) (fun _=>⟨[(3,.d (.int .u8 h)),(1,.ptr 0 0),(2,.ptr 1 0)],[(1,.box 51 ah.zero.cells),(0,.box 51 (jA h o).cells)],2⟩) ?_ ?_
 ·refine SW.seq ?_
  unfold jA
  rcases hb:hasB h 8 with _ | _
  ·have hb2:(bits .and .u8 h 8 == 0)=false:=hb
   refine SW.g0 [0,1,2,3,10,15,22,27,32,37,41] mixed (hb2) ?_
   refine SW.ay rfl (SW.skip ?_)
   exact ⟨(),bk.mk (And.intro jg crn)⟩
  ·have hb2:(bits .and .u8 h 8 == 0)=true:=hb
   have q0:bV o.cells 23 (⟨0,0⟩:Dt).cells=({ o with ij:=⟨0,0⟩}:ah).cells:=rfl
   refine SW.g0 [0,1,2,3,10,15,22,27,32,37,41] mixed (hb2) ?_
   refine SW.aC rfl ?_
   refine SW.g0 [0,1,2,3,10,15,22,27,32,37,41] mixed (q0) ?_
   refine ⟨(),?_⟩
   rw [if_pos rfl]
   exact bk.mk (And.intro jg crn)
 rintro _
 generalize jA h o=o
 refine SW.gE (α:=Unit) (fun _=>⟨[(3,.d (.int .u8 h)),(1,.ptr 0 0),(2,.ptr 1 0)],[(1,.box 51 ah.zero.cells),(0,.box 51 (jB h o).cells)],2⟩) ?_ ?_
 ·refine SW.seq ?_
  unfold jB
  rcases hb:hasB h 16 with _ | _
  ·have hb2:(bits .and .u8 h 16 == 0)=false:=hb
   refine SW.g0 [0,1,2,3,10,15,22,27,32,37,41] mixed (hb2) ?_
   refine SW.ay rfl (SW.skip ?_)
   exact ⟨(),bk.mk (And.intro jg crn)⟩
  ·have hb2:(bits .and .u8 h 16 == 0)=true:=hb
   have q0:bV o.cells 25 [.d (.int .u32 0)]=({ o with item:=0}:ah).cells:=rfl
   have q1:bV ({ o with item:=0}:ah).cells 27 [.d (.int .u32 0)]=({ o with item:=0,gr:=0}:ah).cells:=rfl
   refine SW.g0 [0,1,2,3,10,15,22,27,32,37,41] mixed (hb2) ?_
   refine SW.aC rfl ?_
   refine SW.g0 [0,1,2,3,10,15,22,27,32,37,41] mixed (And.intro (q0) (q1)) ?_
   refine ⟨(),?_⟩
   rw [if_pos rfl]
   exact bk.mk (And.intro jg crn)
 rintro _
 generalize jB h o=o
 refine SW.gE (α:=Unit) (fun _=>⟨[(3,.d (.int .u8 h)),(1,.ptr 0 0),(2,.ptr 1 0)],[(1,.box 51 ah.zero.cells),(0,.box 51 (jC h o).cells)],2⟩) ?_ ?_
 ·refine SW.seq ?_
  unfold jC
  rcases hb:hasB h 32 with _ | _
  ·have hb2:(bits .and .u8 h 32 == 0)=false:=hb
   refine SW.g0 [0,1,2,3,10,15,22,27,32,37,41] mixed (hb2) ?_
   refine SW.ay rfl (SW.skip ?_)
   exact ⟨(),bk.mk (And.intro jg crn)⟩
  ·have hb2:(bits .and .u8 h 32 == 0)=true:=hb
   have q0:bV o.cells 26 [.d (.int .u32 0)]=({ o with qz:=0}:ah).cells:=rfl
   refine SW.g0 [0,1,2,3,10,15,22,27,32,37,41] mixed (hb2) ?_
   refine SW.aC rfl ?_
   refine SW.g0 [0,1,2,3,10,15,22,27,32,37,41] mixed (q0) ?_
   refine ⟨(),?_⟩
   rw [if_pos rfl]
   exact bk.mk (And.intro jg crn)
 rintro _
 generalize jC h o=o
 refine SW.gE (α:=Unit) (fun _=>⟨[(3,.d (.int .u8 h)),(1,.ptr 0 0),(2,.ptr 1 0)],[(1,.box 51 ah.zero.cells),(0,.box 51 (jD h o).cells)],2⟩) ?_ ?_
 ·refine SW.seq ?_
  unfold jD
  rcases hb:hasB h 64 with _ | _
  ·have hb2:(bits .and .u8 h 64 == 0)=false:=hb
   refine SW.g0 [0,1,2,3,10,15,22,27,32,37,41] mixed (hb2) ?_
   refine SW.ay rfl (SW.skip ?_)
   exact ⟨(),bk.mk (And.intro jg crn)⟩
  ·have hb2:(bits .and .u8 h 64 == 0)=true:=hb
   have q0:bV o.cells 28 [.d .aY]=({ o with lines:= .aY}:ah).cells:=rfl
   refine SW.g0 [0,1,2,3,10,15,22,27,32,37,41] mixed (hb2) ?_
   refine SW.aC rfl ?_
   refine SW.g0 [0,1,2,3,10,15,22,27,32,37,41] mixed (q0) ?_
   refine ⟨(),?_⟩
   rw [if_pos rfl]
   exact bk.mk (And.intro jg crn)
 rintro _
 generalize jD h o=o
 refine SW.seq ?_
 have q:bV ah.zero.cells 0 o.cells=o.cells:=rfl
 refine SW.g0 [0,1,2,3,10,15,22,27,32,37,41] mixed (q) ?_
 refine SW.ret ?_
 exact End.mk [] (h4:=⟨rfl,rfl⟩)
theorem D5 (o:ah)(hk:o.kind<9)(k:Nat):bB Tryz.prog op_bare.f [.agg o.cells] [] k 0 (.agg (gA (dV o.kind) o).cells) []:=(D4 o hk).sc rfl k
end
section
attribute [local irreducible] SW RW bB SC ai aa
structure Im (o:ah)(cl:List Cm)(i:Nat)(M:MM Dt Int):Prop where
 c1:i≤cl.length
 c2:MM.keys M=(cl.take i).map (·.line)
 c3:∀ d v,MM.get M d=some v→v=1
 c4:∀ j,j<i→pH o cl j=true
theorem HC {cl:List Cm}{i:Nat}{x:Cm}(h:cl[i]? =some x):cl.take (i+1)=cl.take i++[x]:=by
 rw [List.take_add_one,h];rfl
theorem zp {o:ah}{cl:List Cm}{i:Nat}(hi:i<cl.length)(h:pH o cl i=false):ic o cl=false:=by
 unfold ic
 rw [Bool.and_eq_false_iff]
 right
 rw [Bool.eq_false_iff]
 intro ha
 have:=List.all_eq_true.1 ha i (List.mem_range.2 hi)
 rw [h] at this;cases this
theorem wZ {o:ah}{cl:List Cm}(h:∀ j,j<cl.length→pH o cl j=true):ic o cl=decide (1≤cl.length∧cl.length≤16):=by
 unfold ic
 have:(List.range cl.length).all (pH o cl)=true:=List.all_eq_true.2 fun j hj=>h j (List.mem_range.1 hj)
 rw [this,Bool.and_true]
set_option maxHeartbeats 4000000 in
theorem zq (o :ah)(hl:o.jf)(hw:∀ x,x∈o.cl→x.line.r<256∧x.ij.r<256):Go.Sl.Pure Tryz.prog op_claims.f [.agg o.cells] (bl (ic o o.cl)):=by
  have hn:=hl.eq
  have hlen:=hl.le
  have hline:o.cells[28]? =some (.d (.sl o.cl.length (o.cl.flatMap Cm.ds))):=by rw [lI,hn]
  generalize o.cl=cl at hw hlen hline ⊢
  refine op_claims.enter (by first | rfl | simp [SV.ok,SV.aF]) (by first | rfl | simp [Hp.ok,Ob.ok,SV.ok,SV.aF,ag.an]) (by simp) ?_
  dsimp only [op_claims.s,Co.M,Co.G,Co.J,Co.H,Co.N,Co.F,Co.C,Co.Z,Co.B,Co.b8,Co.aJ,Co.b_,Co.i6,Co.z8,Co.cn]
  refine SW.seq ?_
  refine SW.g0 [0,1,2,3,5,8,9,10,11,32] mixed U ?_
  refine SW.seq ?_
  refine SW.g0 [0,1,2,3,5,8,9,10,11,32] mixed U ?_
  refine SW.gE (α:={M:MM Dt Int×Nat // Im o cl cl.length M.1}) (fun M=>⟨[(3,.mp 1),(1,.ptr 0 0)],[(1,.map (aN Dt.cells iv M.1.1) M.1.2),(0,.box 51 o.cells)],2⟩) ?_ ?_
  · refine SW.seq ?_
    refine SW.g0 [0,1,2,3,5,8,9,10,11,32] mixed (hline) ?_
    refine SW.block ?_
    refine SW.fI (α:={x:Nat×MM Dt Int×Nat // Im o cl x.1 x.2.1}) (fun x=>⟨[(10,i64 x.1.1),(8,.d (.sl cl.length (cl.flatMap Cm.ds))),(9,i64 cl.length),(3,.mp 1),(1,.ptr 0 0),(2,.d (.bool false))],[(1,.map (aN Dt.cells iv x.1.2.1) x.1.2.2),(0,.box 51 o.cells)],2⟩) (fun x=>cl.length - x.1.1) ⟨(0,[],0),⟨Nat.zero_le _,rfl,fun d v h=>(by cases h),fun j h=>(by omega)⟩⟩ id (And.intro (show aN Dt.cells iv ([]:MM Dt Int)=[] from rfl) (And.intro (fun o:ah=>ah.an o (fun n=>decide (n<2))) (fun o:ah=>SV.aH o.cells))) (round:= ?_)
    rintro ⟨⟨i,M,c⟩,hi,hk,hv,ha⟩
    simp only at hi hk hv ha
    dsimp only
    by_cases h:i<cl.length
    · have h1 :decide ((i:Int)<cl.length)=true:=by simp only [decide_eq_true_eq];omega
      obtain ⟨x,hx⟩:=bR h
      obtain ⟨hw1,hw2⟩:=hw x (List.mem_of_getElem? hx)
      have e2:IntKind.i64.wrap ((i:Int)+1)=((i+1:Nat):Int):=wrap_i64 _ (by omega)
      have jK:pH o cl i=Gy o x (cl.take i):=by unfold pH;rw [hx]
      have u1:=jq x.line iv M
      have u3:=gq (kc:=Dt.cells) M x.line
      have u4:=gY (kc:=Dt.cells) M c x.line 1
      have g1:List.take 2 (x.line.cells++x.ij.cells)=x.line.cells:=rfl
      have g2:List.take 2 (List.drop 2 (x.line.cells++x.ij.cells))=x.ij.cells:=rfl
      have g3:(x.line.cells++x.ij.cells).all SV.aZ=true:=rfl
      have g4:(x.line.cells++x.ij.cells).length=4:=rfl
      have g5:bV (SV.d (.int .u8 0)::SV.d (.int .u32 0)::(⟨0,0⟩:Dt).cells) 0 (x.line.cells++x.ij.cells)=x.line.cells++x.ij.cells:=rfl
      have no:∀ env hp kk,pH o cl i=false→env.lookup 2=some (.d (.bool false))→Go.Sl.Fin 0 0 op_claims.rv (fun r F=>r=bl (ic o cl)∧F=[]) ⟨env,hp,kk⟩:=fun env hp kk hno he=>by
        rw [zp h hno]
        exact End.mk [] (h1:=by show pT _ [.tmp 2]=_;simp only [pT,he];rfl) (h2:=by trivial) (h4:=⟨rfl,rfl⟩) (h5:=rfl) (h7:=Nat.zero_le _)
      refine SW.seq ?_
      refine SW.g0 [0,1,2,3,5,8,9,10,11,32] mixed (h1) ?_
      refine SW.seq (SW.aC rfl (SW.skip ?_))
      refine SW.seq (SW.block (SW.seq ?_))
      refine SW.g0 [0,1,2,3,5,8,9,10,11,32] mixed (And.intro (yf hx) (And.intro (rC hx) (And.intro (g3) (And.intro (g4) (g5))))) ?_
      refine SW.seq (SW.seq ?_)
      rcases hh:MM.has M x.line with _ | _
      · have hget:MM.get M x.line=none:=by
          unfold MM.has at hh
          cases hz:MM.get M x.line with
          | none=>rfl
          | some v=>rw [hz] at hh;cases hh
        have hg0:(MM.get M x.line).getD 0=0:=by rw [hget];rfl
        have hpre:(cl.take i).all (fun y=> !decide (y.line=x.line))=true:=by
          rw [List.all_eq_true]
          intro y hy
          simp only [Bool.not_eq_true',decide_eq_false_iff_not]
          intro e
          have:MM.has M x.line=true:=MM.lS.2 (by rw [hk,← e];exact List.mem_map.2 ⟨y,hy,rfl⟩)
          rw [hh] at this;cases this
        rcases hc1:o.dep.aV x.line with _ | _
        · have hno:pH o cl i=false:=by rw [jK];unfold Gy;rw [hc1];rfl
          have c1:=fun k=>kI o x.line hw1 k
          rw [hc1] at c1
          refine SW.g1 [0,1,2,3,5,8,9,10,11,32] mixed (And.intro (u1) (And.intro (u3) (And.intro (hg0) (And.intro (g1) (And.intro (g2) (And.intro (g3) (g4))))))) c1 ?_
          refine SW.aC rfl (SW.seq ?_)
          refine SW.g0 [0,1,2,3,5,8,9,10,11,32] mixed U ?_
          refine SW.ret ?_
          exact no _ _ _ hno rfl
        · have c1:=fun k=>kI o x.line hw1 k
          rw [hc1] at c1
          have c2:=fun k=>kI o x.ij hw2 k
          rcases hc2:o.dep.aV x.ij with _ | _
          · have hno:pH o cl i=false:=by rw [jK];unfold Gy;rw [hc1,hc2];rfl
            rw [hc2] at c2
            refine SW.g2 [0,1,2,3,5,8,9,10,11,32] mixed (And.intro (u1) (And.intro (u3) (And.intro (hg0) (And.intro (g1) (And.intro (g2) (And.intro (g3) (g4))))))) c1 c2 ?_
            refine SW.aC rfl (SW.seq ?_)
            refine SW.g0 [0,1,2,3,5,8,9,10,11,32] mixed U ?_
            refine SW.ret ?_
            exact no _ _ _ hno rfl
          · have hyes:pH o cl i=true:=by rw [jK];unfold Gy;rw [hc1,hc2,hpre];rfl
            rw [hc2] at c2
            refine SW.g2 [0,1,2,3,5,8,9,10,11,32] mixed (And.intro (u1) (And.intro (u3) (And.intro (hg0) (And.intro (g1) (And.intro (g2) (And.intro (g3) (g4))))))) c1 c2 ?_
            refine SW.ay rfl (SW.skip ?_)
            refine SW.g0 [0,1,2,3,5,8,9,10,11,32] mixed (And.intro (u1) (And.intro (u4) (And.intro (g1) (And.intro (g3) (g4))))) ?_
            refine SW.g0 [0,1,2,3,5,8,9,10,11,32] mixed (e2) ?_
            have hk2:MM.keys (MM.put M c x.line (1:Int))=(cl.take (i+1)).map (·.line):=by
              rw [MM.uO,hh,HC hx,hk];simp
            have hI:Im o cl (i+1) (MM.put M c x.line (1:Int)):=⟨by omega,hk2,fun d v hd=>by
              rw [MM.tK] at hd
              split at hd
              · injection hd with hd;exact hd.symm
              · exact hv d v hd,fun j hj=>by
              by_cases e:j=i
              · rw [e];exact hyes
              · exact ha j (by omega)⟩
            refine ⟨⟨(i+1,MM.put M c x.line (1:Int),MM.qv M c x.line),hI⟩,id,by show cl.length - (i+1)<cl.length - i;omega,?_⟩
            exact bk.mk (And.intro (ah.an o (fun n=>decide (n<2))) (SV.aH o.cells))
      · obtain ⟨v,hget⟩:∃ v,MM.get M x.line=some v:=by
          unfold MM.has at hh
          exact Option.isSome_iff_exists.1 hh
        have hv1:=hv _ _ hget
        subst hv1
        have hg0:(MM.get M x.line).getD 0=1:=by rw [hget];rfl
        have hno:pH o cl i=false:=by
          rw [jK];unfold Gy
          rw [Bool.and_eq_false_iff]
          right
          rw [Bool.eq_false_iff]
          intro hall
          have hm:x.line∈MM.keys M:=MM.lS.1 hh
          rw [hk] at hm
          obtain ⟨y,hy,e⟩:=List.mem_map.1 hm
          have:=List.all_eq_true.1 hall y hy
          simp [e] at this
        refine SW.g0 [0,1,2,3,5,8,9,10,11,32] mixed (And.intro (u1) (And.intro (u3) (And.intro (hg0) (And.intro (g1) (And.intro (g2) (And.intro (g3) (g4))))))) ?_
        refine SW.aC rfl (SW.seq ?_)
        refine SW.g0 [0,1,2,3,5,8,9,10,11,32] mixed U ?_
        refine SW.ret ?_
        exact no _ _ _ hno rfl
    · have h1:decide ((i:Int)<cl.length)=false:=by simp only [decide_eq_false_iff_not];omega
      have hil:i=cl.length:=by omega
      subst hil
      refine SW.seq ?_
      refine SW.g0 [0,1,2,3,5,8,9,10,11,32] mixed (h1) ?_
      refine SW.seq (SW.ay rfl (SW.exit ?_))
      refine ⟨⟨(M,c),⟨hi,hk,hv,ha⟩⟩,?_⟩
      exact bk.mk (And.intro (ah.an o (fun n=>decide (n<2))) (SV.aH o.cells))
  rintro ⟨⟨M,c⟩,hi,hk,hv,ha⟩
  simp only at hk ha
  dsimp only
  have hml:M.length=cl.length:=by
    have:=congrArg List.length hk
    rw [List.take_length] at this
    simpa [MM.keys] using this
  rw [wZ ha]
  refine SW.seq ?_
  by_cases h0:1≤cl.length
  · have d1:decide ((M.length:Int)>0)=true:=decide_eq_true (by omega)
    by_cases h16:cl.length≤16
    · have d2:decide ((M.length:Int)≤16)=true:=by simp;omega
      rw [show decide (1≤cl.length∧cl.length≤16)=true by simp [h0,h16]]
      refine SW.g0 [0,1,2,3,5,8,9,10,11,32] mixed (And.intro (d1) (d2)) ?_
      refine SW.ret ?_
      exact End.mk [] (h4:=⟨rfl,rfl⟩)
    · have d2:decide ((M.length:Int)≤16)=false:=by simp;omega
      rw [show decide (1≤cl.length∧cl.length≤16)=false by simp [h16]]
      refine SW.g0 [0,1,2,3,5,8,9,10,11,32] mixed (And.intro (d1) (d2)) ?_
      refine SW.ret ?_
      exact End.mk [] (h4:=⟨rfl,rfl⟩)
  · have d1:decide ((M.length:Int)>0)=false:=decide_eq_false (by omega)
    rw [show decide (1≤cl.length∧cl.length≤16)=false from decide_eq_false fun hh=>h0 hh.1]
    refine SW.g0 [0,1,2,3,5,8,9,10,11,32] mixed (d1) ?_
    refine SW.ret ?_
    exact End.mk [] (h4:=⟨rfl,rfl⟩)
theorem zu (o:ah)(hl:o.jf)(hw:∀ x,x∈o.cl→x.line.r<256∧x.ij.r<256)(k:Nat):bB Tryz.prog op_claims.f [.agg o.cells] [] k 0 (bl (ic o o.cl)) []:=(zq o hl hw).sc rfl k
end
section
attribute [local irreducible] SW RW bB SC ai aa
theorem aK.join {N k0:Nat}{l:List SI}{st:St}{K:St→Prop}{α:Type}(n:Nat)(S:α→St)(h1:∀ K':St→Prop,(∀ a st',bk k0 st' (S a) id→aK Tryz.prog N k0 (l.drop n) st' K')→aK Tryz.prog N k0 l st K')(h2:∀ a,aK Tryz.prog N k0 (l.drop n) (S a) K):aK Tryz.prog N k0 l st K:=
 h1 K fun a st' hw=>SW.H6 hw (h2 a)
theorem aK.mE {N k0:Nat}{K:St→Prop}{r:List SI}{d t:Nat}{f:X}{args:List X}{fid:FuncId}{as' first cap HD:List SV}{env:List (Nat×SV)}{hp F:Hp}{k:Nat}{v:SV}
  (ES:env.lookup t=some (.d (.bool true))) (hsc:bB Tryz.prog fid HD F k 0 v F) (hs:HSub F hp) (hF:bn false hp F F=hp)
  (hf:ev (fun t=>env.lookup t) f=some (.fn (.func fid) first cap)) (ha:fK (fun t=>env.lookup t) args=some as') (has:first++as'++cap=HD)
  (h:aK Tryz.prog N k0 r ⟨(d,v)::env,hp,k⟩ K):aK Tryz.prog N k0 (⟨some d,.call f args,some (t,true)⟩::r) ⟨env,hp,k⟩ K:=by
 refine aK.ER (st:=⟨env,hp,k⟩) rfl ES (fun o hc=>tP hc hf ha (by rw [has];unfold bB at hsc;exact hsc) hs) rfl fun v' F' hq=> ?_
 obtain ⟨rfl,rfl⟩:=hq
 show aK Tryz.prog N k0 r ⟨(d,v')::env,bn false hp F' F',k+0⟩ K
 rw [hF]
 exact h
def kJ (o:ah):Bool:=decide ((o.to:Int)>0) && (decide ((o.dK:Int)>0) && (decide ((o.dK:Int)≤7) && (decide ((o.depth:Int)<8) && decide ((o.cap:Int)≤1099511627776))))
def zw (o:ah):Bool:=decide ((o.qz:Int)>0) && decide ((o.qz:Int)≤65535)
def lJ (o:ah):Bool:=if o.kind=0 then decide (o.e_=o.dot) else o.dep.aV o.e_
def fz (h:Int)(o:ah):Bool:=lJ o && ((hasB h 1 || o.dep.aV o.gZ) && ((hasB h 4 || o.dep.aV o.at_) && ((hasB h 8 || o.dep.aV o.ij) && ((hasB h 2 || kJ o) && ((hasB h 32 || zw o) && (decide ((o.gr:Int)≤16777215) && (hasB h 64 || ic o o.cl)))))))
structure Io (o:ah):Prop where
 jf:o.jf
 cl:∀ x,x∈o.cl→x.line.r<256∧x.ij.r<256
 e_:o.e_.r<256
 gZ:o.gZ.r<256
 at_:o.at_.r<256
 ij:o.ij.r<256
abbrev rE (o:ah)(h:Int):Hp:=[(1,.box 5 [.d (.int .u8 h)]),(0,.box 51 o.cells)]
abbrev rF:SV:= .fn (.func op_right_1.f) [] [.ptr 1 0]
set_option maxRecDepth 100000 in
set_option maxHeartbeats 16000000 in
theorem B_ (o:ah)(hk:o.kind<9)(hw:Io o):Go.Sl.Pure Tryz.prog op_right.f [.agg o.cells] (bl (fz (dV o.kind) o)):=by
 refine op_right.enter (by first | rfl | simp [SV.ok,SV.aF]) (by first | rfl | simp [Hp.ok,Ob.ok,SV.ok,SV.aF,ag.an]) (by simp) ?_
 dsimp only [op_right.s,Co.M,Co.G,Co.J,Co.H,Co.N,Co.F,Co.C,Co.Z,Co.B,Co.b8,Co.aJ,Co.b_,Co.i6,Co.z8,Co.cn]
 have hg:=vI hk
 generalize dV o.kind=h at hg ⊢
 have xs1:∀ a b:SV,bV [a] 0 [b]=[b]:=fun _ _=>rfl
 refine SW.seq ?_
 refine SW.g0 [0,1,2,3,4,5] mixed U ?_
 refine SW.seq ?_
 refine SW.g0 [0,1,2,3,4,5] mixed (And.intro (hg) (xs1)) ?_
 refine SW.seq ?_
 refine SW.g0 [0,1,2,3,4,5] mixed U ?_
 have fin:∀ (env:List (Nat×SV)) (hp:Hp) (kk:Nat) (b:Bool),env.lookup 2=some (bl b)→fz h o=b→Go.Sl.Fin 0 0 op_right.rv (fun r F=>r=bl (fz h o)∧F=[]) ⟨env,hp,kk⟩:=fun env hp kk b he hb=>by
  rw [hb]
  exact End.mk [] (h1:=by show pT _ [.tmp 2]=_;simp only [pT,he];rfl) (h2:=by trivial) (h4:=⟨rfl,rfl⟩) (h5:=rfl) (h7:=Nat.zero_le _)
 have jg:∀ o:ah,SV.aF (fun n=>decide (n<2)) o.cells=true:=fun o=>ah.an o _
 have crn:∀ o:ah,SV.aM id o.cells=o.cells:=fun o=>SV.aH _
 refine SW.gE (α:={b:Bool // b=lJ o}) (fun b=>⟨[(5,bl b.1),(4,rF),(1,.ptr 0 0)],rE o h,2⟩) ?_ ?_
 ·have cC:=fun k=>kI o o.e_ hw.e_ k
  by_cases h0:o.kind=0
  ·have e0:((o.kind:Int) == 0)=true:=by rw [h0];rfl
   have e1:((o.kind:Int) != 0)=false:=by rw [h0];rfl
   rcases he:decide (o.e_=o.dot) with _ | _
   ·refine SW.g0 [0,1,2,3,4,5] mixed (And.intro (e0) (And.intro (e1) (he))) ?_
    refine ⟨⟨false,by unfold lJ;rw [if_pos h0,he]⟩,?_⟩
    exact bk.mk (And.intro jg crn)
   ·refine SW.g0 [0,1,2,3,4,5] mixed (And.intro (e0) (And.intro (e1) (he))) ?_
    refine ⟨⟨true,by unfold lJ;rw [if_pos h0,he]⟩,?_⟩
    exact bk.mk (And.intro jg crn)
  ·have e0:((o.kind:Int) == 0)=false:=by rw [beq_eq_false_iff_ne];omega
   have e1:((o.kind:Int) != 0)=true:=by rw [bne_iff_ne];omega
   rcases he:o.dep.aV o.e_ with _ | _ <;> rw [he] at cC
   ·refine SW.g1 [0,1,2,3,4,5] mixed (And.intro (e0) (e1)) cC ?_
    refine ⟨⟨false,by unfold lJ;rw [if_neg h0,he]⟩,?_⟩
    exact bk.mk (And.intro jg crn)
   ·refine SW.g1 [0,1,2,3,4,5] mixed (And.intro (e0) (e1)) cC ?_
    refine ⟨⟨true,by unfold lJ;rw [if_neg h0,he]⟩,?_⟩
    exact bk.mk (And.intro jg crn)
 rintro ⟨b,hb⟩
 dsimp only
 refine SW.seq (SW.lp ?_)
 rcases b with _ | _
 ·refine aK.runs (c_:=[]) (by rfl) (by simp) ?_
  refine SW.ret ?_
  exact fin _ _ _ false rfl (by unfold fz;rw [← hb];rfl)
 have hsub:HSub ([(1,.box 5 [.d (.int .u8 h)])]:Hp) (rE o h):=HSub.cons rfl (HSub.nil _)
 have hm0:bn false (rE o h) [] []=rE o h:=rfl
 have hm1:bn false (rE o h) [(1,.box 5 [.d (.int .u8 h)])] [(1,.box 5 [.d (.int .u8 h)])]=rE o h:=rfl
 (repeat (first | refine aK.op U (h:= ?_) | refine aK.aL U (h:= ?_) | refine aK.skip (h:= ?_)))
 refine aK.mE rfl (kI o o.gZ hw.gZ 2) (HSub.nil _) hm0 rfl rfl rfl ?_
 refine aK.mE rfl (oL 1 2 (by decide) h 1 (o.dep.aV o.gZ)) hsub hm1 rfl rfl rfl ?_
 rcases h1:(hasB h 1 || o.dep.aV o.gZ) with _ | _
 ·refine aK.runs (c_:=[]) (by rfl) (by simp) ?_
  refine SW.ret ?_
  exact fin _ _ _ false rfl (by unfold fz;rw [h1];simp)
 (repeat (first | refine aK.op U (h:= ?_) | refine aK.aL U (h:= ?_) | refine aK.skip (h:= ?_)))
 refine aK.mE rfl (kI o o.at_ hw.at_ 2) (HSub.nil _) hm0 rfl rfl rfl ?_
 refine aK.mE rfl (oL 1 2 (by decide) h 4 (o.dep.aV o.at_)) hsub hm1 rfl rfl rfl ?_
 rcases h2:(hasB h 4 || o.dep.aV o.at_) with _ | _
 ·refine aK.runs (c_:=[]) (by rfl) (by simp) ?_
  refine SW.ret ?_
  exact fin _ _ _ false rfl (by unfold fz;rw [h2];simp)
 (repeat (first | refine aK.op U (h:= ?_) | refine aK.aL U (h:= ?_) | refine aK.skip (h:= ?_)))
 refine aK.mE rfl (kI o o.ij hw.ij 2) (HSub.nil _) hm0 rfl rfl rfl ?_
 refine aK.mE rfl (oL 1 2 (by decide) h 8 (o.dep.aV o.ij)) hsub hm1 rfl rfl rfl ?_
 rcases h3:(hasB h 8 || o.dep.aV o.ij) with _ | _
 ·refine aK.runs (c_:=[]) (by rfl) (by simp) ?_
  refine SW.ret ?_
  exact fin _ _ _ false rfl (by unfold fz;rw [h3];simp)
 (repeat (first | refine aK.op U (h:= ?_) | refine aK.aL U (h:= ?_) | refine aK.skip (h:= ?_)))
 refine aK.join (α:={g:Bool // g=kJ o}) 19 (fun g=>⟨[(81,bl g.1),(58,rF),(57,.d (.bool true)),(4,rF),(1,.ptr 0 0)],rE o h,2⟩) ?_ ?_
 ·intro K' tl
  rcases g1:decide ((o.to:Int)>0) with _ | _
  ·
   (repeat (first | refine aK.op U (h:= ?_) | refine aK.aL U (h:= ?_) | refine aK.skip (h:= ?_)))
   refine tl ⟨false,by unfold kJ;rw [g1];rfl⟩ _ ?_
   exact bk.mk (And.intro jg crn)
  (repeat (first | refine aK.op (g1) (h:= ?_) | refine aK.aL (g1) (h:= ?_) | refine aK.skip (h:= ?_)))
  rcases g2:decide ((o.dK:Int)>0) with _ | _
  ·
   (repeat (first | refine aK.op U (h:= ?_) | refine aK.aL U (h:= ?_) | refine aK.skip (h:= ?_)))
   refine tl ⟨false,by unfold kJ;rw [g1,g2];rfl⟩ _ ?_
   exact bk.mk (And.intro jg crn)
  (repeat (first | refine aK.op (g2) (h:= ?_) | refine aK.aL (g2) (h:= ?_) | refine aK.skip (h:= ?_)))
  rcases g3:decide ((o.dK:Int)≤7) with _ | _
  ·
   (repeat (first | refine aK.op U (h:= ?_) | refine aK.aL U (h:= ?_) | refine aK.skip (h:= ?_)))
   refine tl ⟨false,by unfold kJ;rw [g1,g2,g3];rfl⟩ _ ?_
   exact bk.mk (And.intro jg crn)
  (repeat (first | refine aK.op (g3) (h:= ?_) | refine aK.aL (g3) (h:= ?_) | refine aK.skip (h:= ?_)))
  rcases g4:decide ((o.depth:Int)<8) with _ | _
  ·
   (repeat (first | refine aK.op U (h:= ?_) | refine aK.aL U (h:= ?_) | refine aK.skip (h:= ?_)))
   refine tl ⟨false,by unfold kJ;rw [g1,g2,g3,g4];rfl⟩ _ ?_
   exact bk.mk (And.intro jg crn)
  (repeat (first | refine aK.op (g4) (h:= ?_) | refine aK.aL (g4) (h:= ?_) | refine aK.skip (h:= ?_)))
  refine tl ⟨decide ((o.cap:Int)≤1099511627776),by unfold kJ;rw [g1,g2,g3,g4];rfl⟩ _ ?_
  exact bk.mk (And.intro jg crn)
 rintro ⟨g,hg⟩
 dsimp only [List.drop]
 refine aK.mE rfl (oL 1 2 (by decide) h 2 g) hsub hm1 rfl rfl rfl ?_
 rcases h4:(hasB h 2 || g) with _ | _
 ·refine aK.runs (c_:=[]) (by rfl) (by simp) ?_
  refine SW.ret ?_
  exact fin _ _ _ false rfl (by unfold fz;rw [← hg,h4];simp)
 (repeat (first | refine aK.op U (h:= ?_) | refine aK.aL U (h:= ?_) | refine aK.skip (h:= ?_)))
 refine aK.join (α:={g:Bool // g=zw o}) 4 (fun g=>⟨[(93,bl g.1),(85,rF),(84,.d (.bool true)),(4,rF),(1,.ptr 0 0)],rE o h,2⟩) ?_ ?_
 ·intro K' tl
  rcases g1:decide ((o.qz:Int)>0) with _ | _
  ·
   (repeat (first | refine aK.op U (h:= ?_) | refine aK.aL U (h:= ?_) | refine aK.skip (h:= ?_)))
   refine tl ⟨false,by unfold zw;rw [g1];rfl⟩ _ ?_
   exact bk.mk (And.intro jg crn)
  (repeat (first | refine aK.op (g1) (h:= ?_) | refine aK.aL (g1) (h:= ?_) | refine aK.skip (h:= ?_)))
  refine tl ⟨decide ((o.qz:Int)≤65535),by unfold zw;rw [g1];rfl⟩ _ ?_
  exact bk.mk (And.intro jg crn)
 rintro ⟨q,hq⟩
 dsimp only [List.drop]
 refine aK.mE rfl (oL 1 2 (by decide) h 32 q) hsub hm1 rfl rfl rfl ?_
 rcases h5:(hasB h 32 || q) with _ | _
 ·refine aK.runs (c_:=[]) (by rfl) (by simp) ?_
  refine SW.ret ?_
  exact fin _ _ _ false rfl (by unfold fz;rw [← hg,← hq,h5];simp)
 (repeat (first | refine aK.op U (h:= ?_) | refine aK.aL U (h:= ?_) | refine aK.skip (h:= ?_)))
 rcases h6:decide ((o.gr:Int)≤16777215) with _ | _
 ·refine aK.runs (c_:=[]) (by rfl) (by simp) ?_
  refine SW.ret ?_
  exact fin _ _ _ false rfl (by unfold fz;rw [← hg,← hq,h6];simp)
 (repeat (first | refine aK.op U (h:= ?_) | refine aK.aL U (h:= ?_) | refine aK.skip (h:= ?_)))
 refine aK.mE rfl (zu o hw.jf hw.cl 2) (HSub.nil _) hm0 rfl rfl rfl ?_
 refine aK.mE rfl (oL 1 2 (by decide) h 64 (ic o o.cl)) hsub hm1 rfl rfl rfl ?_
 (repeat (first | refine aK.op U (h:= ?_) | refine aK.aL U (h:= ?_) | refine aK.skip (h:= ?_)))
 refine aK.nil (SW.ret ?_)
 exact fin _ _ _ _ rfl (by unfold fz;rw [← hb,← hg,← hq,h1,h2,h3,h4,h5,h6];simp)
end
section
attribute [local irreducible] SW RW bB SC ai aa
def vJ (n:Nat)(v:ag):Bool:=decide (ag.upto n v ag.zero=v)
def w_ (n:Nat)(o:ah):Bool:=decide (o.dot.r<n) && (decide (o.dot.n≠0) && decide (o.dep.get o.dot.r+1=o.dot.n))
def o_ (n:Nat)(o:ah):Bool:=vJ n o.dep && (decide ((o.time:Int)>0) && (decide ((o.time:Int)≤281474976710656) && (decide ((o.who:Int)>0) && decide ((o.kind:Int)≤8))))
def kQ (n:Nat)(o:ah):Bool:=w_ n o && o_ n o
theorem zx (o:ah){n:Nat}(h:n≤8):bV ag.zero.cells 0 (List.take (n - 0) (List.drop 2 o.cells))=(ag.upto n o.dep ag.zero).cells:=by
 match n,h with
 | 0,_ | 1,_ | 2,_ | 3,_ | 4,_ | 5,_ | 6,_ | 7,_ | 8,_=>rfl
set_option maxRecDepth 100000 in
set_option maxHeartbeats 16000000 in
theorem Ca (o:ah)(n:Nat)(tY:1≤n)(HP:n≤8)(hr:o.dot.r<256)(hn:o.dot.n<4294967296):Go.Sl.Pure Tryz.prog op_head.f [.agg o.cells,i64 n] (bl (kQ n o)):=by
  refine op_head.enter (by first | rfl | simp [SV.ok,SV.aF]) (by first | rfl | simp [Hp.ok,Ob.ok,SV.ok,SV.aF,ag.an]) (by simp) ?_
  dsimp only [op_head.s,Co.M,Co.G,Co.J,Co.H,Co.N,Co.F,Co.C,Co.Z,Co.B,Co.b8,Co.aJ,Co.b_,Co.i6,Co.z8,Co.cn]
  have jg:∀ o:ah,SV.aF (fun n=>decide (n<1)) o.cells=true:=fun o=>ah.an o _
  have crn:∀ o:ah,SV.aM id o.cells=o.cells:=fun o=>SV.aH _
  have fin:∀ (env:List (Nat×SV)) (hp:Hp) (kk:Nat) (b:Bool),env.lookup 4=some (bl b)→kQ n o=b→Go.Sl.Fin 0 0 op_head.rv (fun r F=>r=bl (kQ n o)∧F=[]) ⟨env,hp,kk⟩:=fun env hp kk b he hb=>by
    rw [hb]
    exact End.mk [] (h1:=by show pT _ [.tmp 4]=_;simp only [pT,he];rfl) (h2:=by trivial) (h4:=⟨rfl,rfl⟩) (h5:=rfl) (h7:=Nat.zero_le _)
  refine SW.seq ?_
  refine SW.g0 [0,1,2,4,5,30] mixed U ?_
  have e1:IntKind.i64.wrap (o.dot.r:Int)=(o.dot.r:Int):=wrap_i64 o.dot.r (by omega)
  refine SW.seq ?_
  refine SW.gE (α:={b:Bool // b=w_ n o}) (fun b=>⟨[(30,bl (!b.1)),(1,i64 n),(2,.ptr 0 0)],[(0,.box 51 o.cells)],1⟩) ?_ ?_
  · by_cases h1:o.dot.r<n
    · have d1:decide ((o.dot.r:Int)≥n)=false:=by simp only [decide_eq_false_iff_not];omega
      by_cases h2:o.dot.n=0
      · have d2:((o.dot.n:Int) == 0)=true:=by rw [h2];rfl
        refine SW.g0 [0,1,2,4,5,30] mixed (And.intro (e1) (And.intro (d1) (d2))) ?_
        refine ⟨⟨false,by unfold w_;simp [h2]⟩,?_⟩
        exact bk.mk (And.intro jg crn)
      · have d2:((o.dot.n:Int) == 0)=false:=by rw [beq_eq_false_iff_ne];omega
        have i1:((o.dot.r:Int)<0)=False:=by simp
        have i2:o.dot.r<8:=by omega
        have g1:=yd o i2
        have w1:IntKind.u32.wrap ((o.dot.n:Int) - 1)=((o.dot.n - 1:Nat):Int):=by
          have:(o.dot.n:Int) - 1=((o.dot.n - 1:Nat):Int):=by omega
          rw [this];exact wrap_u32 _ (by omega)
        rcases h3:decide (o.dep.get o.dot.r+1=o.dot.n) with _ | _
        · have d3:((o.dep.get o.dot.r:Int) != ((o.dot.n - 1:Nat):Int))=true:=by
            rw [bne_iff_ne]
            have:=of_decide_eq_false h3
            omega
          refine SW.g0 [0,1,2,4,5,30] mixed (And.intro (e1) (And.intro (d1) (And.intro (d2) (And.intro (i1) (And.intro (i2) (And.intro (g1) (And.intro (w1) (d3)))))))) ?_
          refine ⟨⟨false,by unfold w_;simp [h3]⟩,?_⟩
          exact bk.mk (And.intro jg crn)
        · have d3:((o.dep.get o.dot.r:Int) != ((o.dot.n - 1:Nat):Int))=false:=by
            have:=of_decide_eq_true h3
            rw [bne_eq_false_iff_eq]
            omega
          refine SW.g0 [0,1,2,4,5,30] mixed (And.intro (e1) (And.intro (d1) (And.intro (d2) (And.intro (i1) (And.intro (i2) (And.intro (g1) (And.intro (w1) (d3)))))))) ?_
          refine ⟨⟨true,by unfold w_;simp [h3,h1,h2]⟩,?_⟩
          exact bk.mk (And.intro jg crn)
    · have d1:decide ((o.dot.r:Int)≥n)=true:=by simp only [decide_eq_true_eq];omega
      refine SW.g0 [0,1,2,4,5,30] mixed (And.intro (e1) (d1)) ?_
      refine ⟨⟨false,by unfold w_;simp [h1]⟩,?_⟩
      exact bk.mk (And.intro jg crn)
  rintro ⟨b,hb⟩
  dsimp only
  rcases b with _ | _
  · refine SW.aC rfl (SW.seq ?_)
    refine SW.g0 [0,1,2,4,5,30] mixed U ?_
    refine SW.ret ?_
    exact fin _ _ _ false rfl (by unfold kQ;rw [← hb];rfl)
  refine SW.ay rfl (SW.skip ?_)
  refine SW.seq ?_
  refine SW.g0 [0,1,2,4,5,30] mixed U ?_
  refine SW.seq ?_
  have b1:((n:Int)<0)=False:=by simp
  have b2:n≤8:=HP
  have b3:((n:Int)≤8)=True:=by simp;omega
  refine SW.g0 [0,1,2,4,5,30] mixed (And.intro (b1) (And.intro (b2) (b3))) ?_
  rw [zx o HP]
  refine SW.seq (SW.lp ?_)
  have q1:=ag.dX (ag.upto n o.dep ag.zero) o.dep
  have f0:∀ st':St,o_ n o=false→st'.env.lookup 4=some (bl false)→Go.Sl.Fin 0 0 op_head.rv (fun r F=>r=bl (kQ n o)∧F=[]) st':=fun st' h e=>fin st'.env st'.hp st'.k false e (by unfold kQ;rw [h,Bool.and_false])
  (repeat (first | refine aK.op (q1) (h:= ?_) | refine aK.aL (q1) (h:= ?_) | refine aK.skip (h:= ?_)))
  rcases g0:decide (ag.upto n o.dep ag.zero=o.dep) with _ | _
  · refine aK.runs (c_:=[]) (by rfl) (by simp) ?_
    refine SW.ret ?_
    exact f0 _ (by unfold o_ vJ;rw [g0];rfl) rfl
  (repeat (first | refine aK.op U (h:= ?_) | refine aK.aL U (h:= ?_) | refine aK.skip (h:= ?_)))
  rcases g1:decide ((o.time:Int)>0) with _ | _
  · refine aK.runs (c_:=[]) (by rfl) (by simp) ?_
    refine SW.ret ?_
    exact f0 _ (by unfold o_ vJ;rw [g0,g1];rfl) rfl
  (repeat (first | refine aK.op U (h:= ?_) | refine aK.aL U (h:= ?_) | refine aK.skip (h:= ?_)))
  rcases g2:decide ((o.time:Int)≤281474976710656) with _ | _
  · refine aK.runs (c_:=[]) (by rfl) (by simp) ?_
    refine SW.ret ?_
    exact f0 _ (by unfold o_ vJ;rw [g0,g1,g2];rfl) rfl
  (repeat (first | refine aK.op U (h:= ?_) | refine aK.aL U (h:= ?_) | refine aK.skip (h:= ?_)))
  rcases g3:decide ((o.who:Int)>0) with _ | _
  · refine aK.runs (c_:=[]) (by rfl) (by simp) ?_
    refine SW.ret ?_
    exact f0 _ (by unfold o_ vJ;rw [g0,g1,g2,g3];rfl) rfl
  (repeat (first | refine aK.op U (h:= ?_) | refine aK.aL U (h:= ?_) | refine aK.skip (h:= ?_)))
  refine aK.nil (SW.ret ?_)
  exact fin _ _ _ _ rfl (by unfold kQ o_ vJ;rw [← hb,g0,g1,g2,g3];rfl)
theorem Cb (o:ah)(n:Nat)(tY:1≤n)(HP:n≤8)(hr:o.dot.r<256)(hn:o.dot.n<4294967296)(k:Nat):bB Tryz.prog op_head.f [.agg o.cells,i64 n] [] k 0 (bl (kQ n o)) []:=(Ca o n tY HP hr hn).sc rfl k
theorem Cc (o:ah)(hk:o.kind<9)(hw:Io o)(k:Nat):bB Tryz.prog op_right.f [.agg o.cells] [] k 0 (bl (fz (dV o.kind) o)) []:=(B_ o hk hw).sc rfl k
end
section
attribute [local irreducible] SW RW bB SC ai aa
def CC (a b:ah):Bool:=((a.dot.r:Int) == b.dot.r) && (((a.dot.n:Int) == b.dot.n) && (
 ((a.dep.a0:Int) == b.dep.a0) && (((a.dep.a1:Int) == b.dep.a1) && (((a.dep.a2:Int) == b.dep.a2) && (((a.dep.a3:Int) == b.dep.a3) && (((a.dep.a4:Int) == b.dep.a4) && (((a.dep.a5:Int) == b.dep.a5) && (((a.dep.a6:Int) == b.dep.a6) && (((a.dep.a7:Int) == b.dep.a7) && (((a.time:Int) == b.time) && (((a.who:Int) == b.who) && (((a.e_.r:Int) == b.e_.r) && (((a.e_.n:Int) == b.e_.n) && (((a.kind:Int) == b.kind) && (((a.gZ.r:Int) == b.gZ.r) && (((a.gZ.n:Int) == b.gZ.n) && (((a.to:Int) == b.to) && (((a.dK:Int) == b.dK) && (((a.depth:Int) == b.depth) && (((a.cap:Int) == b.cap) && (((a.at_.r:Int) == b.at_.r) && (((a.at_.n:Int) == b.at_.n) && (((a.ij.r:Int) == b.ij.r) && (((a.ij.n:Int) == b.ij.n) && (((a.item:Int) == b.item) && (((a.qz:Int) == b.qz) && (((a.gr:Int) == b.gr) && true)))))))))))))))))))))))))))
set_option maxRecDepth 100000 in
theorem kK (a b:ah):E2 a b=CC a b:=by kernel_rfl
theorem F7 {k:Nat}(hk:k<9):hasB (dV k) 1= !decide (99∈eH k)∧hasB (dV k) 2= !decide (116∈eH k)∧hasB (dV k) 4= !decide (97∈eH k)∧hasB (dV k) 8= !decide (118∈eH k)∧hasB (dV k) 32= !decide (113∈eH k)∧hasB (dV k) 64= !decide (108∈eH k):=by
 match k,hk with
 | 0,_ | 1,_ | 2,_ | 3,_ | 4,_ | 5,_ | 6,_ | 7,_ | 8,_=>decide
def je (h:Int)(o:ah):Bool:=if hasB h 64 then decide (o.cl.length=0) else true
def fP (h:Int)(o:ah):Bool:=E2 (gA h o) o && je h o
theorem D6 (d:Dt):d=(⟨0,0⟩:Dt)↔d.r=0∧d.n=0:=by
 obtain ⟨r,n⟩:=d
 simp
theorem F8 (o:ah):fP 0 o=zeroV (eH 0) o o.cl.length:=by
 have f1:hasB 0 1=true:=by decide
 have f2:hasB 0 2=true:=by decide
 have f4:hasB 0 4=true:=by decide
 have f8:hasB 0 8=true:=by decide
 have f16:hasB 0 16=true:=by decide
 have f32:hasB 0 32=true:=by decide
 have f64:hasB 0 64=true:=by decide
 rw [Bool.eq_iff_iff]
 unfold fP je gA jw jx jy jA jB jC jD
 simp only [kK,f1,f2,f4,f8,f16,f32,f64,if_true,if_false,Bool.false_eq_true,CC,beq_self_eq_true,Bool.true_and,Bool.and_true]
 simp [zeroV,eH,rT,D6]
 try omega
theorem F9 (o:ah):fP 3 o=zeroV (eH 1) o o.cl.length:=by
 have f1:hasB 3 1=false:=by decide
 have f2:hasB 3 2=false:=by decide
 have f4:hasB 3 4=true:=by decide
 have f8:hasB 3 8=true:=by decide
 have f16:hasB 3 16=true:=by decide
 have f32:hasB 3 32=true:=by decide
 have f64:hasB 3 64=true:=by decide
 rw [Bool.eq_iff_iff]
 unfold fP je gA jw jx jy jA jB jC jD
 simp only [kK,f1,f2,f4,f8,f16,f32,f64,if_true,if_false,Bool.false_eq_true,CC,beq_self_eq_true,Bool.true_and,Bool.and_true]
 simp [zeroV,eH,rT,D6]
 try omega
theorem F_ (o:ah):fP 5 o=zeroV (eH 2) o o.cl.length:=by
 have f1:hasB 5 1=false:=by decide
 have f2:hasB 5 2=true:=by decide
 have f4:hasB 5 4=false:=by decide
 have f8:hasB 5 8=true:=by decide
 have f16:hasB 5 16=true:=by decide
 have f32:hasB 5 32=true:=by decide
 have f64:hasB 5 64=true:=by decide
 rw [Bool.eq_iff_iff]
 unfold fP je gA jw jx jy jA jB jC jD
 simp only [kK,f1,f2,f4,f8,f16,f32,f64,if_true,if_false,Bool.false_eq_true,CC,beq_self_eq_true,Bool.true_and,Bool.and_true]
 simp [zeroV,eH,rT,D6]
 try omega
theorem Ga (o:ah):fP 49 o=zeroV (eH 3) o o.cl.length:=by
 have f1:hasB 49 1=false:=by decide
 have f2:hasB 49 2=true:=by decide
 have f4:hasB 49 4=true:=by decide
 have f8:hasB 49 8=true:=by decide
 have f16:hasB 49 16=false:=by decide
 have f32:hasB 49 32=false:=by decide
 have f64:hasB 49 64=true:=by decide
 rw [Bool.eq_iff_iff]
 unfold fP je gA jw jx jy jA jB jC jD
 simp only [kK,f1,f2,f4,f8,f16,f32,f64,if_true,if_false,Bool.false_eq_true,CC,beq_self_eq_true,Bool.true_and,Bool.and_true]
 simp [zeroV,eH,rT,D6]
 try omega
theorem Gb (o:ah):fP 37 o=zeroV (eH 4) o o.cl.length:=by
 have f1:hasB 37 1=false:=by decide
 have f2:hasB 37 2=true:=by decide
 have f4:hasB 37 4=false:=by decide
 have f8:hasB 37 8=true:=by decide
 have f16:hasB 37 16=true:=by decide
 have f32:hasB 37 32=false:=by decide
 have f64:hasB 37 64=true:=by decide
 rw [Bool.eq_iff_iff]
 unfold fP je gA jw jx jy jA jB jC jD
 simp only [kK,f1,f2,f4,f8,f16,f32,f64,if_true,if_false,Bool.false_eq_true,CC,beq_self_eq_true,Bool.true_and,Bool.and_true]
 simp [zeroV,eH,rT,D6]
 try omega
theorem Gc (o:ah):fP 5 o=zeroV (eH 5) o o.cl.length:=by
 have f1:hasB 5 1=false:=by decide
 have f2:hasB 5 2=true:=by decide
 have f4:hasB 5 4=false:=by decide
 have f8:hasB 5 8=true:=by decide
 have f16:hasB 5 16=true:=by decide
 have f32:hasB 5 32=true:=by decide
 have f64:hasB 5 64=true:=by decide
 rw [Bool.eq_iff_iff]
 unfold fP je gA jw jx jy jA jB jC jD
 simp only [kK,f1,f2,f4,f8,f16,f32,f64,if_true,if_false,Bool.false_eq_true,CC,beq_self_eq_true,Bool.true_and,Bool.and_true]
 simp [zeroV,eH,rT,D6]
 try omega
theorem Gd (o:ah):fP 13 o=zeroV (eH 6) o o.cl.length:=by
 have f1:hasB 13 1=false:=by decide
 have f2:hasB 13 2=true:=by decide
 have f4:hasB 13 4=false:=by decide
 have f8:hasB 13 8=false:=by decide
 have f16:hasB 13 16=true:=by decide
 have f32:hasB 13 32=true:=by decide
 have f64:hasB 13 64=true:=by decide
 rw [Bool.eq_iff_iff]
 unfold fP je gA jw jx jy jA jB jC jD
 simp only [kK,f1,f2,f4,f8,f16,f32,f64,if_true,if_false,Bool.false_eq_true,CC,beq_self_eq_true,Bool.true_and,Bool.and_true]
 simp [zeroV,eH,rT,D6]
 try omega
theorem Ge (o:ah):fP 13 o=zeroV (eH 7) o o.cl.length:=by
 have f1:hasB 13 1=false:=by decide
 have f2:hasB 13 2=true:=by decide
 have f4:hasB 13 4=false:=by decide
 have f8:hasB 13 8=false:=by decide
 have f16:hasB 13 16=true:=by decide
 have f32:hasB 13 32=true:=by decide
 have f64:hasB 13 64=true:=by decide
 rw [Bool.eq_iff_iff]
 unfold fP je gA jw jx jy jA jB jC jD
 simp only [kK,f1,f2,f4,f8,f16,f32,f64,if_true,if_false,Bool.false_eq_true,CC,beq_self_eq_true,Bool.true_and,Bool.and_true]
 simp [zeroV,eH,rT,D6]
 try omega
theorem Gf (o:ah):fP 65 o=zeroV (eH 8) o o.cl.length:=by
 have f1:hasB 65 1=false:=by decide
 have f2:hasB 65 2=true:=by decide
 have f4:hasB 65 4=true:=by decide
 have f8:hasB 65 8=true:=by decide
 have f16:hasB 65 16=true:=by decide
 have f32:hasB 65 32=true:=by decide
 have f64:hasB 65 64=false:=by decide
 rw [Bool.eq_iff_iff]
 unfold fP je gA jw jx jy jA jB jC jD
 simp only [kK,f1,f2,f4,f8,f16,f32,f64,if_true,if_false,Bool.false_eq_true,CC,beq_self_eq_true,Bool.true_and,Bool.and_true]
 simp [zeroV,eH,rT,D6]
 try omega
theorem Cd (o:ah)(hk:o.kind<9):fP (dV o.kind) o=zeroV (eH o.kind) o o.cl.length:=by
 generalize o.kind=k at hk ⊢
 match k,hk with
 | 0,_=>exact F8 o
 | 1,_=>exact F9 o
 | 2,_=>exact F_ o
 | 3,_=>exact Ga o
 | 4,_=>exact Gb o
 | 5,_=>exact Gc o
 | 6,_=>exact Gd o
 | 7,_=>exact Ge o
 | 8,_=>exact Gf o
theorem D7 (n:Nat)(v:ag):vJ n v=true↔∀ r,n≤r→r<8→v.get r=0:=by
 unfold vJ
 rw [decide_eq_true_eq]
 constructor
 ·intro h r h1 h2
  rw [← h]
  simp [ag.upto,ag.kr _ h2,Nat.not_lt.2 h1,ag.k6]
 ·intro h
  refine ag.ext' fun r hr=> ?_
  simp only [ag.upto,ag.kr _ hr,ag.k6]
  split
  ·rfl
  ·rename_i hh
   exact (h r (by omega) hr).symm
theorem rD (n:Nat)(o:ah):kQ n o=true↔(o.dot.r<n∧0<o.dot.n∧o.dep.get o.dot.r+1=o.dot.n)∧(∀ r,n≤r→r<8→o.dep.get r=0)∧1≤o.time∧o.time≤281474976710656∧0<o.who∧o.kind≤8:=by
 unfold kQ w_ o_
 simp only [Bool.and_eq_true,D7,decide_eq_true_eq]
 constructor
 ·rintro ⟨⟨a,b,c⟩,d,e,f,g,h⟩
  exact ⟨⟨a,by omega,c⟩,d,by omega,by omega,by omega,by omega⟩
 ·rintro ⟨⟨a,b,c⟩,d,e,f,g,h⟩
  exact ⟨⟨a,by omega,c⟩,d,by omega,by omega,by omega,by omega⟩
theorem tj (o:ah)(hk:o.kind<9):fz (dV o.kind) o=true↔(o.kind=0→o.e_=o.dot)∧(o.kind≠0→o.dep.aV o.e_=true)∧(99∈eH o.kind→o.dep.aV o.gZ=true)∧(97∈eH o.kind→o.dep.aV o.at_=true)∧(118∈eH o.kind→o.dep.aV o.ij=true)∧(116∈eH o.kind→0<o.to∧1≤o.dK∧o.dK≤7∧o.depth≤7∧o.cap≤1099511627776)∧(113∈eH o.kind→1≤o.qz∧o.qz≤65535)∧o.gr≤16777215∧(108∈eH o.kind→ic o o.cl=true):=by
 obtain ⟨e1,e2,e4,e8,e32,e64⟩:=F7 hk
 have hg:kJ o=true↔0<o.to∧1≤o.dK∧o.dK≤7∧o.depth≤7∧o.cap≤1099511627776:=by
  unfold kJ
  simp only [Bool.and_eq_true,decide_eq_true_eq]
  omega
 have hq:zw o=true↔1≤o.qz∧o.qz≤65535:=by
  unfold zw
  simp only [Bool.and_eq_true,decide_eq_true_eq]
  omega
 have hs:lJ o=true↔(o.kind=0→o.e_=o.dot)∧(o.kind≠0→o.dep.aV o.e_=true):=by
  unfold lJ
  by_cases h:o.kind=0 <;> simp [h]
 have hp:decide ((o.gr:Int)≤16777215)=true↔o.gr≤16777215:=by
  rw [decide_eq_true_eq];omega
 have hor:∀ (p:Prop) [Decidable p] (b:Bool),(!decide p || b)=true↔(p→b=true):=fun p _ b=>by
  by_cases h:p <;> simp [h]
 unfold fz
 rw [e1,e2,e4,e8,e32,e64]
 simp only [Bool.and_eq_true,hor,hg,hq,hs,hp,and_assoc]
def rG (n:Nat)(o:ah):Bool:=kQ n o && (fP (dV o.kind) o && fz (dV o.kind) o)
theorem vK (n:Nat)(o:ah):rG n o=true↔Go.Sl.Form n o:=by
 unfold rG
 simp only [Bool.and_eq_true]
 constructor
 ·rintro ⟨h1,h2,h3⟩
  obtain ⟨⟨a,b,c⟩,d,e,f,g,h⟩:=(rD n o).1 h1
  rw [Cd o (by omega)] at h2
  obtain ⟨r1,r2,r3,r4,r5,r6,r7,r8,r9⟩:=(tj o (by omega)).1 h3
  exact ⟨a,b,c,e,f,g,h,h2,d,r1,r2,r3,r4,r5,r6,r7,r8,r9⟩
 ·intro hf
  refine ⟨(rD n o).2 ⟨⟨hf.r,hf.pos,hf.own⟩,hf.EB,hf.t1,hf.t2,hf.who,hf.kind⟩,?_,?_⟩
  ·rw [Cd o (by have:=hf.kind;omega)];exact hf.zero
  ·exact (tj o (by have:=hf.kind;omega)).2 ⟨hf.gen,hf.e_,hf.gZ,hf.at_,hf.ij,hf.Hf,hf.qz,hf.gr,hf.lines⟩
structure yg (o:ah):Prop where
 w:Io o
 dr:o.dot.r<256
 dn:o.dot.n<4294967296
set_option maxHeartbeats 4000000 in
theorem Ce (n:Int)(hn: -9223372036854775808≤n)(hn2:n≤9223372036854775807)(o:ah)(hw:yg o)(hlen:o.cl.length<4611686018427387904):Go.Sl.Pure Tryz.prog op_Check.f [.agg o.cells,i64 n] (i64 (eM n o)):=by
 refine op_Check.enter (by first | rfl | simp [SV.ok,SV.aF]) (by first | rfl | simp [Hp.ok,Ob.ok,SV.ok,SV.aF,ag.an]) (by simp) ?_
 dsimp only [op_Check.s,Co.M,Co.G,Co.J,Co.H,Co.N,Co.F,Co.C,Co.Z,Co.B,Co.b8,Co.aJ,Co.b_,Co.i6,Co.z8,Co.cn]
 refine SW.seq ?_
 refine SW.g0 [0,1,2,4,5,12] mixed U ?_
 have fin:∀ (env:List (Nat×SV)) (hp:Hp) (kk:Nat) (b:Int),env.lookup 4=some (i64 b)→eM n o=b→Go.Sl.Fin 0 0 op_Check.rv (fun r F=>r=i64 (eM n o)∧F=[]) ⟨env,hp,kk⟩:=fun env hp kk b he hb=>by
  rw [hb]
  exact End.mk [] (h1:=by show pT _ [.tmp 4]=_;simp only [pT,he];rfl) (h2:=by trivial) (h4:=⟨rfl,rfl⟩) (h5:=rfl) (h7:=Nat.zero_le _)
 refine SW.seq (SW.block (SW.seq ?_))
 by_cases h1:n<1
 ·have d1:decide (n<1)=true:=by simp [h1]
  refine SW.g0 [0,1,2,4,5,12] mixed (d1) ?_
  refine SW.aC rfl (SW.seq ?_)
  refine SW.g0 [0,1,2,4,5,12] mixed U ?_
  refine SW.ret ?_
  exact fin _ _ _ 2 rfl (by unfold eM;rw [if_pos (.inl h1)])
 have d1:decide (n<1)=false:=by simp [h1]
 by_cases h8:8<n
 ·have d2:decide (n>8)=true:=by simp;omega
  refine SW.g0 [0,1,2,4,5,12] mixed (And.intro (d1) (d2)) ?_
  refine SW.aC rfl (SW.seq ?_)
  refine SW.g0 [0,1,2,4,5,12] mixed U ?_
  refine SW.ret ?_
  exact fin _ _ _ 2 rfl (by unfold eM;rw [if_pos (.inr h8)])
 have d2:decide (n>8)=false:=by simp;omega
 refine SW.g0 [0,1,2,4,5,12] mixed (And.intro (d1) (d2)) ?_
 refine SW.ay rfl (SW.seq ?_)
 obtain ⟨m,rfl⟩:∃ m:Nat,n=m:=⟨n.toNat,by omega⟩
 have c0:eM (m:Int) o=if rG m o then 0 else 5:=by
  unfold eM
  rw [if_neg (by omega)]
  by_cases hf:Go.Sl.Form m o
  ·rw [if_pos (by rw [Int.toNat_natCast];exact hf),(vK m o).2 hf];rfl
  ·rw [if_neg (by rw [Int.toNat_natCast];exact hf),Bool.eq_false_iff.2 (fun h=>hf ((vK m o).1 h))];rfl
 have hH:=fun k=>Cb o m (by omega) (by omega) hw.dr hw.dn k
 have bad:∀ (env:List (Nat×SV)) (hp:Hp) (kk:Nat),rG m o=false→env.lookup 4=some (i64 5)→Go.Sl.Fin 0 0 op_Check.rv (fun r F=>r=i64 (eM (m:Int) o)∧F=[]) ⟨env,hp,kk⟩:=fun env hp kk hb he=>fin env hp kk 5 he (by rw [c0,hb];rfl)
 rcases hh:kQ m o with _ | _ <;> rw [hh] at hH
 ·refine SW.g1 [0,1,2,4,5,12] mixed U hH ?_
  refine SW.aC rfl (SW.seq ?_)
  refine SW.g0 [0,1,2,4,5,12] mixed U ?_
  refine SW.ret ?_
  exact bad _ _ _ (by unfold rG;rw [hh];rfl) rfl
 have hk:o.kind<9:=by have:=((rD m o).1 hh).2.2.2.2.2;omega
 have hB:=fun k=>D5 o hk k
 have hL:∀ k,bB Tryz.prog slices_Equal_Lapi_Claim_api_Claim.f [.d (gA (dV o.kind) o).lines,.d o.lines] [] k 0 (bl (je (dV o.kind) o)) []:=fun k=>by
  have hb:(gA (dV o.kind) o).lines=if hasB (dV o.kind) 64 then .aY else o.lines:=by
   unfold gA jD
   split
   ·rfl
   ·unfold jC;split <;> (unfold jB;split <;> (unfold jA;split <;> (unfold jy;split <;> (unfold jx;split <;> (unfold jw;split <;> rfl)))))
  rw [hb,hw.w.jf.eq]
  unfold je
  split
  ·exact B7 o.cl k
  ·exact zo o.cl hlen k
 have hS:=fun k=>B9 (gA (dV o.kind) o) o (je (dV o.kind) o) hL k
 have hR:=fun k=>Cc o hk hw.w k
 have e5:rG m o=((E2 (gA (dV o.kind) o) o && je (dV o.kind) o) && fz (dV o.kind) o):=by unfold rG fP;rw [hh,Bool.true_and]
 rw [e5] at c0 bad
 rcases hs:(E2 (gA (dV o.kind) o) o && je (dV o.kind) o) with _ | _ <;> rw [hs] at hS c0 bad
 ·refine SW.g4 [0,1,2,4,5,12] mixed U hH hB hS trivial ?_
  refine SW.aC rfl (SW.seq ?_)
  refine SW.g0 [0,1,2,4,5,12] mixed U ?_
  refine SW.ret ?_
  exact bad _ _ _ rfl rfl
 rcases hr:fz (dV o.kind) o with _ | _ <;> rw [hr] at hR c0 bad
 ·refine SW.g4 [0,1,2,4,5,12] mixed U hH hB hS hR ?_
  refine SW.aC rfl (SW.seq ?_)
  refine SW.g0 [0,1,2,4,5,12] mixed U ?_
  refine SW.ret ?_
  exact bad _ _ _ rfl rfl
 refine SW.g4 [0,1,2,4,5,12] mixed U hH hB hS hR ?_
 refine SW.ay rfl (SW.skip ?_)
 refine SW.seq ?_
 refine SW.g0 [0,1,2,4,5,12] mixed U ?_
 refine SW.ret ?_
 exact fin _ _ _ 0 rfl c0
theorem vL (n:Int)(hn: -9223372036854775808≤n)(hn2:n≤9223372036854775807)(o:ah)(hw:yg o)(hlen:o.cl.length<4611686018427387904)(k:Nat):bB Tryz.prog op_Check.f [.agg o.cells,i64 n] [] k 0 (i64 (eM n o)) []:=(Ce n hn hn2 o hw hlen).sc rfl k
end
end Go.Proofs.YtnakpdoioammhaaGreatDoor
