/-
 Operations' forms: which fields a kind has, and which letters a text has.
-/
import Derived.Test.YtaelhkkjgfobhaaGreatK6
import Derived.Test.YtaelhkkjgfobhaaGreatKV
import Derived.Test.YtaelhkkjgfobhaaGreatK5
import Derived.Test.YtaelhkkjgfobhaaGreatK4
import Derived.Test.YtaelhkkjgfobhaaGreatKA
set_option linter.unusedSectionVars false
set_option linter.unusedVariables false
set_option linter.unusedSimpArgs false
namespace Go.Proofs.YtaelhkkjgfobhaaGreat
open Go.Sl Go.Proofs
section
attribute [local irreducible] SW RW aM SC ak au
theorem K_ {P:Program}{env:List (Nat×SV)}{hp:Hp}{k d:Nat}{r:List SI}{K:St→List (Bool×List Nat)→Prop}{z:List SV}{ps:List (Nat×Nat×X)}
  (hz:z=[.d (.str []),.d (.str []),.d (.str []),.d (.str []),.d (.str []),.d (.str []),.d (.str []),.d (.str []),.d (.str [])])
  (oI:ps=[(0,1,.k (.d (.str []))),(1,1,.k (.d (.str [99,116,114,100,112]))),(2,1,.k (.d (.str [99,97]))),(3,1,.k (.d (.str [99,105,113,101]))),(4,1,.k (.d (.str [99,97,113]))),(5,1,.k (.d (.str [99,97]))),(6,1,.k (.d (.str [99,97,118]))),(7,1,.k (.d (.str [99,97,118]))),(8,1,.k (.d (.str [99,108])))])
  (h:RW P r ⟨(d,.d (.sl 9 (vU.map .str)))::env,hp,k⟩ fun st' ts=>K st' ((false,[])::ts)):RW P (⟨some d,.oU 9 1 9 z ps,none⟩::r) ⟨env,hp,k⟩ K:=by
 subst hz;subst oI
 refine RW.cons (e:=⟨.d (.sl 9 (vU.map .str)),[],[],0,_⟩) (fun de=>⟨.iB::de,fJ (.inl rfl) rfl⟩) ?_ ?_
 ·show 1=1∧0+1≤9∧1=1∧1+1≤9∧1=1∧2+1≤9∧1=1∧3+1≤9∧1=1∧4+1≤9∧1=1∧5+1≤9∧1=1∧6+1≤9∧1=1∧7+1≤9∧1=1∧8+1≤9∧True
  decide
 ·exact h
theorem Ep (kind:Nat)(Kj:kind<256):Go.Sl.Pure Tryz.prog ref05_Has.f [u8 kind] (.d (.str (aS kind))):=by
 refine ref05_Has.enter (by first | rfl | simp [SV.ok,SV.ay]) (by first | rfl | simp [Hp.ok,Ob.ok,SV.ok,SV.ay,aL.ai]) (by simp) ?_
 dsimp only [ref05_Has.s,Co.M,Co.G,Co.J,Co.H,Co.N,Co.F,Co.C,Co.Z,Co.B,Co.b8,Co.aB,Co.bL,Co.i6,Co.z8,Co.bU]
 refine SW.seq ?_
 refine SW.g0 [0,2,3,9] mixed af ?_
 refine SW.seq ?_
 (refine SW.dL [0,2,3,9] mixed ?_;(repeat (first | refine RW.ro af (h:= ?_) | refine RW.skip (h:= ?_) | refine RW.op af (h:= ?_) | refine RW.eF af (h:= ?_) | refine RW.bH (h:= ?_) | refine K_ rfl rfl (h:= ?_)));refine RW.nil ⟨by kernel_rfl,au.mk (h:= ?_)⟩)
 by_cases hk:kind<9
 ·have h1:decide ((kind:Int)≥9)=false:=by simp;omega
  have e5:(List.map SV.d (vU.map DV.str))[kind]? =some (.d (.str (aS kind))):=by
   have h9:kind<vU.length:=hk
   rw [List.getElem?_map,List.getElem?_map]
   unfold aS
   rw [List.getElem?_eq_getElem h9];rfl
  have e6:(List.map SV.d (vU.map DV.str)).length=9:=rfl
  have e7:(vU.map DV.str).length=9:=rfl
  generalize vU.map DV.str=row at e5 e6 e7 ⊢
  (repeat (first | refine SW.seq ?_ | refine SW.block ?_ | refine SW.g0 [0,2,3,9] mixed (And.intro (h1) (And.intro (e5) (And.intro (e6) (e7)))) ?_ | refine SW.skip ?_ | refine SW.exit ?_ | refine SW.ret ?_ | refine SW.ah rfl ?_ | refine SW.aj rfl ?_))
  exact End.mk [] (h4:=⟨rfl,rfl⟩)
 ·have h1:decide ((kind:Int)≥9)=true:=by simp;omega
  have e:aS kind=[]:=by
   unfold aS
   rw [List.getElem?_eq_none (by show 9≤kind;omega)];rfl
  rw [e]
  generalize vU.map DV.str=row
  (repeat (first | refine SW.seq ?_ | refine SW.block ?_ | refine SW.g0 [0,2,3,9] mixed (h1) ?_ | refine SW.skip ?_ | refine SW.exit ?_ | refine SW.ret ?_ | refine SW.ah rfl ?_ | refine SW.aj rfl ?_))
  exact End.mk [] (h4:=⟨rfl,rfl⟩)
theorem ji (kind:Nat)(Kj:kind<256)(k:Nat):aM Tryz.prog ref05_Has.f [u8 kind] [] k 0 (.d (.str (aS kind))) []:=(Ep kind Kj).sc rfl k
theorem It {s:List Nat}{i x:Nat}(h:s[i]? =some x):s.getD i 0=x:=by simp [h]
theorem Gj (s:List Nat)(hs:s.length<4611686018427387904)(c:Nat):Go.Sl.Pure Tryz.prog ref05_in.f [.d (.str s),u8 c] (bl (decide (c∈s))):=by
 refine ref05_in.enter (by first | rfl | simp [SV.ok,SV.ay]) (by first | rfl | simp [Hp.ok,Ob.ok,SV.ok,SV.ay,aL.ai]) (by simp) ?_
 dsimp only [ref05_in.s,Co.M,Co.G,Co.J,Co.H,Co.N,Co.F,Co.C,Co.Z,Co.B,Co.b8,Co.aB,Co.bL,Co.i6,Co.z8,Co.bU]
 refine SW.seq ?_
 refine SW.g0 [0,1,4,5,9,16] mixed af ?_
 refine SW.seq (SW.seq ?_)
 refine SW.g0 [0,1,4,5,9,16] mixed af ?_
 refine SW.block ?_
 refine SW.gR (α:={i:Nat // i≤s.length∧c∉s.take i}) (fun i=>⟨[(5,i64 i.1),(0,.d (.str s)),(1,u8 c)],[],0⟩) (fun i=>s.length - i.1) ⟨0,by omega,by simp⟩ id af (round:= ?_)
 rintro ⟨i,hi,hn⟩
 by_cases h:i<s.length
 ·have h1:decide ((i:Int)<s.length)=true:=by simp only [decide_eq_true_eq];omega
  obtain ⟨x,hx⟩:=br h
  have e2:IntKind.i64.wrap ((i:Int)+1)=((i+1:Nat):Int):=wrap_i64 _ (by omega)
  have e4:=It hx
  by_cases he:x=c
  ·have e3:((x:Int) == (c:Int))=true:=by rw [he];simp
   (repeat (first | refine SW.seq ?_ | refine SW.block ?_ | refine SW.g0 [0,1,4,5,9,16] mixed (And.intro (h1) (And.intro (e2) (And.intro (e3) (e4)))) ?_ | refine SW.skip ?_ | refine SW.exit ?_ | refine SW.ret ?_ | refine SW.ah rfl ?_ | refine SW.aj rfl ?_))
   have hm:c∈s:=by rw [← he];exact List.mem_of_getElem? hx
   exact End.mk [] (h4:=⟨by simp [eP,hm],rfl⟩)
  ·have e3:((x:Int) == (c:Int))=false:=by rw [Bool.eq_false_iff];intro h;have:=beq_iff_eq.mp h;omega
   (repeat (first | refine SW.seq ?_ | refine SW.block ?_ | refine SW.g0 [0,1,4,5,9,16] mixed (And.intro (h1) (And.intro (e2) (And.intro (e3) (e4)))) ?_ | refine SW.skip ?_ | refine SW.exit ?_ | refine SW.ret ?_ | refine SW.ah rfl ?_ | refine SW.aj rfl ?_))
   dsimp only
   exact ⟨⟨i+1,by omega,by rw [f_ hx];simp [hn];omega⟩,id,by show s.length - (i+1)<_;omega,aJ.mk af⟩
 ·have h1:decide ((i:Int)<s.length)=false:=by simp only [decide_eq_false_iff_not];omega
  (repeat (first | refine SW.seq ?_ | refine SW.block ?_ | refine SW.g0 [0,1,4,5,9,16] mixed (h1) ?_ | refine SW.skip ?_ | refine SW.exit ?_ | refine SW.ret ?_ | refine SW.ah rfl ?_ | refine SW.aj rfl ?_))
  rw [List.take_of_length_le (by omega)] at hn
  exact End.mk [] (h4:=⟨by simp [eP,hn],rfl⟩)
theorem aq (s:List Nat)(hs:s.length<4611686018427387904)(c:Nat)(k:Nat):aM Tryz.prog ref05_in.f [.d (.str s),u8 c] [] k 0 (bl (decide (c∈s))) []:=(Gj s hs c).sc rfl k
end
section
attribute [local irreducible] SW RW aM SC ak au
theorem jb (o:ag){r:Nat}(hr:r<8):o.cells[2+r]? =some (.d (.int .u32 (o.dep.get r))):=by
 match r,hr with
 | 0,_ | 1,_ | 2,_ | 3,_ | 4,_ | 5,_ | 6,_ | 7,_=>rfl
theorem Er (o:ag)(d:Dt):Go.Sl.Pure Tryz.prog ref05_Covers.f [.agg o.cells,.agg d.cells] (bl (o.dep.bB d)):=by
 refine ref05_Covers.enter (by first | rfl | simp [SV.ok,SV.ay]) (by first | rfl | simp [Hp.ok,Ob.ok,SV.ok,SV.ay,aL.ai]) (by simp) ?_
 dsimp only [ref05_Covers.s,Co.M,Co.G,Co.J,Co.H,Co.N,Co.F,Co.C,Co.Z,Co.B,Co.b8,Co.aB,Co.bL,Co.i6,Co.z8,Co.bU]
 refine SW.seq ?_
 refine SW.g0 [0,1,2,3,4] mixed af ?_
 by_cases hr:d.r<8
 ·have h1:decide ((d.r:Int)<8)=true:=by simp;omega
  by_cases hn:1≤d.n
  ·have h2:decide ((d.n:Int)≥1)=true:=by simp;omega
   have e:o.dep.bB d=decide (((o.dep.get d.r:Nat):Int)≥((d.n:Nat):Int)):=by
    unfold aL.bB Dt.may
    rw [Bool.eq_iff_iff]
    simp only [Bool.and_eq_true,decide_eq_true_eq]
    omega
   rw [e]
   refine SW.seq ?_
   refine SW.g0 [0,1,2,3,4] mixed (And.intro (h1) (And.intro (h2) (jb o hr))) ?_
   refine SW.ret ?_
   exact End.mk [] (h4:=⟨rfl,rfl⟩)
  ·have h2:decide ((d.n:Int)≥1)=false:=by simp;omega
   have e:o.dep.bB d=false:=by
    unfold aL.bB Dt.may
    rw [Bool.eq_false_iff]
    simp only [ne_eq,Bool.and_eq_true,decide_eq_true_eq]
    omega
   rw [e]
   refine SW.seq ?_
   refine SW.g0 [0,1,2,3,4] mixed (And.intro (h1) (h2)) ?_
   refine SW.ret ?_
   exact End.mk [] (h4:=⟨rfl,rfl⟩)
 ·have h1:decide ((d.r:Int)<8)=false:=by simp;omega
  have e:o.dep.bB d=false:=by
   unfold aL.bB Dt.may
   rw [Bool.eq_false_iff]
   simp only [ne_eq,Bool.and_eq_true,decide_eq_true_eq]
   omega
  rw [e]
  refine SW.seq ?_
  refine SW.g0 [0,1,2,3,4] mixed (h1) ?_
  refine SW.ret ?_
  exact End.mk [] (h4:=⟨rfl,rfl⟩)
theorem lF (o:ag)(d:Dt)(k:Nat):aM Tryz.prog ref05_Covers.f [.agg o.cells,.agg d.cells] [] k 0 (bl (o.dep.bB d)) []:=(Er o d).sc rfl k
end
section
attribute [local irreducible] SW RW aM SC ak au
set_option maxHeartbeats 2000000 in
theorem Es (l:List ag)(hl:l.length≤9223372036854775807)(d:Dt):Go.Sl.Pure Tryz.prog ref10_there.f [ops l,.agg d.cells] (.d (.int .i64 ((fK l d:Nat):Int))):=by
 refine ref10_there.enter (by first | rfl | simp [SV.ok,SV.ay]) (by first | rfl | simp [Hp.ok,Ob.ok,SV.ok,SV.ay,aL.ai]) (by simp) ?_
 dsimp only [ref10_there.s,Co.M,Co.G,Co.J,Co.H,Co.N,Co.F,Co.C,Co.Z,Co.B,Co.b8,Co.aB,Co.bL,Co.i6,Co.z8,Co.bU]
 refine SW.seq ?_
 refine SW.g0 [0,1,3,4,5,6,10,19] mixed af ?_
 refine SW.seq ?_
 refine SW.g0 [0,1,3,4,5,6,10,19] mixed af ?_
 refine SW.seq (SW.seq ?_)
 refine SW.g0 [0,1,3,4,5,6,10,19] mixed af ?_
 refine SW.block ?_
 refine SW.gR (α:={i:Nat // i≤l.length}) (fun i=>⟨[(6,i64 i.1),(5,.d (.int .i64 ((fK (l.take i.1) d:Nat):Int))),(0,ops l),(3,.ptr 0 0)],[(0,.box 37 d.cells)],1⟩) (fun i=>l.length - i.1) ⟨0,by omega⟩ id (And.intro (show fK [] d=0 from rfl) af) (round:= ?_)
 rintro ⟨i,hi⟩
 dsimp only
 have lP:fK (l.take i) d≤i:=Nat.le_trans List.countP_le_length (by simp;omega)
 by_cases h:i<l.length
 ·have h1:decide ((i:Int)<l.length)=true:=by simp only [decide_eq_true_eq];omega
  obtain ⟨x,hx⟩:=br h
  have e2:IntKind.i64.wrap ((i:Int)+1)=((i+1:Nat):Int):=wrap_i64 _ (by omega)
  have e1:l.take (i+1)=l.take i++[x]:=f_ hx
  have hsn:=AJ (l.take i) x d
  rw [← e1] at hsn
  generalize fK (l.take i) d=n at lP hsn
  have e3:IntKind.i64.wrap ((n:Int)+1)=((n+1:Nat):Int):=wrap_i64 _ (by omega)
  by_cases he:x.dot=d
  ·have e4:decide (x.dot=d)=true:=by simp [he]
   rw [if_pos he] at hsn
   (repeat (first | refine SW.seq ?_ | refine SW.block ?_ | refine SW.g0 [0,1,3,4,5,6,10,19] mixed (And.intro (h1) (And.intro (gA hx) (And.intro (fO hx) (And.intro (e2) (And.intro (e3) (e4)))))) ?_ | refine SW.skip ?_ | refine SW.exit ?_ | refine SW.ret ?_ | refine SW.ah rfl ?_ | refine SW.aj rfl ?_))
   dsimp only
   exact ⟨⟨i+1,by omega⟩,id,by show l.length - (i+1)<_;omega,aJ.mk (And.intro hsn af)⟩
  ·have e4:decide (x.dot=d)=false:=by simp [he]
   rw [if_neg he] at hsn
   (repeat (first | refine SW.seq ?_ | refine SW.block ?_ | refine SW.g0 [0,1,3,4,5,6,10,19] mixed (And.intro (h1) (And.intro (gA hx) (And.intro (fO hx) (And.intro (e2) (e4))))) ?_ | refine SW.skip ?_ | refine SW.exit ?_ | refine SW.ret ?_ | refine SW.ah rfl ?_ | refine SW.aj rfl ?_))
   dsimp only
   exact ⟨⟨i+1,by omega⟩,id,by show l.length - (i+1)<_;omega,aJ.mk (And.intro hsn af)⟩
 ·have h1:decide ((i:Int)<l.length)=false:=by simp only [decide_eq_false_iff_not];omega
  have h2:i=l.length:=by omega
  subst h2
  rw [List.take_length]
  (repeat (first | refine SW.seq ?_ | refine SW.block ?_ | refine SW.g0 [0,1,3,4,5,6,10,19] mixed (h1) ?_ | refine SW.skip ?_ | refine SW.exit ?_ | refine SW.ret ?_ | refine SW.ah rfl ?_ | refine SW.aj rfl ?_))
  exact End.mk [] (h4:=⟨rfl,rfl⟩)
theorem qf (l:List ag)(hl:l.length≤9223372036854775807)(d:Dt)(k:Nat):aM Tryz.prog ref10_there.f [ops l,.agg d.cells] [] k 0 (.d (.int .i64 ((fK l d:Nat):Int))) []:=(Es l hl d).sc rfl k
end
end Go.Proofs.YtaelhkkjgfobhaaGreat
namespace Go.Proofs.YtaelhkkjgfobhaaGreat
open Go.Sl Go.Proofs Go.RowKit
attribute [local irreducible] SW RW aM SC ak au
theorem GW {l:List Cm}{i:Nat}{x:Cm}(h:l[i]? =some x):List.take 4 (List.drop (i*4) (List.map SV.d (l.flatMap Cm.ds)))=x.line.cells++x.iK.cells:=by
 rw [← List.map_drop,← List.map_take,kO Cm.ds 4 (fun _=>rfl) l i x h]
 rfl
theorem j8 {l:List Cm}{i:Nat}{x:Cm}(h:l[i]? =some x):List.take 2 (List.drop (i*4) (List.map SV.d (l.flatMap Cm.ds)))=x.line.cells:=by
 have h1:List.take 2 (List.drop (i*4) (List.map SV.d (l.flatMap Cm.ds)))=(List.take 4 (List.drop (i*4) (List.map SV.d (l.flatMap Cm.ds)))).take 2:=by rw [List.take_take];rfl
 rw [h1,GW h];rfl
theorem yT {l:List Cm}{i:Nat}{x:Cm}(h:l[i]? =some x):List.take 2 (List.drop (i*4+2) (List.map SV.d (l.flatMap Cm.ds)))=x.iK.cells:=by
 have h1:List.take 2 (List.drop (i*4+2) (List.map SV.d (l.flatMap Cm.ds)))=(List.take 4 (List.drop (i*4) (List.map SV.d (l.flatMap Cm.ds)))).drop 2:=by rw [List.drop_take,List.drop_drop]
 rw [h1,GW h];rfl
theorem me {l:List Cm}{i:Nat}{x:Cm}(h:l[i]? =some x):(i*4+2≤(List.map SV.d (l.flatMap Cm.ds)).length)=True:=eq_true (by
 have:=bu h
 rw [List.length_map,vT]
 omega)
theorem x_ {l:List Cm}{i:Nat}{x:Cm}(h:l[i]? =some x):(i*4+2+2≤(List.map SV.d (l.flatMap Cm.ds)).length)=True:=eq_true (by
 have:=bu h
 rw [List.length_map,vT]
 omega)
theorem qY {o:ag}{cl:List Cm}{i:Nat}{x:Cm}(hx:cl[i]? =some x)(h:Hx o x (cl.take i)=false):iN o cl=false:=by
 unfold iN
 rw [Bool.and_eq_false_iff]
 refine .inr ?_
 rw [List.all_eq_false]
 refine ⟨i,List.mem_range.2 (bu hx),?_⟩
 unfold Ff
 rw [hx]
 simp [h]
set_option maxHeartbeats 4000000 in
theorem y2 (o:ag)(cl:List Cm)(hlen:cl.length≤9223372036854775807)(hl:o.lines= .sl cl.length (cl.flatMap Cm.ds)):Go.Sl.Pure Tryz.prog ref05_lines.f [.agg o.cells] (bl (iN o cl)):=by
  refine ref05_lines.enter (by first | rfl | simp [SV.ok,SV.ay]) (by first | rfl | simp [Hp.ok,Ob.ok,SV.ok,SV.ay,aL.ai]) (by simp) ?_
  dsimp only [ref05_lines.s,Co.M,Co.G,Co.J,Co.H,Co.N,Co.F,Co.C,Co.Z,Co.B,Co.b8,Co.aB,Co.bL,Co.i6,Co.z8,Co.bU]
  refine SW.seq ?_
  refine SW.g0 [0,1,2,3,4,14,19,41,44,59] mixed af ?_
  by_cases h1:cl.length<1
  · have e1:decide ((cl.length:Int)<1)=true:=by simp;omega
    have evl:iN o cl=false:=by unfold iN;rw [decide_eq_false (by omega)];rfl
    rw [evl]
    refine SW.seq (SW.seq ?_)
    refine SW.g0 [0,1,2,3,4,14,19,41,44,59] mixed (And.intro (hl) (e1)) ?_
    refine SW.ah rfl (SW.seq ?_)
    refine SW.g0 [0,1,2,3,4,14,19,41,44,59] mixed af ?_
    refine SW.ret ?_
    exact End.mk [] (h4:=⟨rfl,rfl⟩)
  have e1:decide ((cl.length:Int)<1)=false:=by simp;omega
  by_cases h2:16<cl.length
  · have e2:decide ((cl.length:Int)>16)=true:=by simp;omega
    have evl:iN o cl=false:=by unfold iN;rw [decide_eq_false (by omega)];rfl
    rw [evl]
    refine SW.seq (SW.seq ?_)
    refine SW.g0 [0,1,2,3,4,14,19,41,44,59] mixed (And.intro (hl) (And.intro (e1) (e2))) ?_
    refine SW.ah rfl (SW.seq ?_)
    refine SW.g0 [0,1,2,3,4,14,19,41,44,59] mixed af ?_
    refine SW.ret ?_
    exact End.mk [] (h4:=⟨rfl,rfl⟩)
  have e2:decide ((cl.length:Int)>16)=false:=by simp;omega
  refine SW.seq (SW.seq ?_)
  refine SW.g0 [0,1,2,3,4,14,19,41,44,59] mixed (And.intro (hl) (And.intro (e1) (e2))) ?_
  refine SW.aj rfl (SW.skip ?_)
  refine SW.seq (SW.seq ?_)
  refine SW.g0 [0,1,2,3,4,14,19,41,44,59] mixed af ?_
  refine SW.block ?_
  refine SW.gR (α:={i:Nat // i≤cl.length∧∀ j,j<i→Ff o cl j=true}) (fun i=>⟨[(3,i64 i.1),(1,.ptr 0 0)],[(0,.box 43 o.cells)],1⟩) (fun i=>cl.length - i.1) ⟨0,by omega,by omega⟩ id af (round:= ?_)
  rintro ⟨i,hi,hs⟩
  by_cases h:i<cl.length
  · obtain ⟨x,hx⟩:=br h
    have f1:decide ((i:Int)<cl.length)=true:=by simp;exact h
    have f2:IntKind.i64.wrap ((i:Int)+1)=((i+1:Nat):Int):=wrap_i64 _ (by omega)
    refine SW.seq (SW.seq ?_)
    refine SW.g0 [0,1,2,3,4,14,19,41,44,59] mixed (And.intro (hl) (f1)) ?_
    refine SW.ah rfl (SW.skip ?_)
    refine SW.seq (SW.block (SW.seq (SW.seq ?_)))
    have c1:=lF o x.line
    have c2:=lF o x.iK
    rcases g1:o.dep.bB x.line with _ | _
    · rw [qY hx (by unfold Hx;rw [g1];rfl)]
      rw [g1] at c1
      refine SW.g1 [0,1,2,3,4,14,19,41,44,59] mixed (And.intro (hl) (And.intro (j8 hx) (me hx))) c1 ?_
      refine SW.ah rfl ?_
      (repeat (first | refine SW.seq ?_ | refine SW.block ?_ | refine SW.g1 [0,1,2,3,4,14,19,41,44,59] mixed af c1 ?_ | refine SW.skip ?_ | refine SW.exit ?_ | refine SW.ret ?_ | refine SW.ah rfl ?_ | refine SW.aj rfl ?_))
      exact End.mk [] (h4:=⟨rfl,rfl⟩)
    rcases g2:o.dep.bB x.iK with _ | _
    · rw [qY hx (by unfold Hx;rw [g1,g2];rfl)]
      rw [g1] at c1
      rw [g2] at c2
      refine SW.g2 [0,1,2,3,4,14,19,41,44,59] mixed (And.intro (hl) (And.intro (j8 hx) (And.intro (me hx) (And.intro (yT hx) (x_ hx))))) c1 c2 ?_
      refine SW.ah rfl ?_
      (repeat (first | refine SW.seq ?_ | refine SW.block ?_ | refine SW.g2 [0,1,2,3,4,14,19,41,44,59] mixed af c1 c2 ?_ | refine SW.skip ?_ | refine SW.exit ?_ | refine SW.ret ?_ | refine SW.ah rfl ?_ | refine SW.aj rfl ?_))
      exact End.mk [] (h4:=⟨rfl,rfl⟩)
    rw [g1] at c1
    rw [g2] at c2
    refine SW.g2 [0,1,2,3,4,14,19,41,44,59] mixed (And.intro (hl) (And.intro (j8 hx) (And.intro (me hx) (And.intro (yT hx) (x_ hx))))) c1 c2 ?_
    refine SW.aj rfl (SW.skip ?_)
    refine SW.seq ?_
    refine SW.g0 [0,1,2,3,4,14,19,41,44,59] mixed af ?_
    refine SW.block ?_
    refine SW.gR (α:={k:Nat // k≤i∧∀ j y,j<k→cl[j]? =some y→y.line≠x.line}) (fun k=>⟨[(4,i64 k.1),(3,i64 i),(1,.ptr 0 0)],[(0,.box 43 o.cells)],1⟩) (fun k=>i - k.1) ⟨0,by omega,by omega⟩ id af (round:= ?_)
    rintro ⟨k,hk,hks⟩
    by_cases hki:k<i
    · obtain ⟨y,hy⟩:=br (show k<cl.length by omega)
      have k1:decide ((k:Int)<i)=true:=by simp;exact hki
      have k2:IntKind.i64.wrap ((k:Int)+1)=((k+1:Nat):Int):=wrap_i64 _ (by omega)
      refine SW.seq (SW.seq ?_)
      refine SW.g0 [0,1,2,3,4,14,19,41,44,59] mixed (k1) ?_
      refine SW.ah rfl (SW.skip ?_)
      refine SW.seq (SW.block (SW.seq ?_))
      by_cases hd:y.line=x.line
      · have k3:decide (y.line=x.line)=true:=decide_eq_true hd
        have hbad:Hx o x (cl.take i)=false:=by
          unfold Hx
          rw [g1,g2,Bool.true_and,Bool.true_and,List.all_eq_false]
          exact ⟨y,List.mem_of_getElem? (by rw [List.getElem?_take_of_lt hki];exact hy),by simp [hd]⟩
        rw [qY hx hbad]
        refine SW.g0 [0,1,2,3,4,14,19,41,44,59] mixed (And.intro (hl) (And.intro (j8 hx) (And.intro (me hx) (And.intro (j8 hy) (And.intro (me hy) (k3)))))) ?_
        refine SW.ah rfl ?_
        (repeat (first | refine SW.seq ?_ | refine SW.block ?_ | refine SW.g0 [0,1,2,3,4,14,19,41,44,59] mixed af ?_ | refine SW.skip ?_ | refine SW.exit ?_ | refine SW.ret ?_ | refine SW.ah rfl ?_ | refine SW.aj rfl ?_))
        exact End.mk [] (h4:=⟨rfl,rfl⟩)
      · have k3:decide (y.line=x.line)=false:=decide_eq_false hd
        refine SW.g0 [0,1,2,3,4,14,19,41,44,59] mixed (And.intro (hl) (And.intro (j8 hx) (And.intro (me hx) (And.intro (j8 hy) (And.intro (me hy) (k3)))))) ?_
        refine SW.aj rfl (SW.skip ?_)
        refine SW.g0 [0,1,2,3,4,14,19,41,44,59] mixed (k2) ?_
        dsimp only
        exact ⟨⟨k+1,by omega,fun j z hj hz=>by
          rcases Nat.lt_or_ge j k with hjk | hjk
          · exact hks j z hjk hz
          · have:j=k:=by omega
            subst this
            rw [hy] at hz;injection hz with hz;subst hz;exact hd⟩,id,by show i - (k+1)<_;omega,aJ.mk af⟩
    · have k1:decide ((k:Int)<i)=false:=by simp;omega
      (repeat (first | refine SW.seq ?_ | refine SW.block ?_ | refine SW.g0 [0,1,2,3,4,14,19,41,44,59] mixed (And.intro (k1) (f2)) ?_ | refine SW.skip ?_ | refine SW.exit ?_ | refine SW.ret ?_ | refine SW.ah rfl ?_ | refine SW.aj rfl ?_))
      dsimp only
      refine ⟨⟨i+1,by omega,fun j hj=> ?_⟩,id,by show cl.length - (i+1)<_;omega,aJ.mk af⟩
      rcases Nat.lt_or_ge j i with hji | hji
      · exact hs j hji
      · have:j=i:=by omega
        subst this
        unfold Ff
        rw [hx]
        dsimp only
        unfold Hx
        rw [g1,g2,Bool.true_and,Bool.true_and,List.all_eq_true]
        intro y hy
        obtain ⟨q,hq⟩:=List.mem_iff_getElem?.1 hy
        have hqj:q<j:=by
          have:=bu hq
          rw [List.length_take] at this;omega
        rw [List.getElem?_take_of_lt hqj] at hq
        have:=hks q y (by omega) hq
        simp [this]
  · have f1:decide ((i:Int)<cl.length)=false:=by simp;omega
    have evl:iN o cl=true:=by
      unfold iN
      rw [decide_eq_true (by omega),Bool.true_and,List.all_eq_true]
      intro j hj
      exact hs j (by have:=List.mem_range.1 hj;omega)
    rw [evl]
    (repeat (first | refine SW.seq ?_ | refine SW.block ?_ | refine SW.g0 [0,1,2,3,4,14,19,41,44,59] mixed (And.intro (hl) (f1)) ?_ | refine SW.skip ?_ | refine SW.exit ?_ | refine SW.ret ?_ | refine SW.ah rfl ?_ | refine SW.aj rfl ?_))
    exact End.mk [] (h4:=⟨rfl,rfl⟩)
theorem y3 (o:ag)(cl:List Cm)(hlen:cl.length≤9223372036854775807)(hl:o.lines= .sl cl.length (cl.flatMap Cm.ds))(k:Nat):aM Tryz.prog ref05_lines.f [.agg o.cells] [] k 0 (bl (iN o cl)) []:=(y2 o cl hlen hl).sc rfl k
end Go.Proofs.YtaelhkkjgfobhaaGreat
namespace Go.Proofs.YtaelhkkjgfobhaaGreat
open Go.Sl Go.Proofs
section
attribute [local irreducible] SW RW aM SC ak au
set_option maxHeartbeats 4000000 in
theorem Iu (o:ag)(nl:Nat)(cs:List DV)(hl:o.lines= .sl nl cs)(hk:o.kind<256)(hS:aS o.kind=[]):Go.Sl.Pure Tryz.prog ref05_zero.f [.agg o.cells] (bl (zeroV [] o nl)):=by
 have hh:=ji o.kind hk
 rw [hS] at hh
 have f0:decide (99∈([]:List Nat))=false:=by decide
 have i0:=aq [] (by decide) 99
 rw [f0] at i0
 have f1:decide (116∈([]:List Nat))=false:=by decide
 have i1:=aq [] (by decide) 116
 rw [f1] at i1
 have f2:decide (114∈([]:List Nat))=false:=by decide
 have i2:=aq [] (by decide) 114
 rw [f2] at i2
 have f3:decide (100∈([]:List Nat))=false:=by decide
 have i3:=aq [] (by decide) 100
 rw [f3] at i3
 have f4:decide (112∈([]:List Nat))=false:=by decide
 have i4:=aq [] (by decide) 112
 rw [f4] at i4
 have f5:decide (97∈([]:List Nat))=false:=by decide
 have i5:=aq [] (by decide) 97
 rw [f5] at i5
 have f6:decide (118∈([]:List Nat))=false:=by decide
 have i6:=aq [] (by decide) 118
 rw [f6] at i6
 have f7:decide (105∈([]:List Nat))=false:=by decide
 have i7:=aq [] (by decide) 105
 rw [f7] at i7
 have f8:decide (113∈([]:List Nat))=false:=by decide
 have i8:=aq [] (by decide) 113
 rw [f8] at i8
 have f9:decide (101∈([]:List Nat))=false:=by decide
 have i9:=aq [] (by decide) 101
 rw [f9] at i9
 have f10:decide (108∈([]:List Nat))=false:=by decide
 have i10:=aq [] (by decide) 108
 rw [f10] at i10
 refine ref05_zero.enter (by first | rfl | simp [SV.ok,SV.ay]) (by first | rfl | simp [Hp.ok,Ob.ok,SV.ok,SV.ay,aL.ai]) (by simp) ?_
 dsimp only [ref05_zero.s,Co.M,Co.G,Co.J,Co.H,Co.N,Co.F,Co.C,Co.Z,Co.B,Co.b8,Co.aB,Co.bL,Co.i6,Co.z8,Co.bU]
 have cz:=And.intro hh True.intro
 refine SW.seq ?_
 refine SW.g1 [0,1,2,3,4] mixed af hh ?_
 refine SW.seq ?_
 refine SW.g1 [0,1,2,3,4] mixed af hh ?_
 refine SW.seq ?_
 refine SW.g1 [0,1,2,3,4] mixed af hh ?_
 refine SW.seq ?_
 have cz:=And.intro i0 (And.intro i1 (And.intro i2 (And.intro i3 (And.intro i4 (And.intro i5 (And.intro i6 (And.intro i7 (And.intro i8 (And.intro i9 (And.intro i10 True.intro))))))))))
 refine SW.gB [0,1,2,3,4] mixed (hl) cz ?_
 rcases z0:decide (o.aK=(⟨0,0⟩:Dt)) with _ | _
 ·refine RW.gE (hl) cz ?_
  refine SW.ret ?_
  exact End.mk [] (h4:=⟨by simp only [zeroV,f0,f1,f2,f3,f4,f5,f6,f7,f8,f9,f10,z0,Bool.true_or,Bool.or_true,Bool.false_or,Bool.and_false,Bool.false_and,Bool.true_and,Bool.and_true,Bool.or_false];rfl,rfl⟩)
 refine RW.gG (hl) cz ?_
 rcases z1:((o.to:Int) == 0) with _ | _
 ·refine RW.gE (hl) cz ?_
  refine SW.ret ?_
  exact End.mk [] (h4:=⟨by simp only [zeroV,f0,f1,f2,f3,f4,f5,f6,f7,f8,f9,f10,z0,z1,Bool.true_or,Bool.or_true,Bool.false_or,Bool.and_false,Bool.false_and,Bool.true_and,Bool.and_true,Bool.or_false];rfl,rfl⟩)
 refine RW.gG (hl) cz ?_
 rcases z2:((o.bp:Int) == 0) with _ | _
 ·refine RW.gE (hl) cz ?_
  refine SW.ret ?_
  exact End.mk [] (h4:=⟨by simp only [zeroV,f0,f1,f2,f3,f4,f5,f6,f7,f8,f9,f10,z0,z1,z2,Bool.true_or,Bool.or_true,Bool.false_or,Bool.and_false,Bool.false_and,Bool.true_and,Bool.and_true,Bool.or_false];rfl,rfl⟩)
 refine RW.gG (hl) cz ?_
 rcases z3:((o.depth:Int) == 0) with _ | _
 ·refine RW.gE (hl) cz ?_
  refine SW.ret ?_
  exact End.mk [] (h4:=⟨by simp only [zeroV,f0,f1,f2,f3,f4,f5,f6,f7,f8,f9,f10,z0,z1,z2,z3,Bool.true_or,Bool.or_true,Bool.false_or,Bool.and_false,Bool.false_and,Bool.true_and,Bool.and_true,Bool.or_false];rfl,rfl⟩)
 refine RW.gG (hl) cz ?_
 rcases z4:((o.cap:Int) == 0) with _ | _
 ·refine RW.gE (hl) cz ?_
  refine SW.ret ?_
  exact End.mk [] (h4:=⟨by simp only [zeroV,f0,f1,f2,f3,f4,f5,f6,f7,f8,f9,f10,z0,z1,z2,z3,z4,Bool.true_or,Bool.or_true,Bool.false_or,Bool.and_false,Bool.false_and,Bool.true_and,Bool.and_true,Bool.or_false];rfl,rfl⟩)
 refine RW.gG (hl) cz ?_
 rcases z5:decide (o.at_=(⟨0,0⟩:Dt)) with _ | _
 ·refine RW.gE (hl) cz ?_
  refine SW.ret ?_
  exact End.mk [] (h4:=⟨by simp only [zeroV,f0,f1,f2,f3,f4,f5,f6,f7,f8,f9,f10,z0,z1,z2,z3,z4,z5,Bool.true_or,Bool.or_true,Bool.false_or,Bool.and_false,Bool.false_and,Bool.true_and,Bool.and_true,Bool.or_false];rfl,rfl⟩)
 refine RW.gG (hl) cz ?_
 rcases z6:decide (o.iK=(⟨0,0⟩:Dt)) with _ | _
 ·refine RW.gE (hl) cz ?_
  refine SW.ret ?_
  exact End.mk [] (h4:=⟨by simp only [zeroV,f0,f1,f2,f3,f4,f5,f6,f7,f8,f9,f10,z0,z1,z2,z3,z4,z5,z6,Bool.true_or,Bool.or_true,Bool.false_or,Bool.and_false,Bool.false_and,Bool.true_and,Bool.and_true,Bool.or_false];rfl,rfl⟩)
 refine RW.gG (hl) cz ?_
 rcases z7:((o.item:Int) == 0) with _ | _
 ·refine RW.gE (hl) cz ?_
  refine SW.ret ?_
  exact End.mk [] (h4:=⟨by simp only [zeroV,f0,f1,f2,f3,f4,f5,f6,f7,f8,f9,f10,z0,z1,z2,z3,z4,z5,z6,z7,Bool.true_or,Bool.or_true,Bool.false_or,Bool.and_false,Bool.false_and,Bool.true_and,Bool.and_true,Bool.or_false];rfl,rfl⟩)
 refine RW.gG (hl) cz ?_
 rcases z8:((o.r7:Int) == 0) with _ | _
 ·refine RW.gE (hl) cz ?_
  refine SW.ret ?_
  exact End.mk [] (h4:=⟨by simp only [zeroV,f0,f1,f2,f3,f4,f5,f6,f7,f8,f9,f10,z0,z1,z2,z3,z4,z5,z6,z7,z8,Bool.true_or,Bool.or_true,Bool.false_or,Bool.and_false,Bool.false_and,Bool.true_and,Bool.and_true,Bool.or_false];rfl,rfl⟩)
 refine RW.gG (hl) cz ?_
 rcases z9:((o.eu:Int) == 0) with _ | _
 ·refine RW.gE (hl) cz ?_
  refine SW.ret ?_
  exact End.mk [] (h4:=⟨by simp only [zeroV,f0,f1,f2,f3,f4,f5,f6,f7,f8,f9,f10,z0,z1,z2,z3,z4,z5,z6,z7,z8,z9,Bool.true_or,Bool.or_true,Bool.false_or,Bool.and_false,Bool.false_and,Bool.true_and,Bool.and_true,Bool.or_false];rfl,rfl⟩)
 refine RW.gG (hl) cz ?_
 rcases z10:((nl:Int) == 0) with _ | _
 ·refine RW.gE (hl) cz ?_
  refine SW.ret ?_
  exact End.mk [] (h4:=⟨by simp only [zeroV,f0,f1,f2,f3,f4,f5,f6,f7,f8,f9,f10,z0,z1,z2,z3,z4,z5,z6,z7,z8,z9,z10,Bool.true_or,Bool.or_true,Bool.false_or,Bool.and_false,Bool.false_and,Bool.true_and,Bool.and_true,Bool.or_false];rfl,rfl⟩)
 refine RW.gE (hl) cz ?_
 refine SW.ret ?_
 exact End.mk [] (h4:=⟨by simp only [zeroV,f0,f1,f2,f3,f4,f5,f6,f7,f8,f9,f10,z0,z1,z2,z3,z4,z5,z6,z7,z8,z9,z10,Bool.true_or,Bool.or_true,Bool.false_or,Bool.and_self,Bool.true_and,Bool.and_true];rfl,rfl⟩)
end
section
attribute [local irreducible] SW RW aM SC ak au
set_option maxHeartbeats 4000000 in
theorem Iv (o:ag)(nl:Nat)(cs:List DV)(hl:o.lines= .sl nl cs)(hk:o.kind<256)(hS:aS o.kind=[99,116,114,100,112]):Go.Sl.Pure Tryz.prog ref05_zero.f [.agg o.cells] (bl (zeroV [99,116,114,100,112] o nl)):=by
 have hh:=ji o.kind hk
 rw [hS] at hh
 have f0:decide (99∈([99,116,114,100,112]:List Nat))=true:=by decide
 have i0:=aq [99,116,114,100,112] (by decide) 99
 rw [f0] at i0
 have f1:decide (116∈([99,116,114,100,112]:List Nat))=true:=by decide
 have i1:=aq [99,116,114,100,112] (by decide) 116
 rw [f1] at i1
 have f2:decide (114∈([99,116,114,100,112]:List Nat))=true:=by decide
 have i2:=aq [99,116,114,100,112] (by decide) 114
 rw [f2] at i2
 have f3:decide (100∈([99,116,114,100,112]:List Nat))=true:=by decide
 have i3:=aq [99,116,114,100,112] (by decide) 100
 rw [f3] at i3
 have f4:decide (112∈([99,116,114,100,112]:List Nat))=true:=by decide
 have i4:=aq [99,116,114,100,112] (by decide) 112
 rw [f4] at i4
 have f5:decide (97∈([99,116,114,100,112]:List Nat))=false:=by decide
 have i5:=aq [99,116,114,100,112] (by decide) 97
 rw [f5] at i5
 have f6:decide (118∈([99,116,114,100,112]:List Nat))=false:=by decide
 have i6:=aq [99,116,114,100,112] (by decide) 118
 rw [f6] at i6
 have f7:decide (105∈([99,116,114,100,112]:List Nat))=false:=by decide
 have i7:=aq [99,116,114,100,112] (by decide) 105
 rw [f7] at i7
 have f8:decide (113∈([99,116,114,100,112]:List Nat))=false:=by decide
 have i8:=aq [99,116,114,100,112] (by decide) 113
 rw [f8] at i8
 have f9:decide (101∈([99,116,114,100,112]:List Nat))=false:=by decide
 have i9:=aq [99,116,114,100,112] (by decide) 101
 rw [f9] at i9
 have f10:decide (108∈([99,116,114,100,112]:List Nat))=false:=by decide
 have i10:=aq [99,116,114,100,112] (by decide) 108
 rw [f10] at i10
 refine ref05_zero.enter (by first | rfl | simp [SV.ok,SV.ay]) (by first | rfl | simp [Hp.ok,Ob.ok,SV.ok,SV.ay,aL.ai]) (by simp) ?_
 dsimp only [ref05_zero.s,Co.M,Co.G,Co.J,Co.H,Co.N,Co.F,Co.C,Co.Z,Co.B,Co.b8,Co.aB,Co.bL,Co.i6,Co.z8,Co.bU]
 have cz:=And.intro hh True.intro
 refine SW.seq ?_
 refine SW.g1 [0,1,2,3,4] mixed af hh ?_
 refine SW.seq ?_
 refine SW.g1 [0,1,2,3,4] mixed af hh ?_
 refine SW.seq ?_
 refine SW.g1 [0,1,2,3,4] mixed af hh ?_
 refine SW.seq ?_
 have cz:=And.intro i0 (And.intro i1 (And.intro i2 (And.intro i3 (And.intro i4 (And.intro i5 (And.intro i6 (And.intro i7 (And.intro i8 (And.intro i9 (And.intro i10 True.intro))))))))))
 refine SW.gB [0,1,2,3,4] mixed (hl) cz ?_
 rcases z5:decide (o.at_=(⟨0,0⟩:Dt)) with _ | _
 ·refine RW.gE (hl) cz ?_
  refine SW.ret ?_
  exact End.mk [] (h4:=⟨by simp only [zeroV,f0,f1,f2,f3,f4,f5,f6,f7,f8,f9,f10,z5,Bool.true_or,Bool.or_true,Bool.false_or,Bool.and_false,Bool.false_and,Bool.true_and,Bool.and_true,Bool.or_false];rfl,rfl⟩)
 refine RW.gG (hl) cz ?_
 rcases z6:decide (o.iK=(⟨0,0⟩:Dt)) with _ | _
 ·refine RW.gE (hl) cz ?_
  refine SW.ret ?_
  exact End.mk [] (h4:=⟨by simp only [zeroV,f0,f1,f2,f3,f4,f5,f6,f7,f8,f9,f10,z5,z6,Bool.true_or,Bool.or_true,Bool.false_or,Bool.and_false,Bool.false_and,Bool.true_and,Bool.and_true,Bool.or_false];rfl,rfl⟩)
 refine RW.gG (hl) cz ?_
 rcases z7:((o.item:Int) == 0) with _ | _
 ·refine RW.gE (hl) cz ?_
  refine SW.ret ?_
  exact End.mk [] (h4:=⟨by simp only [zeroV,f0,f1,f2,f3,f4,f5,f6,f7,f8,f9,f10,z5,z6,z7,Bool.true_or,Bool.or_true,Bool.false_or,Bool.and_false,Bool.false_and,Bool.true_and,Bool.and_true,Bool.or_false];rfl,rfl⟩)
 refine RW.gG (hl) cz ?_
 rcases z8:((o.r7:Int) == 0) with _ | _
 ·refine RW.gE (hl) cz ?_
  refine SW.ret ?_
  exact End.mk [] (h4:=⟨by simp only [zeroV,f0,f1,f2,f3,f4,f5,f6,f7,f8,f9,f10,z5,z6,z7,z8,Bool.true_or,Bool.or_true,Bool.false_or,Bool.and_false,Bool.false_and,Bool.true_and,Bool.and_true,Bool.or_false];rfl,rfl⟩)
 refine RW.gG (hl) cz ?_
 rcases z9:((o.eu:Int) == 0) with _ | _
 ·refine RW.gE (hl) cz ?_
  refine SW.ret ?_
  exact End.mk [] (h4:=⟨by simp only [zeroV,f0,f1,f2,f3,f4,f5,f6,f7,f8,f9,f10,z5,z6,z7,z8,z9,Bool.true_or,Bool.or_true,Bool.false_or,Bool.and_false,Bool.false_and,Bool.true_and,Bool.and_true,Bool.or_false];rfl,rfl⟩)
 refine RW.gG (hl) cz ?_
 rcases z10:((nl:Int) == 0) with _ | _
 ·refine RW.gE (hl) cz ?_
  refine SW.ret ?_
  exact End.mk [] (h4:=⟨by simp only [zeroV,f0,f1,f2,f3,f4,f5,f6,f7,f8,f9,f10,z5,z6,z7,z8,z9,z10,Bool.true_or,Bool.or_true,Bool.false_or,Bool.and_false,Bool.false_and,Bool.true_and,Bool.and_true,Bool.or_false];rfl,rfl⟩)
 refine RW.gE (hl) cz ?_
 refine SW.ret ?_
 exact End.mk [] (h4:=⟨by simp only [zeroV,f0,f1,f2,f3,f4,f5,f6,f7,f8,f9,f10,z5,z6,z7,z8,z9,z10,Bool.true_or,Bool.or_true,Bool.false_or,Bool.and_self,Bool.true_and,Bool.and_true];rfl,rfl⟩)
end
section
attribute [local irreducible] SW RW aM SC ak au
set_option maxHeartbeats 4000000 in
theorem Et (o:ag)(nl:Nat)(cs:List DV)(hl:o.lines= .sl nl cs)(hk:o.kind<256)(hS:aS o.kind=[99,97]):Go.Sl.Pure Tryz.prog ref05_zero.f [.agg o.cells] (bl (zeroV [99,97] o nl)):=by
 have hh:=ji o.kind hk
 rw [hS] at hh
 have f0:decide (99∈([99,97]:List Nat))=true:=by decide
 have i0:=aq [99,97] (by decide) 99
 rw [f0] at i0
 have f1:decide (116∈([99,97]:List Nat))=false:=by decide
 have i1:=aq [99,97] (by decide) 116
 rw [f1] at i1
 have f2:decide (114∈([99,97]:List Nat))=false:=by decide
 have i2:=aq [99,97] (by decide) 114
 rw [f2] at i2
 have f3:decide (100∈([99,97]:List Nat))=false:=by decide
 have i3:=aq [99,97] (by decide) 100
 rw [f3] at i3
 have f4:decide (112∈([99,97]:List Nat))=false:=by decide
 have i4:=aq [99,97] (by decide) 112
 rw [f4] at i4
 have f5:decide (97∈([99,97]:List Nat))=true:=by decide
 have i5:=aq [99,97] (by decide) 97
 rw [f5] at i5
 have f6:decide (118∈([99,97]:List Nat))=false:=by decide
 have i6:=aq [99,97] (by decide) 118
 rw [f6] at i6
 have f7:decide (105∈([99,97]:List Nat))=false:=by decide
 have i7:=aq [99,97] (by decide) 105
 rw [f7] at i7
 have f8:decide (113∈([99,97]:List Nat))=false:=by decide
 have i8:=aq [99,97] (by decide) 113
 rw [f8] at i8
 have f9:decide (101∈([99,97]:List Nat))=false:=by decide
 have i9:=aq [99,97] (by decide) 101
 rw [f9] at i9
 have f10:decide (108∈([99,97]:List Nat))=false:=by decide
 have i10:=aq [99,97] (by decide) 108
 rw [f10] at i10
 refine ref05_zero.enter (by first | rfl | simp [SV.ok,SV.ay]) (by first | rfl | simp [Hp.ok,Ob.ok,SV.ok,SV.ay,aL.ai]) (by simp) ?_
 dsimp only [ref05_zero.s,Co.M,Co.G,Co.J,Co.H,Co.N,Co.F,Co.C,Co.Z,Co.B,Co.b8,Co.aB,Co.bL,Co.i6,Co.z8,Co.bU]
 have cz:=And.intro hh True.intro
 refine SW.seq ?_
 refine SW.g1 [0,1,2,3,4] mixed af hh ?_
 refine SW.seq ?_
 refine SW.g1 [0,1,2,3,4] mixed af hh ?_
 refine SW.seq ?_
 refine SW.g1 [0,1,2,3,4] mixed af hh ?_
 refine SW.seq ?_
 have cz:=And.intro i0 (And.intro i1 (And.intro i2 (And.intro i3 (And.intro i4 (And.intro i5 (And.intro i6 (And.intro i7 (And.intro i8 (And.intro i9 (And.intro i10 True.intro))))))))))
 refine SW.gB [0,1,2,3,4] mixed (hl) cz ?_
 rcases z1:((o.to:Int) == 0) with _ | _
 ·refine RW.gE (hl) cz ?_
  refine SW.ret ?_
  exact End.mk [] (h4:=⟨by simp only [zeroV,f0,f1,f2,f3,f4,f5,f6,f7,f8,f9,f10,z1,Bool.true_or,Bool.or_true,Bool.false_or,Bool.and_false,Bool.false_and,Bool.true_and,Bool.and_true,Bool.or_false];rfl,rfl⟩)
 refine RW.gG (hl) cz ?_
 rcases z2:((o.bp:Int) == 0) with _ | _
 ·refine RW.gE (hl) cz ?_
  refine SW.ret ?_
  exact End.mk [] (h4:=⟨by simp only [zeroV,f0,f1,f2,f3,f4,f5,f6,f7,f8,f9,f10,z1,z2,Bool.true_or,Bool.or_true,Bool.false_or,Bool.and_false,Bool.false_and,Bool.true_and,Bool.and_true,Bool.or_false];rfl,rfl⟩)
 refine RW.gG (hl) cz ?_
 rcases z3:((o.depth:Int) == 0) with _ | _
 ·refine RW.gE (hl) cz ?_
  refine SW.ret ?_
  exact End.mk [] (h4:=⟨by simp only [zeroV,f0,f1,f2,f3,f4,f5,f6,f7,f8,f9,f10,z1,z2,z3,Bool.true_or,Bool.or_true,Bool.false_or,Bool.and_false,Bool.false_and,Bool.true_and,Bool.and_true,Bool.or_false];rfl,rfl⟩)
 refine RW.gG (hl) cz ?_
 rcases z4:((o.cap:Int) == 0) with _ | _
 ·refine RW.gE (hl) cz ?_
  refine SW.ret ?_
  exact End.mk [] (h4:=⟨by simp only [zeroV,f0,f1,f2,f3,f4,f5,f6,f7,f8,f9,f10,z1,z2,z3,z4,Bool.true_or,Bool.or_true,Bool.false_or,Bool.and_false,Bool.false_and,Bool.true_and,Bool.and_true,Bool.or_false];rfl,rfl⟩)
 refine RW.gG (hl) cz ?_
 rcases z6:decide (o.iK=(⟨0,0⟩:Dt)) with _ | _
 ·refine RW.gE (hl) cz ?_
  refine SW.ret ?_
  exact End.mk [] (h4:=⟨by simp only [zeroV,f0,f1,f2,f3,f4,f5,f6,f7,f8,f9,f10,z1,z2,z3,z4,z6,Bool.true_or,Bool.or_true,Bool.false_or,Bool.and_false,Bool.false_and,Bool.true_and,Bool.and_true,Bool.or_false];rfl,rfl⟩)
 refine RW.gG (hl) cz ?_
 rcases z7:((o.item:Int) == 0) with _ | _
 ·refine RW.gE (hl) cz ?_
  refine SW.ret ?_
  exact End.mk [] (h4:=⟨by simp only [zeroV,f0,f1,f2,f3,f4,f5,f6,f7,f8,f9,f10,z1,z2,z3,z4,z6,z7,Bool.true_or,Bool.or_true,Bool.false_or,Bool.and_false,Bool.false_and,Bool.true_and,Bool.and_true,Bool.or_false];rfl,rfl⟩)
 refine RW.gG (hl) cz ?_
 rcases z8:((o.r7:Int) == 0) with _ | _
 ·refine RW.gE (hl) cz ?_
  refine SW.ret ?_
  exact End.mk [] (h4:=⟨by simp only [zeroV,f0,f1,f2,f3,f4,f5,f6,f7,f8,f9,f10,z1,z2,z3,z4,z6,z7,z8,Bool.true_or,Bool.or_true,Bool.false_or,Bool.and_false,Bool.false_and,Bool.true_and,Bool.and_true,Bool.or_false];rfl,rfl⟩)
 refine RW.gG (hl) cz ?_
 rcases z9:((o.eu:Int) == 0) with _ | _
 ·refine RW.gE (hl) cz ?_
  refine SW.ret ?_
  exact End.mk [] (h4:=⟨by simp only [zeroV,f0,f1,f2,f3,f4,f5,f6,f7,f8,f9,f10,z1,z2,z3,z4,z6,z7,z8,z9,Bool.true_or,Bool.or_true,Bool.false_or,Bool.and_false,Bool.false_and,Bool.true_and,Bool.and_true,Bool.or_false];rfl,rfl⟩)
 refine RW.gG (hl) cz ?_
 rcases z10:((nl:Int) == 0) with _ | _
 ·refine RW.gE (hl) cz ?_
  refine SW.ret ?_
  exact End.mk [] (h4:=⟨by simp only [zeroV,f0,f1,f2,f3,f4,f5,f6,f7,f8,f9,f10,z1,z2,z3,z4,z6,z7,z8,z9,z10,Bool.true_or,Bool.or_true,Bool.false_or,Bool.and_false,Bool.false_and,Bool.true_and,Bool.and_true,Bool.or_false];rfl,rfl⟩)
 refine RW.gE (hl) cz ?_
 refine SW.ret ?_
 exact End.mk [] (h4:=⟨by simp only [zeroV,f0,f1,f2,f3,f4,f5,f6,f7,f8,f9,f10,z1,z2,z3,z4,z6,z7,z8,z9,z10,Bool.true_or,Bool.or_true,Bool.false_or,Bool.and_self,Bool.true_and,Bool.and_true];rfl,rfl⟩)
end
section
attribute [local irreducible] SW RW aM SC ak au
set_option maxHeartbeats 4000000 in
theorem Iw (o:ag)(nl:Nat)(cs:List DV)(hl:o.lines= .sl nl cs)(hk:o.kind<256)(hS:aS o.kind=[99,105,113,101]):Go.Sl.Pure Tryz.prog ref05_zero.f [.agg o.cells] (bl (zeroV [99,105,113,101] o nl)):=by
 have hh:=ji o.kind hk
 rw [hS] at hh
 have f0:decide (99∈([99,105,113,101]:List Nat))=true:=by decide
 have i0:=aq [99,105,113,101] (by decide) 99
 rw [f0] at i0
 have f1:decide (116∈([99,105,113,101]:List Nat))=false:=by decide
 have i1:=aq [99,105,113,101] (by decide) 116
 rw [f1] at i1
 have f2:decide (114∈([99,105,113,101]:List Nat))=false:=by decide
 have i2:=aq [99,105,113,101] (by decide) 114
 rw [f2] at i2
 have f3:decide (100∈([99,105,113,101]:List Nat))=false:=by decide
 have i3:=aq [99,105,113,101] (by decide) 100
 rw [f3] at i3
 have f4:decide (112∈([99,105,113,101]:List Nat))=false:=by decide
 have i4:=aq [99,105,113,101] (by decide) 112
 rw [f4] at i4
 have f5:decide (97∈([99,105,113,101]:List Nat))=false:=by decide
 have i5:=aq [99,105,113,101] (by decide) 97
 rw [f5] at i5
 have f6:decide (118∈([99,105,113,101]:List Nat))=false:=by decide
 have i6:=aq [99,105,113,101] (by decide) 118
 rw [f6] at i6
 have f7:decide (105∈([99,105,113,101]:List Nat))=true:=by decide
 have i7:=aq [99,105,113,101] (by decide) 105
 rw [f7] at i7
 have f8:decide (113∈([99,105,113,101]:List Nat))=true:=by decide
 have i8:=aq [99,105,113,101] (by decide) 113
 rw [f8] at i8
 have f9:decide (101∈([99,105,113,101]:List Nat))=true:=by decide
 have i9:=aq [99,105,113,101] (by decide) 101
 rw [f9] at i9
 have f10:decide (108∈([99,105,113,101]:List Nat))=false:=by decide
 have i10:=aq [99,105,113,101] (by decide) 108
 rw [f10] at i10
 refine ref05_zero.enter (by first | rfl | simp [SV.ok,SV.ay]) (by first | rfl | simp [Hp.ok,Ob.ok,SV.ok,SV.ay,aL.ai]) (by simp) ?_
 dsimp only [ref05_zero.s,Co.M,Co.G,Co.J,Co.H,Co.N,Co.F,Co.C,Co.Z,Co.B,Co.b8,Co.aB,Co.bL,Co.i6,Co.z8,Co.bU]
 have cz:=And.intro hh True.intro
 refine SW.seq ?_
 refine SW.g1 [0,1,2,3,4] mixed af hh ?_
 refine SW.seq ?_
 refine SW.g1 [0,1,2,3,4] mixed af hh ?_
 refine SW.seq ?_
 refine SW.g1 [0,1,2,3,4] mixed af hh ?_
 refine SW.seq ?_
 have cz:=And.intro i0 (And.intro i1 (And.intro i2 (And.intro i3 (And.intro i4 (And.intro i5 (And.intro i6 (And.intro i7 (And.intro i8 (And.intro i9 (And.intro i10 True.intro))))))))))
 refine SW.gB [0,1,2,3,4] mixed (hl) cz ?_
 rcases z1:((o.to:Int) == 0) with _ | _
 ·refine RW.gE (hl) cz ?_
  refine SW.ret ?_
  exact End.mk [] (h4:=⟨by simp only [zeroV,f0,f1,f2,f3,f4,f5,f6,f7,f8,f9,f10,z1,Bool.true_or,Bool.or_true,Bool.false_or,Bool.and_false,Bool.false_and,Bool.true_and,Bool.and_true,Bool.or_false];rfl,rfl⟩)
 refine RW.gG (hl) cz ?_
 rcases z2:((o.bp:Int) == 0) with _ | _
 ·refine RW.gE (hl) cz ?_
  refine SW.ret ?_
  exact End.mk [] (h4:=⟨by simp only [zeroV,f0,f1,f2,f3,f4,f5,f6,f7,f8,f9,f10,z1,z2,Bool.true_or,Bool.or_true,Bool.false_or,Bool.and_false,Bool.false_and,Bool.true_and,Bool.and_true,Bool.or_false];rfl,rfl⟩)
 refine RW.gG (hl) cz ?_
 rcases z3:((o.depth:Int) == 0) with _ | _
 ·refine RW.gE (hl) cz ?_
  refine SW.ret ?_
  exact End.mk [] (h4:=⟨by simp only [zeroV,f0,f1,f2,f3,f4,f5,f6,f7,f8,f9,f10,z1,z2,z3,Bool.true_or,Bool.or_true,Bool.false_or,Bool.and_false,Bool.false_and,Bool.true_and,Bool.and_true,Bool.or_false];rfl,rfl⟩)
 refine RW.gG (hl) cz ?_
 rcases z4:((o.cap:Int) == 0) with _ | _
 ·refine RW.gE (hl) cz ?_
  refine SW.ret ?_
  exact End.mk [] (h4:=⟨by simp only [zeroV,f0,f1,f2,f3,f4,f5,f6,f7,f8,f9,f10,z1,z2,z3,z4,Bool.true_or,Bool.or_true,Bool.false_or,Bool.and_false,Bool.false_and,Bool.true_and,Bool.and_true,Bool.or_false];rfl,rfl⟩)
 refine RW.gG (hl) cz ?_
 rcases z5:decide (o.at_=(⟨0,0⟩:Dt)) with _ | _
 ·refine RW.gE (hl) cz ?_
  refine SW.ret ?_
  exact End.mk [] (h4:=⟨by simp only [zeroV,f0,f1,f2,f3,f4,f5,f6,f7,f8,f9,f10,z1,z2,z3,z4,z5,Bool.true_or,Bool.or_true,Bool.false_or,Bool.and_false,Bool.false_and,Bool.true_and,Bool.and_true,Bool.or_false];rfl,rfl⟩)
 refine RW.gG (hl) cz ?_
 rcases z6:decide (o.iK=(⟨0,0⟩:Dt)) with _ | _
 ·refine RW.gE (hl) cz ?_
  refine SW.ret ?_
  exact End.mk [] (h4:=⟨by simp only [zeroV,f0,f1,f2,f3,f4,f5,f6,f7,f8,f9,f10,z1,z2,z3,z4,z5,z6,Bool.true_or,Bool.or_true,Bool.false_or,Bool.and_false,Bool.false_and,Bool.true_and,Bool.and_true,Bool.or_false];rfl,rfl⟩)
 refine RW.gG (hl) cz ?_
 rcases z10:((nl:Int) == 0) with _ | _
 ·refine RW.gE (hl) cz ?_
  refine SW.ret ?_
  exact End.mk [] (h4:=⟨by simp only [zeroV,f0,f1,f2,f3,f4,f5,f6,f7,f8,f9,f10,z1,z2,z3,z4,z5,z6,z10,Bool.true_or,Bool.or_true,Bool.false_or,Bool.and_false,Bool.false_and,Bool.true_and,Bool.and_true,Bool.or_false];rfl,rfl⟩)
 refine RW.gE (hl) cz ?_
 refine SW.ret ?_
 exact End.mk [] (h4:=⟨by simp only [zeroV,f0,f1,f2,f3,f4,f5,f6,f7,f8,f9,f10,z1,z2,z3,z4,z5,z6,z10,Bool.true_or,Bool.or_true,Bool.false_or,Bool.and_self,Bool.true_and,Bool.and_true];rfl,rfl⟩)
end
section
attribute [local irreducible] SW RW aM SC ak au
set_option maxHeartbeats 4000000 in
theorem Iy (o:ag)(nl:Nat)(cs:List DV)(hl:o.lines= .sl nl cs)(hk:o.kind<256)(hS:aS o.kind=[99,97,113]):Go.Sl.Pure Tryz.prog ref05_zero.f [.agg o.cells] (bl (zeroV [99,97,113] o nl)):=by
 have hh:=ji o.kind hk
 rw [hS] at hh
 have f0:decide (99∈([99,97,113]:List Nat))=true:=by decide
 have i0:=aq [99,97,113] (by decide) 99
 rw [f0] at i0
 have f1:decide (116∈([99,97,113]:List Nat))=false:=by decide
 have i1:=aq [99,97,113] (by decide) 116
 rw [f1] at i1
 have f2:decide (114∈([99,97,113]:List Nat))=false:=by decide
 have i2:=aq [99,97,113] (by decide) 114
 rw [f2] at i2
 have f3:decide (100∈([99,97,113]:List Nat))=false:=by decide
 have i3:=aq [99,97,113] (by decide) 100
 rw [f3] at i3
 have f4:decide (112∈([99,97,113]:List Nat))=false:=by decide
 have i4:=aq [99,97,113] (by decide) 112
 rw [f4] at i4
 have f5:decide (97∈([99,97,113]:List Nat))=true:=by decide
 have i5:=aq [99,97,113] (by decide) 97
 rw [f5] at i5
 have f6:decide (118∈([99,97,113]:List Nat))=false:=by decide
 have i6:=aq [99,97,113] (by decide) 118
 rw [f6] at i6
 have f7:decide (105∈([99,97,113]:List Nat))=false:=by decide
 have i7:=aq [99,97,113] (by decide) 105
 rw [f7] at i7
 have f8:decide (113∈([99,97,113]:List Nat))=true:=by decide
 have i8:=aq [99,97,113] (by decide) 113
 rw [f8] at i8
 have f9:decide (101∈([99,97,113]:List Nat))=false:=by decide
 have i9:=aq [99,97,113] (by decide) 101
 rw [f9] at i9
 have f10:decide (108∈([99,97,113]:List Nat))=false:=by decide
 have i10:=aq [99,97,113] (by decide) 108
 rw [f10] at i10
 refine ref05_zero.enter (by first | rfl | simp [SV.ok,SV.ay]) (by first | rfl | simp [Hp.ok,Ob.ok,SV.ok,SV.ay,aL.ai]) (by simp) ?_
 dsimp only [ref05_zero.s,Co.M,Co.G,Co.J,Co.H,Co.N,Co.F,Co.C,Co.Z,Co.B,Co.b8,Co.aB,Co.bL,Co.i6,Co.z8,Co.bU]
 have cz:=And.intro hh True.intro
 refine SW.seq ?_
 refine SW.g1 [0,1,2,3,4] mixed af hh ?_
 refine SW.seq ?_
 refine SW.g1 [0,1,2,3,4] mixed af hh ?_
 refine SW.seq ?_
 refine SW.g1 [0,1,2,3,4] mixed af hh ?_
 refine SW.seq ?_
 have cz:=And.intro i0 (And.intro i1 (And.intro i2 (And.intro i3 (And.intro i4 (And.intro i5 (And.intro i6 (And.intro i7 (And.intro i8 (And.intro i9 (And.intro i10 True.intro))))))))))
 refine SW.gB [0,1,2,3,4] mixed (hl) cz ?_
 rcases z1:((o.to:Int) == 0) with _ | _
 ·refine RW.gE (hl) cz ?_
  refine SW.ret ?_
  exact End.mk [] (h4:=⟨by simp only [zeroV,f0,f1,f2,f3,f4,f5,f6,f7,f8,f9,f10,z1,Bool.true_or,Bool.or_true,Bool.false_or,Bool.and_false,Bool.false_and,Bool.true_and,Bool.and_true,Bool.or_false];rfl,rfl⟩)
 refine RW.gG (hl) cz ?_
 rcases z2:((o.bp:Int) == 0) with _ | _
 ·refine RW.gE (hl) cz ?_
  refine SW.ret ?_
  exact End.mk [] (h4:=⟨by simp only [zeroV,f0,f1,f2,f3,f4,f5,f6,f7,f8,f9,f10,z1,z2,Bool.true_or,Bool.or_true,Bool.false_or,Bool.and_false,Bool.false_and,Bool.true_and,Bool.and_true,Bool.or_false];rfl,rfl⟩)
 refine RW.gG (hl) cz ?_
 rcases z3:((o.depth:Int) == 0) with _ | _
 ·refine RW.gE (hl) cz ?_
  refine SW.ret ?_
  exact End.mk [] (h4:=⟨by simp only [zeroV,f0,f1,f2,f3,f4,f5,f6,f7,f8,f9,f10,z1,z2,z3,Bool.true_or,Bool.or_true,Bool.false_or,Bool.and_false,Bool.false_and,Bool.true_and,Bool.and_true,Bool.or_false];rfl,rfl⟩)
 refine RW.gG (hl) cz ?_
 rcases z4:((o.cap:Int) == 0) with _ | _
 ·refine RW.gE (hl) cz ?_
  refine SW.ret ?_
  exact End.mk [] (h4:=⟨by simp only [zeroV,f0,f1,f2,f3,f4,f5,f6,f7,f8,f9,f10,z1,z2,z3,z4,Bool.true_or,Bool.or_true,Bool.false_or,Bool.and_false,Bool.false_and,Bool.true_and,Bool.and_true,Bool.or_false];rfl,rfl⟩)
 refine RW.gG (hl) cz ?_
 rcases z6:decide (o.iK=(⟨0,0⟩:Dt)) with _ | _
 ·refine RW.gE (hl) cz ?_
  refine SW.ret ?_
  exact End.mk [] (h4:=⟨by simp only [zeroV,f0,f1,f2,f3,f4,f5,f6,f7,f8,f9,f10,z1,z2,z3,z4,z6,Bool.true_or,Bool.or_true,Bool.false_or,Bool.and_false,Bool.false_and,Bool.true_and,Bool.and_true,Bool.or_false];rfl,rfl⟩)
 refine RW.gG (hl) cz ?_
 rcases z7:((o.item:Int) == 0) with _ | _
 ·refine RW.gE (hl) cz ?_
  refine SW.ret ?_
  exact End.mk [] (h4:=⟨by simp only [zeroV,f0,f1,f2,f3,f4,f5,f6,f7,f8,f9,f10,z1,z2,z3,z4,z6,z7,Bool.true_or,Bool.or_true,Bool.false_or,Bool.and_false,Bool.false_and,Bool.true_and,Bool.and_true,Bool.or_false];rfl,rfl⟩)
 refine RW.gG (hl) cz ?_
 rcases z9:((o.eu:Int) == 0) with _ | _
 ·refine RW.gE (hl) cz ?_
  refine SW.ret ?_
  exact End.mk [] (h4:=⟨by simp only [zeroV,f0,f1,f2,f3,f4,f5,f6,f7,f8,f9,f10,z1,z2,z3,z4,z6,z7,z9,Bool.true_or,Bool.or_true,Bool.false_or,Bool.and_false,Bool.false_and,Bool.true_and,Bool.and_true,Bool.or_false];rfl,rfl⟩)
 refine RW.gG (hl) cz ?_
 rcases z10:((nl:Int) == 0) with _ | _
 ·refine RW.gE (hl) cz ?_
  refine SW.ret ?_
  exact End.mk [] (h4:=⟨by simp only [zeroV,f0,f1,f2,f3,f4,f5,f6,f7,f8,f9,f10,z1,z2,z3,z4,z6,z7,z9,z10,Bool.true_or,Bool.or_true,Bool.false_or,Bool.and_false,Bool.false_and,Bool.true_and,Bool.and_true,Bool.or_false];rfl,rfl⟩)
 refine RW.gE (hl) cz ?_
 refine SW.ret ?_
 exact End.mk [] (h4:=⟨by simp only [zeroV,f0,f1,f2,f3,f4,f5,f6,f7,f8,f9,f10,z1,z2,z3,z4,z6,z7,z9,z10,Bool.true_or,Bool.or_true,Bool.false_or,Bool.and_self,Bool.true_and,Bool.and_true];rfl,rfl⟩)
end
section
attribute [local irreducible] SW RW aM SC ak au
set_option maxHeartbeats 4000000 in
theorem Eu (o:ag)(nl:Nat)(cs:List DV)(hl:o.lines= .sl nl cs)(hk:o.kind<256)(hS:aS o.kind=[99,97,118]):Go.Sl.Pure Tryz.prog ref05_zero.f [.agg o.cells] (bl (zeroV [99,97,118] o nl)):=by
 have hh:=ji o.kind hk
 rw [hS] at hh
 have f0:decide (99∈([99,97,118]:List Nat))=true:=by decide
 have i0:=aq [99,97,118] (by decide) 99
 rw [f0] at i0
 have f1:decide (116∈([99,97,118]:List Nat))=false:=by decide
 have i1:=aq [99,97,118] (by decide) 116
 rw [f1] at i1
 have f2:decide (114∈([99,97,118]:List Nat))=false:=by decide
 have i2:=aq [99,97,118] (by decide) 114
 rw [f2] at i2
 have f3:decide (100∈([99,97,118]:List Nat))=false:=by decide
 have i3:=aq [99,97,118] (by decide) 100
 rw [f3] at i3
 have f4:decide (112∈([99,97,118]:List Nat))=false:=by decide
 have i4:=aq [99,97,118] (by decide) 112
 rw [f4] at i4
 have f5:decide (97∈([99,97,118]:List Nat))=true:=by decide
 have i5:=aq [99,97,118] (by decide) 97
 rw [f5] at i5
 have f6:decide (118∈([99,97,118]:List Nat))=true:=by decide
 have i6:=aq [99,97,118] (by decide) 118
 rw [f6] at i6
 have f7:decide (105∈([99,97,118]:List Nat))=false:=by decide
 have i7:=aq [99,97,118] (by decide) 105
 rw [f7] at i7
 have f8:decide (113∈([99,97,118]:List Nat))=false:=by decide
 have i8:=aq [99,97,118] (by decide) 113
 rw [f8] at i8
 have f9:decide (101∈([99,97,118]:List Nat))=false:=by decide
 have i9:=aq [99,97,118] (by decide) 101
 rw [f9] at i9
 have f10:decide (108∈([99,97,118]:List Nat))=false:=by decide
 have i10:=aq [99,97,118] (by decide) 108
 rw [f10] at i10
 refine ref05_zero.enter (by first | rfl | simp [SV.ok,SV.ay]) (by first | rfl | simp [Hp.ok,Ob.ok,SV.ok,SV.ay,aL.ai]) (by simp) ?_
 dsimp only [ref05_zero.s,Co.M,Co.G,Co.J,Co.H,Co.N,Co.F,Co.C,Co.Z,Co.B,Co.b8,Co.aB,Co.bL,Co.i6,Co.z8,Co.bU]
 have cz:=And.intro hh True.intro
 refine SW.seq ?_
 refine SW.g1 [0,1,2,3,4] mixed af hh ?_
 refine SW.seq ?_
 refine SW.g1 [0,1,2,3,4] mixed af hh ?_
 refine SW.seq ?_
 refine SW.g1 [0,1,2,3,4] mixed af hh ?_
 refine SW.seq ?_
 have cz:=And.intro i0 (And.intro i1 (And.intro i2 (And.intro i3 (And.intro i4 (And.intro i5 (And.intro i6 (And.intro i7 (And.intro i8 (And.intro i9 (And.intro i10 True.intro))))))))))
 refine SW.gB [0,1,2,3,4] mixed (hl) cz ?_
 rcases z1:((o.to:Int) == 0) with _ | _
 ·refine RW.gE (hl) cz ?_
  refine SW.ret ?_
  exact End.mk [] (h4:=⟨by simp only [zeroV,f0,f1,f2,f3,f4,f5,f6,f7,f8,f9,f10,z1,Bool.true_or,Bool.or_true,Bool.false_or,Bool.and_false,Bool.false_and,Bool.true_and,Bool.and_true,Bool.or_false];rfl,rfl⟩)
 refine RW.gG (hl) cz ?_
 rcases z2:((o.bp:Int) == 0) with _ | _
 ·refine RW.gE (hl) cz ?_
  refine SW.ret ?_
  exact End.mk [] (h4:=⟨by simp only [zeroV,f0,f1,f2,f3,f4,f5,f6,f7,f8,f9,f10,z1,z2,Bool.true_or,Bool.or_true,Bool.false_or,Bool.and_false,Bool.false_and,Bool.true_and,Bool.and_true,Bool.or_false];rfl,rfl⟩)
 refine RW.gG (hl) cz ?_
 rcases z3:((o.depth:Int) == 0) with _ | _
 ·refine RW.gE (hl) cz ?_
  refine SW.ret ?_
  exact End.mk [] (h4:=⟨by simp only [zeroV,f0,f1,f2,f3,f4,f5,f6,f7,f8,f9,f10,z1,z2,z3,Bool.true_or,Bool.or_true,Bool.false_or,Bool.and_false,Bool.false_and,Bool.true_and,Bool.and_true,Bool.or_false];rfl,rfl⟩)
 refine RW.gG (hl) cz ?_
 rcases z4:((o.cap:Int) == 0) with _ | _
 ·refine RW.gE (hl) cz ?_
  refine SW.ret ?_
  exact End.mk [] (h4:=⟨by simp only [zeroV,f0,f1,f2,f3,f4,f5,f6,f7,f8,f9,f10,z1,z2,z3,z4,Bool.true_or,Bool.or_true,Bool.false_or,Bool.and_false,Bool.false_and,Bool.true_and,Bool.and_true,Bool.or_false];rfl,rfl⟩)
 refine RW.gG (hl) cz ?_
 rcases z7:((o.item:Int) == 0) with _ | _
 ·refine RW.gE (hl) cz ?_
  refine SW.ret ?_
  exact End.mk [] (h4:=⟨by simp only [zeroV,f0,f1,f2,f3,f4,f5,f6,f7,f8,f9,f10,z1,z2,z3,z4,z7,Bool.true_or,Bool.or_true,Bool.false_or,Bool.and_false,Bool.false_and,Bool.true_and,Bool.and_true,Bool.or_false];rfl,rfl⟩)
 refine RW.gG (hl) cz ?_
 rcases z8:((o.r7:Int) == 0) with _ | _
 ·refine RW.gE (hl) cz ?_
  refine SW.ret ?_
  exact End.mk [] (h4:=⟨by simp only [zeroV,f0,f1,f2,f3,f4,f5,f6,f7,f8,f9,f10,z1,z2,z3,z4,z7,z8,Bool.true_or,Bool.or_true,Bool.false_or,Bool.and_false,Bool.false_and,Bool.true_and,Bool.and_true,Bool.or_false];rfl,rfl⟩)
 refine RW.gG (hl) cz ?_
 rcases z9:((o.eu:Int) == 0) with _ | _
 ·refine RW.gE (hl) cz ?_
  refine SW.ret ?_
  exact End.mk [] (h4:=⟨by simp only [zeroV,f0,f1,f2,f3,f4,f5,f6,f7,f8,f9,f10,z1,z2,z3,z4,z7,z8,z9,Bool.true_or,Bool.or_true,Bool.false_or,Bool.and_false,Bool.false_and,Bool.true_and,Bool.and_true,Bool.or_false];rfl,rfl⟩)
 refine RW.gG (hl) cz ?_
 rcases z10:((nl:Int) == 0) with _ | _
 ·refine RW.gE (hl) cz ?_
  refine SW.ret ?_
  exact End.mk [] (h4:=⟨by simp only [zeroV,f0,f1,f2,f3,f4,f5,f6,f7,f8,f9,f10,z1,z2,z3,z4,z7,z8,z9,z10,Bool.true_or,Bool.or_true,Bool.false_or,Bool.and_false,Bool.false_and,Bool.true_and,Bool.and_true,Bool.or_false];rfl,rfl⟩)
 refine RW.gE (hl) cz ?_
 refine SW.ret ?_
 exact End.mk [] (h4:=⟨by simp only [zeroV,f0,f1,f2,f3,f4,f5,f6,f7,f8,f9,f10,z1,z2,z3,z4,z7,z8,z9,z10,Bool.true_or,Bool.or_true,Bool.false_or,Bool.and_self,Bool.true_and,Bool.and_true];rfl,rfl⟩)
end
section
attribute [local irreducible] SW RW aM SC ak au
set_option maxHeartbeats 4000000 in
theorem Iz (o:ag)(nl:Nat)(cs:List DV)(hl:o.lines= .sl nl cs)(hk:o.kind<256)(hS:aS o.kind=[99,108]):Go.Sl.Pure Tryz.prog ref05_zero.f [.agg o.cells] (bl (zeroV [99,108] o nl)):=by
 have hh:=ji o.kind hk
 rw [hS] at hh
 have f0:decide (99∈([99,108]:List Nat))=true:=by decide
 have i0:=aq [99,108] (by decide) 99
 rw [f0] at i0
 have f1:decide (116∈([99,108]:List Nat))=false:=by decide
 have i1:=aq [99,108] (by decide) 116
 rw [f1] at i1
 have f2:decide (114∈([99,108]:List Nat))=false:=by decide
 have i2:=aq [99,108] (by decide) 114
 rw [f2] at i2
 have f3:decide (100∈([99,108]:List Nat))=false:=by decide
 have i3:=aq [99,108] (by decide) 100
 rw [f3] at i3
 have f4:decide (112∈([99,108]:List Nat))=false:=by decide
 have i4:=aq [99,108] (by decide) 112
 rw [f4] at i4
 have f5:decide (97∈([99,108]:List Nat))=false:=by decide
 have i5:=aq [99,108] (by decide) 97
 rw [f5] at i5
 have f6:decide (118∈([99,108]:List Nat))=false:=by decide
 have i6:=aq [99,108] (by decide) 118
 rw [f6] at i6
 have f7:decide (105∈([99,108]:List Nat))=false:=by decide
 have i7:=aq [99,108] (by decide) 105
 rw [f7] at i7
 have f8:decide (113∈([99,108]:List Nat))=false:=by decide
 have i8:=aq [99,108] (by decide) 113
 rw [f8] at i8
 have f9:decide (101∈([99,108]:List Nat))=false:=by decide
 have i9:=aq [99,108] (by decide) 101
 rw [f9] at i9
 have f10:decide (108∈([99,108]:List Nat))=true:=by decide
 have i10:=aq [99,108] (by decide) 108
 rw [f10] at i10
 refine ref05_zero.enter (by first | rfl | simp [SV.ok,SV.ay]) (by first | rfl | simp [Hp.ok,Ob.ok,SV.ok,SV.ay,aL.ai]) (by simp) ?_
 dsimp only [ref05_zero.s,Co.M,Co.G,Co.J,Co.H,Co.N,Co.F,Co.C,Co.Z,Co.B,Co.b8,Co.aB,Co.bL,Co.i6,Co.z8,Co.bU]
 have cz:=And.intro hh True.intro
 refine SW.seq ?_
 refine SW.g1 [0,1,2,3,4] mixed af hh ?_
 refine SW.seq ?_
 refine SW.g1 [0,1,2,3,4] mixed af hh ?_
 refine SW.seq ?_
 refine SW.g1 [0,1,2,3,4] mixed af hh ?_
 refine SW.seq ?_
 have cz:=And.intro i0 (And.intro i1 (And.intro i2 (And.intro i3 (And.intro i4 (And.intro i5 (And.intro i6 (And.intro i7 (And.intro i8 (And.intro i9 (And.intro i10 True.intro))))))))))
 refine SW.gB [0,1,2,3,4] mixed (hl) cz ?_
 rcases z1:((o.to:Int) == 0) with _ | _
 ·refine RW.gE (hl) cz ?_
  refine SW.ret ?_
  exact End.mk [] (h4:=⟨by simp only [zeroV,f0,f1,f2,f3,f4,f5,f6,f7,f8,f9,f10,z1,Bool.true_or,Bool.or_true,Bool.false_or,Bool.and_false,Bool.false_and,Bool.true_and,Bool.and_true,Bool.or_false];rfl,rfl⟩)
 refine RW.gG (hl) cz ?_
 rcases z2:((o.bp:Int) == 0) with _ | _
 ·refine RW.gE (hl) cz ?_
  refine SW.ret ?_
  exact End.mk [] (h4:=⟨by simp only [zeroV,f0,f1,f2,f3,f4,f5,f6,f7,f8,f9,f10,z1,z2,Bool.true_or,Bool.or_true,Bool.false_or,Bool.and_false,Bool.false_and,Bool.true_and,Bool.and_true,Bool.or_false];rfl,rfl⟩)
 refine RW.gG (hl) cz ?_
 rcases z3:((o.depth:Int) == 0) with _ | _
 ·refine RW.gE (hl) cz ?_
  refine SW.ret ?_
  exact End.mk [] (h4:=⟨by simp only [zeroV,f0,f1,f2,f3,f4,f5,f6,f7,f8,f9,f10,z1,z2,z3,Bool.true_or,Bool.or_true,Bool.false_or,Bool.and_false,Bool.false_and,Bool.true_and,Bool.and_true,Bool.or_false];rfl,rfl⟩)
 refine RW.gG (hl) cz ?_
 rcases z4:((o.cap:Int) == 0) with _ | _
 ·refine RW.gE (hl) cz ?_
  refine SW.ret ?_
  exact End.mk [] (h4:=⟨by simp only [zeroV,f0,f1,f2,f3,f4,f5,f6,f7,f8,f9,f10,z1,z2,z3,z4,Bool.true_or,Bool.or_true,Bool.false_or,Bool.and_false,Bool.false_and,Bool.true_and,Bool.and_true,Bool.or_false];rfl,rfl⟩)
 refine RW.gG (hl) cz ?_
 rcases z5:decide (o.at_=(⟨0,0⟩:Dt)) with _ | _
 ·refine RW.gE (hl) cz ?_
  refine SW.ret ?_
  exact End.mk [] (h4:=⟨by simp only [zeroV,f0,f1,f2,f3,f4,f5,f6,f7,f8,f9,f10,z1,z2,z3,z4,z5,Bool.true_or,Bool.or_true,Bool.false_or,Bool.and_false,Bool.false_and,Bool.true_and,Bool.and_true,Bool.or_false];rfl,rfl⟩)
 refine RW.gG (hl) cz ?_
 rcases z6:decide (o.iK=(⟨0,0⟩:Dt)) with _ | _
 ·refine RW.gE (hl) cz ?_
  refine SW.ret ?_
  exact End.mk [] (h4:=⟨by simp only [zeroV,f0,f1,f2,f3,f4,f5,f6,f7,f8,f9,f10,z1,z2,z3,z4,z5,z6,Bool.true_or,Bool.or_true,Bool.false_or,Bool.and_false,Bool.false_and,Bool.true_and,Bool.and_true,Bool.or_false];rfl,rfl⟩)
 refine RW.gG (hl) cz ?_
 rcases z7:((o.item:Int) == 0) with _ | _
 ·refine RW.gE (hl) cz ?_
  refine SW.ret ?_
  exact End.mk [] (h4:=⟨by simp only [zeroV,f0,f1,f2,f3,f4,f5,f6,f7,f8,f9,f10,z1,z2,z3,z4,z5,z6,z7,Bool.true_or,Bool.or_true,Bool.false_or,Bool.and_false,Bool.false_and,Bool.true_and,Bool.and_true,Bool.or_false];rfl,rfl⟩)
 refine RW.gG (hl) cz ?_
 rcases z8:((o.r7:Int) == 0) with _ | _
 ·refine RW.gE (hl) cz ?_
  refine SW.ret ?_
  exact End.mk [] (h4:=⟨by simp only [zeroV,f0,f1,f2,f3,f4,f5,f6,f7,f8,f9,f10,z1,z2,z3,z4,z5,z6,z7,z8,Bool.true_or,Bool.or_true,Bool.false_or,Bool.and_false,Bool.false_and,Bool.true_and,Bool.and_true,Bool.or_false];rfl,rfl⟩)
 refine RW.gG (hl) cz ?_
 rcases z9:((o.eu:Int) == 0) with _ | _
 ·refine RW.gE (hl) cz ?_
  refine SW.ret ?_
  exact End.mk [] (h4:=⟨by simp only [zeroV,f0,f1,f2,f3,f4,f5,f6,f7,f8,f9,f10,z1,z2,z3,z4,z5,z6,z7,z8,z9,Bool.true_or,Bool.or_true,Bool.false_or,Bool.and_false,Bool.false_and,Bool.true_and,Bool.and_true,Bool.or_false];rfl,rfl⟩)
 refine RW.gE (hl) cz ?_
 refine SW.ret ?_
 exact End.mk [] (h4:=⟨by simp only [zeroV,f0,f1,f2,f3,f4,f5,f6,f7,f8,f9,f10,z1,z2,z3,z4,z5,z6,z7,z8,z9,Bool.true_or,Bool.or_true,Bool.false_or,Bool.and_self,Bool.true_and,Bool.and_true];rfl,rfl⟩)
end
end Go.Proofs.YtaelhkkjgfobhaaGreat
