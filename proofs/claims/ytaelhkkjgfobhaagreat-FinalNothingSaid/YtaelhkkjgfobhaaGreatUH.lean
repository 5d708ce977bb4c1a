/-
 What the statements' arguments read as: operations with their lines, and rows of them.
-/
import Derived.Test.YtaelhkkjgfobhaaGreatUV
import Derived.Test.YtaelhkkjgfobhaaGreatU5
set_option linter.unusedSectionVars false
set_option linter.unusedVariables false
set_option linter.unusedSimpArgs false
namespace Go.Proofs.YtaelhkkjgfobhaaGreat
open Go.Sl Go.Proofs
theorem wK {P:Program}{t:TypeId}{n:Nat}{ds:List DV}(h:dS P t=some (some n)):l6 P t ds= .agg (ds.map .d):=by simp [l6,h]
theorem Db {P:Program}{t:TypeId}{ds:List DV}(h:dS P t=some none):l6 P t ds= .d (ds.headD .jR):=by simp [l6,h]
set_option maxRecDepth 100000 in
theorem IQ {d:Nat}{ds:List DV}(h:Fit Tryz.prog (d+2) nE ds):∃ v:aB,v.wf∧ds=v.ds:=
 G4 (P:= Tryz.prog) (t:=nE) (e:=D6) Tryz.underlying39 Tryz.underlying35 (by kernel_rfl) (by kernel_rfl) h
set_option maxRecDepth 100000 in
theorem lG {d:Nat}{ds:List DV}(h:Fit Tryz.prog (d+2) pg ds):∃ x:Dt,x.wf∧ds=x.ds:=
 G5 (P:= Tryz.prog) (t:=pg) Tryz.underlying37 rfl rfl rfl rfl Tryz.underlying5 Tryz.underlying35 (by kernel_rfl) (by kernel_rfl) (by kernel_rfl) h
set_option maxRecDepth 100000 in
theorem Dc {d:Nat}{ds:List DV}(h:Fit Tryz.prog (d+3) iQ ds):∃ x:Cm,x.wf∧ds=x.ds:=by
 have f0:=bY (P:= Tryz.prog) (t:=iQ) Tryz.underlying148 h 0 _ rfl;have f1:=bY (P:= Tryz.prog) (t:=iQ) Tryz.underlying148 h 1 _ rfl;have hl:=wX (P:= Tryz.prog) (t:=iQ) Tryz.underlying148 h;rw [show Tryz.prog.cellsOf iQ=4 from by kernel_rfl] at hl
 obtain ⟨x0,w0,e0⟩:=lG (d:=d) f0;obtain ⟨x1,w1,e1⟩:=lG (d:=d) f1;refine ⟨⟨x0,x1⟩,⟨w0,w1⟩,?_⟩;have g0:ds.drop 0=x0.ds++ds.drop 2:=nD (n:=2) e0 rfl;have g1:ds.drop 2=x1.ds++ds.drop 4:=nD (n:=2) e1 rfl;have g:ds.drop 4=[]:=List.drop_of_length_le (by omega)
 have g':ds=ds.drop 0:=rfl;rw [g',g0,g1,g];rfl
set_option maxRecDepth 100000 in
theorem Dd {d:Nat}{ds:List DV}(h:Fit Tryz.prog (d+4) pV ds):ds=[.aK]∨∃ l:List Cm,(∀ x∈l,x.wf)∧l.length≤9223372036854775807∧ds=[.sl l.length (l.flatMap Cm.ds)]:=
 vT Cm.ds Cm.wf (P:= Tryz.prog) (t:=pV) (e:=iQ) Tryz.underlying41 (fun _ h=>Dc h) h
structure Lr (o:ag):Prop where
 dot:o.dot.wf
 dep:o.dep.wf
 time:o.time<18446744073709551616
 who:o.who<4294967296
 aI:o.aI.wf
 kind:o.kind<256
 aL:o.aL.wf
 to:o.to<4294967296
 aQ:o.aQ<256
 depth:o.depth<256
 cap:o.cap<18446744073709551616
 at_:o.at_.wf
 kU:o.kU.wf
 item:o.item<4294967296
 JY:o.JY<4294967296
 yo:o.yo<4294967296
 lines:o.lines= .aK∨∃ cl:List Cm,o.lines= .sl cl.length (cl.flatMap Cm.ds)∧cl.length≤9223372036854775807
set_option maxRecDepth 100000 in
set_option maxHeartbeats 2000000 in
theorem Le {d:Nat}{ds:List DV}(h:Fit Tryz.prog (d+5) c_ ds):∃ o:ag,Lr o∧ds=o.ds:=by
 have f0:=bY (P:= Tryz.prog) (t:=c_) Tryz.underlying43 h 0 _ rfl;have f1:=bY (P:= Tryz.prog) (t:=c_) Tryz.underlying43 h 1 _ rfl;have f2:=bY (P:= Tryz.prog) (t:=c_) Tryz.underlying43 h 2 _ rfl;have f3:=bY (P:= Tryz.prog) (t:=c_) Tryz.underlying43 h 3 _ rfl;have f4:=bY (P:= Tryz.prog) (t:=c_) Tryz.underlying43 h 4 _ rfl;have f5:=bY (P:= Tryz.prog) (t:=c_) Tryz.underlying43 h 5 _ rfl;have f6:=bY (P:= Tryz.prog) (t:=c_) Tryz.underlying43 h 6 _ rfl;have f7:=bY (P:= Tryz.prog) (t:=c_) Tryz.underlying43 h 7 _ rfl;have f8:=bY (P:= Tryz.prog) (t:=c_) Tryz.underlying43 h 8 _ rfl;have f9:=bY (P:= Tryz.prog) (t:=c_) Tryz.underlying43 h 9 _ rfl;have f10:=bY (P:= Tryz.prog) (t:=c_) Tryz.underlying43 h 10 _ rfl;have f11:=bY (P:= Tryz.prog) (t:=c_) Tryz.underlying43 h 11 _ rfl;have f12:=bY (P:= Tryz.prog) (t:=c_) Tryz.underlying43 h 12 _ rfl;have f13:=bY (P:= Tryz.prog) (t:=c_) Tryz.underlying43 h 13 _ rfl;have f14:=bY (P:= Tryz.prog) (t:=c_) Tryz.underlying43 h 14 _ rfl;have f15:=bY (P:= Tryz.prog) (t:=c_) Tryz.underlying43 h 15 _ rfl;have f16:=bY (P:= Tryz.prog) (t:=c_) Tryz.underlying43 h 16 _ rfl;have hl:=wX (P:= Tryz.prog) (t:=c_) Tryz.underlying43 h;rw [show Tryz.prog.cellsOf c_=29 from by kernel_rfl] at hl
 obtain ⟨x0,w0,e0⟩:=lG (d:=d+2) f0;obtain ⟨x1,w1,e1⟩:=IQ (d:=d+2) f1;obtain ⟨x2,w2,e2⟩:=A7 (P:= Tryz.prog) Tryz.underlying40 f2;obtain ⟨x3,w3,e3⟩:=nB (P:= Tryz.prog) Tryz.underlying35 f3;obtain ⟨x4,w4,e4⟩:=lG (d:=d+2) f4;obtain ⟨x5,w5,e5⟩:=wW (P:= Tryz.prog) Tryz.underlying5 f5;obtain ⟨x6,w6,e6⟩:=lG (d:=d+2) f6;obtain ⟨x7,w7,e7⟩:=nB (P:= Tryz.prog) Tryz.underlying35 f7;obtain ⟨x8,w8,e8⟩:=wW (P:= Tryz.prog) Tryz.underlying5 f8;obtain ⟨x9,w9,e9⟩:=wW (P:= Tryz.prog) Tryz.underlying5 f9;obtain ⟨MX,w10,e10⟩:=A7 (P:= Tryz.prog) Tryz.underlying40 f10;obtain ⟨MY,w11,N7⟩:=lG (d:=d+2) f11;obtain ⟨MZ,w12,e12⟩:=lG (d:=d+2) f12;obtain ⟨M3,w13,e13⟩:=nB (P:= Tryz.prog) Tryz.underlying35 f13;obtain ⟨x14,w14,e14⟩:=nB (P:= Tryz.prog) Tryz.underlying35 f14;obtain ⟨x15,w15,e15⟩:=nB (P:= Tryz.prog) Tryz.underlying35 f15;have e16:∃ y,(ds.drop 28).take 1=[y]∧(y= .aK∨∃ cl:List Cm,y= .sl cl.length (cl.flatMap Cm.ds)∧cl.length≤9223372036854775807):=by
  rcases Dd (d:=d) f16 with e | ⟨cl,_,hn,e⟩
  ·exact ⟨.aK,e,.inl rfl⟩
  ·exact ⟨_,e,.inr ⟨cl,rfl,hn⟩⟩
 obtain ⟨x16,e16,w16⟩:=e16;refine ⟨⟨x0,x1,x2,x3,x4,x5,x6,x7,x8,x9,MX,MY,MZ,M3,x14,x15,x16⟩,⟨w0,w1,w2,w3,w4,w5,w6,w7,w8,w9,w10,w11,w12,w13,w14,w15,w16⟩,?_⟩;have g0:ds.drop 0=x0.ds++ds.drop 2:=nD (n:=2) e0 rfl;have g1:ds.drop 2=x1.ds++ds.drop 10:=nD (n:=8) e1 rfl;have g2:ds.drop 10=[.int .u64 x2]++ds.drop 11:=nD (n:=1) e2 rfl;have g3:ds.drop 11=[.int .u32 x3]++ds.drop 12:=nD (n:=1) e3 rfl;have g4:ds.drop 12=x4.ds++ds.drop 14:=nD (n:=2) e4 rfl;have g5:ds.drop 14=[.int .u8 x5]++ds.drop 15:=nD (n:=1) e5 rfl;have g6:ds.drop 15=x6.ds++ds.drop 17:=nD (n:=2) e6 rfl;have g7:ds.drop 17=[.int .u32 x7]++ds.drop 18:=nD (n:=1) e7 rfl;have g8:ds.drop 18=[.int .u8 x8]++ds.drop 19:=nD (n:=1) e8 rfl;have g9:ds.drop 19=[.int .u8 x9]++ds.drop 20:=nD (n:=1) e9 rfl;have g10:ds.drop 20=[.int .u64 MX]++ds.drop 21:=nD (n:=1) e10 rfl;have g11:ds.drop 21=MY.ds++ds.drop 23:=nD (n:=2) N7 rfl;have g12:ds.drop 23=MZ.ds++ds.drop 25:=nD (n:=2) e12 rfl;have g13:ds.drop 25=[.int .u32 M3]++ds.drop 26:=nD (n:=1) e13 rfl;have g14:ds.drop 26=[.int .u32 x14]++ds.drop 27:=nD (n:=1) e14 rfl;have g15:ds.drop 27=[.int .u32 x15]++ds.drop 28:=nD (n:=1) e15 rfl;have g16:ds.drop 28=[x16]++ds.drop 29:=nD (n:=1) e16 rfl;have g:ds.drop 29=[]:=List.drop_of_length_le (by omega)
 have g':ds=ds.drop 0:=rfl;rw [g',g0,g1,g2,g3,g4,g5,g6,g7,g8,g9,g10,g11,g12,g13,g14,g15,g16,g];rfl
set_option maxRecDepth 100000 in
theorem IS {d:Nat}{ds:List DV}(h:Fit Tryz.prog (d+6) kQ ds):ds=[.aK]∨∃ l:List ag,(∀ x∈l,Lr x)∧l.length≤9223372036854775807∧ds=[.sl l.length (l.flatMap ag.ds)]:=
 vT ag.ds Lr (P:= Tryz.prog) (t:=kQ) (e:=c_) Tryz.underlying22 (fun _ h=>Le h) h
theorem IT (x:DV):l6 Tryz.prog kQ [x]= .d x:=by rw [Db (by kernel_rfl)];rfl
theorem IU (v:aB):l6 Tryz.prog nE v.ds= .agg v.cells:=by rw [wK (n:=8) (by kernel_rfl),aB.lK]
theorem Lr.nz {q:ag}(h:Lr q):Lr q.nz∧q.nz.nQ:=by
 have hl:q.nz.nQ∧(q.nz.lines= .aK∨∃ cl:List Cm,q.nz.lines= .sl cl.length (cl.flatMap Cm.ds)∧cl.length≤9223372036854775807):=by
  rcases h.lines with e | ⟨cl,e,lg⟩
  ·have e':q.nz.lines= .sl ([]:List Cm).length (([]:List Cm).flatMap Cm.ds):=by show Go.Sl.nz q.lines=_;rw [e];rfl
   exact ⟨(ag.nQ.of e' (by simp)).1,.inr ⟨[],e',by simp⟩⟩
  ·have e':q.nz.lines= .sl cl.length (cl.flatMap Cm.ds):=by show Go.Sl.nz q.lines=_;rw [e];rfl
   exact ⟨(ag.nQ.of e' lg).1,.inr ⟨cl,e',lg⟩⟩
 exact ⟨⟨h.dot,h.dep,h.time,h.who,h.aI,h.kind,h.aL,h.to,h.aQ,h.depth,h.cap,h.at_,h.kU,h.item,h.JY,h.yo,hl.2⟩,hl.1⟩
theorem own:ownKnob Tryz.prog.godebug=none:=by kernel_rfl
theorem AO (M:Mem):pZ M:=fun g cs hg=>by simp [Dn,xR] at hg
theorem IV {P:Program}{d:Nat}{t1 t2:TypeId}{u0:List (List DV)}(h:rU P d [t1,t2] u0):∃ x0 x1,u0=[x0,x1]∧Fit P d t1 x0∧Fit P d t2 x1:=by
 match u0,h with
 | [x0,x1],h=>
  simp only [rU] at h;exact ⟨x0,x1,rfl,h.1,h.2.1⟩
end Go.Proofs.YtaelhkkjgfobhaaGreat
