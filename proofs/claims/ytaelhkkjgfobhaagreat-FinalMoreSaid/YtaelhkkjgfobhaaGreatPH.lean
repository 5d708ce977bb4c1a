/-
 What the statements' arguments read as: operations with their lines, and rows of them.
-/
import Derived.Test.YtaelhkkjgfobhaaGreatPV
import Derived.Test.YtaelhkkjgfobhaaGreatP5
set_option linter.unusedSectionVars false
set_option linter.unusedVariables false
set_option linter.unusedSimpArgs false
namespace Go.Proofs.YtaelhkkjgfobhaaGreat
open Go.Sl Go.Proofs
theorem vt {P:Program}{t:TypeId}{n:Nat}{ds:List DV}(h:dD P t=some (some n)):kY P t ds= .agg (ds.map .d):=by simp [kY,h]
theorem B9 {P:Program}{t:TypeId}{ds:List DV}(h:dD P t=some none):kY P t ds= .d (ds.headD .jr):=by simp [kY,h]
set_option maxRecDepth 100000 in
theorem wJ {d:Nat}{ds:List DV}(h:Fit Tryz.prog (d+2) h9 ds):∃ v:av,v.wf∧ds=v.ds:=
 F4 (P:= Tryz.prog) (t:=h9) (e:=C') Tryz.underlying39 Tryz.underlying35 (by kernel_rfl) (by kernel_rfl) h
set_option maxRecDepth 100000 in
theorem mD {d:Nat}{ds:List DV}(h:Fit Tryz.prog (d+2) qV ds):∃ x:Dt,x.wf∧ds=x.ds:=
 F5 (P:= Tryz.prog) (t:=qV) Tryz.underlying37 rfl rfl rfl rfl Tryz.underlying5 Tryz.underlying35 (by kernel_rfl) (by kernel_rfl) (by kernel_rfl) h
set_option maxRecDepth 100000 in
theorem B_ {d:Nat}{ds:List DV}(h:Fit Tryz.prog (d+3) gT ds):∃ x:Cm,x.wf∧ds=x.ds:=by
 have f0:=bP (P:= Tryz.prog) (t:=gT) Tryz.underlying148 h 0 _ rfl;have f1:=bP (P:= Tryz.prog) (t:=gT) Tryz.underlying148 h 1 _ rfl;have hl:=vN (P:= Tryz.prog) (t:=gT) Tryz.underlying148 h;rw [show Tryz.prog.cellsOf gT=4 from by kernel_rfl] at hl
 obtain ⟨x0,w0,e0⟩:=mD (d:=d) f0;obtain ⟨x1,w1,e1⟩:=mD (d:=d) f1;refine ⟨⟨x0,x1⟩,⟨w0,w1⟩,?_⟩;have g0:ds.drop 0=x0.ds++ds.drop 2:=mw (n:=2) e0 rfl;have g1:ds.drop 2=x1.ds++ds.drop 4:=mw (n:=2) e1 rfl;have g:ds.drop 4=[]:=List.drop_of_length_le (by omega)
 have g':ds=ds.drop 0:=rfl;rw [g',g0,g1,g];rfl
set_option maxRecDepth 100000 in
theorem Ca {d:Nat}{ds:List DV}(h:Fit Tryz.prog (d+4) oL ds):ds=[.aP]∨∃ l:List Cm,(∀ x∈l,x.wf)∧l.length≤9223372036854775807∧ds=[.sl l.length (l.flatMap Cm.ds)]:=
 uZ Cm.ds Cm.wf (P:= Tryz.prog) (t:=oL) (e:=gT) Tryz.underlying41 (fun _ h=>B_ h) h
structure J4 (o:ag):Prop where
 dot:o.dot.wf
 dep:o.dep.wf
 time:o.time<18446744073709551616
 who:o.who<4294967296
 aR:o.aR.wf
 kind:o.kind<256
 br:o.br.wf
 to:o.to<4294967296
 bn:o.bn<256
 depth:o.depth<256
 cap:o.cap<18446744073709551616
 at_:o.at_.wf
 nN:o.nN.wf
 item:o.item<4294967296
 IK:o.IK<4294967296
 xo:o.xo<4294967296
 lines:o.lines= .aP∨∃ cl:List Cm,o.lines= .sl cl.length (cl.flatMap Cm.ds)∧cl.length≤9223372036854775807
set_option maxRecDepth 100000 in
set_option maxHeartbeats 2000000 in
theorem JP {d:Nat}{ds:List DV}(h:Fit Tryz.prog (d+5) cN ds):∃ o:ag,J4 o∧ds=o.ds:=by
 have f0:=bP (P:= Tryz.prog) (t:=cN) Tryz.underlying43 h 0 _ rfl;have f1:=bP (P:= Tryz.prog) (t:=cN) Tryz.underlying43 h 1 _ rfl;have f2:=bP (P:= Tryz.prog) (t:=cN) Tryz.underlying43 h 2 _ rfl;have f3:=bP (P:= Tryz.prog) (t:=cN) Tryz.underlying43 h 3 _ rfl;have f4:=bP (P:= Tryz.prog) (t:=cN) Tryz.underlying43 h 4 _ rfl;have f5:=bP (P:= Tryz.prog) (t:=cN) Tryz.underlying43 h 5 _ rfl;have f6:=bP (P:= Tryz.prog) (t:=cN) Tryz.underlying43 h 6 _ rfl;have f7:=bP (P:= Tryz.prog) (t:=cN) Tryz.underlying43 h 7 _ rfl;have f8:=bP (P:= Tryz.prog) (t:=cN) Tryz.underlying43 h 8 _ rfl;have f9:=bP (P:= Tryz.prog) (t:=cN) Tryz.underlying43 h 9 _ rfl;have f10:=bP (P:= Tryz.prog) (t:=cN) Tryz.underlying43 h 10 _ rfl;have f11:=bP (P:= Tryz.prog) (t:=cN) Tryz.underlying43 h 11 _ rfl;have f12:=bP (P:= Tryz.prog) (t:=cN) Tryz.underlying43 h 12 _ rfl;have f13:=bP (P:= Tryz.prog) (t:=cN) Tryz.underlying43 h 13 _ rfl;have f14:=bP (P:= Tryz.prog) (t:=cN) Tryz.underlying43 h 14 _ rfl;have f15:=bP (P:= Tryz.prog) (t:=cN) Tryz.underlying43 h 15 _ rfl;have f16:=bP (P:= Tryz.prog) (t:=cN) Tryz.underlying43 h 16 _ rfl;have hl:=vN (P:= Tryz.prog) (t:=cN) Tryz.underlying43 h;rw [show Tryz.prog.cellsOf cN=29 from by kernel_rfl] at hl
 obtain ⟨x0,w0,e0⟩:=mD (d:=d+2) f0;obtain ⟨x1,w1,e1⟩:=wJ (d:=d+2) f1;obtain ⟨x2,w2,e2⟩:=Af (P:= Tryz.prog) Tryz.underlying40 f2;obtain ⟨x3,w3,e3⟩:=mq (P:= Tryz.prog) Tryz.underlying35 f3;obtain ⟨x4,w4,e4⟩:=mD (d:=d+2) f4;obtain ⟨x5,w5,e5⟩:=vM (P:= Tryz.prog) Tryz.underlying5 f5;obtain ⟨x6,w6,e6⟩:=mD (d:=d+2) f6;obtain ⟨x7,w7,e7⟩:=mq (P:= Tryz.prog) Tryz.underlying35 f7;obtain ⟨x8,w8,e8⟩:=vM (P:= Tryz.prog) Tryz.underlying5 f8;obtain ⟨x9,w9,e9⟩:=vM (P:= Tryz.prog) Tryz.underlying5 f9;obtain ⟨LC,w10,e10⟩:=Af (P:= Tryz.prog) Tryz.underlying40 f10;obtain ⟨LD,w11,MF⟩:=mD (d:=d+2) f11;obtain ⟨LF,w12,e12⟩:=mD (d:=d+2) f12;obtain ⟨LG,w13,e13⟩:=mq (P:= Tryz.prog) Tryz.underlying35 f13;obtain ⟨x14,w14,e14⟩:=mq (P:= Tryz.prog) Tryz.underlying35 f14;obtain ⟨x15,w15,e15⟩:=mq (P:= Tryz.prog) Tryz.underlying35 f15;have e16:∃ y,(ds.drop 28).take 1=[y]∧(y= .aP∨∃ cl:List Cm,y= .sl cl.length (cl.flatMap Cm.ds)∧cl.length≤9223372036854775807):=by
  rcases Ca (d:=d) f16 with e | ⟨cl,_,hn,e⟩
  ·exact ⟨.aP,e,.inl rfl⟩
  ·exact ⟨_,e,.inr ⟨cl,rfl,hn⟩⟩
 obtain ⟨x16,e16,w16⟩:=e16;refine ⟨⟨x0,x1,x2,x3,x4,x5,x6,x7,x8,x9,LC,LD,LF,LG,x14,x15,x16⟩,⟨w0,w1,w2,w3,w4,w5,w6,w7,w8,w9,w10,w11,w12,w13,w14,w15,w16⟩,?_⟩;have g0:ds.drop 0=x0.ds++ds.drop 2:=mw (n:=2) e0 rfl;have g1:ds.drop 2=x1.ds++ds.drop 10:=mw (n:=8) e1 rfl;have g2:ds.drop 10=[.int .u64 x2]++ds.drop 11:=mw (n:=1) e2 rfl;have g3:ds.drop 11=[.int .u32 x3]++ds.drop 12:=mw (n:=1) e3 rfl;have g4:ds.drop 12=x4.ds++ds.drop 14:=mw (n:=2) e4 rfl;have g5:ds.drop 14=[.int .u8 x5]++ds.drop 15:=mw (n:=1) e5 rfl;have g6:ds.drop 15=x6.ds++ds.drop 17:=mw (n:=2) e6 rfl;have g7:ds.drop 17=[.int .u32 x7]++ds.drop 18:=mw (n:=1) e7 rfl;have g8:ds.drop 18=[.int .u8 x8]++ds.drop 19:=mw (n:=1) e8 rfl;have g9:ds.drop 19=[.int .u8 x9]++ds.drop 20:=mw (n:=1) e9 rfl;have g10:ds.drop 20=[.int .u64 LC]++ds.drop 21:=mw (n:=1) e10 rfl;have g11:ds.drop 21=LD.ds++ds.drop 23:=mw (n:=2) MF rfl;have g12:ds.drop 23=LF.ds++ds.drop 25:=mw (n:=2) e12 rfl;have g13:ds.drop 25=[.int .u32 LG]++ds.drop 26:=mw (n:=1) e13 rfl;have g14:ds.drop 26=[.int .u32 x14]++ds.drop 27:=mw (n:=1) e14 rfl;have g15:ds.drop 27=[.int .u32 x15]++ds.drop 28:=mw (n:=1) e15 rfl;have g16:ds.drop 28=[x16]++ds.drop 29:=mw (n:=1) e16 rfl;have g:ds.drop 29=[]:=List.drop_of_length_le (by omega)
 have g':ds=ds.drop 0:=rfl;rw [g',g0,g1,g2,g3,g4,g5,g6,g7,g8,g9,g10,g11,g12,g13,g14,g15,g16,g];rfl
set_option maxRecDepth 100000 in
theorem Hu {d:Nat}{ds:List DV}(h:Fit Tryz.prog (d+6) j3 ds):ds=[.aP]∨∃ l:List ag,(∀ x∈l,J4 x)∧l.length≤9223372036854775807∧ds=[.sl l.length (l.flatMap ag.ds)]:=
 uZ ag.ds J4 (P:= Tryz.prog) (t:=j3) (e:=cN) Tryz.underlying22 (fun _ h=>JP h) h
theorem Hv (x:DV):kY Tryz.prog j3 [x]= .d x:=by rw [B9 (by kernel_rfl)];rfl
theorem Hw (v:av):kY Tryz.prog h9 v.ds= .agg v.cells:=by rw [vt (n:=8) (by kernel_rfl),av.oZ]
theorem J4.nz {q:ag}(h:J4 q):J4 q.nz∧q.nz.mS:=by
 have hl:q.nz.mS∧(q.nz.lines= .aP∨∃ cl:List Cm,q.nz.lines= .sl cl.length (cl.flatMap Cm.ds)∧cl.length≤9223372036854775807):=by
  rcases h.lines with e | ⟨cl,e,kU⟩
  ·have e':q.nz.lines= .sl ([]:List Cm).length (([]:List Cm).flatMap Cm.ds):=by show Go.Sl.nz q.lines=_;rw [e];rfl
   exact ⟨(ag.mS.of e' (by simp)).1,.inr ⟨[],e',by simp⟩⟩
  ·have e':q.nz.lines= .sl cl.length (cl.flatMap Cm.ds):=by show Go.Sl.nz q.lines=_;rw [e];rfl
   exact ⟨(ag.mS.of e' kU).1,.inr ⟨cl,e',kU⟩⟩
 exact ⟨⟨h.dot,h.dep,h.time,h.who,h.aR,h.kind,h.br,h.to,h.bn,h.depth,h.cap,h.at_,h.nN,h.item,h.IK,h.xo,hl.2⟩,hl.1⟩
theorem own:ownKnob Tryz.prog.godebug=none:=by kernel_rfl
theorem zN (M:Mem):oP M:=fun g cs hg=>by simp [Ck,wO] at hg
theorem Hx {P:Program}{d:Nat}{t1 t2 t3:TypeId}{tO:List (List DV)}(h:qK P d [t1,t2,t3] tO):∃ x0 x1 x2,tO=[x0,x1,x2]∧Fit P d t1 x0∧Fit P d t2 x1∧Fit P d t3 x2:=by
 match tO,h with
 | [x0,x1,x2],h=>
  simp only [qK] at h;exact ⟨x0,x1,x2,rfl,h.1,h.2.1,h.2.2.1⟩
end Go.Proofs.YtaelhkkjgfobhaaGreat
