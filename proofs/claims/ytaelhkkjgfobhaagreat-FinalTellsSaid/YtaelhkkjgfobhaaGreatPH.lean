/-
 What the statements' arguments read as: operations with their lines, and rows of them.
-/
import Derived.Test.YtaelhkkjgfobhaaGreatPV
import Derived.Test.YtaelhkkjgfobhaaGreatP5
set_option linter.unusedSectionVars false
set_option linter.unusedVariables false
set_option linter.unusedSimpArgs false
namespace Go.Proofs.YtaelhkkjgfobhaaGreat
open Go.Sl Go.Proofs
theorem xh {P:Program}{t:TypeId}{n:Nat}{ds:List DV}(h:dV P t=some (some n)):mw P t ds= .agg (ds.map .d):=by simp [mw,h]
theorem DC {P:Program}{t:TypeId}{ds:List DV}(h:dV P t=some none):mw P t ds= .d (ds.headD .j0):=by simp [mw,h]
set_option maxRecDepth 100000 in
theorem B_ {d:Nat}{ds:List DV}(h:Fit Tryz.prog (d+2) ku ds):∃ v:aB,v.wf∧ds=v.ds:=
 HF (P:= Tryz.prog) (t:=ku) (e:=Ey) Tryz.underlying39 Tryz.underlying35 (by kernel_rfl) (by kernel_rfl) h
set_option maxRecDepth 100000 in
theorem lT {d:Nat}{ds:List DV}(h:Fit Tryz.prog (d+2) pG ds):∃ x:Dt,x.wf∧ds=x.ds:=
 HG (P:= Tryz.prog) (t:=pG) Tryz.underlying37 rfl rfl rfl rfl Tryz.underlying5 Tryz.underlying35 (by kernel_rfl) (by kernel_rfl) (by kernel_rfl) h
set_option maxRecDepth 100000 in
theorem DD {d:Nat}{ds:List DV}(h:Fit Tryz.prog (d+3) iY ds):∃ x:Cm,x.wf∧ds=x.ds:=by
 have f0:=cq (P:= Tryz.prog) (t:=iY) Tryz.underlying148 h 0 _ rfl;have f1:=cq (P:= Tryz.prog) (t:=iY) Tryz.underlying148 h 1 _ rfl;have hl:=xB (P:= Tryz.prog) (t:=iY) Tryz.underlying148 h;rw [show Tryz.prog.cellsOf iY=4 from by kernel_rfl] at hl;obtain ⟨x0,w0,e0⟩:=lT (d:=d) f0;obtain ⟨x1,w1,e1⟩:=lT (d:=d) f1;refine ⟨⟨x0,x1⟩,⟨w0,w1⟩,?_⟩;have g0:ds.drop 0=x0.ds++ds.drop 2:=nN (n:=2) e0 rfl;have g1:ds.drop 2=x1.ds++ds.drop 4:=nN (n:=2) e1 rfl;have g:ds.drop 4=[]:=List.drop_of_length_le (by omega);have g':ds=ds.drop 0:=rfl;rw [g',g0,g1,g];rfl
set_option maxRecDepth 100000 in
theorem DE {d:Nat}{ds:List DV}(h:Fit Tryz.prog (d+4) qb ds):ds=[.aJ]∨∃ l:List Cm,(∀ x∈l,x.wf)∧l.length≤9223372036854775807∧ds=[.sl l.length (l.flatMap Cm.ds)]:=
 wv Cm.ds Cm.wf (P:= Tryz.prog) (t:=qb) (e:=iY) Tryz.underlying41 (fun _ h=>DD h) h
structure LX (o:ag):Prop where
 dot:o.dot.wf
 dep:o.dep.wf
 time:o.time<18446744073709551616
 who:o.who<4294967296
 aH:o.aH.wf
 kind:o.kind<256
 aN:o.aN.wf
 to:o.to<4294967296
 aP:o.aP<256
 depth:o.depth<256
 cap:o.cap<18446744073709551616
 at_:o.at_.wf
 lC:o.lC.wf
 item:o.item<4294967296
 Kt:o.Kt<4294967296
 yL:o.yL<4294967296
 lines:o.lines= .aJ∨∃ cl:List Cm,o.lines= .sl cl.length (cl.flatMap Cm.ds)∧cl.length≤9223372036854775807
set_option maxRecDepth 100000 in
set_option maxHeartbeats 2000000 in
theorem LJ {d:Nat}{ds:List DV}(h:Fit Tryz.prog (d+5) dh ds):∃ o:ag,LX o∧ds=o.ds:=by
 have f0:=cq (P:= Tryz.prog) (t:=dh) Tryz.underlying43 h 0 _ rfl;have f1:=cq (P:= Tryz.prog) (t:=dh) Tryz.underlying43 h 1 _ rfl;have f2:=cq (P:= Tryz.prog) (t:=dh) Tryz.underlying43 h 2 _ rfl;have f3:=cq (P:= Tryz.prog) (t:=dh) Tryz.underlying43 h 3 _ rfl;have f4:=cq (P:= Tryz.prog) (t:=dh) Tryz.underlying43 h 4 _ rfl;have f5:=cq (P:= Tryz.prog) (t:=dh) Tryz.underlying43 h 5 _ rfl;have f6:=cq (P:= Tryz.prog) (t:=dh) Tryz.underlying43 h 6 _ rfl;have f7:=cq (P:= Tryz.prog) (t:=dh) Tryz.underlying43 h 7 _ rfl;have f8:=cq (P:= Tryz.prog) (t:=dh) Tryz.underlying43 h 8 _ rfl;have f9:=cq (P:= Tryz.prog) (t:=dh) Tryz.underlying43 h 9 _ rfl;have f10:=cq (P:= Tryz.prog) (t:=dh) Tryz.underlying43 h 10 _ rfl;have f11:=cq (P:= Tryz.prog) (t:=dh) Tryz.underlying43 h 11 _ rfl;have f12:=cq (P:= Tryz.prog) (t:=dh) Tryz.underlying43 h 12 _ rfl;have f13:=cq (P:= Tryz.prog) (t:=dh) Tryz.underlying43 h 13 _ rfl;have f14:=cq (P:= Tryz.prog) (t:=dh) Tryz.underlying43 h 14 _ rfl;have f15:=cq (P:= Tryz.prog) (t:=dh) Tryz.underlying43 h 15 _ rfl;have f16:=cq (P:= Tryz.prog) (t:=dh) Tryz.underlying43 h 16 _ rfl;have hl:=xB (P:= Tryz.prog) (t:=dh) Tryz.underlying43 h;rw [show Tryz.prog.cellsOf dh=29 from by kernel_rfl] at hl;obtain ⟨x0,w0,e0⟩:=lT (d:=d+2) f0;obtain ⟨x1,w1,e1⟩:=B_ (d:=d+2) f1;obtain ⟨x2,w2,e2⟩:=Bw (P:= Tryz.prog) Tryz.underlying40 f2;obtain ⟨x3,w3,e3⟩:=nL (P:= Tryz.prog) Tryz.underlying35 f3;obtain ⟨x4,w4,e4⟩:=lT (d:=d+2) f4;obtain ⟨x5,w5,e5⟩:=xA (P:= Tryz.prog) Tryz.underlying5 f5;obtain ⟨x6,w6,e6⟩:=lT (d:=d+2) f6;obtain ⟨x7,w7,e7⟩:=nL (P:= Tryz.prog) Tryz.underlying35 f7;obtain ⟨x8,w8,e8⟩:=xA (P:= Tryz.prog) Tryz.underlying5 f8;obtain ⟨x9,w9,e9⟩:=xA (P:= Tryz.prog) Tryz.underlying5 f9;obtain ⟨Nv,w10,e10⟩:=Bw (P:= Tryz.prog) Tryz.underlying40 f10;obtain ⟨Nw,w11,OL⟩:=lT (d:=d+2) f11;obtain ⟨Nx,w12,e12⟩:=lT (d:=d+2) f12;obtain ⟨Ny,w13,e13⟩:=nL (P:= Tryz.prog) Tryz.underlying35 f13;obtain ⟨x14,w14,e14⟩:=nL (P:= Tryz.prog) Tryz.underlying35 f14;obtain ⟨x15,w15,e15⟩:=nL (P:= Tryz.prog) Tryz.underlying35 f15;have e16:∃ y,(ds.drop 28).take 1=[y]∧(y= .aJ∨∃ cl:List Cm,y= .sl cl.length (cl.flatMap Cm.ds)∧cl.length≤9223372036854775807):=by
  rcases DE (d:=d) f16 with e | ⟨cl,_,hn,e⟩
  ·exact ⟨.aJ,e,.inl rfl⟩
  ·exact ⟨_,e,.inr ⟨cl,rfl,hn⟩⟩
 obtain ⟨x16,e16,w16⟩:=e16;refine ⟨⟨x0,x1,x2,x3,x4,x5,x6,x7,x8,x9,Nv,Nw,Nx,Ny,x14,x15,x16⟩,⟨w0,w1,w2,w3,w4,w5,w6,w7,w8,w9,w10,w11,w12,w13,w14,w15,w16⟩,?_⟩;have g0:ds.drop 0=x0.ds++ds.drop 2:=nN (n:=2) e0 rfl;have g1:ds.drop 2=x1.ds++ds.drop 10:=nN (n:=8) e1 rfl;have g2:ds.drop 10=[.int .u64 x2]++ds.drop 11:=nN (n:=1) e2 rfl;have g3:ds.drop 11=[.int .u32 x3]++ds.drop 12:=nN (n:=1) e3 rfl;have g4:ds.drop 12=x4.ds++ds.drop 14:=nN (n:=2) e4 rfl;have g5:ds.drop 14=[.int .u8 x5]++ds.drop 15:=nN (n:=1) e5 rfl;have g6:ds.drop 15=x6.ds++ds.drop 17:=nN (n:=2) e6 rfl;have g7:ds.drop 17=[.int .u32 x7]++ds.drop 18:=nN (n:=1) e7 rfl;have g8:ds.drop 18=[.int .u8 x8]++ds.drop 19:=nN (n:=1) e8 rfl;have g9:ds.drop 19=[.int .u8 x9]++ds.drop 20:=nN (n:=1) e9 rfl;have g10:ds.drop 20=[.int .u64 Nv]++ds.drop 21:=nN (n:=1) e10 rfl;have g11:ds.drop 21=Nw.ds++ds.drop 23:=nN (n:=2) OL rfl;have g12:ds.drop 23=Nx.ds++ds.drop 25:=nN (n:=2) e12 rfl;have g13:ds.drop 25=[.int .u32 Ny]++ds.drop 26:=nN (n:=1) e13 rfl;have g14:ds.drop 26=[.int .u32 x14]++ds.drop 27:=nN (n:=1) e14 rfl;have g15:ds.drop 27=[.int .u32 x15]++ds.drop 28:=nN (n:=1) e15 rfl;have g16:ds.drop 28=[x16]++ds.drop 29:=nN (n:=1) e16 rfl;have g:ds.drop 29=[]:=List.drop_of_length_le (by omega);have g':ds=ds.drop 0:=rfl;rw [g',g0,g1,g2,g3,g4,g5,g6,g7,g8,g9,g10,g11,g12,g13,g14,g15,g16,g];rfl
set_option maxRecDepth 100000 in
theorem Jn {d:Nat}{ds:List DV}(h:Fit Tryz.prog (d+6) k_ ds):ds=[.aJ]∨∃ l:List ag,(∀ x∈l,LX x)∧l.length≤9223372036854775807∧ds=[.sl l.length (l.flatMap ag.ds)]:=
 wv ag.ds LX (P:= Tryz.prog) (t:=k_) (e:=dh) Tryz.underlying22 (fun _ h=>LJ h) h
theorem Jo (x:DV):mw Tryz.prog k_ [x]= .d x:=by rw [DC (by kernel_rfl)];rfl
theorem Jp (v:aB):mw Tryz.prog ku v.ds= .agg v.cells:=by rw [xh (n:=8) (by kernel_rfl),aB.lX]
theorem LX.nz {q:ag}(h:LX q):LX q.nz∧q.nz.mN:=by
 have hl:q.nz.mN∧(q.nz.lines= .aJ∨∃ cl:List Cm,q.nz.lines= .sl cl.length (cl.flatMap Cm.ds)∧cl.length≤9223372036854775807):=by
  rcases h.lines with e | ⟨cl,e,lJ⟩
  ·have e':q.nz.lines= .sl ([]:List Cm).length (([]:List Cm).flatMap Cm.ds):=by show Go.Sl.nz q.lines=_;rw [e];rfl
   exact ⟨(ag.mN.of e' (by simp)).1,.inr ⟨[],e',by simp⟩⟩
  ·have e':q.nz.lines= .sl cl.length (cl.flatMap Cm.ds):=by show Go.Sl.nz q.lines=_;rw [e];rfl
   exact ⟨(ag.mN.of e' lJ).1,.inr ⟨cl,e',lJ⟩⟩
 exact ⟨⟨h.dot,h.dep,h.time,h.who,h.aH,h.kind,h.aN,h.to,h.aP,h.depth,h.cap,h.at_,h.lC,h.item,h.Kt,h.yL,hl.2⟩,hl.1⟩
theorem own:ownKnob Tryz.prog.godebug=none:=by kernel_rfl
theorem Be (M:Mem):qe M:=fun g cs hg=>by simp [DP,ym] at hg
theorem Jq {P:Program}{d:Nat}{t1 t2 t3:TypeId}{vq:List (List DV)}(h:sr P d [t1,t2,t3] vq):∃ x0 x1 x2,vq=[x0,x1,x2]∧Fit P d t1 x0∧Fit P d t2 x1∧Fit P d t3 x2:=by
 match vq,h with
 | [x0,x1,x2],h=>
  simp only [sr] at h;exact ⟨x0,x1,x2,rfl,h.1,h.2.1,h.2.2.1⟩
end Go.Proofs.YtaelhkkjgfobhaaGreat
