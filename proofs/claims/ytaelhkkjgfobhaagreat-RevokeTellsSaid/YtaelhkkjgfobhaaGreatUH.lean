/-
 What the statements' arguments read as: operations with their lines, and rows of them.
-/
import Derived.Test.YtaelhkkjgfobhaaGreatUV
import Derived.Test.YtaelhkkjgfobhaaGreatU5
set_option linter.unusedSectionVars false
set_option linter.unusedVariables false
set_option linter.unusedSimpArgs false
namespace Go.Proofs.YtaelhkkjgfobhaaGreat
open Go.Sl Go.Proofs
theorem BW {P:Program}{t:TypeId}{n:Nat}{ds:List DV}(h:dz P t=some (some n)):mY P t ds= .agg (ds.map .d):=by simp [mY,h]
theorem BX {P:Program}{t:TypeId}{ds:List DV}(h:dz P t=some none):mY P t ds= .d (ds.headD .jB):=by simp [mY,h]
set_option maxRecDepth 100000 in
theorem Hs {d:Nat}{ds:List DV}(h:Fit Tryz.prog (d+2) qn ds):∃ v:aJ,v.wf∧ds=v.ds:=
 FR (P:= Tryz.prog) (t:=qn) (e:=CS) Tryz.underlying39 Tryz.underlying35 (by kernel_rfl) (by kernel_rfl) h
set_option maxRecDepth 100000 in
theorem kT {d:Nat}{ds:List DV}(h:Fit Tryz.prog (d+2) ow ds):∃ x:Dt,x.wf∧ds=x.ds:=
 FT (P:= Tryz.prog) (t:=ow) Tryz.underlying37 rfl rfl rfl rfl Tryz.underlying5 Tryz.underlying35 (by kernel_rfl) (by kernel_rfl) (by kernel_rfl) h
set_option maxRecDepth 100000 in
theorem BY {d:Nat}{ds:List DV}(h:Fit Tryz.prog (d+3) iq ds):∃ x:Cm,x.wf∧ds=x.ds:=by
 have f0:=bM (P:= Tryz.prog) (t:=iq) Tryz.underlying148 h 0 _ rfl
 have f1:=bM (P:= Tryz.prog) (t:=iq) Tryz.underlying148 h 1 _ rfl
 have hl:=vZ (P:= Tryz.prog) (t:=iq) Tryz.underlying148 h
 rw [show Tryz.prog.cellsOf iq=4 from by kernel_rfl] at hl
 obtain ⟨x0,w0,e0⟩:=kT (d:=d) f0
 obtain ⟨x1,w1,e1⟩:=kT (d:=d) f1
 refine ⟨⟨x0,x1⟩,⟨w0,w1⟩,?_⟩
 have g0:ds.drop 0=x0.ds++ds.drop 2:=mP (n:=2) e0 rfl
 have g1:ds.drop 2=x1.ds++ds.drop 4:=mP (n:=2) e1 rfl
 have g:ds.drop 4=[]:=List.drop_of_length_le (by omega)
 have g':ds=ds.drop 0:=rfl
 rw [g',g0,g1,g]
 rfl
set_option maxRecDepth 100000 in
theorem BZ {d:Nat}{ds:List DV}(h:Fit Tryz.prog (d+4) oW ds):ds=[.aD]∨∃ l:List Cm,(∀ x∈l,x.wf)∧l.length≤9223372036854775807∧ds=[.sl l.length (l.flatMap Cm.ds)]:=
 vr Cm.ds Cm.wf (P:= Tryz.prog) (t:=oW) (e:=iq) Tryz.underlying41 (fun _ h=>BY h) h
structure JS (o:ag):Prop where
 dot:o.dot.wf
 dep:o.dep.wf
 time:o.time<18446744073709551616
 who:o.who<4294967296
 aQ:o.aQ.wf
 kind:o.kind<256
 aV:o.aV.wf
 to:o.to<4294967296
 aN:o.aN<256
 depth:o.depth<256
 cap:o.cap<18446744073709551616
 at_:o.at_.wf
 kH:o.kH.wf
 item:o.item<4294967296
 II:o.II<4294967296
 xI:o.xI<4294967296
 lines:o.lines= .aD∨∃ cl:List Cm,o.lines= .sl cl.length (cl.flatMap Cm.ds)∧cl.length≤9223372036854775807
set_option maxRecDepth 100000 in
set_option maxHeartbeats 2000000 in
theorem JH {d:Nat}{ds:List DV}(h:Fit Tryz.prog (d+5) cG ds):∃ o:ag,JS o∧ds=o.ds:=by
 have f0:=bM (P:= Tryz.prog) (t:=cG) Tryz.underlying43 h 0 _ rfl
 have f1:=bM (P:= Tryz.prog) (t:=cG) Tryz.underlying43 h 1 _ rfl
 have f2:=bM (P:= Tryz.prog) (t:=cG) Tryz.underlying43 h 2 _ rfl
 have f3:=bM (P:= Tryz.prog) (t:=cG) Tryz.underlying43 h 3 _ rfl
 have f4:=bM (P:= Tryz.prog) (t:=cG) Tryz.underlying43 h 4 _ rfl
 have f5:=bM (P:= Tryz.prog) (t:=cG) Tryz.underlying43 h 5 _ rfl
 have f6:=bM (P:= Tryz.prog) (t:=cG) Tryz.underlying43 h 6 _ rfl
 have f7:=bM (P:= Tryz.prog) (t:=cG) Tryz.underlying43 h 7 _ rfl
 have f8:=bM (P:= Tryz.prog) (t:=cG) Tryz.underlying43 h 8 _ rfl
 have f9:=bM (P:= Tryz.prog) (t:=cG) Tryz.underlying43 h 9 _ rfl
 have f10:=bM (P:= Tryz.prog) (t:=cG) Tryz.underlying43 h 10 _ rfl
 have f11:=bM (P:= Tryz.prog) (t:=cG) Tryz.underlying43 h 11 _ rfl
 have f12:=bM (P:= Tryz.prog) (t:=cG) Tryz.underlying43 h 12 _ rfl
 have f13:=bM (P:= Tryz.prog) (t:=cG) Tryz.underlying43 h 13 _ rfl
 have f14:=bM (P:= Tryz.prog) (t:=cG) Tryz.underlying43 h 14 _ rfl
 have f15:=bM (P:= Tryz.prog) (t:=cG) Tryz.underlying43 h 15 _ rfl
 have f16:=bM (P:= Tryz.prog) (t:=cG) Tryz.underlying43 h 16 _ rfl
 have hl:=vZ (P:= Tryz.prog) (t:=cG) Tryz.underlying43 h
 rw [show Tryz.prog.cellsOf cG=29 from by kernel_rfl] at hl
 obtain ⟨x0,w0,e0⟩:=kT (d:=d+2) f0
 obtain ⟨x1,w1,e1⟩:=Hs (d:=d+2) f1
 obtain ⟨x2,w2,e2⟩:=Ae (P:= Tryz.prog) Tryz.underlying40 f2
 obtain ⟨x3,w3,e3⟩:=mO (P:= Tryz.prog) Tryz.underlying35 f3
 obtain ⟨x4,w4,e4⟩:=kT (d:=d+2) f4
 obtain ⟨x5,w5,e5⟩:=vY (P:= Tryz.prog) Tryz.underlying5 f5
 obtain ⟨x6,w6,e6⟩:=kT (d:=d+2) f6
 obtain ⟨x7,w7,e7⟩:=mO (P:= Tryz.prog) Tryz.underlying35 f7
 obtain ⟨x8,w8,e8⟩:=vY (P:= Tryz.prog) Tryz.underlying5 f8
 obtain ⟨x9,w9,e9⟩:=vY (P:= Tryz.prog) Tryz.underlying5 f9
 obtain ⟨Lp,w10,e10⟩:=Ae (P:= Tryz.prog) Tryz.underlying40 f10
 obtain ⟨Lq,w11,Lw⟩:=kT (d:=d+2) f11
 obtain ⟨Lr,w12,e12⟩:=kT (d:=d+2) f12
 obtain ⟨Ls,w13,e13⟩:=mO (P:= Tryz.prog) Tryz.underlying35 f13
 obtain ⟨x14,w14,e14⟩:=mO (P:= Tryz.prog) Tryz.underlying35 f14
 obtain ⟨x15,w15,e15⟩:=mO (P:= Tryz.prog) Tryz.underlying35 f15
 have e16:∃ y,(ds.drop 28).take 1=[y]∧(y= .aD∨∃ cl:List Cm,y= .sl cl.length (cl.flatMap Cm.ds)∧cl.length≤9223372036854775807):=by
  rcases BZ (d:=d) f16 with e | ⟨cl,_,hn,e⟩
  ·exact ⟨.aD,e,.inl rfl⟩
  ·exact ⟨_,e,.inr ⟨cl,rfl,hn⟩⟩
 obtain ⟨x16,e16,w16⟩:=e16
 refine ⟨⟨x0,x1,x2,x3,x4,x5,x6,x7,x8,x9,Lp,Lq,Lr,Ls,x14,x15,x16⟩,⟨w0,w1,w2,w3,w4,w5,w6,w7,w8,w9,w10,w11,w12,w13,w14,w15,w16⟩,?_⟩
 have g0:ds.drop 0=x0.ds++ds.drop 2:=mP (n:=2) e0 rfl
 have g1:ds.drop 2=x1.ds++ds.drop 10:=mP (n:=8) e1 rfl
 have g2:ds.drop 10=[.int .u64 x2]++ds.drop 11:=mP (n:=1) e2 rfl
 have g3:ds.drop 11=[.int .u32 x3]++ds.drop 12:=mP (n:=1) e3 rfl
 have g4:ds.drop 12=x4.ds++ds.drop 14:=mP (n:=2) e4 rfl
 have g5:ds.drop 14=[.int .u8 x5]++ds.drop 15:=mP (n:=1) e5 rfl
 have g6:ds.drop 15=x6.ds++ds.drop 17:=mP (n:=2) e6 rfl
 have g7:ds.drop 17=[.int .u32 x7]++ds.drop 18:=mP (n:=1) e7 rfl
 have g8:ds.drop 18=[.int .u8 x8]++ds.drop 19:=mP (n:=1) e8 rfl
 have g9:ds.drop 19=[.int .u8 x9]++ds.drop 20:=mP (n:=1) e9 rfl
 have g10:ds.drop 20=[.int .u64 Lp]++ds.drop 21:=mP (n:=1) e10 rfl
 have g11:ds.drop 21=Lq.ds++ds.drop 23:=mP (n:=2) Lw rfl
 have g12:ds.drop 23=Lr.ds++ds.drop 25:=mP (n:=2) e12 rfl
 have g13:ds.drop 25=[.int .u32 Ls]++ds.drop 26:=mP (n:=1) e13 rfl
 have g14:ds.drop 26=[.int .u32 x14]++ds.drop 27:=mP (n:=1) e14 rfl
 have g15:ds.drop 27=[.int .u32 x15]++ds.drop 28:=mP (n:=1) e15 rfl
 have g16:ds.drop 28=[x16]++ds.drop 29:=mP (n:=1) e16 rfl
 have g:ds.drop 29=[]:=List.drop_of_length_le (by omega)
 have g':ds=ds.drop 0:=rfl
 rw [g',g0,g1,g2,g3,g4,g5,g6,g7,g8,g9,g10,g11,g12,g13,g14,g15,g16,g]
 rfl
set_option maxRecDepth 100000 in
theorem Ht {d:Nat}{ds:List DV}(h:Fit Tryz.prog (d+6) kB ds):ds=[.aD]∨∃ l:List ag,(∀ x∈l,JS x)∧l.length≤9223372036854775807∧ds=[.sl l.length (l.flatMap ag.ds)]:=
 vr ag.ds JS (P:= Tryz.prog) (t:=kB) (e:=cG) Tryz.underlying22 (fun _ h=>JH h) h
theorem Hu (x:DV):mY Tryz.prog kB [x]= .d x:=by rw [BX (by kernel_rfl)];rfl
theorem JS.nz {q:ag}(h:JS q):JS q.nz∧q.nz.nw:=by
 have hl:q.nz.nw∧(q.nz.lines= .aD∨∃ cl:List Cm,q.nz.lines= .sl cl.length (cl.flatMap Cm.ds)∧cl.length≤9223372036854775807):=by
  rcases h.lines with e | ⟨cl,e,kZ⟩
  ·have e':q.nz.lines= .sl ([]:List Cm).length (([]:List Cm).flatMap Cm.ds):=by show Go.Sl.nz q.lines=_;rw [e];rfl
   exact ⟨(ag.nw.of e' (by simp)).1,.inr ⟨[],e',by simp⟩⟩
  ·have e':q.nz.lines= .sl cl.length (cl.flatMap Cm.ds):=by show Go.Sl.nz q.lines=_;rw [e];rfl
   exact ⟨(ag.nw.of e' kZ).1,.inr ⟨cl,e',kZ⟩⟩
 exact ⟨⟨h.dot,h.dep,h.time,h.who,h.aQ,h.kind,h.aV,h.to,h.aN,h.depth,h.cap,h.at_,h.kH,h.item,h.II,h.xI,hl.2⟩,hl.1⟩
theorem own:ownKnob Tryz.prog.godebug=none:=by kernel_rfl
theorem zP (M:Mem):o7 M:=fun g cs hg=>by simp [B9,xe] at hg
theorem Hv {P:Program}{d:Nat}{t1 t2:TypeId}{uF:List (List DV)}(h:qZ P d [t1,t2] uF):∃ x0 x1,uF=[x0,x1]∧Fit P d t1 x0∧Fit P d t2 x1:=by
 match uF,h with
 | [x0,x1],h=>
  simp only [qZ] at h
  exact ⟨x0,x1,rfl,h.1,h.2.1⟩
end Go.Proofs.YtaelhkkjgfobhaaGreat
