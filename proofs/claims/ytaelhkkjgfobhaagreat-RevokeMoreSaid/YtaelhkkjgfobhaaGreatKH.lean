/-
 What the statements' arguments read as: operations with their lines, and rows of them.
-/
import Derived.Test.YtaelhkkjgfobhaaGreatKV
import Derived.Test.YtaelhkkjgfobhaaGreatK5
set_option linter.unusedSectionVars false
set_option linter.unusedVariables false
set_option linter.unusedSimpArgs false
namespace Go.Proofs.YtaelhkkjgfobhaaGreat
open Go.Sl Go.Proofs
theorem vE {P:Program}{t:TypeId}{ds:List DV}(h:dx P t=some none):oA P t ds= .d (ds.headD .jt):=by simp [oA,h]
set_option maxRecDepth 100000 in
theorem Gk {d:Nat}{ds:List DV}(h:Fit Tryz.prog (d+2) pQ ds):∃ v:aL,v.wf∧ds=v.ds:=
 Fc (P:= Tryz.prog) (t:=pQ) (e:=Ch) Tryz.underlying39 Tryz.underlying35 (by kernel_rfl) (by kernel_rfl) h
set_option maxRecDepth 100000 in
theorem mg {d:Nat}{ds:List DV}(h:Fit Tryz.prog (d+2) vm ds):∃ x:Dt,x.wf∧ds=x.ds:=
 Fe (P:= Tryz.prog) (t:=vm) Tryz.underlying37 rfl rfl rfl rfl Tryz.underlying5 Tryz.underlying35 (by kernel_rfl) (by kernel_rfl) (by kernel_rfl) h
set_option maxRecDepth 100000 in
theorem Bq {d:Nat}{ds:List DV}(h:Fit Tryz.prog (d+3) gT ds):∃ x:Cm,x.wf∧ds=x.ds:=by
 have f0:=bP (P:= Tryz.prog) (t:=gT) Tryz.underlying148 h 0 _ rfl
 have f1:=bP (P:= Tryz.prog) (t:=gT) Tryz.underlying148 h 1 _ rfl
 have hl:=vS (P:= Tryz.prog) (t:=gT) Tryz.underlying148 h
 rw [show Tryz.prog.cellsOf gT=4 from by kernel_rfl] at hl
 obtain ⟨x0,w0,e0⟩:=mg (d:=d) f0
 obtain ⟨x1,w1,e1⟩:=mg (d:=d) f1
 refine ⟨⟨x0,x1⟩,⟨w0,w1⟩,?_⟩
 have g0:ds.drop 0=x0.ds++ds.drop 2:=l5 (n:=2) e0 rfl
 have g1:ds.drop 2=x1.ds++ds.drop 4:=l5 (n:=2) e1 rfl
 have g:ds.drop 4=[]:=List.drop_of_length_le (by omega)
 have g':ds=ds.drop 0:=rfl
 rw [g',g0,g1,g]
 rfl
set_option maxRecDepth 100000 in
theorem Br {d:Nat}{ds:List DV}(h:Fit Tryz.prog (d+4) oD ds):ds=[.aU]∨∃ l:List Cm,(∀ x∈l,x.wf)∧l.length≤9223372036854775807∧ds=[.sl l.length (l.flatMap Cm.ds)]:=
 ve Cm.ds Cm.wf (P:= Tryz.prog) (t:=oD) (e:=gT) Tryz.underlying41 (fun _ h=>Bq h) h
structure IQ (o:ag):Prop where
 dot:o.dot.wf
 dep:o.dep.wf
 time:o.time<18446744073709551616
 who:o.who<4294967296
 aG:o.aG.wf
 kind:o.kind<256
 aK:o.aK.wf
 to:o.to<4294967296
 bp:o.bp<256
 depth:o.depth<256
 cap:o.cap<18446744073709551616
 at_:o.at_.wf
 iK:o.iK.wf
 item:o.item<4294967296
 r7:o.r7<4294967296
 eu:o.eu<4294967296
 lines:o.lines= .aU∨∃ cl:List Cm,o.lines= .sl cl.length (cl.flatMap Cm.ds)∧cl.length≤9223372036854775807
set_option maxRecDepth 100000 in
set_option maxHeartbeats 2000000 in
theorem IB {d:Nat}{ds:List DV}(h:Fit Tryz.prog (d+5) cG ds):∃ o:ag,IQ o∧ds=o.ds:=by
 have f0:=bP (P:= Tryz.prog) (t:=cG) Tryz.underlying43 h 0 _ rfl
 have f1:=bP (P:= Tryz.prog) (t:=cG) Tryz.underlying43 h 1 _ rfl
 have f2:=bP (P:= Tryz.prog) (t:=cG) Tryz.underlying43 h 2 _ rfl
 have f3:=bP (P:= Tryz.prog) (t:=cG) Tryz.underlying43 h 3 _ rfl
 have f4:=bP (P:= Tryz.prog) (t:=cG) Tryz.underlying43 h 4 _ rfl
 have f5:=bP (P:= Tryz.prog) (t:=cG) Tryz.underlying43 h 5 _ rfl
 have f6:=bP (P:= Tryz.prog) (t:=cG) Tryz.underlying43 h 6 _ rfl
 have f7:=bP (P:= Tryz.prog) (t:=cG) Tryz.underlying43 h 7 _ rfl
 have f8:=bP (P:= Tryz.prog) (t:=cG) Tryz.underlying43 h 8 _ rfl
 have f9:=bP (P:= Tryz.prog) (t:=cG) Tryz.underlying43 h 9 _ rfl
 have f10:=bP (P:= Tryz.prog) (t:=cG) Tryz.underlying43 h 10 _ rfl
 have f11:=bP (P:= Tryz.prog) (t:=cG) Tryz.underlying43 h 11 _ rfl
 have f12:=bP (P:= Tryz.prog) (t:=cG) Tryz.underlying43 h 12 _ rfl
 have f13:=bP (P:= Tryz.prog) (t:=cG) Tryz.underlying43 h 13 _ rfl
 have f14:=bP (P:= Tryz.prog) (t:=cG) Tryz.underlying43 h 14 _ rfl
 have f15:=bP (P:= Tryz.prog) (t:=cG) Tryz.underlying43 h 15 _ rfl
 have f16:=bP (P:= Tryz.prog) (t:=cG) Tryz.underlying43 h 16 _ rfl
 have hl:=vS (P:= Tryz.prog) (t:=cG) Tryz.underlying43 h
 rw [show Tryz.prog.cellsOf cG=29 from by kernel_rfl] at hl
 obtain ⟨x0,w0,e0⟩:=mg (d:=d+2) f0
 obtain ⟨x1,w1,e1⟩:=Gk (d:=d+2) f1
 obtain ⟨x2,w2,e2⟩:=zG (P:= Tryz.prog) Tryz.underlying40 f2
 obtain ⟨x3,w3,e3⟩:=lZ (P:= Tryz.prog) Tryz.underlying35 f3
 obtain ⟨x4,w4,e4⟩:=mg (d:=d+2) f4
 obtain ⟨x5,w5,e5⟩:=s8 (P:= Tryz.prog) Tryz.underlying5 f5
 obtain ⟨x6,w6,e6⟩:=mg (d:=d+2) f6
 obtain ⟨x7,w7,e7⟩:=lZ (P:= Tryz.prog) Tryz.underlying35 f7
 obtain ⟨x8,w8,e8⟩:=s8 (P:= Tryz.prog) Tryz.underlying5 f8
 obtain ⟨x9,w9,e9⟩:=s8 (P:= Tryz.prog) Tryz.underlying5 f9
 obtain ⟨Ks,w10,e10⟩:=zG (P:= Tryz.prog) Tryz.underlying40 f10
 obtain ⟨Kt,w11,Kz⟩:=mg (d:=d+2) f11
 obtain ⟨Ku,w12,e12⟩:=mg (d:=d+2) f12
 obtain ⟨Kv,w13,e13⟩:=lZ (P:= Tryz.prog) Tryz.underlying35 f13
 obtain ⟨x14,w14,e14⟩:=lZ (P:= Tryz.prog) Tryz.underlying35 f14
 obtain ⟨x15,w15,e15⟩:=lZ (P:= Tryz.prog) Tryz.underlying35 f15
 have e16:∃ y,(ds.drop 28).take 1=[y]∧(y= .aU∨∃ cl:List Cm,y= .sl cl.length (cl.flatMap Cm.ds)∧cl.length≤9223372036854775807):=by
  rcases Br (d:=d) f16 with e | ⟨cl,_,hn,e⟩
  ·exact ⟨.aU,e,.inl rfl⟩
  ·exact ⟨_,e,.inr ⟨cl,rfl,hn⟩⟩
 obtain ⟨x16,e16,w16⟩:=e16
 refine ⟨⟨x0,x1,x2,x3,x4,x5,x6,x7,x8,x9,Ks,Kt,Ku,Kv,x14,x15,x16⟩,⟨w0,w1,w2,w3,w4,w5,w6,w7,w8,w9,w10,w11,w12,w13,w14,w15,w16⟩,?_⟩
 have g0:ds.drop 0=x0.ds++ds.drop 2:=l5 (n:=2) e0 rfl
 have g1:ds.drop 2=x1.ds++ds.drop 10:=l5 (n:=8) e1 rfl
 have g2:ds.drop 10=[.int .u64 x2]++ds.drop 11:=l5 (n:=1) e2 rfl
 have g3:ds.drop 11=[.int .u32 x3]++ds.drop 12:=l5 (n:=1) e3 rfl
 have g4:ds.drop 12=x4.ds++ds.drop 14:=l5 (n:=2) e4 rfl
 have g5:ds.drop 14=[.int .u8 x5]++ds.drop 15:=l5 (n:=1) e5 rfl
 have g6:ds.drop 15=x6.ds++ds.drop 17:=l5 (n:=2) e6 rfl
 have g7:ds.drop 17=[.int .u32 x7]++ds.drop 18:=l5 (n:=1) e7 rfl
 have g8:ds.drop 18=[.int .u8 x8]++ds.drop 19:=l5 (n:=1) e8 rfl
 have g9:ds.drop 19=[.int .u8 x9]++ds.drop 20:=l5 (n:=1) e9 rfl
 have g10:ds.drop 20=[.int .u64 Ks]++ds.drop 21:=l5 (n:=1) e10 rfl
 have g11:ds.drop 21=Kt.ds++ds.drop 23:=l5 (n:=2) Kz rfl
 have g12:ds.drop 23=Ku.ds++ds.drop 25:=l5 (n:=2) e12 rfl
 have g13:ds.drop 25=[.int .u32 Kv]++ds.drop 26:=l5 (n:=1) e13 rfl
 have g14:ds.drop 26=[.int .u32 x14]++ds.drop 27:=l5 (n:=1) e14 rfl
 have g15:ds.drop 27=[.int .u32 x15]++ds.drop 28:=l5 (n:=1) e15 rfl
 have g16:ds.drop 28=[x16]++ds.drop 29:=l5 (n:=1) e16 rfl
 have g:ds.drop 29=[]:=List.drop_of_length_le (by omega)
 have g':ds=ds.drop 0:=rfl
 rw [g',g0,g1,g2,g3,g4,g5,g6,g7,g8,g9,g10,g11,g12,g13,g14,g15,g16,g]
 rfl
set_option maxRecDepth 100000 in
theorem Gl {d:Nat}{ds:List DV}(h:Fit Tryz.prog (d+6) jR ds):ds=[.aU]∨∃ l:List ag,(∀ x∈l,IQ x)∧l.length≤9223372036854775807∧ds=[.sl l.length (l.flatMap ag.ds)]:=
 ve ag.ds IQ (P:= Tryz.prog) (t:=jR) (e:=cG) Tryz.underlying22 (fun _ h=>IB h) h
theorem Gm (x:DV):oA Tryz.prog jR [x]= .d x:=by rw [vE (by kernel_rfl)];rfl
theorem IQ.nz {q:ag}(h:IQ q):IQ q.nz∧q.nz.ow:=by
 have hl:q.nz.ow∧(q.nz.lines= .aU∨∃ cl:List Cm,q.nz.lines= .sl cl.length (cl.flatMap Cm.ds)∧cl.length≤9223372036854775807):=by
  rcases h.lines with e | ⟨cl,e,lP⟩
  ·have e':q.nz.lines= .sl ([]:List Cm).length (([]:List Cm).flatMap Cm.ds):=by show Go.Sl.nz q.lines=_;rw [e];rfl
   exact ⟨(ag.ow.of e' (by simp)).1,.inr ⟨[],e',by simp⟩⟩
  ·have e':q.nz.lines= .sl cl.length (cl.flatMap Cm.ds):=by show Go.Sl.nz q.lines=_;rw [e];rfl
   exact ⟨(ag.ow.of e' lP).1,.inr ⟨cl,e',lP⟩⟩
 exact ⟨⟨h.dot,h.dep,h.time,h.who,h.aG,h.kind,h.aK,h.to,h.bp,h.depth,h.cap,h.at_,h.iK,h.item,h.r7,h.eu,hl.2⟩,hl.1⟩
theorem own:ownKnob Tryz.prog.godebug=none:=by kernel_rfl
theorem Al {t:TypeId}(x:DV)(h:dx Tryz.prog t=some none):oA Tryz.prog t [x]= .d x:=by rw [vE h];rfl
def GX (n:Int):Prop:= -9223372036854775808≤n∧n≤9223372036854775807
theorem zH {P:Program}{d:Nat}{t:TypeId}{ds:List DV}(hu:P.underlying t=some (.int .i64))(h:Fit P (d+1) t ds):∃ n:Int,GX n∧ds=[.int .i64 n]:=by
 simp only [Fit] at h
 rw [hu] at h
 obtain ⟨n,rfl,hw⟩:=h
 refine ⟨n,?_,rfl⟩
 simp only [Lit.wf,IntKind.min,IntKind.max,Bool.and_eq_true,decide_eq_true_eq] at hw
 unfold GX
 revert hw
 simp [IntKind.bits,IntKind.signed]
theorem zi (M:Mem):oF M:=fun g cs hg=>by simp [BB,wM] at hg
theorem Gn {P:Program}{d:Nat}{t1 t2 t3:TypeId}{ud:List (List DV)}(h:qz P d [t1,t2,t3] ud):∃ x0 x1 x2,ud=[x0,x1,x2]∧Fit P d t1 x0∧Fit P d t2 x1∧Fit P d t3 x2:=by
 match ud,h with
 | [x0,x1,x2],h=>
  simp only [qz] at h
  exact ⟨x0,x1,x2,rfl,h.1,h.2.1,h.2.2.1⟩
end Go.Proofs.YtaelhkkjgfobhaaGreat
