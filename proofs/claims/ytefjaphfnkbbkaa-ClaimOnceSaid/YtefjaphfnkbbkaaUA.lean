/-
 What the statements' arguments read as: operations with their lines, and rows of them.
-/
import Derived.Test.YtefjaphfnkbbkaaUV
import Derived.Test.YtefjaphfnkbbkaaU8
import Derived.Test.YtefjaphfnkbbkaaU9
import Derived.SizedLaws
import Derived.Test.YtefjaphfnkbbkaaUD
set_option linter.unusedSectionVars false
set_option linter.unusedVariables false
set_option linter.unusedSimpArgs false
namespace Go.Proofs.Ytefjaphfnkbbkaa
open Go.Sl Go.Proofs
section
theorem uD {P:Program}{t:TypeId}{n:Nat}{ds:List DV}(h:dg P t=some (some n)):jP P t ds= .agg (ds.map .d):=by simp [jP,h]
theorem Az {P:Program}{t:TypeId}{ds:List DV}(h:dg P t=some none):jP P t ds= .d (ds.headD .ow):=by simp [jP,h]
set_option maxRecDepth 100000 in
theorem Et {d:Nat}{ds:List DV}(h:Fit Try.prog (d+2) o8 ds):∃ v:aS,v.wf∧ds=v.ds:=
 Ei (P:= Try.prog) (t:=o8) (e:=wX) Try.underlying31 Try.underlying27 (by kernel_rfl) (by kernel_rfl) h
set_option maxRecDepth 100000 in
theorem iG {d:Nat}{ds:List DV}(h:Fit Try.prog (d+2) uC ds):∃ x:Dt,x.wf∧ds=x.ds:=
 Ej (P:= Try.prog) (t:=uC) Try.underlying29 rfl rfl rfl rfl Try.underlying5 Try.underlying27 (by kernel_rfl) (by kernel_rfl) (by kernel_rfl) h
set_option maxRecDepth 100000 in
theorem AA {d:Nat}{ds:List DV}(h:Fit Try.prog (d+3) gQ ds):∃ x:Cm,x.wf∧ds=x.ds:=by
 have f0:=aX (P:= Try.prog) (t:=gQ) Try.underlying62 h 0 _ rfl
 have f1:=aX (P:= Try.prog) (t:=gQ) Try.underlying62 h 1 _ rfl
 have hl:=mR (P:= Try.prog) (t:=gQ) Try.underlying62 h
 rw [show Try.prog.cellsOf gQ=4 from by kernel_rfl] at hl
 obtain ⟨x0,w0,e0⟩:=iG (d:=d) f0
 obtain ⟨x1,w1,e1⟩:=iG (d:=d) f1
 refine ⟨⟨x0,x1⟩,⟨w0,w1⟩,?_⟩
 have g0:ds.drop 0=x0.ds++ds.drop 2:=gD (n:=2) e0 rfl
 have g1:ds.drop 2=x1.ds++ds.drop 4:=gD (n:=2) e1 rfl
 have g:ds.drop 4=[]:=List.drop_of_length_le (by omega)
 have g':ds=ds.drop 0:=rfl
 rw [g',g0,g1,g]
 rfl
set_option maxRecDepth 100000 in
theorem AB {d:Nat}{ds:List DV}(h:Fit Try.prog (d+4) nv ds):ds=[.ay]∨∃ l:List Cm,(∀ x∈l,x.wf)∧l.length≤9223372036854775807∧ds=[.sl l.length (l.flatMap Cm.ds)]:=
 ko Cm.ds Cm.wf (P:= Try.prog) (t:=nv) (e:=gQ) Try.underlying33 (fun _ h=>AA h) h
structure GF (o:aq):Prop where
 dot:o.dot.wf
 dep:o.dep.wf
 time:o.time<18446744073709551616
 who:o.who<4294967296
 dU:o.dU.wf
 kind:o.kind<256
 aQ:o.aQ.wf
 to:o.to<4294967296
 bn:o.bn<256
 depth:o.depth<256
 cap:o.cap<18446744073709551616
 at_:o.at_.wf
 iU:o.iU.wf
 item:o.item<4294967296
 kn:o.kn<4294967296
 cu:o.cu<4294967296
 lines:o.lines= .ay∨∃ cl:List Cm,o.lines= .sl cl.length (cl.flatMap Cm.ds)∧cl.length≤9223372036854775807
set_option maxRecDepth 100000 in
set_option maxHeartbeats 2000000 in
theorem vw {d:Nat}{ds:List DV}(h:Fit Try.prog (d+5) bF ds):∃ o:aq,GF o∧ds=o.ds:=by
 have f0:=aX (P:= Try.prog) (t:=bF) Try.underlying35 h 0 _ rfl
 have f1:=aX (P:= Try.prog) (t:=bF) Try.underlying35 h 1 _ rfl
 have f2:=aX (P:= Try.prog) (t:=bF) Try.underlying35 h 2 _ rfl
 have f3:=aX (P:= Try.prog) (t:=bF) Try.underlying35 h 3 _ rfl
 have f4:=aX (P:= Try.prog) (t:=bF) Try.underlying35 h 4 _ rfl
 have f5:=aX (P:= Try.prog) (t:=bF) Try.underlying35 h 5 _ rfl
 have f6:=aX (P:= Try.prog) (t:=bF) Try.underlying35 h 6 _ rfl
 have f7:=aX (P:= Try.prog) (t:=bF) Try.underlying35 h 7 _ rfl
 have f8:=aX (P:= Try.prog) (t:=bF) Try.underlying35 h 8 _ rfl
 have f9:=aX (P:= Try.prog) (t:=bF) Try.underlying35 h 9 _ rfl
 have f10:=aX (P:= Try.prog) (t:=bF) Try.underlying35 h 10 _ rfl
 have f11:=aX (P:= Try.prog) (t:=bF) Try.underlying35 h 11 _ rfl
 have f12:=aX (P:= Try.prog) (t:=bF) Try.underlying35 h 12 _ rfl
 have f13:=aX (P:= Try.prog) (t:=bF) Try.underlying35 h 13 _ rfl
 have f14:=aX (P:= Try.prog) (t:=bF) Try.underlying35 h 14 _ rfl
 have f15:=aX (P:= Try.prog) (t:=bF) Try.underlying35 h 15 _ rfl
 have f16:=aX (P:= Try.prog) (t:=bF) Try.underlying35 h 16 _ rfl
 have hl:=mR (P:= Try.prog) (t:=bF) Try.underlying35 h
 rw [show Try.prog.cellsOf bF=29 from by kernel_rfl] at hl
 obtain ⟨x0,w0,e0⟩:=iG (d:=d+2) f0
 obtain ⟨x1,w1,e1⟩:=Et (d:=d+2) f1
 obtain ⟨x2,w2,e2⟩:=vh (P:= Try.prog) Try.underlying32 f2
 obtain ⟨x3,w3,e3⟩:=gY (P:= Try.prog) Try.underlying27 f3
 obtain ⟨x4,w4,e4⟩:=iG (d:=d+2) f4
 obtain ⟨x5,w5,e5⟩:=sq (P:= Try.prog) Try.underlying5 f5
 obtain ⟨x6,w6,e6⟩:=iG (d:=d+2) f6
 obtain ⟨x7,w7,e7⟩:=gY (P:= Try.prog) Try.underlying27 f7
 obtain ⟨x8,w8,e8⟩:=sq (P:= Try.prog) Try.underlying5 f8
 obtain ⟨x9,w9,e9⟩:=sq (P:= Try.prog) Try.underlying5 f9
 obtain ⟨x10,w10,e10⟩:=vh (P:= Try.prog) Try.underlying32 f10
 obtain ⟨x11,w11,e11⟩:=iG (d:=d+2) f11
 obtain ⟨x12,w12,e12⟩:=iG (d:=d+2) f12
 obtain ⟨x13,w13,e13⟩:=gY (P:= Try.prog) Try.underlying27 f13
 obtain ⟨x14,w14,e14⟩:=gY (P:= Try.prog) Try.underlying27 f14
 obtain ⟨x15,w15,e15⟩:=gY (P:= Try.prog) Try.underlying27 f15
 have e16:∃ y,(ds.drop 28).take 1=[y]∧(y= .ay∨∃ cl:List Cm,y= .sl cl.length (cl.flatMap Cm.ds)∧cl.length≤9223372036854775807):=by
  rcases AB (d:=d) f16 with e | ⟨cl,_,hn,e⟩
  ·exact ⟨.ay,e,.inl rfl⟩
  ·exact ⟨_,e,.inr ⟨cl,rfl,hn⟩⟩
 obtain ⟨x16,e16,w16⟩:=e16
 refine ⟨⟨x0,x1,x2,x3,x4,x5,x6,x7,x8,x9,x10,x11,x12,x13,x14,x15,x16⟩,⟨w0,w1,w2,w3,w4,w5,w6,w7,w8,w9,w10,w11,w12,w13,w14,w15,w16⟩,?_⟩
 have g0:ds.drop 0=x0.ds++ds.drop 2:=gD (n:=2) e0 rfl
 have g1:ds.drop 2=x1.ds++ds.drop 10:=gD (n:=8) e1 rfl
 have g2:ds.drop 10=[.int .u64 x2]++ds.drop 11:=gD (n:=1) e2 rfl
 have g3:ds.drop 11=[.int .u32 x3]++ds.drop 12:=gD (n:=1) e3 rfl
 have g4:ds.drop 12=x4.ds++ds.drop 14:=gD (n:=2) e4 rfl
 have g5:ds.drop 14=[.int .u8 x5]++ds.drop 15:=gD (n:=1) e5 rfl
 have g6:ds.drop 15=x6.ds++ds.drop 17:=gD (n:=2) e6 rfl
 have g7:ds.drop 17=[.int .u32 x7]++ds.drop 18:=gD (n:=1) e7 rfl
 have g8:ds.drop 18=[.int .u8 x8]++ds.drop 19:=gD (n:=1) e8 rfl
 have g9:ds.drop 19=[.int .u8 x9]++ds.drop 20:=gD (n:=1) e9 rfl
 have g10:ds.drop 20=[.int .u64 x10]++ds.drop 21:=gD (n:=1) e10 rfl
 have g11:ds.drop 21=x11.ds++ds.drop 23:=gD (n:=2) e11 rfl
 have g12:ds.drop 23=x12.ds++ds.drop 25:=gD (n:=2) e12 rfl
 have g13:ds.drop 25=[.int .u32 x13]++ds.drop 26:=gD (n:=1) e13 rfl
 have g14:ds.drop 26=[.int .u32 x14]++ds.drop 27:=gD (n:=1) e14 rfl
 have g15:ds.drop 27=[.int .u32 x15]++ds.drop 28:=gD (n:=1) e15 rfl
 have g16:ds.drop 28=[x16]++ds.drop 29:=gD (n:=1) e16 rfl
 have g:ds.drop 29=[]:=List.drop_of_length_le (by omega)
 have g':ds=ds.drop 0:=rfl
 rw [g',g0,g1,g2,g3,g4,g5,g6,g7,g8,g9,g10,g11,g12,g13,g14,g15,g16,g]
 rfl
set_option maxRecDepth 100000 in
theorem Eu {d:Nat}{ds:List DV}(h:Fit Try.prog (d+6) gE ds):ds=[.ay]∨∃ l:List aq,(∀ x∈l,GF x)∧l.length≤9223372036854775807∧ds=[.sl l.length (l.flatMap aq.ds)]:=
 ko aq.ds GF (P:= Try.prog) (t:=gE) (e:=bF) Try.underlying22 (fun _ h=>vw h) h
theorem vz (x:DV):jP Try.prog gE [x]= .d x:=by rw [Az (by kernel_rfl)];rfl
theorem GF.nz {q:aq}(h:GF q):GF q.nz∧q.nz.qW:=by
 have hl:q.nz.qW∧(q.nz.lines= .ay∨∃ cl:List Cm,q.nz.lines= .sl cl.length (cl.flatMap Cm.ds)∧cl.length≤9223372036854775807):=by
  rcases h.lines with e | ⟨cl,e,j_⟩
  ·have e':q.nz.lines= .sl ([]:List Cm).length (([]:List Cm).flatMap Cm.ds):=by show Go.Sl.nz q.lines=_;rw [e];rfl
   exact ⟨(aq.qW.of e' (by simp)).1,.inr ⟨[],e',by simp⟩⟩
  ·have e':q.nz.lines= .sl cl.length (cl.flatMap Cm.ds):=by show Go.Sl.nz q.lines=_;rw [e];rfl
   exact ⟨(aq.qW.of e' j_).1,.inr ⟨cl,e',j_⟩⟩
 exact ⟨⟨h.dot,h.dep,h.time,h.who,h.dU,h.kind,h.aQ,h.to,h.bn,h.depth,h.cap,h.at_,h.iU,h.item,h.kn,h.cu,hl.2⟩,hl.1⟩
set_option maxRecDepth 100000 in
theorem sO {d:Nat}{ds:List DV}(h:Fit Try.prog (d+6) gE ds):∃ x l,ds=[x]∧l.length≤9223372036854775807∧(∀ o,o∈l→GF o∧o.qW)∧
  ∀ (p:Nat→Prop) (μ:Nat→Nm) (M:Mem) (r r':List SV) (hr:∀ vs,aM p μ M r' vs→aM p μ M r vs) (vs:List Value),aM p μ M (.d x::r') vs→aM p μ M (ops l::r) vs:=by
 rcases Eu h with rfl | ⟨l,hl,hn,rfl⟩
 ·exact ⟨.ay,[],rfl,by simp,by simp,fun p μ M r r' hr vs hv=>iR hr vs hv⟩
 ·refine ⟨_,l.map aq.nz,rfl,by simpa using hn,fun o ho=> ?_,fun p μ M r r' hr vs hv=> ?_⟩
  ·obtain ⟨q,hq,rfl⟩:=List.mem_map.1 ho
   exact (hl q hq).nz
  ·have:=vi hr vs hv
   rw [← Gp] at this
   simpa [ops] using this
theorem own:ownKnob Try.prog.godebug=none:=by kernel_rfl
theorem n9 (M:Mem):nD M:=fun g cs hg=>by simp [Bw,vW] at hg
theorem vA {P:Program}{d:Nat}{t1 t2 t3:TypeId}{lY:List (List DV)}(h:l9 P d [t1,t2,t3] lY):∃ x0 x1 x2,lY=[x0,x1,x2]∧Fit P d t1 x0∧Fit P d t2 x1∧Fit P d t3 x2:=by
 match lY,h with
 | [x0,x1,x2],h=>
  simp only [l9] at h
  exact ⟨x0,x1,x2,rfl,h.1,h.2.1,h.2.2.1⟩
end
section
set_option maxRecDepth 100000 in
theorem wY {d:Nat}{ds:List DV}(h:Fit Try.prog (d+2) sN ds):ds=[.ay]∨∃ l:List Nat,(∀ x∈l,x<4294967296)∧l.length≤9223372036854775807∧ds=[.sl l.length (l.flatMap B9)]:=
 ko B9 (fun x=>x<4294967296) (P:= Try.prog) (t:=sN) (e:=wX) Try.underlying56 (fun _ h=>by
  obtain ⟨x,w,e⟩:=gY (P:= Try.prog) (d:=d) Try.underlying27 h
  exact ⟨x,w,e⟩) h
structure wZ where
 x:av
 an:Bool
 rn:Bool
def wZ.ds (y:wZ):List DV:=[.int .u8 y.x.dot.r,.int .u32 y.x.dot.n,.int .u32 y.x.item,.int .u32 y.x.kn,.int .u32 y.x.cu,.int .u8 y.x.iU.r,.int .u32 y.x.iU.n,if y.an then .ay else vl y.x.ap,if y.rn then .ay else vl y.x.re,.int .u8 y.x.st]
structure wZ.ok (y:wZ):Prop where
 a:y.an=true→y.x.ap=[]
 r:y.rn=true→y.x.re=[]
theorem wZ.nz {y:wZ}(h:y.ok):y.ds.map Go.Sl.nz=y.x.ds:=by
 obtain ⟨x,an,rn⟩:=y
 obtain ⟨h1,h2⟩:=h
 dsimp only at h1 h2
 cases an <;> cases rn
 ·rfl
 ·have:=h2 rfl;unfold wZ.ds av.ds;dsimp only;rw [this];rfl
 ·have:=h1 rfl;unfold wZ.ds av.ds;dsimp only;rw [this];rfl
 ·have e1:=h1 rfl;have e2:=h2 rfl;unfold wZ.ds av.ds;dsimp only;rw [e1,e2];rfl
theorem GH {l:List wZ}(h:∀ y,y∈l→y.ok):(l.flatMap wZ.ds).map Go.Sl.nz=(l.map (·.x)).flatMap av.ds:=by
 induction l with
 | nil=>rfl
 | cons y l ih=>
  rw [List.flatMap_cons,List.map_append,wZ.nz (h y (by simp)),ih fun z hz=>h z (List.mem_cons_of_mem _ hz),List.map_cons,List.flatMap_cons]
set_option maxRecDepth 100000 in
set_option maxHeartbeats 2000000 in
theorem Cj {d:Nat}{ds:List DV}(h:Fit Try.prog (d+4) di ds):∃ y:wZ,y.ok∧ds=y.ds:=by
 have f0:=aX (P:= Try.prog) (t:=di) Try.underlying58 h 0 _ rfl
 have f1:=aX (P:= Try.prog) (t:=di) Try.underlying58 h 1 _ rfl
 have f2:=aX (P:= Try.prog) (t:=di) Try.underlying58 h 2 _ rfl
 have f3:=aX (P:= Try.prog) (t:=di) Try.underlying58 h 3 _ rfl
 have f4:=aX (P:= Try.prog) (t:=di) Try.underlying58 h 4 _ rfl
 have f5:=aX (P:= Try.prog) (t:=di) Try.underlying58 h 5 _ rfl
 have f6:=aX (P:= Try.prog) (t:=di) Try.underlying58 h 6 _ rfl
 have f7:=aX (P:= Try.prog) (t:=di) Try.underlying58 h 7 _ rfl
 have hl:=mR (P:= Try.prog) (t:=di) Try.underlying58 h
 rw [show Try.prog.cellsOf di=10 from by kernel_rfl] at hl
 obtain ⟨x0,w0,e0⟩:=iG (d:=d+1) f0
 obtain ⟨x1,w1,e1⟩:=gY (P:= Try.prog) Try.underlying27 f1
 obtain ⟨x2,w2,e2⟩:=gY (P:= Try.prog) Try.underlying27 f2
 obtain ⟨x3,w3,e3⟩:=gY (P:= Try.prog) Try.underlying27 f3
 obtain ⟨x4,w4,e4⟩:=iG (d:=d+1) f4
 have e5:∃ (l:List Nat) (b:Bool),(b=true→l=[])∧(ds.drop 7).take 1=[if b then .ay else vl l]:=by
  rcases wY (d:=d+1) f5 with e | ⟨l,_,_,e⟩
  ·exact ⟨[],true,fun _=>rfl,e⟩
  ·exact ⟨l,false,(by simp),e⟩
 have e6:∃ (l:List Nat) (b:Bool),(b=true→l=[])∧(ds.drop 8).take 1=[if b then .ay else vl l]:=by
  rcases wY (d:=d+1) f6 with e | ⟨l,_,_,e⟩
  ·exact ⟨[],true,fun _=>rfl,e⟩
  ·exact ⟨l,false,(by simp),e⟩
 obtain ⟨x5,b5,p5,e5⟩:=e5
 obtain ⟨x6,b6,p6,e6⟩:=e6
 obtain ⟨x7,w7,e7⟩:=sq (P:= Try.prog) Try.underlying5 f7
 refine ⟨⟨⟨x0,x1,x2,x3,x4,x5,x6,x7⟩,b5,b6⟩,⟨p5,p6⟩,?_⟩
 have g0:ds.drop 0=x0.ds++ds.drop 2:=gD (n:=2) e0 rfl
 have g1:ds.drop 2=[.int .u32 x1]++ds.drop 3:=gD (n:=1) e1 rfl
 have g2:ds.drop 3=[.int .u32 x2]++ds.drop 4:=gD (n:=1) e2 rfl
 have g3:ds.drop 4=[.int .u32 x3]++ds.drop 5:=gD (n:=1) e3 rfl
 have g4:ds.drop 5=x4.ds++ds.drop 7:=gD (n:=2) e4 rfl
 have g5:ds.drop 7=[if b5 then .ay else vl x5]++ds.drop 8:=gD (n:=1) e5 rfl
 have g6:ds.drop 8=[if b6 then .ay else vl x6]++ds.drop 9:=gD (n:=1) e6 rfl
 have g7:ds.drop 9=[.int .u8 x7]++ds.drop 10:=gD (n:=1) e7 rfl
 have g:ds.drop 10=[]:=List.drop_of_length_le (by omega)
 have g':ds=ds.drop 0:=rfl
 rw [g',g0,g1,g2,g3,g4,g5,g6,g7,g]
 rfl
set_option maxRecDepth 100000 in
theorem AD {d:Nat}{ds:List DV}(h:Fit Try.prog (d+5) o7 ds):ds=[.ay]∨∃ l:List wZ,(∀ x∈l,x.ok)∧l.length≤9223372036854775807∧ds=[.sl l.length (l.flatMap wZ.ds)]:=
 ko wZ.ds wZ.ok (P:= Try.prog) (t:=o7) (e:=di) Try.underlying23 (fun _ h=>Cj h) h
structure IE (x:Sp):Prop where
 d:x.d.wf
 n:x.n<18446744073709551616
set_option maxRecDepth 100000 in
theorem AE {d:Nat}{ds:List DV}(h:Fit Try.prog (d+3) gR ds):∃ x:Sp,IE x∧ds=x.ds:=by
 have f0:=aX (P:= Try.prog) (t:=gR) Try.underlying65 h 0 _ rfl
 have f1:=aX (P:= Try.prog) (t:=gR) Try.underlying65 h 1 _ rfl
 have hl:=mR (P:= Try.prog) (t:=gR) Try.underlying65 h
 rw [show Try.prog.cellsOf gR=3 from by kernel_rfl] at hl
 obtain ⟨x0,w0,e0⟩:=iG (d:=d) f0
 obtain ⟨x1,w1,e1⟩:=vh (P:= Try.prog) Try.underlying32 f1
 refine ⟨⟨x0,x1⟩,⟨w0,w1⟩,?_⟩
 have g0:ds.drop 0=x0.ds++ds.drop 2:=gD (n:=2) e0 rfl
 have g1:ds.drop 2=[.int .u64 x1]++ds.drop 3:=gD (n:=1) e1 rfl
 have g:ds.drop 3=[]:=List.drop_of_length_le (by omega)
 have g':ds=ds.drop 0:=rfl
 rw [g',g0,g1,g]
 rfl
set_option maxRecDepth 100000 in
theorem yJ {d:Nat}{ds:List DV}(h:Fit Try.prog (d+4) nu ds):ds=[.ay]∨∃ l:List Sp,(∀ x∈l,IE x)∧l.length≤9223372036854775807∧ds=[.sl l.length (l.flatMap Sp.ds)]:=
 ko Sp.ds IE (P:= Try.prog) (t:=nu) (e:=gR) Try.underlying24 (fun _ h=>AE h) h
theorem zN {p:Nat→Prop}{μ:Nat→Nm}{M:Mem}{cs cs' r r':List SV}(hc:∀ vs,aM p μ M cs vs→aM p μ M cs' vs)(hr:∀ vs,aM p μ M r' vs→aM p μ M r vs)(vs:List Value)(h:aM p μ M (.agg cs::r') vs):aM p μ M (.agg cs'::r) vs:=by
 obtain ⟨u,us,rfl,h1,h2⟩:=aM.aC.1 h
 obtain ⟨ws,e,h3⟩:=Rp.dh.1 h1
 exact aM.aC.2 ⟨_,us,rfl,Rp.dh.2 ⟨ws,e,hc _ h3⟩,hr us h2⟩
structure H_ (l:List av)(s:List Sp):Prop where
 hl:l.length<4611686018427387904
 hs:s.length≤9223372036854775807
 hn:∀ y,y∈s→y.n<18446744073709551616
 hd:∀ y,y∈s→y.d.wf
set_option maxRecDepth 100000 in
theorem sP {d:Nat}{ds:List DV}(h:Fit Try.prog (d+6) dZ ds)(hs:dY reachBytes ds):∃ l s,H_ l s∧jP Try.prog dZ ds= .agg (ds.map .d)∧
  ∀ (p:Nat→Prop) (μ:Nat→Nm) (M:Mem) (r r':List SV) (hr:∀ vs,aM p μ M r' vs→aM p μ M r vs) (vs:List Value),aM p μ M (.agg (ds.map .d)::r') vs→aM p μ M (.agg [dD l,cF s]::r) vs:=by
 have f0:=aX (P:= Try.prog) (t:=dZ) Try.underlying26 h 0 _ rfl
 have f1:=aX (P:= Try.prog) (t:=dZ) Try.underlying26 h 1 _ rfl
 have hl:=mR (P:= Try.prog) (t:=dZ) Try.underlying26 h
 rw [show Try.prog.cellsOf dZ=2 from by kernel_rfl] at hl
 have ha:jP Try.prog dZ ds= .agg (ds.map .d):=uD (n:=2) (by kernel_rfl)
 have hd:∀ x y:DV,(ds.drop 0).take 1=[x]→(ds.drop 1).take 1=[y]→ds=[x,y]:=fun x y e0 e1=>by
  have g0:ds.drop 0=[x]++ds.drop 1:=gD (n:=1) e0 rfl
  have g1:ds.drop 1=[y]++ds.drop 2:=gD (n:=1) e1 rfl
  have g:ds.drop 2=[]:=List.drop_of_length_le (by omega)
  have g':ds=ds.drop 0:=rfl
  rw [g',g0,g1,g];rfl
 obtain ⟨s,z,es,hsg,jJ,hcs⟩:∃ (s:List Sp) (z:DV),(ds.drop 1).take 1=[z]∧(∀ x∈s,IE x)∧s.length≤9223372036854775807∧∀ (p:Nat→Prop) (μ:Nat→Nm) (M:Mem) (vs:List Value),aM p μ M [.d z] vs→aM p μ M [cF s] vs:=by
  rcases yJ (d:=d+1) f1 with e | ⟨s,h1,h2,e⟩
  ·exact ⟨[],.ay,e,by simp,by simp,fun p μ M vs hv=>iR (fun _ h=>h) vs hv⟩
  ·exact ⟨s,_,e,h1,h2,fun p μ M vs hv=>hv⟩
 rcases AD (d:=d) f0 with e | ⟨l,h1,h2,e⟩
 ·have ed:=hd _ _ e es
  refine ⟨[],s,⟨by simp,jJ,fun y hy=>(hsg y hy).n,fun y hy=>(hsg y hy).d⟩,ha,fun p μ M r r' hr vs hv=> ?_⟩
  rw [ed] at hv
  exact zN (fun vs hv=>iR (hcs p μ M) vs hv) hr vs hv
 ·have ed:=hd _ _ e es
  have hsm:l.length≤140737488351232:=by
   rw [ed] at hs
   simp only [dY,DV.small,reachBytes] at hs
   exact hs.1.1
  refine ⟨l.map (·.x),s,⟨by rw [List.length_map];omega,jJ,fun y hy=>(hsg y hy).n,fun y hy=>(hsg y hy).d⟩,ha,fun p μ M r r' hr vs hv=> ?_⟩
  rw [ed] at hv
  refine zN (fun vs hv=> ?_) hr vs hv
  have:=vi (hcs p μ M) vs hv
  rw [GH h1] at this
  simpa [dD] using this
theorem fT {H:Type}{P:Program}{n:Nat}{us:List TypeId}{gs:List (DataW H)}:∀ {ts:List TypeId} {ds:List (DataW H)},n∈DataW.weightsEach P ts ds→n∈DataW.weightsEach P (ts++us) (ds++gs)
 | [],_,h=>by simp [DataW.weightsEach] at h
 | _::_,[],h=>by simp [DataW.weightsEach] at h
 | t::ts,d::ds,h=>by
  simp only [DataW.weightsEach,List.mem_append,List.cons_append] at h ⊢
  exact h.imp id fT
theorem vB {o:aq}(h:o.qW):AF o:=⟨_,_,h.eq,h.le⟩
theorem yK (o:aq):jP Try.prog bF o.ds= .agg o.cells:=by rw [uD (n:=29) (by kernel_rfl),aq.jm]
end
end Go.Proofs.Ytefjaphfnkbbkaa
