/-
 What the statements' arguments read as: operations with their lines, and rows of them.
-/
import Derived.Test.YtnakpdoioammhaaGreatDoorUV
import Derived.Test.YtnakpdoioammhaaGreatDoorU8
import Derived.Test.YtnakpdoioammhaaGreatDoorCards
import Derived.Test.YtnakpdoioammhaaGreatDoorTie
import Derived.SizedLaws
import Derived.Deep.DeepHandedRow
import Derived.Lib.LaidTab
import Derived.Test.YtnakpdoioammhaaGreatDoorUP
set_option linter.unusedSectionVars false
set_option linter.unusedVariables false
set_option linter.unusedSimpArgs false
namespace Go.Proofs.YtnakpdoioammhaaGreatDoor
open Go.Sl Go.Proofs
section
theorem zN {P:Program}{t:TypeId}{n:Nat}{ds:List DV}(h:dh P t=some (some n)):jm P t ds= .agg (ds.map .d):=by simp [jm,h]
theorem tu {P:Program}{t:TypeId}{ds:List DV}(h:dh P t=some none):jm P t ds= .d (ds.headD .uo):=by simp [jm,h]
set_option maxRecDepth 100000 in
theorem Eo {d:Nat}{ds:List DV}(h:Fit Tryz.prog (d+2) nM ds):∃ v:ag,v.wf∧ds=v.ds:=
 Dd (P:= Tryz.prog) (t:=nM) (e:=A7) Tryz.underlying34 Tryz.underlying32 (by kernel_rfl) (by kernel_rfl) h
set_option maxRecDepth 100000 in
theorem kM {d:Nat}{ds:List DV}(h:Fit Tryz.prog (d+2) s8 ds):∃ x:Dt,x.wf∧ds=x.ds:=
 De (P:= Tryz.prog) (t:=s8) Tryz.underlying47 rfl rfl rfl rfl Tryz.underlying5 Tryz.underlying32 (by kernel_rfl) (by kernel_rfl) (by kernel_rfl) h
set_option maxRecDepth 100000 in
theorem zO {d:Nat}{ds:List DV}(h:Fit Tryz.prog (d+3) gd ds):∃ x:Cm,x.wf∧ds=x.ds:=by
 have f0:=bS (P:= Tryz.prog) (t:=gd) Tryz.underlying97 h 0 _ rfl
 have f1:=bS (P:= Tryz.prog) (t:=gd) Tryz.underlying97 h 1 _ rfl
 have hl:=tO (P:= Tryz.prog) (t:=gd) Tryz.underlying97 h
 rw [show Tryz.prog.cellsOf gd=4 from by kernel_rfl] at hl
 obtain ⟨x0,w0,e0⟩:=kM (d:=d) f0
 obtain ⟨x1,w1,e1⟩:=kM (d:=d) f1
 refine ⟨⟨x0,x1⟩,⟨w0,w1⟩,?_⟩
 have g0:ds.drop 0=x0.ds++ds.drop 2:=kD (n:=2) e0 rfl
 have g1:ds.drop 2=x1.ds++ds.drop 4:=kD (n:=2) e1 rfl
 have g:ds.drop 4=[]:=List.drop_of_length_le (by omega)
 have g':ds=ds.drop 0:=rfl
 rw [g',g0,g1,g]
 rfl
set_option maxRecDepth 100000 in
theorem zP {d:Nat}{ds:List DV}(h:Fit Tryz.prog (d+4) mA ds):ds=[.aY]∨∃ l:List Cm,(∀ x∈l,x.wf)∧l.length≤9223372036854775807∧ds=[.sl l.length (l.flatMap Cm.ds)]:=
 sN Cm.ds Cm.wf (P:= Tryz.prog) (t:=mA) (e:=gd) Tryz.underlying49 (fun _ h=>zO h) h
structure Gq (o:ah):Prop where
 dot:o.dot.wf
 dep:o.dep.wf
 time:o.time<18446744073709551616
 who:o.who<4294967296
 e_:o.e_.wf
 kind:o.kind<256
 gZ:o.gZ.wf
 to:o.to<4294967296
 dK:o.dK<256
 depth:o.depth<256
 cap:o.cap<18446744073709551616
 at_:o.at_.wf
 ij:o.ij.wf
 item:o.item<4294967296
 qz:o.qz<4294967296
 gr:o.gr<4294967296
 lines:o.lines= .aY∨∃ cl:List Cm,o.lines= .sl cl.length (cl.flatMap Cm.ds)∧cl.length≤9223372036854775807∧∀ x,x∈cl→x.wf
set_option maxRecDepth 100000 in
set_option maxHeartbeats 2000000 in
theorem Gr {d:Nat}{ds:List DV}(h:Fit Tryz.prog (d+5) cA ds):∃ o:ah,Gq o∧ds=o.ds:=by
 have f0:=bS (P:= Tryz.prog) (t:=cA) Tryz.underlying51 h 0 _ rfl
 have f1:=bS (P:= Tryz.prog) (t:=cA) Tryz.underlying51 h 1 _ rfl
 have f2:=bS (P:= Tryz.prog) (t:=cA) Tryz.underlying51 h 2 _ rfl
 have f3:=bS (P:= Tryz.prog) (t:=cA) Tryz.underlying51 h 3 _ rfl
 have f4:=bS (P:= Tryz.prog) (t:=cA) Tryz.underlying51 h 4 _ rfl
 have f5:=bS (P:= Tryz.prog) (t:=cA) Tryz.underlying51 h 5 _ rfl
 have f6:=bS (P:= Tryz.prog) (t:=cA) Tryz.underlying51 h 6 _ rfl
 have f7:=bS (P:= Tryz.prog) (t:=cA) Tryz.underlying51 h 7 _ rfl
 have f8:=bS (P:= Tryz.prog) (t:=cA) Tryz.underlying51 h 8 _ rfl
 have f9:=bS (P:= Tryz.prog) (t:=cA) Tryz.underlying51 h 9 _ rfl
 have f10:=bS (P:= Tryz.prog) (t:=cA) Tryz.underlying51 h 10 _ rfl
 have f11:=bS (P:= Tryz.prog) (t:=cA) Tryz.underlying51 h 11 _ rfl
 have f12:=bS (P:= Tryz.prog) (t:=cA) Tryz.underlying51 h 12 _ rfl
 have f13:=bS (P:= Tryz.prog) (t:=cA) Tryz.underlying51 h 13 _ rfl
 have f14:=bS (P:= Tryz.prog) (t:=cA) Tryz.underlying51 h 14 _ rfl
 have f15:=bS (P:= Tryz.prog) (t:=cA) Tryz.underlying51 h 15 _ rfl
 have f16:=bS (P:= Tryz.prog) (t:=cA) Tryz.underlying51 h 16 _ rfl
 have hl:=tO (P:= Tryz.prog) (t:=cA) Tryz.underlying51 h
 rw [show Tryz.prog.cellsOf cA=29 from by kernel_rfl] at hl
 obtain ⟨x0,w0,e0⟩:=kM (d:=d+2) f0
 obtain ⟨x1,w1,e1⟩:=Eo (d:=d+2) f1
 obtain ⟨x2,w2,e2⟩:=xI (P:= Tryz.prog) Tryz.underlying48 f2
 obtain ⟨x3,w3,e3⟩:=kA (P:= Tryz.prog) Tryz.underlying32 f3
 obtain ⟨x4,w4,e4⟩:=kM (d:=d+2) f4
 obtain ⟨x5,w5,e5⟩:=oq (P:= Tryz.prog) Tryz.underlying5 f5
 obtain ⟨x6,w6,e6⟩:=kM (d:=d+2) f6
 obtain ⟨x7,w7,e7⟩:=kA (P:= Tryz.prog) Tryz.underlying32 f7
 obtain ⟨x8,w8,e8⟩:=oq (P:= Tryz.prog) Tryz.underlying5 f8
 obtain ⟨x9,w9,e9⟩:=oq (P:= Tryz.prog) Tryz.underlying5 f9
 obtain ⟨x10,w10,e10⟩:=xI (P:= Tryz.prog) Tryz.underlying48 f10
 obtain ⟨x11,w11,e11⟩:=kM (d:=d+2) f11
 obtain ⟨x12,w12,e12⟩:=kM (d:=d+2) f12
 obtain ⟨x13,w13,e13⟩:=kA (P:= Tryz.prog) Tryz.underlying32 f13
 obtain ⟨x14,w14,e14⟩:=kA (P:= Tryz.prog) Tryz.underlying32 f14
 obtain ⟨x15,w15,e15⟩:=kA (P:= Tryz.prog) Tryz.underlying32 f15
 have e16:∃ y,(ds.drop 28).take 1=[y]∧(y= .aY∨∃ cl:List Cm,y= .sl cl.length (cl.flatMap Cm.ds)∧cl.length≤9223372036854775807∧∀ x,x∈cl→x.wf):=by
  rcases zP (d:=d) f16 with e | ⟨cl,hcw,hn,e⟩
  ·exact ⟨.aY,e,.inl rfl⟩
  ·exact ⟨_,e,.inr ⟨cl,rfl,hn,hcw⟩⟩
 obtain ⟨x16,e16,w16⟩:=e16
 refine ⟨⟨x0,x1,x2,x3,x4,x5,x6,x7,x8,x9,x10,x11,x12,x13,x14,x15,x16⟩,⟨w0,w1,w2,w3,w4,w5,w6,w7,w8,w9,w10,w11,w12,w13,w14,w15,w16⟩,?_⟩
 have g0:ds.drop 0=x0.ds++ds.drop 2:=kD (n:=2) e0 rfl
 have g1:ds.drop 2=x1.ds++ds.drop 10:=kD (n:=8) e1 rfl
 have g2:ds.drop 10=[.int .u64 x2]++ds.drop 11:=kD (n:=1) e2 rfl
 have g3:ds.drop 11=[.int .u32 x3]++ds.drop 12:=kD (n:=1) e3 rfl
 have g4:ds.drop 12=x4.ds++ds.drop 14:=kD (n:=2) e4 rfl
 have g5:ds.drop 14=[.int .u8 x5]++ds.drop 15:=kD (n:=1) e5 rfl
 have g6:ds.drop 15=x6.ds++ds.drop 17:=kD (n:=2) e6 rfl
 have g7:ds.drop 17=[.int .u32 x7]++ds.drop 18:=kD (n:=1) e7 rfl
 have g8:ds.drop 18=[.int .u8 x8]++ds.drop 19:=kD (n:=1) e8 rfl
 have g9:ds.drop 19=[.int .u8 x9]++ds.drop 20:=kD (n:=1) e9 rfl
 have g10:ds.drop 20=[.int .u64 x10]++ds.drop 21:=kD (n:=1) e10 rfl
 have g11:ds.drop 21=x11.ds++ds.drop 23:=kD (n:=2) e11 rfl
 have g12:ds.drop 23=x12.ds++ds.drop 25:=kD (n:=2) e12 rfl
 have g13:ds.drop 25=[.int .u32 x13]++ds.drop 26:=kD (n:=1) e13 rfl
 have g14:ds.drop 26=[.int .u32 x14]++ds.drop 27:=kD (n:=1) e14 rfl
 have g15:ds.drop 27=[.int .u32 x15]++ds.drop 28:=kD (n:=1) e15 rfl
 have g16:ds.drop 28=[x16]++ds.drop 29:=kD (n:=1) e16 rfl
 have g:ds.drop 29=[]:=List.drop_of_length_le (by omega)
 have g':ds=ds.drop 0:=rfl
 rw [g',g0,g1,g2,g3,g4,g5,g6,g7,g8,g9,g10,g11,g12,g13,g14,g15,g16,g]
 rfl
set_option maxRecDepth 100000 in
theorem Ep {d:Nat}{ds:List DV}(h:Fit Tryz.prog (d+6) iZ ds):ds=[.aY]∨∃ l:List ah,(∀ x∈l,Gq x)∧l.length≤9223372036854775807∧ds=[.sl l.length (l.flatMap ah.ds)]:=
 sN ah.ds Gq (P:= Tryz.prog) (t:=iZ) (e:=cA) Tryz.underlying22 (fun _ h=>Gr h) h
theorem Er (x:DV):jm Tryz.prog iZ [x]= .d x:=by rw [tu (by kernel_rfl)];rfl
theorem Gq.nz {q:ah}(h:Gq q):Gq q.nz∧q.nz.jf:=by
 have hl:q.nz.jf∧(q.nz.lines= .aY∨∃ cl:List Cm,q.nz.lines= .sl cl.length (cl.flatMap Cm.ds)∧cl.length≤9223372036854775807∧∀ x,x∈cl→x.wf):=by
  rcases h.lines with e | ⟨cl,e,hcl,hcw⟩
  ·have e':q.nz.lines= .sl ([]:List Cm).length (([]:List Cm).flatMap Cm.ds):=by show Go.Sl.nz q.lines=_;rw [e];rfl
   exact ⟨(ah.jf.of e' (by simp)).1,.inr ⟨[],e',by simp,by simp⟩⟩
  ·have e':q.nz.lines= .sl cl.length (cl.flatMap Cm.ds):=by show Go.Sl.nz q.lines=_;rw [e];rfl
   exact ⟨(ah.jf.of e' hcl).1,.inr ⟨cl,e',hcl,hcw⟩⟩
 exact ⟨⟨h.dot,h.dep,h.time,h.who,h.e_,h.kind,h.gZ,h.to,h.dK,h.depth,h.cap,h.at_,h.ij,h.item,h.qz,h.gr,hl.2⟩,hl.1⟩
theorem own:ownKnob Tryz.prog.godebug=none:=by kernel_rfl
theorem Es {t:TypeId}(x:DV)(h:dh Tryz.prog t=some none):jm Tryz.prog t [x]= .d x:=by rw [tu h];rfl
def Cv (n:Int):Prop:= -9223372036854775808≤n∧n≤9223372036854775807
theorem xJ {P:Program}{d:Nat}{t:TypeId}{ds:List DV}(hu:P.underlying t=some (.int .i64))(h:Fit P (d+1) t ds):∃ n:Int,Cv n∧ds=[.int .i64 n]:=by
 simp only [Fit] at h
 rw [hu] at h
 obtain ⟨n,rfl,hw⟩:=h
 refine ⟨n,?_,rfl⟩
 simp only [Lit.wf,IntKind.min,IntKind.max,Bool.and_eq_true,decide_eq_true_eq] at hw
 unfold Cv
 revert hw
 simp [IntKind.bits,IntKind.signed]
theorem Et {P:Program}{d:Nat}{t1 t2 t3:TypeId}{rP:List (List DV)}(h:og P d [t1,t2,t3] rP):∃ x0 x1 x2,rP=[x0,x1,x2]∧Fit P d t1 x0∧Fit P d t2 x1∧Fit P d t3 x2:=by
 match rP,h with
 | [x0,x1,x2],h=>
  simp only [og] at h
  exact ⟨x0,x1,x2,rfl,h.1,h.2.1,h.2.2.1⟩
theorem E3: Tryz.prog.globalNamed "tranter/op.kinds" =some 0:=by kernel_rfl
theorem Gs:(Tryz.prog.globals[0]?).map (·.type)=some 111:=by kernel_rfl
theorem Eu: Tryz.prog.cellsOf 111=9:=by kernel_rfl
theorem Ew: Tryz.prog.cellsOf 5=1:=by kernel_rfl
theorem HE: Tryz.prog.underlying 111=some (.array 9 5):=by kernel_rfl
theorem Iq: Tryz.prog.underlying 5=some (.int .u8):=by kernel_rfl
end
section
theorem zQ {l:List ah}{o:ah}(h:o∈l){x:DV}(hx:x∈o.ds):x∈l.flatMap ah.ds:=List.mem_flatMap.2 ⟨o,h,hx⟩
theorem zR (o:ah):o.lines∈o.ds:=by simp [ah.ds]
theorem Cw {o:ah}(h:Gq o)(hl:o.jf)(hc:∀ x,x∈o.cl→x.wf):yg o:=
 ⟨⟨hl,fun x hx=>⟨(hc x hx).1.1,(hc x hx).2.1⟩,h.e_.1,h.gZ.1,h.at_.1,h.ij.1⟩,h.dot.1,h.dot.2⟩
set_option maxRecDepth 100000 in
theorem zS {d:Nat}{ds:List DV}(h:Fit Tryz.prog (d+6) iZ ds)(hs:dM reachBytes ds):∃ x l,ds=[x]∧Em l∧
  ∀ (p:Nat→Prop) (μ:Nat→Nm) (M:Mem) (r r':List SV) (hr:∀ vs,aQ p μ M r' vs→aQ p μ M r vs) (vs:List Value),aQ p μ M (.d x::r') vs→aQ p μ M (ops l::r) vs:=by
 rcases Ep h with rfl | ⟨l,hl,hn,rfl⟩
 ·exact ⟨.aY,[],rfl,⟨by simp,by simp⟩,fun p μ M r r' hr vs hv=>uY hr vs hv⟩
 ·simp only [dM,DV.small,and_true,reachBytes] at hs
  obtain ⟨h1,h2⟩:=hs
  rw [qq] at h2
  refine ⟨_,l.map ah.nz,rfl,⟨by simpa using h1,fun o ho=> ?_⟩,fun p μ M r r' hr vs hv=> ?_⟩
  ·obtain ⟨q,hq,rfl⟩:=List.mem_map.1 ho
   have hk:=(hl q hq).nz.1
   rcases (hl q hq).lines with e | ⟨cl,e,hcl,hcw⟩
   ·have:=ah.jf.of (o:=q.nz) (l:=[]) (by show Go.Sl.nz q.lines=_;rw [e];rfl) (by simp)
    exact ⟨Cw hk this.1 (by rw [this.2];simp),by rw [this.2];simp⟩
   ·have hz:=ah.jf.of (o:=q.nz) (l:=cl) (by show Go.Sl.nz q.lines=_;rw [e];rfl) hcl
    have hm:=h2 _ (zQ hq (zR q))
    rw [e] at hm
    simp only [DV.small] at hm
    exact ⟨Cw hk hz.1 (by rw [hz.2];exact hcw),by rw [hz.2];exact hm.1⟩
  ·have:=Dg hr vs hv
   rw [← Fx] at this
   simpa [ops] using this
theorem jZ {H:Type}{P:Program}{n:Nat}{us:List TypeId}{gs:List (DataW H)}:∀ {ts:List TypeId} {ds:List (DataW H)},n∈DataW.weightsEach P ts ds→n∈DataW.weightsEach P (ts++us) (ds++gs)
 | [],_,h=>by simp [DataW.weightsEach] at h
 | _::_,[],h=>by simp [DataW.weightsEach] at h
 | t::ts,d::ds,h=>by
  simp only [DataW.weightsEach,List.mem_append,List.cons_append] at h ⊢
  exact h.imp id jZ
set_option maxRecDepth 100000 in
theorem Gt {d:Nat}{ds:List DV}(h:Fit Tryz.prog (d+2) i_ ds):∃ x0 x1:Nat,x0<256∧x1<256∧ds=[.int .u8 (x0:Int),.int .u8 (x1:Int)]:=by
 rw [Fit,show Tryz.prog.underlying i_=some (.array 2 xS) from by kernel_rfl] at h
 dsimp only at h
 obtain ⟨hl,hi⟩:=h
 rw [show Tryz.prog.cellsOf i_=2 from by kernel_rfl] at hl
 rw [show Tryz.prog.cellsOf xS=1 from by kernel_rfl] at hi
 obtain ⟨a,ha,e0⟩:=oq (P:= Tryz.prog) Tryz.underlying5 (hi 0 (by omega))
 obtain ⟨b,hb,e1⟩:=oq (P:= Tryz.prog) Tryz.underlying5 (hi 1 (by omega))
 refine ⟨a,b,ha,hb,?_⟩
 match ds,hl with
 | [x,y],_=>
  simp at e0 e1
  rw [e0,e1]
theorem Gu (a b:DV):jm Tryz.prog i_ [a,b]= .agg [.d a,.d b]:=by rw [zN (n:=2) (by kernel_rfl)];rfl
theorem Ex (x:DV):jm Tryz.prog 3 [x]= .d x:=Es x (by kernel_rfl)
theorem Ey {W:World}(h:laidMetH Tryz.prog [("tranter/op.kinds",Rows.laid_tranter_op_kinds)] W):mG (gW W):=by
 have hT:Lib.TabIs Tryz.prog W "tranter/op.kinds" .u8 [0,3,5,49,37,5,13,13,65]:=Lib.tabIs_of_head (rest:=[]) E3 Gs HE Iq Ew Eu h
 have key:∀ i z,[(0:Int),3,5,49,37,5,13,13,65][i]? =some z→W.cell? ⟨0,i,none⟩=some (.int .u8 z):=fun i z hz=>by
  have hi:i< [(0:Int),3,5,49,37,5,13,13,65].length:=(List.getElem?_eq_some_iff.1 hz).1
  rw [hT.cell E3 i hi,List.getD_eq_getElem?_getD,hz];rfl
 intro g cs hg
 have e:g=0∧cs=[.int .u8 0,.int .u8 3,.int .u8 5,.int .u8 49,.int .u8 37,.int .u8 5,.int .u8 13,.int .u8 13,.int .u8 65]:=by
  by_cases hg0:g=0
  ·subst hg0
   exact ⟨rfl,(Option.some.inj hg).symm⟩
  ·exfalso
   have hb:(g == 0)=false:=by simpa using hg0
   simp [z6,um,List.lookup,hb] at hg
 obtain ⟨rfl,rfl⟩:=e
 simp only [cD,bT,gW]
 exact ⟨⟨_,key 0 _ rfl,rfl⟩,⟨_,key 1 _ rfl,rfl⟩,⟨_,key 2 _ rfl,rfl⟩,⟨_,key 3 _ rfl,rfl⟩,⟨_,key 4 _ rfl,rfl⟩,⟨_,key 5 _ rfl,rfl⟩,⟨_,key 6 _ rfl,rfl⟩,⟨_,key 7 _ rfl,rfl⟩,⟨_,key 8 _ rfl,rfl⟩,trivial⟩
noncomputable def oM (os:Os):World:=
 { World.holding Tryz.prog os ⟨#[],#[],[]⟩ with heap:=(World.holding Tryz.prog os ⟨#[],#[],[]⟩).heap.modify 0 fun
   | .cells _ t frozen=> .cells #[.int .u8 0,.int .u8 3,.int .u8 5,.int .u8 49,.int .u8 37,.int .u8 5,.int .u8 13,.int .u8 13,.int .u8 65] t frozen
   | o=>o}
end
end Go.Proofs.YtnakpdoioammhaaGreatDoor
