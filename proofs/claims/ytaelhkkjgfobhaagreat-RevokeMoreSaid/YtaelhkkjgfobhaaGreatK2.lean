/-
 The machine does what 'sop' says: first part.
-/
import Derived.Test.YtaelhkkjgfobhaaGreatK1
import Derived.Maps.AppendAt
import Derived.ArgAppend
import Derived.Maps.Keyed
set_option linter.unusedSimpArgs false
set_option linter.unusedSectionVars false
set_option linter.unusedVariables false
namespace Go.Sl
open Go.RowKit
section
def Sound (P:Program)(o:Oper)(E:Nat→Option SV)(H:Nat→Option Ob)(k:Nat)(e:kH):Prop:=
 OT P o E e.F (fun n=>k≤n∧n<k+e.nk) e.v e.F'∧∀ n ob,lk e.F n=some ob→H n=some ob
section
variable {P:Program} {o:Oper} {E:Nat→Option SV} {H:Nat→Option Ob} {k:Nat} {own:Bool} {e:kH}
theorem aQ:∀ n ob,lk ([]:Hp) n=some ob→H n=some ob:=fun n ob h=>by simp [bt] at h
theorem sub_one {n:Nat}{ob:Ob}(h:H n=some ob):∀ m jw,lk [(n,ob)] m=some jw→H m=some jw:=fun m jw hm=>by
 rw [bZ] at hm
 split at hm
 ·rename_i e
  simp at hm
  subst hm;subst e
  exact h
 ·cases hm
theorem IT {x:Operand}{y:X}(ho:o.op= .move x∨o.op= .assign x)(hx:cX x=some y)(he:cZ E H k own (.mv y)=some e):Sound P o E H k e:=by
 simp only [cZ] at he
 split at he <;> first | (cases he;done) | skip
 rename_i s hs
 injection he with he
 subst he
 refine ⟨OT.pure fun p μ M a w hk hS=>⟨a.eval x,?_,hk.get (by rcases ho with h | h <;> simp [h,Op.operands]) hx hs⟩,aQ⟩
 rcases ho with h | h <;> simp [execOp,h]
theorem G2 {c x y:Operand}{c' x' y':X}(ho:o.op= .pick c x y)(hc:cX c=some c')(hx:cX x=some x')(hy:cX y=some y')(he:cZ E H k own (.pick c' x' y')=some e):Sound P o E H k e:=by
 simp only [cZ] at he
 split at he <;> first | (cases he;done) | skip
 ·rename_i hb
  split at he <;> first | (cases he;done) | skip
  rename_i s hs
  injection he with he
  subst he
  refine ⟨OT.pure fun p μ M a w hk hS=>⟨a.eval x,?_,hk.get (by simp [ho,Op.operands]) hx hs⟩,aQ⟩
  have:=Rp.bz.1 (hk.get (by simp [ho,Op.operands]) hc hb)
  simp [execOp,ho,this,asBool]
 ·rename_i hb
  split at he <;> first | (cases he;done) | skip
  rename_i s hs
  injection he with he
  subst he
  refine ⟨OT.pure fun p μ M a w hk hS=>⟨a.eval y,?_,hk.get (by simp [ho,Op.operands]) hy hs⟩,aQ⟩
  have:=Rp.bz.1 (hk.get (by simp [ho,Op.operands]) hc hb)
  simp [execOp,ho,this,asBool]
theorem Rp.BF {p:Nat→Prop}{μ:Nat→Nm}{M:Mem}{n off:Nat}(hp:p n):Rp p μ M (.ptr n off) (.pointer (some ⟨(μ n).blk,off,none⟩)):=fun aZ h=>by
 simp [cI,h n hp]
theorem Rp.qp {p:Nat→Prop}{μ:Nat→Nm}{M:Mem}{n off:Nat}{v:Value}(h:Rp p μ M (.ptr n off) v):v= .pointer (some ⟨(μ n).blk,off,none⟩):=by
 simpa [cI] using h.rep
theorem Rp.jZ {p:Nat→Prop}{μ:Nat→Nm}{M:Mem}{n len:Nat}{v:Value}(h:Rp p μ M (.gs n len) v):((μ n).live=true∧v= .slice (some ⟨(μ n).blk,0,none⟩) len (μ n).cap)∨((μ n).live=false∧len=0∧∃ A,v= .slice A 0 0):=by
 simpa [cI] using h.rep
theorem EO {t:TypeId}{z:List SV}(ho:o.op= .alloc t)(hz:fh P t=some z)(he:cZ E H k own (.alloc t z)=some e):Sound P o E H k e:=by
 simp only [cZ] at he
 injection he with he
 subst he
 refine ⟨OT.make fun p μ M a w hk hM=> ?_,aQ⟩
 obtain ⟨v,hv,_,h2⟩:=fG hz (p:=p) (μ:=μ) (M:=M)
 refine ⟨.pointer (some ⟨w.heap.size,0,none⟩),.cells v.cells t,0,?_,fun p' aZ hp jv hpk hk'=>⟨⟨rfl,v.cells,fF w _,?_⟩,?_⟩⟩
 ·simp [execOp,ho,Instr.alloc,hv,newVar,newRow]
 ·obtain ⟨v',hv',h1',_⟩:=fG hz (p:=p') (μ:=aZ) (M:=M)
  have:=hv w;rw [hv' w] at this
  injection this with this
  subst this
  exact h1'
 ·have:=Rp.BF (μ:=aZ) (M:=M) (n:=k) (off:=0) hpk
  rwa [hk'] at this
theorem IU {t:TypeId}{x:Operand}{y:X}(ho:o.op= .box t x)(hx:cX x=some y)(he:cZ E H k own (.box t y)=some e):Sound P o E H k e:=by
 simp only [cZ] at he
 split at he <;> first | (cases he;done) | skip
 rename_i s hs
 split at he <;> first | (cases he;done) | skip
 rename_i hone
 injection he with he
 subst he
 refine ⟨OT.make fun p μ M a w hk hM=> ?_,aQ⟩
 have hv:=hk.get (by simp [ho,Op.operands]) hx hs
 refine ⟨.pointer (some ⟨w.heap.size,0,none⟩),.cells (a.eval x).cells t,0,?_,fun p' aZ hp jv hpk hk'=>⟨⟨rfl,(a.eval x).cells,fF w _,?_⟩,?_⟩⟩
 ·simp [execOp,ho,Instr.box,newVar,newRow]
 ·exact (Rp.cells hone (hv.more hp jv (Mem.le_refl M))).1
 ·have:=Rp.BF (μ:=aZ) (M:=M) (n:=k) (off:=0) hpk
  rwa [hk'] at this
theorem G3 {t:TypeId}{x:Operand}{y:X}{sz:Option Nat}(ho:o.op= .load t x)(hx:cX x=some y)(ht:dx P t=some sz)(he:cZ E H k own (.load sz y)=some e)(bn:e.ob):Sound P o E H k e:=by
 simp only [cZ] at he
 split at he <;> first | (cases he;done) | skip
 rename_i s hs
 split at he <;> first | (cases he;done) | skip
 rename_i cs off F hc
 split at he <;> first | (cases he;done) | skip
 rename_i v hv
 injection he with he
 subst he
 refine ⟨OT.pure fun p μ M a w hk hS=> ?_,rq hc⟩
 obtain ⟨b,q,e1,hr⟩:=ox hc (hk.get (by simp [ho,Op.operands]) hx hs) hS
 obtain ⟨u,hu,hr'⟩:=zn ht hv bn hr
 refine ⟨u,?_,hr'⟩
 simp [execOp,ho,Instr.loadAt,e1,Instr.sureAddr,hu]
theorem G5 {x:Operand}{y:X}(ho:o.op= .nilCheck x)(hx:cX x=some y)(he:cZ E H k own (.d_ y)=some e):Sound P o E H k e:=by
 simp only [cZ] at he
 split at he <;> first | (cases he;done) | skip
 ·rename_i n off hs
  injection he with he
  subst he
  refine ⟨OT.pure fun p μ M a w hk hS=>⟨a.eval x,?_,hk.get (by simp [ho,Op.operands]) hx hs⟩,aQ⟩
  have:=(hk.get (by simp [ho,Op.operands]) hx hs).qp
  simp [execOp,ho,this]
 ·rename_i cs i hs
  injection he with he
  subst he
  refine ⟨OT.pure fun p μ M a w hk hS=>⟨a.eval x,?_,hk.get (by simp [ho,Op.operands]) hx hs⟩,aQ⟩
  obtain ⟨b,q,e1,_⟩:=(by simpa [cI] using (hk.get (by simp [ho,Op.operands]) hx hs).rep:∃ b q,a.eval x= .pointer (some ⟨b,q+i,none⟩)∧cQ M b q cs)
  simp [execOp,ho,e1]
theorem IV {t:TypeId}{x:Operand}{y:X}(ho:o.op= .unOp .not t x)(hx:cX x=some y)(he:cZ E H k own (.not y)=some e):Sound P o E H k e:=by
 simp only [cZ] at he
 split at he <;> first | (cases he;done) | skip
 rename_i b hs
 injection he with he
 subst he
 refine ⟨OT.pure fun p μ M a w hk hS=>⟨.bool !b,?_,Rp.bz.2 rfl⟩,aQ⟩
 have:=Rp.bz.1 (hk.get (by simp [ho,Op.operands]) hx hs)
 simp [execOp,ho,this,Op.unary]
theorem IW {t:TypeId}{x:Operand}{y:X}(ho:o.op= .unOp .neg t x)(hx:cX x=some y)(he:cZ E H k own (.neg y)=some e):Sound P o E H k e:=by
 simp only [cZ] at he
 split at he <;> first | (cases he;done) | skip
 rename_i kd n hs
 injection he with he
 subst he
 refine ⟨OT.pure fun p μ M a w hk hS=>⟨.int kd (kd.wrap (-n)),?_,Rp.aN.2 rfl⟩,aQ⟩
 have:=Rp.aN.1 (hk.get (by simp [ho,Op.operands]) hx hs)
 simp [execOp,ho,this,Op.unary,Op.intArith]
theorem G6 {s d:TypeId}{x:Operand}{y:X}{ks kd:IntKind}(ho:o.op= .convert s d x)(h1:P.underlying s=some (.int ks))(h2:P.underlying d=some (.int kd))(hx:cX x=some y)
  (he:cZ E H k own (.conv kd y)=some e):Sound P o E H k e:=by
 simp only [cZ] at he
 split at he <;> first | (cases he;done) | skip
 rename_i kk n hs
 injection he with he
 subst he
 refine ⟨OT.pure fun p μ M a w hk hS=>⟨.int kd (kd.wrap n),?_,Rp.aN.2 rfl⟩,aQ⟩
 have:=Rp.aN.1 (hk.get (by simp [ho,Op.operands]) hx hs)
 simp [execOp,ho,this,convert,run_underlying h1,run_underlying h2,Conv.intToInt]
theorem IX {x:Operand}{y:X}{i:Nat}(ho:o.op= .extract x i)(hx:cX x=some y)(he:cZ E H k own (.ext i y)=some e):Sound P o E H k e:=by
 simp only [cZ] at he
 split at he <;> first | (cases he;done) | skip
 rename_i cs hs
 split at he <;> first | (cases he;done) | skip
 rename_i v hv
 injection he with he
 subst he
 refine ⟨OT.pure fun p μ M a w hk hS=> ?_,aQ⟩
 obtain ⟨vs,e1,hr⟩:=Rp.dP.1 (hk.get (by simp [ho,Op.operands]) hx hs)
 obtain ⟨u,hu,hu'⟩:=hr.get hv
 refine ⟨u,?_,hu'⟩
 have:vs[i]? =some u:=by simpa using hu
 simp [execOp,ho,e1,Instr.extract,this]
theorem G7 {c:Call}{t:TypeId}{x:Operand}{y:X}(ho:o.op= .call c)(bR:c.callee= .builtin .len)(ha:c.args.toList=[x])(oy:c.argTypes.toList=[t])(ht:P.underlying t=some .string)
  (hx:cX x=some y) (he:cZ E H k own (.lens y)=some e):Sound P o E H k e:=by
 have ha':c.args= #[x]:=by cases hh:c.args;simp [hh] at ha;simp [ha]
 have hat':c.argTypes= #[t]:=by cases hh:c.argTypes;simp [hh] at oy;simp [oy]
 have hin:x∈o.op.operands:=by simp [ho,Op.operands,Call.operands,bR,ha']
 simp only [cZ] at he
 split at he <;> first | (cases he;done) | skip
 rename_i s hs
 injection he with he
 subst he
 refine ⟨OT.pure fun p μ M a w hk hS=>⟨.int .i64 s.length,?_,Rp.aN.2 rfl⟩,aQ⟩
 obtain ⟨b,e1,rfl⟩:=(by simpa [bQ] using Rp.cu.1 (hk.get hin hx hs):∃ b:ByteArray,a.eval x= .string b∧b.data.toList.map UInt8.toNat=s)
 simp [execOp,ho,resolve,bR,ha',hat',invoke,builtin,e1,Builtin.len_,run_underlying ht,goInt]
theorem BG {b:ByteArray}{i:Nat}(h:i<b.data.size):b[i]? =some (b.data[i]):=by
 have h':i<b.size:=h
 rw [getElem?_pos b i h']
 rfl
theorem G8 {t:TypeId}{x i:Operand}{y j:X}(ho:o.op= .index t x i)(ht:P.underlying t=some .string)(hx:cX x=some y)(hj:cX i=some j)
  (he:cZ E H k own (.EK y j)=some e) (bn:e.ob):Sound P o E H k e:=by
 simp only [cZ] at he
 split at he <;> first | (cases he;done) | skip
 rename_i s kk n hs hn
 injection he with he
 subst he
 refine ⟨OT.pure fun p μ M a w hk hS=>⟨.int .u8 ((s.getD n.toNat 0:Nat):Int),?_,Rp.aN.2 rfl⟩,aQ⟩
 obtain ⟨b,e1,rfl⟩:=(by simpa [bQ] using Rp.cu.1 (hk.get (by simp [ho,Op.operands]) hx hs):∃ b:ByteArray,a.eval x= .string b∧b.data.toList.map UInt8.toNat=s)
 have e2:=Rp.aN.1 (hk.get (by simp [ho,Op.operands]) hj hn)
 obtain ⟨h1,h2⟩:=bn
 have h3:n.toNat<b.data.size:=by
  show n.toNat<b.size
  simp at h2;omega
 have h4:=BG h3
 have h5:b.data[n.toNat]? =some b.data[n.toNat]:=Array.getElem?_eq_getElem h3
 simp [execOp,ho,Instr.index,run_underlying ht,e1,e2,asIntOf,h1,h4,h5]
theorem zo {c:Call}{t:TypeId}{x:Operand}{y:X}{el:TypeId}(ho:o.op= .call c)(bR:c.callee= .builtin .len)(ha:c.args.toList=[x])(oy:c.argTypes.toList=[t])(ht:P.underlying t=some (.slice el))
  (hx:cX x=some y) (he:cZ E H k own (.len y)=some e):Sound P o E H k e:=by
 have ha':c.args= #[x]:=by cases hh:c.args;simp [hh] at ha;simp [ha]
 have hat':c.argTypes= #[t]:=by cases hh:c.argTypes;simp [hh] at oy;simp [oy]
 have hin:x∈o.op.operands:=by simp [ho,Op.operands,Call.operands,bR,ha']
 have run:∀ (a:Act) (w:World) (A:Option Addr) (n cp:Nat),a.eval x= .slice A n cp→(execOp a.eval o).run P w= .ok (.value (.int .i64 n)) w:=by
  intro a w A n cp h
  simp [execOp,ho,resolve,bR,ha',hat',invoke,builtin,h,Builtin.len_,run_underlying ht,goInt]
 simp only [cZ] at he
 split at he <;> first | (cases he;done) | skip
 ·rename_i n cs hs
  injection he with he
  subst he
  refine ⟨OT.pure fun p μ M a w hk hS=>⟨.int .i64 n,?_,Rp.aN.2 rfl⟩,aQ⟩
  obtain ⟨A,cp,e1,_⟩:=(by simpa [bQ] using Rp.cu.1 (hk.get hin hx hs):∃ A cp,a.eval x= .slice A n cp∧_)
  exact run a w A n cp e1
 ·rename_i hs
  injection he with he
  subst he
  refine ⟨OT.pure fun p μ M a w hk hS=>⟨.int .i64 0,?_,Rp.aN.2 rfl⟩,aQ⟩
  have e1:a.eval x= .slice none 0 0:=by simpa [bQ] using Rp.cu.1 (hk.get hin hx hs)
  exact run a w none 0 0 e1
 ·rename_i m n hs
  injection he with he
  subst he
  refine ⟨OT.pure fun p μ M a w hk hS=>⟨.int .i64 n,?_,Rp.aN.2 rfl⟩,aQ⟩
  rcases (hk.get hin hx hs).jZ with ⟨_,e1⟩ | ⟨_,rfl,_,e1⟩
  ·exact run a w _ n _ e1
  ·exact run a w _ 0 _ e1
 ·rename_i m off n hs
  injection he with he
  subst he
  refine ⟨OT.pure fun p μ M a w hk hS=>⟨.int .i64 n,?_,Rp.aN.2 rfl⟩,aQ⟩
  obtain ⟨A,c,e1,_⟩:=(by simpa [cI] using (hk.get hin hx hs).rep:∃ A c,a.eval x= .slice (some A) n c∧_)
  exact run a w _ n _ e1
theorem KA {c:Call}{x y:Operand}{x' y':X}(ho:o.op= .call c)(bR:c.callee= .builtin .max)(ha:c.args.toList=[x,y])
  (hx:cX x=some x') (hy:cX y=some y') (he:cZ E H k own (.mx x' y')=some e):Sound P o E H k e:=by
 have ha':c.args= #[x,y]:=by cases hh:c.args;simp [hh] at ha;simp [ha]
 simp only [cZ] at he
 split at he <;> first | (cases he;done) | skip
 rename_i kk m Gr n h1 h2
 injection he with he
 subst he
 refine ⟨OT.pure fun p μ M a w hk hS=>⟨_,?_,Rp.aN.2 rfl⟩,aQ⟩
 have e1:=Rp.aN.1 (hk.get (by simp [ho,Op.operands,Call.operands,bR,ha']) hx h1)
 have e2:=Rp.aN.1 (hk.get (by simp [ho,Op.operands,Call.operands,bR,ha']) hy h2)
 simp [execOp,ho,resolve,bR,ha',invoke,builtin,e1,e2,Builtin.max_,Builtin.max2]
theorem KB {c:Call}{x y:Operand}{x' y':X}(ho:o.op= .call c)(bR:c.callee= .builtin .min)(ha:c.args.toList=[x,y])
  (hx:cX x=some x') (hy:cX y=some y') (he:cZ E H k own (.mn x' y')=some e):Sound P o E H k e:=by
 have ha':c.args= #[x,y]:=by cases hh:c.args;simp [hh] at ha;simp [ha]
 simp only [cZ] at he
 split at he <;> first | (cases he;done) | skip
 rename_i kk m Gr n h1 h2
 injection he with he
 subst he
 refine ⟨OT.pure fun p μ M a w hk hS=>⟨_,?_,Rp.aN.2 rfl⟩,aQ⟩
 have e1:=Rp.aN.1 (hk.get (by simp [ho,Op.operands,Call.operands,bR,ha']) hx h1)
 have e2:=Rp.aN.1 (hk.get (by simp [ho,Op.operands,Call.operands,bR,ha']) hy h2)
 simp [execOp,ho,resolve,bR,ha',invoke,builtin,e1,e2,Builtin.min_,Builtin.min2]
theorem IY {f:Fn}{a c:Array Operand}{a' c':List X}(ho:o.op= .makeFunc f a c)(ha:Bv a.toList=some a')(hc:Bv c.toList=some c')(he:cZ E H k own (.sE f a' c')=some e):Sound P o E H k e:=by
 simp only [cZ] at he
 split at he <;> first | (cases he;done) | skip
 rename_i s s' h1 h2
 injection he with he
 subst he
 refine ⟨OT.pure fun p μ M ac w hk hS=>⟨.func f (a.map ac.eval) (c.map ac.eval),by simp [execOp,ho,Instr.makeFunc],Rp.qj.2 ⟨_,_,rfl,?_,?_⟩⟩,aQ⟩
 ·simpa using hk.vG (os:=a.toList) (fun x hx=>by rw [ho];simp only [Op.operands,Array.mem_append];exact .inl (by simpa using hx)) ha h1
 ·simpa using hk.vG (os:=c.toList) (fun x hx=>by rw [ho];simp only [Op.operands,Array.mem_append];exact .inr (by simpa using hx)) hc h2
theorem IZ {t:TypeId}(ho:o.op= .makeMap t none)(he:cZ E H k own .zj=some e):Sound P o E H k e:=by
 simp only [cZ] at he
 injection he with he
 subst he
 refine ⟨OT.make fun p μ M a w hk hM=>⟨.map (some w.heap.size),.map #[] 0,0,?_,fun p' aZ hp jv hpk hk'=>⟨⟨rfl,#[],fF w _,by simp [fT]⟩,fun ν gp=> ?_⟩⟩,aQ⟩
 ·simp [execOp,ho,Instr.makeMap]
 ·exact .inl (by simp [gp k hpk,hk'])
theorem zp {n:Nat}{s v:SV}(h:ED n s=some v){p:Nat→Prop}{μ:Nat→Nm}{M:Mem}{u:Value}(hu:Rp p μ M s u):
  ∃ b q,u= .pointer (some ⟨b,q,none⟩)∧Rp p μ M v (.pointer (some ⟨b,q+n,none⟩)):=by
 cases s <;> simp [ED] at h
 case ptr m off=>
  subst h
  refine ⟨(μ m).blk,off,hu.qp,fun ν gp=> ?_⟩
  have h1:=hu ν gp
  have h2:=hu.rep
  simp only [cI] at h1 h2 ⊢
  rw [h2] at h1
  injection h1 with h1
  injection h1 with h1
  injection h1 with h1
  rw [h1]
 case vp cs i=>
  subst h
  obtain ⟨b,q,e1,hr⟩:=(by simpa [cI] using hu.rep:∃ b q,u= .pointer (some ⟨b,q+i,none⟩)∧cQ M b q cs)
  refine ⟨b,q+i,e1,fun ν gp=> ?_⟩
  simp only [cI]
  exact ⟨b,q,by rw [Nat.add_assoc],hr⟩
theorem I1 {s:TypeId}{x:Operand}{y:X}{f:Nat}{fs:Array Field}{fl:Field}{i:TypeInfo}(ho:o.op= .fieldAddr s x f)(hs:P.underlying s=some (.struct fs))(hf:fs[f]? =some fl)
  (hi:P.info? fl.type=some i) (KC: ¬ i.size=0) (hx:cX x=some y) (he:cZ E H k own (.aV fl.offset y)=some e):Sound P o E H k e:=by
 simp only [cZ] at he
 split at he <;> first | (cases he;done) | skip
 rename_i sv hsv
 split at he <;> first | (cases he;done) | skip
 rename_i v hv
 injection he with he
 subst he
 refine ⟨OT.pure fun p μ M a w hk hS=> ?_,aQ⟩
 obtain ⟨b,q,e1,hr⟩:=zp hv (hk.get (by simp [ho,Op.operands]) hx hsv)
 refine ⟨_,?_,hr⟩
 simp [execOp,ho,Instr.fieldAt,run_underlying hs,hf,e1,Instr.sureAddr,fieldPlace,dm hi,KC,dz]
theorem G9 {t el:TypeId}{n:Nat}{x i:Operand}{y j:X}{ti:TypeInfo}(ho:o.op= .indexAddr t x i)(ht:P.underlying t=some (.array n el))(hi:P.info? el=some ti)(hx:cX x=some y)(hj:cX i=some j)
  (he:cZ E H k own (.qk n ti.size y j)=some e) (bn:e.ob):Sound P o E H k e:=by
 simp only [cZ] at he
 split at he <;> first | (cases he;done) | skip
 rename_i s kk m hs hm
 split at he <;> first | (cases he;done) | skip
 rename_i v hv
 injection he with he
 subst he
 refine ⟨OT.pure fun p μ M a w hk hS=> ?_,aQ⟩
 obtain ⟨b,q,e1,hr⟩:=zp hv (hk.get (by simp [ho,Op.operands]) hx hs)
 have e2:=Rp.aN.1 (hk.get (by simp [ho,Op.operands]) hj hm)
 refine ⟨_,?_,hr⟩
 simp [execOp,ho,Instr.indexAt,run_underlying ht,e1,e2,Instr.sureAddr,asIntOf,dm hi,bn.1,bn.2,dz]
theorem G_ {t el:TypeId}{x i:Operand}{y j:X}{ti:TypeInfo}(ho:o.op= .indexAddr t x i)(ht:P.underlying t=some (.slice el))(hi:P.info? el=some ti)(hx:cX x=some y)(hj:cX i=some j)
  (he:cZ E H k own (.ew ti.size y j)=some e) (bn:e.ob):Sound P o E H k e:=by
 simp only [cZ] at he
 split at he <;> first | (cases he;done) | skip
 ·rename_i n cs kk m hs hm
  injection he with he
  subst he
  refine ⟨OT.pure fun p μ M a w hk hS=> ?_,aQ⟩
  have hob1:0≤m:=bn.1
  have hob2:m<(n:Int):=bn.2
  obtain ⟨A,cp,e1,_,_,h4⟩:=(by simpa [bQ] using Rp.cu.1 (hk.get (by simp [ho,Op.operands]) hx hs):∃ A cp,a.eval x= .slice A n cp∧n≤cp∧(n=0→cs=[])∧(0<n→∃ b q,A=some ⟨b,q,none⟩∧cQ M b q cs))
  obtain ⟨b,q,rfl,hr⟩:=h4 (by omega)
  have e2:=Rp.aN.1 (hk.get (by simp [ho,Op.operands]) hj hm)
  refine ⟨.pointer (some ⟨b,q+m.toNat*ti.size,none⟩),?_,fun ν gp=> ?_⟩
  ·simp [execOp,ho,Instr.indexAt,run_underlying ht,e1,e2,asIntOf,dm hi,hob1,hob2,dz]
  ·simp only [cI]
   exact ⟨b,q,rfl,hr⟩
 ·rename_i n l kk m hs hm
  injection he with he
  subst he
  refine ⟨OT.pure fun p μ M a w hk hS=> ?_,aQ⟩
  have hob1:0≤m:=bn.1
  have hob2:m<(l:Int):=bn.2
  have hs':=hk.get (by simp [ho,Op.operands]) hx hs
  obtain ⟨hl,e1⟩:(μ n).live=true∧a.eval x= .slice (some ⟨(μ n).blk,0,none⟩) l (μ n).cap:=by
   rcases hs'.jZ with h | ⟨_,h,_⟩
   ·exact h
   ·omega
  have e2:=Rp.aN.1 (hk.get (by simp [ho,Op.operands]) hj hm)
  refine ⟨.pointer (some ⟨(μ n).blk,0+m.toNat*ti.size,none⟩),?_,fun ν gp=> ?_⟩
  ·simp [execOp,ho,Instr.indexAt,run_underlying ht,e1,e2,asIntOf,dm hi,hob1,hob2,dz]
  ·have:=hs' ν gp
   rw [e1] at this
   simp only [cI] at this ⊢
   rcases this with ⟨_,this⟩ | ⟨_,h,_⟩
   ·injection this with t1
    injection t1 with t1
    injection t1 with t1
    rw [t1]
    simp
   ·omega
 ·rename_i n off l kk m hs hm
  injection he with he
  subst he
  refine ⟨OT.pure fun p μ M a w hk hS=> ?_,aQ⟩
  have hob1:0≤m:=bn.1
  have hob2:m<(l:Int):=bn.2
  have hs':=hk.get (by simp [ho,Op.operands]) hx hs
  obtain ⟨A,c,e1,_,hA⟩:=(by simpa [cI] using hs'.rep:∃ A c,a.eval x= .slice (some A) l c∧l≤c∧(¬ l=0→A=⟨(μ n).blk,off,none⟩))
  have hA:=hA (by omega)
  subst hA
  have e2:=Rp.aN.1 (hk.get (by simp [ho,Op.operands]) hj hm)
  refine ⟨.pointer (some ⟨(μ n).blk,off+m.toNat*ti.size,none⟩),?_,fun ν gp=> ?_⟩
  ·simp [execOp,ho,Instr.indexAt,run_underlying ht,e1,e2,asIntOf,dm hi,hob1,hob2,dz]
  ·have:=hs' ν gp
   rw [e1] at this
   simp only [cI] at this ⊢
   obtain ⟨A,c',h1,_,h2⟩:=this
   injection h1 with h1
   injection h1 with h1
   have h2:=h2 (by omega)
   rw [← h1] at h2
   injection h2 with h2
   rw [h2]
theorem EP {op:BinOp}{t:TypeId}{w:World}{ka kb:IntKind}{a b:Int}{v:SV}{ob:Prop}(hk:vJ op ka kb=true)(h:vI op ka a b=some (v,ob))(bn:ob):
  ∃ u,(binOp op t (.int ka a) (.int kb b)).run P w= .ok u w∧∀ (p:Nat→Prop) (μ:Nat→Nm) (M:Mem),Rp p μ M v u:=by
 cases op <;> simp [vJ] at hk <;> simp only [vI,Option.some.injEq,Prod.mk.injEq] at h <;> obtain ⟨rfl,rfl⟩:=h <;> (try subst hk)
 case add=>exact ⟨_,by rw [binOp_add];rfl,fun _ _ _=>Rp.aN.2 rfl⟩
 case sub=>exact ⟨_,by rw [binOp_sub];rfl,fun _ _ _=>Rp.aN.2 rfl⟩
 case mul=>exact ⟨_,by rw [binOp_mul];rfl,fun _ _ _=>Rp.aN.2 rfl⟩
 case quo=>exact ⟨_,by rw [binOp_quo];simp [Op.intDiv,bn],fun _ _ _=>Rp.aN.2 rfl⟩
 case rem=>exact ⟨_,by rw [binOp_rem];simp [Op.intDiv,bn],fun _ _ _=>Rp.aN.2 rfl⟩
 case and=>exact ⟨_,by rw [binOp_and];rfl,fun _ _ _=>Rp.aN.2 rfl⟩
 case or=>exact ⟨_,by rw [binOp_or];rfl,fun _ _ _=>Rp.aN.2 rfl⟩
 case xor=>exact ⟨_,by rw [binOp_xor];rfl,fun _ _ _=>Rp.aN.2 rfl⟩
 case andNot=>exact ⟨_,by rw [binOp_andNot];rfl,fun _ _ _=>Rp.aN.2 rfl⟩
 case shl=>exact ⟨_,by rw [binOp_shl,shift_shl ka kb a b bn.1 bn.2];rfl,fun _ _ _=>Rp.aN.2 rfl⟩
 case shr=>exact ⟨_,by rw [binOp_shr,shift_shr ka kb a b bn.1 bn.2];rfl,fun _ _ _=>Rp.aN.2 rfl⟩
 case eql=>exact ⟨_,by rw [binOp_eql];rfl,fun _ _ _=>Rp.bz.2 rfl⟩
 case neq=>exact ⟨_,by rw [binOp_neq];rfl,fun _ _ _=>Rp.bz.2 rfl⟩
 case lss=>exact ⟨_,by rw [binOp_lss];rfl,fun _ _ _=>Rp.bz.2 rfl⟩
 case leq=>exact ⟨_,by rw [binOp_leq];rfl,fun _ _ _=>Rp.bz.2 rfl⟩
 case gtr=>exact ⟨_,by rw [binOp_gtr];rfl,fun _ _ _=>Rp.bz.2 rfl⟩
 case geq=>exact ⟨_,by rw [binOp_geq];rfl,fun _ _ _=>Rp.bz.2 rfl⟩
theorem Gs {op:BinOp}{t t':TypeId}{x y:Operand}{x' y':X}(ho:o.op= .binOp op t x y t')(hx:cX x=some x')(hy:cX y=some y')(he:cZ E H k own (.bin op x' y')=some e)(bn:e.ob):Sound P o E H k e:=by
 simp only [cZ] at he
 split at he <;> first | (cases he;done) | skip
 rename_i ka a kb b h1 h2
 split at he <;> first | (cases he;done) | skip
 rename_i hkk
 split at he <;> first | (cases he;done) | skip
 rename_i v ob hv
 injection he with he
 subst he
 refine ⟨OT.pure fun p μ M ac w hk hS=> ?_,aQ⟩
 have e1:=Rp.aN.1 (hk.get (by simp [ho,Op.operands]) hx h1)
 have e2:=Rp.aN.1 (hk.get (by simp [ho,Op.operands]) hy h2)
 obtain ⟨u,hu,hr⟩:=EP (P:=P) (t:=t) (w:=w) hkk hv bn
 refine ⟨u,?_,hr p μ M⟩
 simp [execOp,ho,e1,e2,eqGuard_at_int,hu]
end
end
section
section
variable {P:Program} {o:Oper} {E:Nat→Option SV} {H:Nat→Option Ob} {k:Nat} {own:Bool} {e:kH}
theorem wU {w:World}{t:TypeId}{sz:Option Nat}(ht:dx P t=some sz){cs:List SV}{vs:Array Value}{off:Nat}{s:SV}(h:zm cs off sz=some s)(hle:wP cs off sz){p:Nat→Prop}{μ:Nat→Nm}{M:Mem}
  (hr:aR p μ M cs vs.toList):∃ v,(part t vs off).run P w= .ok v w∧Rp p μ M s v:=by
 cases sz with
 | none=>
  obtain ⟨u,hu,hr'⟩:=hr.get h
  have hu':vs[off]? =some u:=by simpa using hu
  exact ⟨u,by simp [part,qm ht,hu'],hr'⟩
 | some m=>
  simp only [wP] at hle
  simp [zm] at h
  subst h
  refine ⟨.agg (vs.extract off (off+m)),by simp [part,(jB ht).1,(jB ht).2],Rp.ez.2 ⟨_,rfl,?_⟩⟩
  have:=(hr.drop off).take m
  simpa using this
theorem ER {t:TypeId}{x:Operand}{y:X}{f:Nat}{fs:Array Field}{fl:Field}{sz:Option Nat}(ho:o.op= .field t x f)(hs:P.underlying t=some (.struct fs))(hf:fs[f]? =some fl)
  (hz:dx P fl.type=some sz) (hx:cX x=some y) (he:cZ E H k own (.field fl.offset sz y)=some e) (bn:e.ob):Sound P o E H k e:=by
 simp only [cZ] at he
 split at he <;> first | (cases he;done) | skip
 rename_i cs hcs
 split at he <;> first | (cases he;done) | skip
 rename_i v hv
 injection he with he
 subst he
 refine ⟨OT.pure fun p μ M a w hk hS=> ?_,aQ⟩
 obtain ⟨vs,e1,hr⟩:=Rp.ez.1 (hk.get (by simp [ho,Op.operands]) hx hcs)
 obtain ⟨u,hu,hr'⟩:=wU (P:=P) (w:=w) hz hv bn hr
 refine ⟨u,?_,hr'⟩
 simp [execOp,ho,Instr.field,run_underlying hs,hf,e1,asAgg,hu]
theorem ES {t el:TypeId}{n:Nat}{x i:Operand}{y j:X}{ti:TypeInfo}{sz:Option Nat}(ho:o.op= .index t x i)(ht:P.underlying t=some (.array n el))(hi:P.info? el=some ti)(hz:dx P el=some sz)
  (Gt:sz=(if sz.isSome then some ti.size else none)) (hx:cX x=some y) (hj:cX i=some j) (he:cZ E H k own (.index n ti.size sz.isSome y j)=some e) (bn:e.ob):Sound P o E H k e:=by
 simp only [cZ] at he
 split at he <;> first | (cases he;done) | skip
 rename_i cs kk m hs hm
 rw [← Gt] at he
 split at he <;> first | (cases he;done) | skip
 rename_i v hv
 injection he with he
 subst he
 refine ⟨OT.pure fun p μ M a w hk hS=> ?_,aQ⟩
 obtain ⟨vs,e1,hr⟩:=Rp.ez.1 (hk.get (by simp [ho,Op.operands]) hx hs)
 have e2:=Rp.aN.1 (hk.get (by simp [ho,Op.operands]) hj hm)
 obtain ⟨u,hu,hr'⟩:=wU (P:=P) (w:=w) hz hv bn.2 hr
 refine ⟨u,?_,hr'⟩
 have h1:=bn.1.1
 have h2:=bn.1.2
 simp [execOp,ho,Instr.index,run_underlying ht,e1,e2,asIntOf,h1,h2,dm hi,hu]
theorem ET {kd:Bool}{s t:SV}{b:Bool}(h:EC kd s t=some b){p:Nat→Prop}{μ:Nat→Nm}{M:Mem}{u v:Value}(hu:Rp p μ M s u)(hv:Rp p μ M t v):EB kd u v=some b:=by
 unfold EC at h
 split at h
 ·rw [Rp.aN.1 hu,Rp.aN.1 hv];exact h
 ·rw [Rp.bz.1 hu,Rp.bz.1 hv];exact h
 ·cases h
theorem kM:∀ {ks:List Bool} {ss ts:List SV} {b:Bool},iA ks ss ts=some b→∀ {p:Nat→Prop} {μ:Nat→Nm} {M:Mem} {us vs:List Value},aR p μ M ss us→aR p μ M ts vs→dU ks us vs=some b
 | [],[],[],b,h,_,_,_,us,vs,hu,hv=>by rw [aR.aP.1 hu,aR.aP.1 hv];exact h
 | [],[],_::_,_,h,_,_,_,_,_,_,_=>by simp [iA] at h
 | [],_::_,_,_,h,_,_,_,_,_,_,_=>by simp [iA] at h
 | _::_,[],_,_,h,_,_,_,_,_,_,_=>by simp [iA] at h
 | _::_,_::_,[],_,h,_,_,_,_,_,_,_=>by simp [iA] at h
 | kd::ks,s::ss,t::ts,b,h,p,μ,M,us,vs,hu,hv=>by
  simp only [iA] at h
  split at h
  ·rename_i a b' h1 h2
   obtain ⟨u,us',rfl,hu1,hu2⟩:=aR.aF.1 hu
   obtain ⟨v,vs',rfl,hv1,hv2⟩:=aR.aF.1 hv
   simp only [dU,ET h1 hu1 hv1,kM h2 hu2 hv2]
   exact h
  ·cases h
theorem lN {op:BinOp}(h:isEq op=true):op= .eql∨op= .neq:=by
 cases op <;> simp [isEq] at h <;> simp
theorem Gu {op:BinOp}{t t':TypeId}{x y:Operand}{x' y':X}{ks:List Bool}(ho:o.op= .binOp op t x y t')(hop:isEq op=true)(ht:(∃ fs,P.underlying t=some (.struct fs))∨∃ n el,P.underlying t=some (.array n el))(hks:bk P 10000 t=some ks)
  (hg:P.eqGuardType P.depth t=false) (hx:cX x=some x') (hy:cX y=some y') (he:cZ E H k own (.eqv (dO op) ks x' y')=some e):Sound P o E H k e:=by
 simp only [cZ] at he
 split at he <;> first | (cases he;done) | skip
 rename_i s s' h1 h2
 split at he <;> first | (cases he;done) | skip
 rename_i b hb
 injection he with he
 subst he
 refine ⟨OT.pure fun p μ M a w hk hS=>⟨.bool (bif dO op then !b else b),?_,Rp.bz.2 rfl⟩,aQ⟩
 obtain ⟨xs,e1,r1⟩:=Rp.ez.1 (hk.get (by simp [ho,Op.operands]) hx h1)
 obtain ⟨ys,e2,r2⟩:=Rp.ez.1 (hk.get (by simp [ho,Op.operands]) hy h2)
 have hc:=kM hb r1 r2
 have heq:=ru (P:=P) (w:=w) 10000 t ks _ _ b hks hc
 have hty:∃ n,dx P t=some (some n):=by
  rcases jx hks with ⟨t1,_⟩ | t1
  ·exfalso
   obtain ⟨i,hi,_⟩:=lM hks
   rcases ht with ⟨fs,ht⟩ | ⟨n,el,ht⟩ <;> simp [dx,ht,hi] at t1
  ·exact ⟨_,t1⟩
 obtain ⟨n,hty⟩:=hty
 simp only [valOf,hty] at heq
 have hgu:(eqGuard op t x y (.agg xs) (.agg ys)).run P w= .ok () w:=run_eqGuard_agg w op t x y xs ys hg
 rcases lN hop with rfl | rfl <;> simp [execOp,ho,e1,e2,hgu,binOp,Op.equal,Op.maxDepth,heq,dO]
theorem I2 {op:BinOp}{t t':TypeId}{x y:Operand}{x' y':X}(ho:o.op= .binOp op t x y t')(hop:isEq op=true)(ht:P.underlying t=some .bool)
  (hx:cX x=some x') (hy:cX y=some y') (he:cZ E H k own (.qh (dO op) x' y')=some e):Sound P o E H k e:=by
 simp only [cZ] at he
 split at he <;> first | (cases he;done) | skip
 rename_i s s' h1 h2
 injection he with he
 subst he
 refine ⟨OT.pure fun p μ M a w hk hS=>⟨.bool (bif dO op then !(s == s') else s == s'),?_,Rp.bz.2 rfl⟩,aQ⟩
 have e1:=Rp.bz.1 (hk.get (by simp [ho,Op.operands]) hx h1)
 have e2:=Rp.bz.1 (hk.get (by simp [ho,Op.operands]) hy h2)
 have heq:=run_equalIn_bool (P:=P) w 9999 t s s' ht
 rcases lN hop with rfl | rfl <;> simp [execOp,ho,e1,e2,eqGuard_at_bool,binOp,Op.equal,Op.maxDepth,heq,dO]
theorem EU {op:BinOp}{t t':TypeId}{x y:Operand}{x':X}{kd:Nat}(ho:o.op= .binOp op t x y t')(hop:isEq op=true)(hy:wT P t y=some kd)
  (hx:cX x=some x') (he:cZ E H k own (.gX (dO op) kd x')=some e) (bn:e.ob):Sound P o E H k e:=by
 have finF:∀ (F:Hp) (hF:∀ n ob,lk F n=some ob→H n=some ob) (b:Bool) (pp:Prop),(∀ (p:Nat→Prop) (μ:Nat→Nm) (M:Mem) (a:Act) (w:World),gq E o.op.operands p μ M a→bK p μ M (lk F) w→(∀ d,(Op.equalIn (d+1) t (a.eval x) (a.eval y)).run P w= .ok b w)∧
    (∀ kd n,a.eval x≠ .int kd n)∧(∀ q,a.eval x≠ .string q)∧(∀ q n,a.eval x≠ .float q n)∧(∀ q n m,a.eval x≠ .complex q n m)∧eqGuard op t x y (a.eval x) (a.eval y)=Pure.pure ())→
   Sound P o E H k ⟨.d (.bool (bif dO op then !b else b)),F,F,0,pp⟩:=by
  intro F hF b pp h
  refine ⟨OT.pure fun p μ M a w hk hS=>⟨.bool (bif dO op then !b else b),?_,Rp.bz.2 rfl⟩,hF⟩
  obtain ⟨h0,n1,n2,n3,n4,n5⟩:=h p μ M a w hk hS
  have h1:=h0 9999
  clear h0
  have hb:(binOp op t (a.eval x) (a.eval y)).run P w= .ok (.bool (bif dO op then !b else b)) w:=by
   generalize a.eval x=u at*
   generalize a.eval y=v at*
   rcases lN hop with rfl | rfl <;> cases u <;> first
    | exact absurd rfl (n1 _ _)
    | exact absurd rfl (n2 _)
    | exact absurd rfl (n3 _ _)
    | exact absurd rfl (n4 _ _ _)
    | (cases v <;> simp [binOp,Op.equal,Op.maxDepth,h1,dO])
  simp only [execOp,ho,Sem.run_bind,n5,Sem.run_pure,Result.andThen_ok,hb]
 have fin:=finF [] aQ
 unfold wT at hy
 simp only [cZ] at he
 split at hy <;> first | (cases hy;done) | skip
 all_goals rename_i hty
 all_goals injection hy with hy
 all_goals subst hy
 all_goals split at he <;> first | (cases he;done) | skip
 all_goals first | contradiction | skip
 all_goals first | (rename_i hs;injection he with he;subst he) | skip
 ·have:=fin true True fun p μ M a w hk hS=>by
   have e1:a.eval x= .pointer none:=by simpa [bQ] using Rp.cu.1 (hk.get (by simp [ho,Op.operands]) hx hs)
   refine ⟨fun d=>by rw [e1];simp [Act.eval,Op.equalIn,run_underlying hty],?_⟩
   rw [e1]
   simp [eqGuard_at_pointer]
  cases hn:dO op <;> simpa [hn] using this
 ·rename_i n off _
  have:=fin false True fun p μ M a w hk hS=>by
   have e1:a.eval x= .pointer (some ⟨(μ n).blk,off,none⟩):=(hk.get (by simp [ho,Op.operands]) hx hs).qp
   refine ⟨fun d=>by rw [e1];simp [Act.eval,Op.equalIn,run_underlying hty],?_⟩
   rw [e1]
   simp [eqGuard_at_pointer]
  cases hn:dO op <;> simpa [hn] using this
 ·have:=fin false True fun p μ M a w hk hS=>by
   obtain ⟨b,q,e1⟩:∃ b q,a.eval x= .pointer (some ⟨b,q,none⟩):=by
    have:=(hk.get (by simp [ho,Op.operands]) hx hs).rep
    simp only [cI] at this
    obtain ⟨b,q,e1,_⟩:=this
    exact ⟨b,_,e1⟩
   refine ⟨fun d=>by rw [e1];simp [Act.eval,Op.equalIn,run_underlying hty],?_⟩
   rw [e1]
   simp [eqGuard_at_pointer]
  cases hn:dO op <;> simpa [hn] using this
 ·have:=fin true True fun p μ M a w hk hS=>by
   have e1:a.eval x= .map none:=by simpa [bQ] using Rp.cu.1 (hk.get (by simp [ho,Op.operands]) hx hs)
   refine ⟨fun d=>by rw [e1];simp [Act.eval,Op.equalIn,run_underlying hty],?_⟩
   rw [e1]
   simp [eqGuard_at_map]
  cases hn:dO op <;> simpa [hn] using this
 ·rename_i n _ hs
  split at he <;> first | (cases he;done) | skip
  ·rename_i es c hH
   injection he with he
   subst he
   have:=finF [(n,.map es c)] (sub_one hH) false True fun p μ M a w hk hS=>by
    have hl:(μ n).live=true:=hS.one.2.1.1
    have e1:a.eval x= .map (some (μ n).blk):=by simpa [cI,hl] using (hk.get (by simp [ho,Op.operands]) hx hs).rep
    refine ⟨fun d=>by rw [e1];simp [Act.eval,Op.equalIn,run_underlying hty],?_⟩
    rw [e1]
    simp [eqGuard_at_map]
   cases hn:dO op <;> simpa [hn] using this
  ·rename_i hH
   injection he with he
   subst he
   have:=finF [(n,.fu)] (sub_one hH) true True fun p μ M a w hk hS=>by
    have hl:(μ n).live=false:=hS.one.2.1
    have e1:a.eval x= .map none:=by simpa [cI,hl] using (hk.get (by simp [ho,Op.operands]) hx hs).rep
    refine ⟨fun d=>by rw [e1];simp [Act.eval,Op.equalIn,run_underlying hty],?_⟩
    rw [e1]
    simp [eqGuard_at_map]
   cases hn:dO op <;> simpa [hn] using this
 ·have:=fin true True fun p μ M a w hk hS=>by
   have e1:a.eval x= .nilFunc:=by simpa [bQ] using Rp.cu.1 (hk.get (by simp [ho,Op.operands]) hx hs)
   refine ⟨fun d=>by rw [e1];simp [Act.eval,Op.equalIn,run_underlying hty],?_⟩
   rw [e1]
   simp [eqGuard_at_nilFunc]
  cases hn:dO op <;> simpa [hn] using this
 ·have:=fin false True fun p μ M a w hk hS=>by
   obtain ⟨as,cs,e1,_⟩:=Rp.qj.1 (hk.get (by simp [ho,Op.operands]) hx hs)
   refine ⟨fun d=>by rw [e1];simp [Act.eval,Op.equalIn,run_underlying hty],?_⟩
   rw [e1]
   simp [eqGuard_at_func]
  cases hn:dO op <;> simpa [hn] using this
 ·have:=fin true True fun p μ M a w hk hS=>by
   have e1:a.eval x= .slice none 0 0:=by simpa [bQ] using Rp.cu.1 (hk.get (by simp [ho,Op.operands]) hx hs)
   refine ⟨fun d=>by rw [e1];simp [Act.eval,Op.equalIn,run_underlying hty],?_⟩
   rw [e1]
   simp [eqGuard_at_slice]
  cases hn:dO op <;> simpa [hn] using this
 ·rename_i n len _
  have:=fin false (len≠0) fun p μ M a w hk hS=>by
   obtain ⟨_,e1⟩ | ⟨_,h,_⟩:=(hk.get (by simp [ho,Op.operands]) hx hs).jZ
   rotate_left
   ·exact absurd h bn
   refine ⟨fun d=>by rw [e1];simp [Act.eval,Op.equalIn,run_underlying hty],?_⟩
   rw [e1]
   simp [eqGuard_at_slice]
  cases hn:dO op <;> simpa [hn] using this
end
end
section
section
variable {P:Program} {o:Oper} {E:Nat→Option SV} {H:Nat→Option Ob} {k:Nat} {own:Bool} {e:kH}
theorem uE (vs us:List Value)(o n:Nat)(h:o+us.length≤n)(hn:n≤vs.length):(oq vs o us).take n=oq (vs.take n) o us:=by
 have h0:o≤vs.length:=by omega
 unfold oq
 apply List.ext_getElem?
 intro i
 simp only [List.getElem?_take,List.getElem?_append,List.length_append,List.length_take,List.getElem?_drop,Nat.min_eq_left h0,Nat.min_eq_left (show o≤min n vs.length by omega)]
 by_cases h1:i<n
 ·simp only [h1,if_true]
  by_cases h2:i<o
  ·simp [h2,show i<o+us.length by omega]
  ·by_cases h3:i<o+us.length
   ·simp [h2,h3]
   ·simp [h3,show o+us.length+(i - (o+us.length))<n by omega]
 ·simp only [h1,if_false]
  simp [show ¬ i<o+us.length by omega,show ¬ o+us.length+(i - (o+us.length))<n by omega]
theorem o8 {w:World}{t ty:TypeId}{i:TypeInfo}{b off:Nat}{vs:Array Value}{v:Value}(hi:P.info? t=some i)(hb:w.heap[b]? =some (.cells vs ty (0,0)))(hs:v.cells.size=i.size)
  (h1:∀ u∈v.cells.toList,u.oneCell'=true) (hl:off+i.size≤vs.size):
  ∃ w',(storeVar t ⟨b,off,none⟩ v).run P w= .ok () w'∧w'.heap[b]? =some (.cells (oq vs.toList off v.cells.toList).toArray ty (0,0))∧(∀ c,c≠b→w'.heap[c]? =w.heap[c]?)∧
   w'.heap.size=w.heap.size∧w'.os=w.os∧Tape w w'∧w'.output=w.output:=by
 obtain ⟨w',hr,h2,h3⟩:=gY (P:=P) v.cells.toList vs w off 0 hb (by simp [hs];omega) h1
 refine ⟨w',?_,by simpa using h2,h3⟩
 simp [storeVar,dm hi,hs,hr]
theorem EV {t:TypeId}{x v:Operand}{x' v':X}{i:TypeInfo}(ho:o.op= .store t x v)(hi:P.info? t=some i)(hx:cX x=some x')(hv:cX v=some v')
  (he:cZ E H k own (.store i.size x' v')=some e) (bn:e.ob):Sound P o E H k e:=by
 simp only [cZ] at he
 split at he <;> first | (cases he;done) | skip
 rename_i n off s h1 h2
 split at he <;> first | (cases he;done) | skip
 rename_i hone
 split at he <;> first | (cases he;done) | skip
 ·rename_i ty cs hH
  injection he with he
  subst he
  obtain ⟨hob1,hob2⟩:=bn
  refine ⟨OT.write fun p μ M a w hk hp bn=> ?_,sub_one hH⟩
  obtain ⟨h0,vs,hb,hr⟩:=bn
  have e1:=(hk.get (by simp [ho,Op.operands]) hx h1).qp
  obtain ⟨c1,c2⟩:=Rp.cells hone (hk.get (by simp [ho,Op.operands]) hv h2)
  have hvs:vs.size=cs.length:=by simpa using hr.length
  have hsz:(a.eval v).cells.size=i.size:=by have:=c1.length;simp at this;omega
  obtain ⟨w',hr',q1,q2,q3,q4,q5,q6⟩:=o8 (P:=P) (v:=a.eval v) hi hb hsz c2 (off:=off) (by omega)
  refine ⟨undef,w',.inr ⟨?_,rfl⟩,Rp.any,⟨h0,_,q1,?_⟩,fun b hb=>q2 b (hb h0),q3,q4,q5,q6⟩
  ·simp [execOp,ho,Instr.storeAt,e1,Instr.sureAddr,hr']
  ·simpa using aR.cU hr c1 (by omega)
 ·rename_i el z l cs hH
  injection he with he
  subst he
  obtain ⟨hob1,hob2,hob3⟩:=bn
  refine ⟨OT.write fun p μ M a w hk hp bn=> ?_,sub_one hH⟩
  rcases bn with ⟨_,_,rfl⟩ | bn
  ·simp at hob2;omega
  obtain ⟨h0,vs,hb,hl1,hl2,ID,hl4,hr⟩:=bn
  have e1:=(hk.get (by simp [ho,Op.operands]) hx h1).qp
  obtain ⟨c1,c2⟩:=Rp.cells hone (hk.get (by simp [ho,Op.operands]) hv h2)
  have hle:l*z≤vs.size:=by rw [hl4];exact Nat.mul_le_mul_right z hl2
  have hsz:(a.eval v).cells.size=i.size:=by have:=c1.length;simp at this;omega
  obtain ⟨w',hr',q1,q2,q3,q4,q5,q6⟩:=o8 (P:=P) (v:=a.eval v) hi hb hsz c2 (off:=off) (by omega)
  refine ⟨undef,w',.inr ⟨?_,rfl⟩,Rp.any,.inr ⟨h0,_,q1,?_,hl2,ID,?_,?_⟩,fun b hb=>q2 b (hb h0),q3,q4,q5,q6⟩
  ·simp [execOp,ho,Instr.storeAt,e1,Instr.sureAddr,hr']
  ·rw [qn (by omega)]
   simp
   omega
  ·simp [oq]
   omega
  ·have lP:(a.eval v).cells.toList.length=i.size:=by simpa using hsz
   have:=aR.cU (o:=off) hr c1 (by omega)
   rw [← uE _ _ _ _ (by omega) (by simpa using hle)] at this
   simpa using this
theorem ye (us:List Value):∀ (j off:Nat) (vs:Array Value),off+j+us.length≤vs.size→((us.zipIdx j).foldl (fun cs (x:Value×Nat)=>cs.setIfInBounds (off+x.2) x.1) vs).toList=oq vs.toList (off+j) us:=by
 induction us with
 | nil=>intro j off vs _;simp [oq]
 | cons u us ih=>
  intro j off vs h
  simp only [List.length_cons] at h
  simp only [List.zipIdx_cons,List.foldl_cons]
  rw [ih (j+1) off _ (by simp;omega),Array.toList_setIfInBounds,show off+(j+1)=off+j+1 by omega]
  exact qo vs.toList (off+j) u us (by simp;omega)
theorem o9 (pl:Nat→Option (Nat×Nat)){p:Nat→Prop}{μ:Nat→Nm}{M:Mem}{a:Act}{xs:Array Operand}(hk:gq E xs p μ M a):∀ (parts:List (Nat×Operand)) (qs:List (Nat×Nat×X)) (ps:List (Nat×Nat×SV)) (cells cs:List SV) (ob:Prop) (vs:Array Value),
  kg pl parts=some qs→wQ E qs=some ps→mD cells ps=some (cs,ob)→ob→(∀ x∈parts,x.2∈xs)→aR p μ M cells vs.toList→
  ∃ vs':Array Value,Instr.fill pl vs (parts.map fun (i,x)=>(i,a.eval x))=some vs'∧aR p μ M cs vs'.toList
 | [],qs,ps,cells,cs,ob,vs,h1,h2,h3,bn,_,hr=>by
  simp [kg] at h1;subst h1
  simp [wQ] at h2;subst h2
  simp [mD] at h3;obtain ⟨rfl,_⟩:=h3
  exact ⟨vs,rfl,hr⟩
 | (i,x)::parts,qs,ps,cells,cs,ob,vs,h1,h2,h3,bn,hin,hr=>by
  simp only [kg] at h1
  split at h1 <;> first | (cases h1;done) | skip
  rename_i off n y qs' hpl hy hqs
  injection h1 with h1;subst h1
  simp only [wQ] at h2
  split at h2 <;> first | (cases h2;done) | skip
  rename_i s ss hs hss
  injection h2 with h2;subst h2
  simp only [mD] at h3
  split at h3 <;> first | (cases h3;done) | skip
  rename_i hone
  split at h3 <;> first | (cases h3;done) | skip
  rename_i cs' jw hb
  injection h3 with h3
  injection h3 with h3 h3'
  subst h3;subst h3'
  obtain ⟨hob1,hob2,hob3⟩:=bn
  obtain ⟨c1,c2⟩:=Rp.cells hone (hk.get (hin (i,x) (by simp)) hy hs)
  have hvl:=hr.length
  have lP:=c1.length
  simp only [Array.length_toList] at hvl lP
  have hsp:=aR.cU (o:=off) hr c1 (by omega)
  have hf:=ye (a.eval x).cells.toList 0 off vs (by simp;omega)
  simp only [Nat.add_zero] at hf
  rw [← hf] at hsp
  obtain ⟨vs',r1,r2⟩:=o9 pl hk parts qs' ss _ _ jw _ hqs hss hb hob3 (fun y hy=>hin y (by simp [hy])) hsp
  refine ⟨vs',?_,r2⟩
  simp only [List.map_cons,Instr.fill,hpl]
  rw [if_neg (by simp;omega)]
  rw [← Array.foldl_toList,Array.toList_zipIdx]
  exact r1
theorem run_places {w:World}:∀ (fs:List Field),(fs.all fun f=>(P.info? f.type).isSome)=true→
  (fs.mapM (m:=Sem) fun f=>do pure (f.offset,← sizeOf f.type)).run P w= .ok (fs.map fun f=>(f.offset,P.cellsOf f.type)) w
 | [],_=>by simp
 | f::fs,h=>by
  simp only [List.all_cons,Bool.and_eq_true] at h
  obtain ⟨i,hi⟩:=Option.isSome_iff_exists.1 h.1
  have ih:=run_places (w:=w) fs h.2
  simp only [List.mapM_cons,Sem.run_bind,dm hi,Result.andThen_ok,Sem.run_pure,ih,List.map_cons,Program.cellsOf,hi,Option.map_some,Option.getD_some]
theorem yf {pl KD:Nat→Option (Nat×Nat)}:∀ (parts:List (Nat×Value)) (vs:Array Value),(∀ i,pl i=KD i)→Instr.fill pl vs parts=Instr.fill KD vs parts
 | parts,vs,h=>by rw [show pl=KD from funext h]
theorem He {t:TypeId}{parts:Array (Nat×Operand)}{fs:Array Field}{z:List SV}{qs:List (Nat×Nat×X)}(ho:o.op= .build t parts)(ht:P.underlying t=some (.struct fs))(hz:fh P t=some z)
  (Km:fs.all (fun f=>(P.info? f.type).isSome)=true) (hq:kg (o7 P fs) parts.toList=some qs) (he:cZ E H k own (.fE z qs)=some e) (bn:e.ob):Sound P o E H k e:=by
 simp only [cZ] at he
 split at he <;> first | (cases he;done) | skip
 rename_i ps hps
 split at he <;> first | (cases he;done) | skip
 rename_i cs ob hb
 injection he with he
 subst he
 refine ⟨OT.pure fun p μ M a w hk hS=> ?_,aQ⟩
 obtain ⟨v,hv,hr,_⟩:=fG hz (p:=p) (μ:=μ) (M:=M)
 obtain ⟨vs',r1,r2⟩:=o9 (o7 P fs) hk parts.toList qs ps z cs ob v.cells hq hps hb bn (fun x hx=>by
  rw [ho];simp only [Op.operands,List.mem_toArray,List.mem_map];exact ⟨x,by simpa using hx,rfl⟩) hr
 refine ⟨.agg vs',?_,Rp.ez.2 ⟨_,rfl,r2⟩⟩
 have hpl:(fs.mapM (m:=Sem) fun f=>do pure (f.offset,← sizeOf f.type)).run P w= .ok (fs.map fun f=>(f.offset,P.cellsOf f.type)) w:=by
  rw [← Array.toArray_toList (xs:=fs),List.mapM_toArray]
  rw [Sem.run_map,run_places fs.toList (by simpa using Km)]
  simp only [Result.andThen_ok]
  congr 1
  apply Array.ext'
  simp
 have hpe:∀ i,(fs.map fun f=>(f.offset,P.cellsOf f.type))[i]? =o7 P fs i:=by
  intro i
  unfold o7
  rw [Array.getElem?_map]
  cases hi:fs[i]? with
  | none=>rfl
  | some f=>
   have hf:(P.info? f.type).isSome=true:=by
    have:=Array.all_eq_true_iff_forall_mem.1 Km f (Array.mem_of_getElem? hi)
    exact this
   obtain ⟨j,hj⟩:=Option.isSome_iff_exists.1 hf
   simp [hj,Program.cellsOf]
 have hfill:Instr.fill ((fs.map fun f=>(f.offset,P.cellsOf f.type))[·]?) v.cells (parts.map fun (i,x)=>(i,a.eval x)).toList=some vs':=by
  rw [yf _ _ hpe]
  simpa using r1
 simp only [execOp,ho,Instr.build,Sem.run_bind,hv w,Result.andThen_ok,run_underlying ht,hpl,hfill,Sem.run_pure]
theorem Hf {t el:TypeId}{n:Nat}{parts:Array (Nat×Operand)}{ti:TypeInfo}{z:List SV}{qs:List (Nat×Nat×X)}(ho:o.op= .build t parts)(ht:P.underlying t=some (.array n el))(hz:fh P t=some z)
  (hi:P.info? el=some ti) (hq:kg (fun i=>some (i*ti.size,ti.size)) parts.toList=some qs) (he:cZ E H k own (.fE z qs)=some e) (bn:e.ob):Sound P o E H k e:=by
 simp only [cZ] at he
 split at he <;> first | (cases he;done) | skip
 rename_i ps hps
 split at he <;> first | (cases he;done) | skip
 rename_i cs ob hb
 injection he with he
 subst he
 refine ⟨OT.pure fun p μ M a w hk hS=> ?_,aQ⟩
 obtain ⟨v,hv,hr,_⟩:=fG hz (p:=p) (μ:=μ) (M:=M)
 obtain ⟨vs',r1,r2⟩:=o9 _ hk parts.toList qs ps z cs ob v.cells hq hps hb bn (fun x hx=>by
  rw [ho];simp only [Op.operands,List.mem_toArray,List.mem_map];exact ⟨x,by simpa using hx,rfl⟩) hr
 refine ⟨.agg vs',?_,Rp.ez.2 ⟨_,rfl,r2⟩⟩
 have hfill:Instr.fill (fun i=>some (i*ti.size,ti.size)) v.cells (parts.map fun (i,x)=>(i,a.eval x)).toList=some vs':=by simpa using r1
 simp only [execOp,ho,Instr.build,Sem.run_bind,hv w,Result.andThen_ok,run_underlying ht,dm hi,hfill,Sem.run_pure]
end
end
section
section
variable {P:Program} {o:Oper} {E:Nat→Option SV} {H:Nat→Option Ob} {k:Nat} {own:Bool} {e:kH}
theorem aR.mk {p:Nat→Prop}{μ:Nat→Nm}{M:Mem}:∀ {cs:List SV} {vs:List Value},vs.length=cs.length→(∀ (i:Nat) (c:SV),cs[i]? =some c→∃ u,vs[i]? =some u∧Rp p μ M c u)→aR p μ M cs vs
 | [],vs,hl,_=>by
  simp at hl
  exact aR.aP.2 hl
 | c::cs,[],hl,_=>by simp at hl
 | c::cs,v::vs,hl,h=>by
  obtain ⟨u,hu,hr⟩:=h 0 c rfl
  simp at hu
  subst hu
  exact aR.aF.2 ⟨_,_,rfl,hr,aR.mk (by simpa using hl) fun i c' hi=>by simpa using h (i+1) c' (by simpa using hi)⟩
theorem o_ {α:Type}(z:List α):∀ (n i:Nat),i<n*z.length→((List.replicate n z).flatten)[i]? =z[i % z.length]?
 | 0,i,h=>by simp at h
 | n + 1,i,h=>by
  rw [List.replicate_succ,List.flatten_cons,List.getElem?_append]
  split
  ·rename_i hlt
   rw [Nat.mod_eq_of_lt hlt]
  ·rename_i hge
   have hpos:0<z.length:=by
    rcases Nat.eq_zero_or_pos z.length with h0 | h0
    ·rw [h0] at h;simp at h
    ·exact h0
   rw [Nat.add_mul,Nat.one_mul] at h
   rw [o_ z n (i - z.length) (by omega)]
   congr 1
   rw [Nat.mod_eq_sub_mod (a:=i) (by omega)]
theorem sH {p:Nat→Prop}{μ:Nat→Nm}{M:Mem}{z:List SV}{zs:Array Value}(hz:aR p μ M z zs.toList)(n m:Nat)(hm:m=n*z.length):
  aR p μ M ((List.replicate n z).flatten) ((Array.range m).map (zs[· % zs.size]!)).toList:=by
 subst hm
 have hl:=hz.length
 simp only [Array.length_toList] at hl
 refine aR.mk (by simp) fun i c hi=> ?_
 have hlt:i<n*z.length:=by
  have:=(List.getElem?_eq_some_iff.1 hi).1
  simpa using this
 rw [o_ z n i hlt] at hi
 obtain ⟨u,hu,hr⟩:=hz.get hi
 refine ⟨u,?_,hr⟩
 have hpos:0<zs.size:=by
  rcases Nat.eq_zero_or_pos z.length with h0 | h0
  ·rw [h0] at hlt;simp at hlt
  ·omega
 have hu':zs[i % zs.size]? =some u:=by rw [hl];simpa using hu
 have hlt':i % zs.size<zs.size:=Nat.mod_lt _ hpos
 rw [Array.getElem?_eq_getElem hlt'] at hu'
 injection hu' with hu'
 simp [hlt,getElem!_pos zs (i % zs.size) hlt',hu']
theorem Ao {p:Nat→Prop}{μ:Nat→Nm}{M:Mem}{t:TypeId}{z:List SV}(hz:fh P t=some z)(n m:Nat)(hm:m=n*z.length):∃ zs:Array Value,
  (m=0→zs= #[])∧(m≠0→∃ v,(∀ w:World,(zeroValue t).run P w= .ok v w)∧v.cells=zs)∧aR p μ M ((List.replicate n z).flatten) ((Array.range m).map (zs[· % zs.size]!)).toList:=by
 by_cases h0:m=0
 ·subst h0
  refine ⟨#[],fun _=>rfl,fun h=>absurd rfl h,?_⟩
  have:(List.replicate n z).flatten=[]:=List.eq_nil_of_length_eq_zero (by simp;omega)
  rw [this]
  exact aR.aP.2 (by simp)
 ·obtain ⟨v,hv,hr,_⟩:=fG hz (p:=p) (μ:=μ) (M:=M)
  exact ⟨v.cells,fun h=>absurd h h0,fun _=>⟨v,hv,rfl⟩,sH hr n m hm⟩
theorem OT.EW {v:SV}(h:∀ (p:Nat→Prop) (μ:Nat→Nm) (M:Mem) (a:Act) (w:World),gq E o.op.operands p μ M a→oV M w→
  ∃ u vs t,(execOp a.eval o).run P w= .ok (.value u) (w.alloc (.cells vs t))∧∀ M':Mem,Mem.le M M'→(∀ i,M' w.heap.size i=vs[i]?)→Rp p μ M' v u):OT P o E [] (fun n=>k≤n∧n<k+0) v []:=by
 intro rd p μ M a w K Q hnew hkn hS hK
 obtain ⟨u,vs,t,hr,hu⟩:=h p μ M a w hkn hS.mem
 have hno:=sG hS.mem (Nat.le_refl _)
 let M':Mem:=fun b i=>if b=w.heap.size then vs[i]? else M b i
 have hle:Mem.le M M':=fun b i x hx=>by
  have:b≠w.heap.size:=fun e=>by rw [e,hno] at hx;cases hx
  simp [M',this,hx]
 refine gr hr (hK u μ M' _ ((hu M' hle fun i=>by simp [M']).more (fun n h=> .inl h) (fun _ _=>rfl) (Mem.le_refl _)) ⟨⟨fun b i x hx=> ?_,hS.mem.j9.le hle⟩,fun n ob hn=>by simp [bt] at hn,fun n m hn=>by simp [bt] at hn⟩
  ⟨fun _ _=>rfl,hle,fun b hb _=>⟨jd w _ hb,fun i=>by simp [M',Nat.ne_of_lt hb]⟩,by simp,fun n hn=>by simp [bt] at hn,rfl,⟨rfl,Nat.le_refl _⟩,rfl⟩)
 by_cases hb:b=w.heap.size
 ·subst hb
  simp [M'] at hx
  rw [cell_of (fF w _),hx]
 ·simp [M',hb] at hx
  exact kK _ hS.mem b i x hx
theorem uF:∀ {cs:List SV} {ds:List DV},eH cs=some ds→cs=ds.map .d
 | [],ds,h=>by simp [eH] at h;subst h;rfl
 | .d x::r,ds,h=>by
  simp only [eH] at h
  split at h
  ·rename_i xs hxs
   simp at h;subst h
   simp [uF hxs]
  ·cases h
 | .ptr _ _::_,_,h | .gs _ _::_,_,h | .vp _ _::_,_,h | .mp _::_,_,h | .bs _ _ _::_,_,h | .it _::_,_,h | .yl _::_,_,h | .fn _ _ _::_,_,h | .agg _::_,_,h | .dM _::_,_,h | .any::_,_,h=>by simp [eH] at h
theorem EX {p:Nat→Prop}{μ:Nat→Nm}{M M':Mem}{b:Nat}(hle:Mem.le M M'){vs:Array Value}(hM:∀ i,M' b i=vs[i]?){ds:List DV}(h:aR p μ M (ds.map .d) vs.toList):cQ M' b 0 ds:=by
 refine cQ.mk fun i c hi=> ?_
 obtain ⟨u,hu,hr⟩:=h.get (i:=i) (c:= .d c) (by simp [hi])
 exact ⟨u,by rw [Nat.zero_add,hM];simpa using hu,(Rp.cu.1 hr).mono hle⟩
theorem Rp.BH {p:Nat→Prop}{μ:Nat→Nm}{M:Mem}{n len:Nat}(hp:p n)(hl:(μ n).live=true):Rp p μ M (.gs n len) (.slice (some ⟨(μ n).blk,0,none⟩) len (μ n).cap):=fun aZ h=>by
 simp [cI,h n hp,hl]
theorem ry:∀ {ps:List (Nat×Nat×SV)} {cells cs:List SV} {ob:Prop},mD cells ps=some (cs,ob)→ob→cs.length=cells.length
 | [],cells,cs,ob,h,_=>by simp [mD] at h;rw [← h.1]
 | (off,n,s)::ps,cells,cs,ob,h,bn=>by
  simp only [mD] at h
  split at h <;> first | (cases h;done) | skip
  split at h <;> first | (cases h;done) | skip
  rename_i cs' jw hb
  injection h with h
  injection h with h h'
  subst h;subst h'
  have:=ry hb bn.2.2
  rw [this,qn (by have:=bn.1;have:=bn.2.1;omega)]
  simp
  have:=bn.1;have:=bn.2.1;omega
theorem I3 {t el:TypeId}{len:Nat}{parts:Array (Nat×Operand)}{ti:TypeInfo}{z:List SV}{qs:List (Nat×Nat×X)}(ho:o.op= .buildSlice t len parts)(ht:P.underlying t=some (.slice el))(hi:P.info? el=some ti)(hz:fh P el=some z)
  (hsz:(len*ti.size≤16777216∧len≤16777216)∧z.length=ti.size) (hq:kg (fun i=>some (i*ti.size,ti.size)) parts.toList=some qs)
  (he:cZ E H k own (.oU el ti.size len ((List.replicate len z).flatten) qs)=some e) (bn:e.ob):Sound P o E H k e:=by
 simp only [cZ] at he
 split at he <;> first | (cases he;done) | skip
 rename_i ps hps
 split at he <;> first | (cases he;done) | skip
 rename_i cs ob hb
 split at he <;> first | (cases he;done) | skip
 rename_i hone
 have lP:ob→cs.length=len*ti.size:=fun h=>by rw [ry hb h];simp [hsz.2]
 have run:∀ (p:Nat→Prop) (μ:Nat→Nm) (M:Mem) (a:Act) (w:World),ob→gq E o.op.operands p μ M a→∃ vs:Array Value,(execOp a.eval o).run P w= .ok (.value (.slice (some ⟨w.heap.size,0,none⟩) len len)) (w.alloc (.cells vs el))∧aR p μ M cs vs.toList:=by
  intro p μ M a w bn hk
  obtain ⟨zs,hz0,hz1,hr⟩:=Ao (P:=P) (p:=p) (μ:=μ) (M:=M) hz len (len*ti.size) (by rw [hsz.2])
  obtain ⟨vs',r1,r2⟩:=o9 _ hk parts.toList qs ps _ cs ob _ hq hps hb bn (fun x hx=>by
   rw [ho];simp only [Op.operands,List.mem_toArray,List.mem_map];exact ⟨x,by simpa using hx,rfl⟩) hr
  refine ⟨vs',?_,r2⟩
  have hfill:Instr.fill (fun i=>some (i*ti.size,ti.size)) ((Array.range (len*ti.size)).map (zs[· % zs.size]!)) (parts.map fun (i,x)=>(i,a.eval x)).toList=some vs':=by simpa using r1
  have hgt: ¬ (len*ti.size>2 ^ 24):=by have:=hsz.1.1;omega
  by_cases h0:len*ti.size=0
  ·rw [hz0 h0] at hfill
   simp only [execOp,ho,Instr.buildSlice,Sem.run_bind,run_underlying ht,Result.andThen_ok,dm hi,hgt,if_false,if_pos h0,Sem.run_pure,hfill,newRow,run_newObj,World.alloc_eq]
  ·obtain ⟨v,hv,rfl⟩:=hz1 h0
   simp only [execOp,ho,Instr.buildSlice,Sem.run_bind,run_underlying ht,Result.andThen_ok,dm hi,hgt,if_false,if_neg h0,hv w,Sem.run_pure,hfill,newRow,run_newObj,World.alloc_eq]
 have arr:ob→Sound P o E H k ⟨.gs k len,[],[(k,.arr el ti.size len cs)],1,ob⟩:=by
  intro bn
  refine ⟨OT.make fun p μ M a w hk hM=> ?_,aQ⟩
  obtain ⟨vs,hr,hc⟩:=run p μ M a w bn hk
  have hvl:=hc.length
  simp only [Array.length_toList] at hvl
  refine ⟨_,_,len,hr,fun p' aZ hp jv hpk hk'=>⟨.inr ⟨rfl,vs,fF w _,lP bn,Nat.le_refl _,?_,?_,?_⟩,?_⟩⟩
  ·show len≤maxLen
   have:=hsz.1.2;unfold maxLen;omega
  ·show vs.size=len*ti.size
   rw [hvl,lP bn]
  ·rw [List.take_of_length_le (by rw [Array.length_toList,hvl,lP bn];exact Nat.le_refl _)]
   exact hc.more hp jv (Mem.le_refl M)
  ·have:=Rp.BH (μ:=aZ) (M:=M) (n:=k) (len:=len) hpk (by rw [hk'])
   rwa [hk'] at this
 split at he
 ·injection he with he
  subst he
  exact arr bn
 ·rename_i hno
  split at he
  ·rename_i ds hds
   injection he with he
   subst he
   refine ⟨OT.EW fun p μ M a w hk hM=> ?_,aQ⟩
   obtain ⟨vs,hr,hc⟩:=run p μ M a w bn hk
   rw [uF hds] at hc
   refine ⟨_,vs,el,hr,fun M' hle hM'=>Rp.cu.2 ?_⟩
   simp only [bQ]
   refine ⟨_,len,rfl,Nat.le_refl _,fun h0=> ?_,fun hpos=>⟨w.heap.size,0,rfl,EX hle hM' hc⟩⟩
   simp [h0] at hno
  ·injection he with he
   subst he
   exact arr bn
theorem I4 {t el:TypeId}{l c:Operand}{l' c':X}{ti:TypeInfo}{z:List SV}(ho:o.op= .makeSlice t l c)(ht:P.underlying t=some (.slice el))(hi:P.info? el=some ti)(hz:fh P el=some z)(hsz:z.length=ti.size∧0<ti.size)
  (hl:cX l=some l') (hc:cX c=some c') (he:cZ E H k own (.Kl el ti.size ti.bytes z l' c')=some e) (bn:e.ob):Sound P o E H k e:=by
 simp only [cZ] at he
 split at he <;> first | (cases he;done) | skip
 rename_i kl lv kc cv h1 h2
 injection he with he
 subst he
 obtain ⟨b1,b2,b3,b4⟩:=bn
 refine ⟨OT.make fun p μ M a w hk hM=> ?_,aQ⟩
 have e1:=Rp.aN.1 (hk.get (by simp [ho,Op.operands]) hl h1)
 have e2:=Rp.aN.1 (hk.get (by simp [ho,Op.operands]) hc h2)
 obtain ⟨v,hv,hr,_⟩:=fG hz (p:=p) (μ:=μ) (M:=M)
 have hzv:ti.zero=some v:=by
  have hz':=hz
  unfold fh at hz'
  rw [hi] at hz'
  cases Gt:ti.zero with
  | none=>simp [Gt] at hz'
  | some v'=>
   have:=hv w
   rw [oW hi Gt] at this
   injection this with this
   rw [this]
 have hm:=sH hr cv.toNat (cv.toNat*ti.size) (by rw [hsz.1])
 have hrun:=run_make (P:=P) w t el ti v ht hi hzv kl kc lv cv b1 b2 b4 b3
 have hex:(execOp a.eval o).run P w= .ok (.value (.slice (some ⟨w.heap.size,0,none⟩) lv.toNat cv.toNat)) (w.alloc (.cells (madeCells v.cells (cv.toNat*ti.size)) el)):=by
  simp only [execOp,ho,e1,e2,Sem.run_bind,hrun,Result.andThen_ok,Sem.run_pure]
 have hle1:lv.toNat≤cv.toNat:=by omega
 have hle2:cv.toNat≤maxLen:=by unfold maxLen;omega
 refine ⟨_,_,cv.toNat,hex,fun p' aZ hp jv hpk hk'=>⟨.inr ⟨rfl,_,fF w _,by simp [hsz.1],hle1,hle2,?_,?_⟩,?_⟩⟩
 ·rw [size_madeCells]
 ·have hle:lv.toNat*ti.size≤cv.toNat*ti.size:=Nat.mul_le_mul_right _ (by omega)
  have h1:=(hm.more hp jv (Mem.le_refl M)).take (lv.toNat*ti.size)
  have h2:((List.replicate cv.toNat z).flatten).take (lv.toNat*ti.size)=(List.replicate lv.toNat z).flatten:=by
   apply List.ext_getElem?
   intro i
   rw [List.getElem?_take]
   split
   ·rename_i hlt
    rw [o_ z _ _ (by rw [hsz.1];omega),o_ z _ _ (by rw [hsz.1];omega)]
   ·rename_i hge
    rw [List.getElem?_eq_none (by simp [hsz.1];omega)]
  rw [h2] at h1
  exact h1
 ·have:=Rp.BH (μ:=aZ) (M:=M) (n:=k) (len:=lv.toNat) hpk (by rw [hk'])
  rwa [hk'] at this
end
end
section
section
variable {P:Program} {o:Oper} {E:Nat→Option SV} {H:Nat→Option Ob} {k:Nat} {own:Bool} {e:kH}
theorem fc {w:World}{kd:IntKind}{m:Int}{y:Nat}{code:BoundsCode}(h0:0≤m)(h1:m≤y):(Instr.sliceBound (.int kd m) y code).run P w= .ok m.toNat w:=by
 simp [Instr.sliceBound,asIntOf,h0,h1]
theorem m_ {w:World}{t el:TypeId}{ti:TypeInfo}(ht:P.underlying t=some (.slice el))(hi:P.info? el=some ti)(A:Option Addr)(n c:Nat)(lo hi':Option Value)(l h:Nat)(hn:n≤c)
  (hlo:(lo=none∧l=0)∨∃ kd m,lo=some (.int kd m)∧0≤m∧m.toNat=l) (hhi:(hi'=none∧h=n)∨∃ kd m,hi'=some (.int kd m)∧0≤m∧m.toNat=h) (LH:l≤h) (LI:h≤c):
  (Instr.sliceAt t (.slice A n c) lo hi' none).run P w= .ok (.slice (if c=l then A else A.map (·.add (l*ti.size))) (h - l) (c - l)) w:=by
 have hb:(Instr.sliceBounds true n c lo hi' none).run P w= .ok (l,h,c) w:=by
  rcases hlo with ⟨rfl,rfl⟩ | ⟨kl,ml,rfl,hl0,rfl⟩ <;> rcases hhi with ⟨rfl,rfl⟩ | ⟨kh,mh,rfl,hh0,rfl⟩
  ·simp [Instr.sliceBounds]
  ·simp [Instr.sliceBounds,fc (P:=P) (w:=w) (kd:=kh) (code:= .sliceAcap) hh0 (show mh≤(c:Int) by omega)]
  ·simp [Instr.sliceBounds,fc (P:=P) (w:=w) (kd:=kl) (code:= .sliceB) hl0 (show ml≤(h:Int) by omega)]
  ·simp [Instr.sliceBounds,fc (P:=P) (w:=w) (kd:=kh) (code:= .sliceAcap) hh0 (show mh≤(c:Int) by omega),fc (P:=P) (w:=w) (kd:=kl) (code:= .sliceB) hl0 (show ml≤(mh.toNat:Int) by omega)]
 simp [Instr.sliceAt,run_underlying ht,Instr.slice,hb,dm hi]
theorem eM {E:Nat→Option SV}{xs:Array Operand}{p:Nat→Prop}{μ:Nat→Nm}{M:Mem}{a:Act}(hk:gq E xs p μ M a){lo:Option Operand}{lo':Option X}{d l:Int}{kd dk:IntKind}
  (h:ko lo=some lo') (he:(match lo' with | some l=>ev E l | none=>some (.d (.int dk d)))=some (.d (.int kd l))) (hin:∀ x,lo=some x→x∈xs):
  (lo.map a.eval=none∧l=d)∨∃ kd m,lo.map a.eval=some (.int kd m)∧m=l:=by
 cases lo with
 | none=>
  simp [ko] at h;subst h
  simp at he
  exact .inl ⟨rfl,he.2.symm⟩
 | some x=>
  simp only [ko] at h
  obtain ⟨y,hy,rfl⟩:=Option.map_eq_some_iff.1 h
  have:=Rp.aN.1 (hk.get (hin x rfl) hy he)
  exact .inr ⟨kd,l,by simp [this],rfl⟩
theorem I5 {t el:TypeId}{ti:TypeInfo}{x:Operand}{lo hi:Option Operand}{x':X}{lo' hi':Option X}(ho:o.op= .slice t x lo hi none)(ht:P.underlying t=some (.slice el))(EE:P.info? el=some ti)(hx:cX x=some x')
  (hl:ko lo=some lo') (hh:ko hi=some hi') (he:cZ E H k own (.slc ti.size x' lo' hi')=some e) (bn:e.ob):Sound P o E H k e:=by
 have hinl:∀ y,lo=some y→y∈o.op.operands:=fun y h=>by subst h;simp [ho,Op.operands]
 have hinh:∀ y,hi=some y→y∈o.op.operands:=fun y h=>by subst h;simp [ho,Op.operands]
 simp only [cZ] at he
 split at he <;> first | (cases he;done) | skip
 ·rename_i n cs hs
  split at he <;> first | (cases he;done) | skip
  rename_i kl l kh h h1 h2
  injection he with he
  subst he
  obtain ⟨b1,b2,b3,b4⟩:=bn
  refine ⟨OT.pure fun p μ M a w hk hS=> ?_,aQ⟩
  obtain ⟨A,c,e1,e2,e3,e4⟩:=(by simpa [bQ] using Rp.cu.1 (hk.get (by simp [ho,Op.operands]) hx hs):∃ A cp,a.eval x= .slice A n cp∧n≤cp∧(n=0→cs=[])∧(0<n→∃ b q,A=some ⟨b,q,none⟩∧cQ M b q cs))
  have q1:=eM hk hl h1 hinl
  have q2:=eM hk hh h2 hinh
  have hr:=m_ (P:=P) (w:=w) ht EE A n c (lo.map a.eval) (hi.map a.eval) l.toNat h.toNat e2 (by
    rcases q1 with ⟨u,rfl⟩ | ⟨kd,m,u,rfl⟩
    ·exact .inl ⟨u,rfl⟩
    ·exact .inr ⟨kd,m,u,b1,rfl⟩) (by
    rcases q2 with ⟨u,rfl⟩ | ⟨kd,m,u,rfl⟩
    ·exact .inl ⟨u,by simp⟩
    ·exact .inr ⟨kd,m,u,by omega,rfl⟩) (by omega) (by omega)
  have hex:(execOp a.eval o).run P w= .ok (.value (.slice (if c=l.toNat then A else A.map (·.add (l.toNat*ti.size))) (h.toNat - l.toNat) (c - l.toNat))) w:=by
   simp only [execOp,ho,e1,Option.map_none,Sem.run_bind,hr,Result.andThen_ok,Sem.run_pure]
  refine ⟨_,hex,Rp.cu.2 ?_⟩
  simp only [bQ]
  refine ⟨_,_,rfl,by omega,fun h0=>by simp [h0],fun hpos=> ?_⟩
  obtain ⟨b,q,rfl,hrr⟩:=e4 (by omega)
  rw [if_neg (by omega)]
  exact ⟨b,q+l.toNat*ti.size,by simp [dz],(hrr.drop _).take _⟩
 ·rename_i hs
  split at he <;> first | (cases he;done) | skip
  rename_i kl l kh h h1 h2
  injection he with he
  subst he
  obtain ⟨b1,b2⟩:=bn
  refine ⟨OT.pure fun p μ M a w hk hS=> ?_,aQ⟩
  have e1:a.eval x= .slice none 0 0:=by simpa [bQ] using Rp.cu.1 (hk.get (by simp [ho,Op.operands]) hx hs)
  have q1:=eM hk hl h1 hinl
  have q2:=eM hk hh h2 hinh
  have hr:=m_ (P:=P) (w:=w) ht EE none 0 0 (lo.map a.eval) (hi.map a.eval) 0 0 (Nat.le_refl _) (by
    rcases q1 with ⟨u,rfl⟩ | ⟨kd,m,u,rfl⟩
    ·exact .inl ⟨u,rfl⟩
    ·exact .inr ⟨kd,m,u,by omega,by omega⟩) (by
    rcases q2 with ⟨u,rfl⟩ | ⟨kd,m,u,rfl⟩
    ·exact .inl ⟨u,rfl⟩
    ·exact .inr ⟨kd,m,u,by omega,by omega⟩) (Nat.le_refl _) (Nat.le_refl _)
  exact ⟨.slice none 0 0,by simp [execOp,ho,e1,hr],Rp.cu.2 (by simp [bQ])⟩
 ·rename_i n len hs
  split at he <;> first | (cases he;done) | skip
  rename_i el' z len' cs hH
  split at he <;> first | (cases he;done) | skip
  ·rename_i kh h h2
   injection he with he
   subst he
   obtain ⟨b1,b2,b3⟩:=bn
   subst b3
   refine ⟨OT.pure fun p μ M a w hk hS=> ?_,sub_one hH⟩
   have hlo:lo=none:=by
    cases lo with
    | none=>rfl
    | some y=>
     simp only [ko] at hl
     obtain ⟨_,_,h⟩:=Option.map_eq_some_iff.1 hl
     cases h
   have q2:=eM hk hh h2 hinh
   have hs':=hk.get (by simp [ho,Op.operands]) hx hs
   obtain ⟨hpn,bn,_⟩:=hS.one
   have mk:∀ A c,a.eval x= .slice A len' c→len'≤c→(execOp a.eval o).run P w= .ok (.value (.slice A h.toNat c)) w:=fun A c e1 hc=>by
    have hr:=m_ (P:=P) (w:=w) ht EE A len' c (lo.map a.eval) (hi.map a.eval) 0 h.toNat hc (.inl ⟨by rw [hlo];rfl,rfl⟩) (by
     rcases q2 with ⟨u,rfl⟩ | ⟨kd,m,u,rfl⟩
     ·exact .inl ⟨u,by simp⟩
     ·exact .inr ⟨kd,m,u,by omega,rfl⟩) (by omega) (by omega)
    have hA:(if c=0 then A else A.map (·.add (0*ti.size)))=A:=by
     split
     ·rfl
     ·cases A with
      | none=>rfl
      | some ad=>obtain ⟨b,q,f⟩:=ad;cases f <;> simp [Addr.add]
    rw [hA] at hr
    simp only [execOp,ho,e1,Option.map_none,Sem.run_bind,hr,Result.andThen_ok,Sem.run_pure,Nat.sub_zero]
   rcases hs'.jZ with ⟨hlive,e1⟩ | ⟨hdead,h0,A,e1⟩
   ·have hcap:len'≤(μ n).cap:=by
     rcases bn with ⟨hd,_⟩ | ⟨_,_,_,_,h,_⟩
     ·rw [hlive] at hd;cases hd
     ·exact h
    refine ⟨_,mk _ _ e1 hcap,fun ν gp=> ?_⟩
    have he:=gp n hpn
    simp only [cI,he]
    exact .inl ⟨hlive,trivial⟩
   ·subst h0
    have e0:h.toNat=0:=by omega
    refine ⟨_,mk _ _ e1 (Nat.le_refl _),fun ν gp=> ?_⟩
    have he:=gp n hpn
    simp only [cI,he,e0]
    exact .inr ⟨hdead,trivial,A,rfl⟩
  ·rename_i ll kh h h2
   split at he <;> first | (cases he;done) | skip
   rename_i kl l h1
   injection he with he
   subst he
   obtain ⟨b1,b2,b3,b4⟩:=bn
   subst b4
   refine ⟨OT.pure fun p μ M a w hk hS=> ?_,sub_one hH⟩
   have q1:=eM (d:=0) (dk:= .i64) hk hl (show (match (some ll:Option X) with | some l=>ev E l | none=>some (.d (.int .i64 0)))=some (.d (.int kl l)) from h1) hinl
   have q2:=eM hk hh h2 hinh
   have hs':=hk.get (by simp [ho,Op.operands]) hx hs
   obtain ⟨hpn,bn,_⟩:=hS.one
   rcases hs'.jZ with ⟨hlive,e1⟩ | ⟨hdead,h0,A,e1⟩
   ·have hcap:len'≤(μ n).cap:=by
     rcases bn with ⟨hd,_⟩ | ⟨_,_,_,_,h,_⟩
     ·rw [hlive] at hd;cases hd
     ·exact h
    have hr:=m_ (P:=P) (w:=w) ht EE (some ⟨(μ n).blk,0,none⟩) len' (μ n).cap (lo.map a.eval) (hi.map a.eval) l.toNat h.toNat hcap (by
     rcases q1 with ⟨u,rfl⟩ | ⟨kd,m,u,rfl⟩
     ·exact .inl ⟨u,rfl⟩
     ·exact .inr ⟨kd,m,u,by omega,rfl⟩) (by
     rcases q2 with ⟨u,rfl⟩ | ⟨kd,m,u,rfl⟩
     ·exact .inl ⟨u,by simp⟩
     ·exact .inr ⟨kd,m,u,by omega,rfl⟩) (by omega) (by omega)
    have hex:(execOp a.eval o).run P w= .ok (.value (.slice (some ⟨(μ n).blk,l.toNat*ti.size,none⟩) (h.toNat - l.toNat) ((μ n).cap - l.toNat))) w:=by
     rw [if_neg (by omega)] at hr
     simp only [execOp,ho,e1,Option.map_none,Sem.run_bind,hr,Result.andThen_ok,Sem.run_pure,Option.map_some,dz,Nat.zero_add]
    refine ⟨_,hex,fun ν gp=> ?_⟩
    have he:=gp n hpn
    simp only [cI,he]
    exact ⟨_,_,rfl,by omega,fun _=>rfl⟩
   ·omega
theorem Hg {t el:TypeId}{ti:TypeInfo}{x h m:Operand}{x' h' m':X}(ho:o.op= .slice t x none (some h) (some m))(ht:P.underlying t=some (.slice el))(EE:P.info? el=some ti)(hx:cX x=some x')
  (hh:cX h=some h') (hm:cX m=some m') (he:cZ E H k own (.GZ x' h' m')=some e) (bn:e.ob):Sound P o E H k e:=by
 have key:∀ (w:World) (A:Option Addr) (n c:Nat) (kh km:IntKind),n≤c→(Instr.sliceAt t (.slice A n c) none (some (.int kh n)) (some (.int km n))).run P w= .ok (.slice (if n=0 then A else A.map (·.add (0*ti.size))) n n) w:=fun w A n c kh km hc=>by
  have hb:(Instr.sliceBounds true n c none (some (.int kh n)) (some (.int km n))).run P w= .ok (0,n,n) w:=by
   simp [Instr.sliceBounds,fc (P:=P) (w:=w) (kd:=km) (code:= .slice3Acap) (Int.natCast_nonneg n) (show (n:Int)≤(c:Int) by omega),fc (P:=P) (w:=w) (kd:=kh) (code:= .slice3B) (Int.natCast_nonneg n) (show (n:Int)≤(n:Int) by omega)]
  simp [Instr.sliceAt,run_underlying ht,Instr.slice,hb,dm EE]
 simp only [cZ] at he
 split at he <;> first | (cases he;done) | skip
 ·rename_i n cs kh h kl l h1 h2 h3
  injection he with he
  subst he
  obtain ⟨rfl,rfl⟩:=bn
  refine ⟨OT.pure fun p μ M a w hk hS=> ?_,aQ⟩
  obtain ⟨A,c,e1,e2,e3,e4⟩:=(by simpa [bQ] using Rp.cu.1 (hk.get (by simp [ho,Op.operands]) hx h1):∃ A cp,a.eval x= .slice A n cp∧n≤cp∧(n=0→cs=[])∧(0<n→∃ b q,A=some ⟨b,q,none⟩∧cQ M b q cs))
  have q1:=Rp.aN.1 (hk.get (by simp [ho,Op.operands]) hh h2)
  have q2:=Rp.aN.1 (hk.get (by simp [ho,Op.operands]) hm h3)
  have hr:=key w A n c kh kl e2
  refine ⟨_,by simp only [execOp,ho,e1,Option.map_none,Option.map_some,q1,q2,Sem.run_bind,hr,Result.andThen_ok,Sem.run_pure];rfl,Rp.cu.2 ?_⟩
  simp only [bQ]
  refine ⟨_,_,rfl,Nat.le_refl _,e3,fun hpos=> ?_⟩
  obtain ⟨b,q,rfl,hrr⟩:=e4 hpos
  rw [if_neg (by omega)]
  exact ⟨b,q,by simp [dz],hrr⟩
 ·rename_i kh h kl l h1 h2 h3
  injection he with he
  subst he
  obtain ⟨rfl,rfl⟩:=bn
  refine ⟨OT.pure fun p μ M a w hk hS=> ?_,aQ⟩
  have e1:a.eval x= .slice none 0 0:=by simpa [bQ] using Rp.cu.1 (hk.get (by simp [ho,Op.operands]) hx h1)
  have q1:=Rp.aN.1 (hk.get (by simp [ho,Op.operands]) hh h2)
  have q2:=Rp.aN.1 (hk.get (by simp [ho,Op.operands]) hm h3)
  have hr:(Instr.sliceAt t (.slice none 0 0) none (some (.int kh 0)) (some (.int kl 0))).run P w= .ok (.slice none 0 0) w:=by simpa using key w none 0 0 kh kl (Nat.le_refl _)
  exact ⟨.slice none 0 0,by simp only [execOp,ho,e1,Option.map_none,Option.map_some,q1,q2,Sem.run_bind,hr,Result.andThen_ok,Sem.run_pure],Rp.cu.2 (by simp [bQ])⟩
theorem Hh {t el:TypeId}{nn:Nat}{ti:TypeInfo}{x:Operand}{lo hi:Option Operand}{x':X}{lo' hi':Option X}(ho:o.op= .slice t x lo hi none)(ht:P.underlying t=some (.array nn el))(EE:P.info? el=some ti)(hx:cX x=some x')
  (hl:ko lo=some lo') (hh:ko hi=some hi') (he:cZ E H k own (.GY nn ti.size x' lo' hi')=some e) (bn:e.ob):Sound P o E H k e:=by
 have hinl:∀ y,lo=some y→y∈o.op.operands:=fun y h=>by subst h;simp [ho,Op.operands]
 have hinh:∀ y,hi=some y→y∈o.op.operands:=fun y h=>by subst h;simp [ho,Op.operands]
 simp only [cZ] at he
 split at he <;> first | (cases he;done) | skip
 rename_i m off kl l kh h hs h1 h2
 injection he with he
 subst he
 obtain ⟨b1,b2,b3⟩:=bn
 refine ⟨OT.pure fun p μ M a w hk hS=> ?_,aQ⟩
 have hs':=hk.get (by simp [ho,Op.operands]) hx hs
 have e1:=hs'.qp
 have q1:=eM hk hl h1 hinl
 have q2:=eM hk hh h2 hinh
 have hb:(Instr.sliceBounds false nn nn (lo.map a.eval) (hi.map a.eval) none).run P w= .ok (l.toNat,h.toNat,nn) w:=by
  rcases q1 with ⟨u,rfl⟩ | ⟨ki,mi,u,rfl⟩ <;> rcases q2 with ⟨u',rfl⟩ | ⟨kj,mj,u',rfl⟩ <;> rw [u,u']
  ·simp [Instr.sliceBounds]
  ·simp [Instr.sliceBounds,asIntOf,fc (P:=P) (w:=w) (kd:=kj) (code:= .sliceAlen) (show 0≤mj by omega) b3]
  ·simp [Instr.sliceBounds,fc (P:=P) (w:=w) (kd:=ki) (code:= .sliceB) b1 b2]
  ·simp [Instr.sliceBounds,fc (P:=P) (w:=w) (kd:=kj) (code:= .sliceAlen) (show 0≤mj by omega) b3,fc (P:=P) (w:=w) (kd:=ki) (code:= .sliceB) b1 (show mi≤(mj.toNat:Int) by omega)]
 have hex:(execOp a.eval o).run P w= .ok (.value (.slice (some (if nn=l.toNat then ⟨(μ m).blk,off,none⟩ else ⟨(μ m).blk,off+l.toNat*ti.size,none⟩)) (h.toNat - l.toNat) (nn - l.toNat))) w:=by
  simp only [execOp,ho,e1,Option.map_none,Sem.run_bind,Instr.sliceAt,run_underlying ht,Instr.sureAddr,Sem.run_pure,hb,Result.andThen_ok,dm EE,dz]
 refine ⟨_,hex,fun ν gp=> ?_⟩
 have hm:(ν m).blk=(μ m).blk:=by
  have:=hs' ν gp
  rw [e1] at this
  simp only [cI] at this
  injection this with this
  injection this with this
  injection this with this
  exact this.symm
 simp only [cI,hm]
 refine ⟨_,_,rfl,by omega,fun hne=> ?_⟩
 rw [if_neg (by omega)]
theorem rM {w:World}(base:Nat)(t ty el:TypeId)(i:TypeInfo)(size:Nat)(ht:P.underlying t=some (.slice el))(hi:P.info? el=some i)
  (v:Value) (n:Nat) (xs:List Value) (hown:w.ownsRow base el size v n xs) (c:Nat):(Builtin.append_ #[t,t] ty #[v,.slice none 0 c]).run P w= .ok v w:=by
 rcases hown.2 with ⟨rfl,rfl⟩ | ⟨g,cap,cur,rfl,_,_,hnc,_⟩
 ·simp [Builtin.append_,run_underlying ht,sizeOf,typeInfo,hi,Builtin.lenOf,Builtin.firstCells]
 ·simp [Builtin.append_,run_underlying ht,sizeOf,typeInfo,hi,Builtin.lenOf,Builtin.firstCells,hnc,storeCells]
theorem lQ (w:World)(r:Option Nat):w.grownBy w r:=⟨rfl,rfl,rfl,Nat.le_refl _,fun _ _ _=>rfl⟩
def Src (w:World)(v:Value)(m:Nat)(us:List Value):Prop:=
 ∃ A c,v= .slice A m c∧((A=none∧m=0∧us=[])∨∃ ad,A=some ad∧∀ (j:Nat) (u:Value),us[j]? =some u→w.cell? (ad.add j)=some u)
theorem EY {w:World}(t ty el:TypeId)(i:TypeInfo)(z:Value)(ht:P.underlying t=some (.slice el))(hi:P.info? el=some i)(hz:i.zero=some z)(hzs:z.cells.size=i.size)(hsz:0<i.size)
  (v:Value) (n:Nat) (xs:List Value) (hown:w.ownsRow 0 el i.size v n xs) (x:Value) (m:Nat) (us:List Value) (hx:Src w x m us) (hl:us.length=m*i.size) (h1:∀ u∈us,u.oneCell'=true)
  (h63:n+m≤9223372036854775807) (hbytes:(n+m)*i.bytes≤140737488355328) (hne:v≠ .slice none 0 0∨m≠0):
  ∃ v' w' g cap cur,(Builtin.append_ #[t,t] ty #[v,x]).run P w= .ok v' w'∧v'= .slice (some ⟨g,0,none⟩) (n+m) cap∧w'.heap[g]? =some (.cells cur el (0,0))∧n+m≤cap∧cap≤maxLen∧cur.size=cap*i.size∧cur.toList.take ((n+m)*i.size)=xs++us∧
   w.grownBy w' v.ownBlock∧(v.ownBlock=some g∨g=w.heap.size):=by
 obtain ⟨A,c,rfl,hA⟩:=hx
 have fin:∀ v' w',w'.ownsRow 0 el i.size v' (n+m) (xs++us)→w.grownBy w' v.ownBlock→v'≠ .slice none 0 0→(v'.ownBlock=v.ownBlock∨v'.ownBlock=some w.heap.size)→(Builtin.append_ #[t,t] ty #[v,.slice A m c]).run P w= .ok v' w'→
   ∃ v' w' g cap cur,(Builtin.append_ #[t,t] ty #[v,.slice A m c]).run P w= .ok v' w'∧v'= .slice (some ⟨g,0,none⟩) (n+m) cap∧w'.heap[g]? =some (.cells cur el (0,0))∧n+m≤cap∧cap≤maxLen∧cur.size=cap*i.size∧cur.toList.take ((n+m)*i.size)=xs++us∧
   w.grownBy w' v.ownBlock∧(v.ownBlock=some g∨g=w.heap.size):=by
  intro v' w' ho' hg hnn bn hr
  rcases ho'.2 with ⟨rfl,h0⟩ | ⟨g,cap,cur,rfl,_,r1,r2,r3,r4,r5⟩
  ·exact absurd rfl hnn
  ·refine ⟨_,w',g,cap,cur,hr,rfl,r1,r2,r3,r4,r5,hg,?_⟩
   rcases bn with bn | bn
   ·exact .inl (by rw [← bn];rfl)
   ·exact .inr (by simpa [Value.ownBlock] using bn)
 rcases hA with ⟨rfl,rfl,rfl⟩ | ⟨ad,rfl,hc⟩
 ·refine fin v w (by simpa using hown) (lQ _ _) (by simpa using hne) (.inl rfl) (rM 0 t ty el i i.size ht hi v n xs hown c)
 ·obtain ⟨v',w',hrun,h2,h3,h4,h5⟩:=run_append_own_at (P:=P) w 0 t ty el i z i.size i.bytes ht hi hz rfl rfl hzs hsz v n xs hown ad m c us hl hc h1 (by unfold maxLen;omega) hbytes (Nat.zero_le _)
  refine fin v' w' h2 h3 (fun e=> ?_) h5 hrun
  obtain ⟨a1,a2⟩:=h4.1 e
  rcases hne with h | h
  ·exact h a1
  ·exact h a2
theorem BI {w:World}(t ty el:TypeId)(i:TypeInfo)(z:Value)(ht:P.underlying t=some (.slice el))(hi:P.info? el=some i)(hz:i.zero=some z)(hzs:z.cells.size=i.size)(hsz:0<i.size)
  (v:Value) (n:Nat) (xs:List Value) (r:Option Nat) (hown:(w.ownsRow 0 el i.size v n xs∧v≠ .slice none 0 0∧v.ownBlock=r)∨((∃ A0,v= .slice A0 0 0)∧n=0∧xs=[]∧r=none))
  (x:Value) (m:Nat) (us:List Value) (hx:Src w x m us) (hl:us.length=m*i.size) (h1:∀ u∈us,u.oneCell'=true)
  (h63:n+m≤9223372036854775807) (hbytes:(n+m)*i.bytes≤140737488355328):
  ∃ v' w',(Builtin.append_ #[t,t] ty #[v,x]).run P w= .ok v' w'∧w.grownBy w' r∧((n+m=0∧∃ A,v'= .slice A 0 0)∨
   ∃ g cap cur,v'= .slice (some ⟨g,0,none⟩) (n+m) cap∧w'.heap[g]? =some (.cells cur el (0,0))∧n+m≤cap∧cap≤maxLen∧cur.size=cap*i.size∧cur.toList.take ((n+m)*i.size)=xs++us∧
   (r=some g∨w.heap.size≤g)):=by
 rcases hown with ⟨hown,hne,rfl⟩ | ⟨⟨A0,rfl⟩,rfl,rfl,rfl⟩
 ·obtain ⟨v',w',g,cap,cur,hrun,a1,a2,a3,a4,a5,a6,a7,a8⟩:=EY t ty el i z ht hi hz hzs hsz v n xs hown x m us hx hl h1 h63 hbytes (.inl hne)
  exact ⟨v',w',hrun,a7,.inr ⟨g,cap,cur,a1,a2,a3,a4,a5,a6,a8.imp id fun h=>by omega⟩⟩
 ·obtain ⟨A,c,rfl,hA⟩:=hx
  rcases hA with ⟨rfl,rfl,rfl⟩ | ⟨ad,rfl,hc⟩
  ·refine ⟨_,w,?_,lQ _ _,.inl ⟨rfl,A0,rfl⟩⟩
   cases A0 with
   | none=>simp [Builtin.append_,run_underlying ht,sizeOf,typeInfo,hi,Builtin.lenOf,Builtin.firstCells]
   | some b=>simp [Builtin.append_,run_underlying ht,sizeOf,typeInfo,hi,Builtin.lenOf,Builtin.firstCells,storeCells]
  ·rcases Nat.eq_zero_or_pos m with rfl | hm
   ·refine ⟨_,w,?_,lQ _ _,.inl ⟨rfl,A0,rfl⟩⟩
    have hus:us=[]:=List.eq_nil_of_length_eq_zero (by simpa using hl)
    subst hus
    have hf:=run_firstCells_some (P:=P) w i.size 0 ad 0 c [] (by simp) (by simp)
    cases A0 with
    | none=>simp [Builtin.append_,run_underlying ht,sizeOf,typeInfo,hi,Builtin.lenOf,hf,storeCells]
    | some b=>simp [Builtin.append_,run_underlying ht,sizeOf,typeInfo,hi,Builtin.lenOf,hf,storeCells]
   ·have key:∃ v' w',(Builtin.append_ #[t,t] ty #[.slice A0 0 0,.slice (some ad) m c]).run P w= .ok v' w'∧w'.ownsRow w.heap.size el i.size v' (0+m) ([]++us)∧w.grownBy w' none:=by
     cases A0 with
     | none=>
      obtain ⟨v',w',hrun,h2,h3,_⟩:=run_append_own_at (P:=P) w w.heap.size t ty el i z i.size i.bytes ht hi hz rfl rfl hzs hsz (.slice none 0 0) 0 [] (World.ownsRow_nil w _ el i.size) ad m c us hl hc h1 (by unfold maxLen;omega) hbytes (Nat.le_refl _)
      exact ⟨v',w',hrun,h2,h3⟩
     | some b=>
      exact run_append_arg_grows (P:=P) w t ty el i z i.size i.bytes ht hi hz rfl rfl hzs hsz b 0 0 [] (by simp) (fun j u hj=>by simp at hj) ad m c us hl hc (by omega) (by unfold maxLen;omega) hbytes
    obtain ⟨v',w',hrun,h2,h3⟩:=key
    refine ⟨v',w',hrun,h3,.inr ?_⟩
    rcases h2.2 with ⟨_,h0⟩ | ⟨g,cap,cur,rfl,r0,r1,r2,r3,r4,r5⟩
    ·omega
    ·exact ⟨g,cap,cur,rfl,r1,r2,r3,r4,r5,.inr r0⟩
theorem fV {F F2:Hp}{n:Nat}:lk (F++F2) n=match lk F n with
  | some ob=>some ob
  | none=>lk F2 n:=by
 unfold lk
 induction F with
 | nil=>rfl
 | cons x F ih=>
  obtain ⟨m,ob⟩:=x
  simp only [List.cons_append,List.lookup]
  cases n == m
  ·exact ih
  ·rfl
theorem aa {F:Hp}{m n:Nat}{ob:Ob}:lk ((m,ob)::F) n=if n=m then some ob else lk F n:=by
 unfold lk
 simp only [List.lookup]
 by_cases h:n=m
 ·subst h;simp
 ·rw [if_neg h,show (n == m)=false by simpa using h]
theorem BJ {xs:Array Operand}{p:Nat→Prop}{μ:Nat→Nm}{M:Mem}{a:Act}{w:World}{x:Operand}{x':X}{m:Nat}{news:List SV}{F2:Hp}{EN:Prop}(hk:gq E xs p μ M a)(hin:x∈xs)(hx:cX x=some x')
  (h:uh H (ev E x')=some (m,news,F2,EN)) (bn:EN) (hS:bK p μ M (lk F2) w) (hlen:∀ sz,news.length=m*sz→True):
  (∃ us,(∀ sz,news.length=m*sz→us.length=m*sz)∧Src w (a.eval x) m us∧aR p μ M news us)∧(∀ n ob,lk F2 n=some ob→H n=some ob):=by
 unfold uh at h
 split at h <;> first | (cases h;done) | skip
 ·rename_i hs
  simp at h
  obtain ⟨rfl,rfl,rfl,_⟩:=h
  have e1:a.eval x= .slice none 0 0:=by simpa [bQ] using Rp.cu.1 (hk.get hin hx hs)
  exact ⟨⟨[],by simp,⟨none,0,e1,.inl ⟨rfl,rfl,rfl⟩⟩,aR.aP.2 rfl⟩,aQ⟩
 ·rename_i m' ds hs
  simp at h
  obtain ⟨rfl,rfl,rfl,_⟩:=h
  obtain ⟨A,c,e1,e2,e3,e4⟩:=(by simpa [bQ] using Rp.cu.1 (hk.get hin hx hs):∃ A cp,a.eval x= .slice A m' cp∧m'≤cp∧(m'=0→ds=[])∧(0<m'→∃ b q,A=some ⟨b,q,none⟩∧cQ M b q ds))
  refine ⟨?_,aQ⟩
  rcases Nat.eq_zero_or_pos m' with h0 | h0
  ·have:=e3 h0
   subst this
   refine ⟨[],by simp,⟨A,c,e1,?_⟩,aR.aP.2 rfl⟩
   cases A with
   | none=>exact .inl ⟨rfl,h0,rfl⟩
   | some ad=>exact .inr ⟨ad,rfl,fun j u hj=>by simp at hj⟩
  ·obtain ⟨b,q,rfl,hr⟩:=e4 h0
   have key:∀ (l:List DV) (q:Nat),cQ M b q l→∃ us:List Value,us.length=l.length∧aR p μ M (l.map .d) us∧∀ (j:Nat) (u:Value),us[j]? =some u→w.cell? ⟨b,q+j,none⟩=some u:=by
    intro l
    induction l with
    | nil=>intro q _;exact ⟨[],rfl,aR.aP.2 rfl,fun j u h=>by simp at h⟩
    | cons c l ih=>
     intro q hq
     simp only [cQ] at hq
     obtain ⟨⟨u,hu,hd⟩,hq⟩:=hq
     obtain ⟨us,l1,l2,l3⟩:=ih (q+1) hq
     refine ⟨u::us,by simp [l1],aR.aF.2 ⟨u,us,rfl,Rp.cu.2 hd,l2⟩,fun j x hj=> ?_⟩
     cases j with
     | zero=>simp at hj;subst hj;exact hS.mem b _ _ (by simpa using hu)
     | succ j=>
      have:=l3 j x (by simpa using hj)
      rwa [show q+1+j=q+(j+1) by omega] at this
   obtain ⟨us,l1,l2,l3⟩:=key ds q hr
   exact ⟨us,fun sz h=>by rw [l1];simpa using h,⟨_,c,e1,.inr ⟨_,rfl,fun j u hj=>by rw [dz];exact l3 j u hj⟩⟩,l2⟩
 ·rename_i n m' hs
  split at h <;> first | (cases h;done) | skip
  rename_i e' sz' len' cs hH
  simp only [Option.some.injEq,Prod.mk.injEq] at h
  obtain ⟨rfl,rfl,rfl,rfl⟩:=h
  subst bn
  refine ⟨?_,sub_one hH⟩
  obtain ⟨_,⟨h0,rfl,rfl⟩ | ⟨h0,vs,hb,q1,q2,q3,q4,hr⟩,_⟩:=hS.one
  ·obtain ⟨h0',_⟩ | ⟨_,_,A,e1⟩:=(hk.get hin hx hs).jZ
   ·rw [h0] at h0';cases h0'
   ·refine ⟨[],by simp,⟨A,0,e1,?_⟩,aR.aP.2 rfl⟩
    cases A with
    | none=>exact .inl ⟨rfl,rfl,rfl⟩
    | some ad=>exact .inr ⟨ad,rfl,fun j u hj=>by simp at hj⟩
  obtain ⟨_,e1⟩ | ⟨h0',_⟩:=(hk.get hin hx hs).jZ
  rotate_left
  ·rw [h0] at h0';cases h0'
  refine ⟨_,fun sz h=>by rw [hr.length];exact h,⟨_,_,e1,.inr ⟨_,rfl,fun j u hj=> ?_⟩⟩,hr⟩
  rw [dz,cell_of hb]
  rw [List.getElem?_take] at hj
  split at hj
  ·simpa using hj
  ·cases hj
theorem aR.BK {p:Nat→Prop}{μ:Nat→Nm}{M:Mem}:∀ {cs:List SV} {vs:List Value},cs.all SV.dG=true→aR p μ M cs vs→∀ u∈vs,u.oneCell'=true
 | [],vs,_,h,u,hu=>by rw [aR.aP.1 h] at hu;cases hu
 | c::cs,vs,hc,h,u,hu=>by
  obtain ⟨u',us,rfl,h1,h2⟩:=aR.aF.1 h
  simp only [List.all_cons,Bool.and_eq_true] at hc
  rcases List.mem_cons.1 hu with rfl | hu
  ·exact h1.rep.one hc.1
  ·exact aR.BK hc.2 h2 u hu
theorem BL {c:Call}{t el:TypeId}{x y:Operand}{x' y':X}{i:TypeInfo}{z:List SV}(ho:o.op= .call c)(bR:c.callee= .builtin .append)(ha:c.args.toList=[x,y])(oy:c.argTypes.toList=[t,t])
  (ht:P.underlying t=some (.slice el)) (hi:P.info? el=some i) (hz:fh P el=some z) (hzl:z.length=i.size∧0<i.size)
  (hx:cX x=some x') (hy:cX y=some y') (he:cZ E H k own (.app el i.size i.bytes x' y')=some e) (bn:e.ob):Sound P o E H k e:=by
 have ha':c.args= #[x,y]:=by cases hh:c.args;simp [hh] at ha;simp [ha]
 have hat':c.argTypes= #[t,t]:=by cases hh:c.argTypes;simp [hh] at oy;simp [oy]
 have hin1:x∈o.op.operands:=by simp [ho,Op.operands,Call.operands,bR,ha']
 have hin2:y∈o.op.operands:=by simp [ho,Op.operands,Call.operands,bR,ha']
 simp only [cZ] at he
 split at he <;> first | (cases he;done) | skip
 rename_i n cs F ob m news F2 EN hB hX
 split at he <;> first | (cases he;done) | skip
 rename_i hone
 injection he with he
 subst he
 obtain ⟨b1,b2,b3,b4,b5,b6⟩:=bn
 have hdis :∀ q,lk F q≠none→lk F2 q=none:=by
  intro q hq
  cases hh:lk F2 q with
  | none=>rfl
  | some ob=>
   exfalso
   have m1:∀ (G:Hp),lk G q≠none→q∈G.map (·.1):=by
    intro G
    induction G with
    | nil=>intro h;exact absurd rfl h
    | cons g G ih=>
     obtain ⟨gn,gob⟩:=g
     intro h
     rw [aa] at h
     by_cases hq:q=gn
     ·simp [hq]
     ·rw [if_neg hq] at h
      rw [List.map_cons,List.mem_cons]
      exact .inr (ih h)
   have a1:=m1 F hq
   have a2:=m1 F2 (by rw [hh];simp)
   have:=List.all_eq_true.1 (List.all_eq_true.1 b6 q a1) q a2
   simp at this
 have hmem2:∀ {p:Nat→Prop} {μ:Nat→Nm} {M:Mem} {w:World},bK p μ M (lk (F++F2)) w→bK p μ M (lk F2) w:=fun hS=>hS.sub fun q ob hq=>by
  rw [fV]
  cases hh:lk F q with
  | none=>exact hq
  | some jw=>rw [hdis q (by rw [hh];simp)] at hq;cases hq
 have hmem1:∀ {p:Nat→Prop} {μ:Nat→Nm} {M:Mem} {w:World},bK p μ M (lk (F++F2)) w→bK p μ M (lk F) w:=fun hS=>hS.sub fun q ob hq=>by
  rw [fV,hq]
 have hsubX:∀ n ob,lk F2 n=some ob→H n=some ob:=by
  have:=hX
  unfold uh at this
  split at this <;> first | (cases this;done) | skip
  ·simp at this;obtain ⟨_,_,rfl,_⟩:=this;exact aQ
  ·simp at this;obtain ⟨_,_,rfl,_⟩:=this;exact aQ
  ·split at this <;> first | (cases this;done) | skip
   rename_i hH
   simp at this;obtain ⟨_,_,rfl,_⟩:=this;exact sub_one hH
 have hsubB:∀ n ob,lk F n=some ob→H n=some ob:=by
  have:=hB
  unfold vK at this
  split at this <;> first | (cases this;done) | skip
  ·simp at this;obtain ⟨_,_,rfl,_⟩:=this;exact aQ
  ·split at this <;> first | (cases this;done) | skip
   rename_i hH
   simp at this;obtain ⟨_,_,rfl,_⟩:=this;exact sub_one hH
 refine ⟨?_,fun q ob hq=> ?_⟩
 ·show OT P o E (F++F2) (fun n=>k≤n∧n<k+1) (.gs k (n+m)) ((k,.arr el i.size (n+m) (cs++news))::F2)
  intro rd p μ M a w K Q hnew hkn hS hK
  obtain ⟨⟨us,hul,hsrc,hrx⟩,_⟩:=BJ hkn hin2 hy hX b2 (hmem2 hS) (fun _ _=>trivial)
  have hul:=hul _ b5
  obtain ⟨v,hv,hr,_⟩:=fG hz (p:=p) (μ:=μ) (M:=M)
  have hzv:i.zero=some v:=by
   have hz':=hz
   unfold fh at hz'
   rw [hi] at hz'
   cases Gt:i.zero with
   | none=>simp [Gt] at hz'
   | some v'=>
    have:=hv w
    rw [oW hi Gt] at this
    injection this with this
    rw [this]
  have hzs:v.cells.size=i.size:=by have:=hr.length;simp at this;omega
  -- the base
  have hbase:∃ xs r,((w.ownsRow 0 el i.size (a.eval x) n xs∧a.eval x≠ .slice none 0 0∧(a.eval x).ownBlock=r)∨((∃ A0,a.eval x= .slice A0 0 0)∧n=0∧xs=[]∧r=none))∧aR p μ M cs xs∧cs.length=n*i.size∧
    (∀ g,r=some g→∃ q,lk F q≠none∧(μ q).live=true∧(μ q).blk=g):=by
   have hB':=hB
   unfold vK at hB'
   split at hB' <;> first | (cases hB';done) | skip
   ·rename_i hs
    simp at hB'
    obtain ⟨rfl,rfl,rfl,rfl⟩:=hB'
    have e1:a.eval x= .slice none 0 0:=by simpa [bQ] using Rp.cu.1 (hkn.get hin1 hx hs)
    rw [e1]
    exact ⟨[],none,.inr ⟨⟨none,rfl⟩,rfl,rfl,rfl⟩,aR.aP.2 rfl,by simp,fun g hg=>by cases hg⟩
   ·rename_i n' len hs
    split at hB' <;> first | (cases hB';done) | skip
    rename_i e' sz' len' cs' hH
    simp only [Option.some.injEq,Prod.mk.injEq] at hB'
    obtain ⟨rfl,rfl,rfl,rfl⟩:=hB'
    obtain ⟨rfl,rfl,rfl⟩:=b1
    obtain ⟨_,hob1,_⟩:=(hmem1 hS).one
    rcases (hkn.get hin1 hx hs).jZ with ⟨hl,e1⟩ | ⟨hl,h0,A,e1⟩
    ·rcases hob1 with ⟨hl',_⟩ | ⟨_,vs,hb,q1,q2,q3,q4,hr'⟩
     ·rw [hl] at hl';cases hl'
     rw [e1]
     exact ⟨_,some (μ n').blk,.inl ⟨⟨by rw [hr'.length];exact q1,.inr ⟨_,_,vs,rfl,Nat.zero_le _,hb,q2,q3,q4,rfl⟩⟩,by simp,rfl⟩,hr',q1,fun g hg=>⟨n',by simp [bZ],hl,by simpa using hg⟩⟩
    ·rcases hob1 with ⟨_,_,h2⟩ | ⟨hl',_⟩
     ·subst h2
      rw [e1]
      exact ⟨[],none,.inr ⟨⟨A,rfl⟩,h0,rfl,rfl⟩,aR.aP.2 rfl,by simp [h0],fun g hg=>by cases hg⟩
     ·rw [hl] at hl';cases hl'
  obtain ⟨xs,r,hown,hrb,lP,hblk⟩:=hbase
  obtain ⟨v',w',hrun,hgrow,hres⟩:=BI (P:=P) t o.type el i v ht hi hzv hzs hzl.2 (a.eval x) n xs r hown (a.eval y) m us hsrc hul (hrx.BK hone) b3 b4
  have hpk: ¬ p k:=hnew k ⟨Nat.le_refl _,Nat.lt_succ_self _⟩
  have hnm:∃ nm:Nm,(∀ (p':Nat→Prop) (aZ:Nat→Nm),p' k→aZ k=nm→Rp p' aZ M (.gs k (n+m)) v')∧
    (∀ (p':Nat→Prop) (aZ:Nat→Nm),(∀ n,p n→p' n)→(∀ n,p n→aZ n=μ n)→bW p' aZ M w' nm (.arr el i.size (n+m) (cs++news)))∧(nm.live=true→(r=some nm.blk∨w.heap.size≤nm.blk)):=by
   rcases hres with ⟨h0,A,rfl⟩ | ⟨g,cap,cur,rfl,hg,c1,c2,c3,c4,wV⟩
   ·have hn0:n=0:=by omega
    have hm0:m=0:=by omega
    refine ⟨⟨0,0,false⟩,fun p' aZ oI hk' ν gp=> ?_,fun p' aZ _ _=> .inl ⟨rfl,by omega,?_⟩,fun h=>by cases h⟩
    ·simp only [cI]
     exact .inr ⟨by rw [gp k oI,hk'],h0,A,rfl⟩
    ·have h1:cs=[]:=List.eq_nil_of_length_eq_zero (by rw [lP,hn0];simp)
     have h2:news=[]:=List.eq_nil_of_length_eq_zero (by rw [b5,hm0];simp)
     rw [h1,h2];rfl
   ·refine ⟨⟨g,cap,true⟩,fun p' aZ oI hk'=> ?_,fun p' aZ oI hμ'=> .inr ⟨rfl,cur,hg,by rw [List.length_append,lP,b5,Nat.add_mul],c1,c2,c3,?_⟩,fun _=>wV⟩
    ·have:=Rp.BH (p:=p') (μ:=aZ) (M:=M) (n:=k) (len:=n+m) oI (by rw [hk'])
     rwa [hk'] at this
    ·rw [c4]
     exact (hrb.append hrx).more oI hμ' (Mem.le_refl M)
  obtain ⟨nm,hnm1,hnm2,wV⟩:=hnm
  have hmu:=uB (μ:=μ) (m:=nm) hpk
  have hrM:∀ g,r=some g→∀ j,M g j=none:=fun g h=>by
   obtain ⟨q,hq,hl,rfl⟩:=hblk g h
   obtain ⟨jw,hob'⟩:=Option.ne_none_iff_exists'.1 hq
   exact (hS.obs q jw (by rw [fV,hob'])).2.2 hl
  have hgM:nm.live=true→∀ j,M nm.blk j=none:=fun hl=>by
   rcases wV hl with h | h
   ·exact hrM _ h
   ·exact sG hS.mem h
  have hmem':∀ b j u,M b j=some u→w'.cell? ⟨b,j,none⟩=some u:=fun b j u hm=>by
   have h1:=hS.mem b j u hm
   have hlt:=World.block_lt_of_cell? w ⟨b,j,none⟩ h1
   have hb:some b≠r:=fun e=>by rw [hrM b e.symm] at hm;cases hm
   rw [← h1]
   exact World.cell?_of_block (hgrow.block b hlt hb)
  have hrun':(execOp a.eval o).run P w= .ok (.value v') w':=by
   simp only [execOp,ho,resolve,bR,ha',hat',invoke,builtin,Sem.run_bind,Sem.run_pure,Result.andThen_ok,List.map_toArray,List.map_cons,List.map_nil,hrun]
  have hold2:∀ q,lk F2 q≠none→(μ q).live=true→(μ q).blk<w.heap.size∧some (μ q).blk≠r:=fun q hq lq=>by
   refine ⟨(hmem2 hS).lt hq lq,fun e=> ?_⟩
   obtain ⟨q',hq',lq',e'⟩:=hblk _ e.symm
   have hq1:lk (F++F2) q'≠none:=by
    obtain ⟨jw,hob'⟩:=Option.ne_none_iff_exists'.1 hq'
    rw [fV,hob'];simp
   have hq2:lk (F++F2) q≠none:=by
    obtain ⟨jw,hob'⟩:=Option.ne_none_iff_exists'.1 hq
    rw [fV]
    cases lk F q <;> simp [hob']
   have:=hS.inj q' q hq1 hq2 lq' lq e'
   subst this
   exact hq (hdis q' hq')
  have hk2:∀ q,lk F2 q≠none→p q:=fun q hq=>by
   obtain ⟨jw,hob'⟩:=Option.ne_none_iff_exists'.1 hq
   exact ((hmem2 hS).obs q jw hob').1
  have hgne:∀ q,lk F2 q≠none→(μ q).live=true→nm.live=true→(μ q).blk≠nm.blk:=fun q hq lq ln e=>by
   obtain ⟨h1,h2⟩:=hold2 q hq lq
   rcases wV ln with h | h
   ·exact h2 (by rw [e,h])
   ·omega
  refine gr hrun' (hK v' (yd μ k nm) M w' (hnm1 _ _ (.inr ⟨Nat.le_refl _,Nat.lt_succ_self _⟩) (bF _ _ _)) ⟨⟨hmem',hS.mem.j9⟩,fun q jw hq=> ?_,fun q q' hq hq' lq lq' e=> ?_⟩ ⟨fun q hq=>eA _ _ _ (fun e=>hq (by subst e;exact ⟨Nat.le_refl _,Nat.lt_succ_self _⟩)),Mem.le_refl M,fun b hb hf=>⟨hgrow.block b hb fun e=> ?_,fun _=>rfl⟩,hgrow.size,fun q hq=> ?_,hgrow.os,⟨hgrow.tape,An _ _ _ _ hrun⟩,hgrow.output⟩)
  ·rw [aa] at hq
   split at hq
   ·rename_i e1
    subst e1
    injection hq with hq
    subst hq
    rw [bF]
    exact ⟨.inr ⟨Nat.le_refl _,Nat.lt_succ_self _⟩,hnm2 _ _ (fun q h=> .inl h) hmu,hgM⟩
   ·have hne2:lk F2 q≠none:=by rw [hq];simp
    obtain ⟨a1,a2,a3⟩:=(hmem2 hS).obs q jw hq
    rw [hmu q a1]
    exact ⟨.inl a1,a2.more (fun q h=> .inl h) hmu (Mem.le_refl M) (fun l=>hgrow.block _ (hold2 q hne2 l).1 (hold2 q hne2 l).2),a3⟩
  ·rw [aa] at hq hq'
   by_cases e1:q=k <;> by_cases e2:q'=k
   ·omega
   ·rw [if_neg e2] at hq'
    subst e1
    rw [bF] at lq e
    rw [hmu q' (hk2 q' hq')] at e lq'
    exact absurd e.symm (hgne q' hq' lq' lq)
   ·rw [if_neg e1] at hq
    subst e2
    rw [bF] at lq' e
    rw [hmu q (hk2 q hq)] at e lq
    exact absurd e (hgne q hq lq lq')
   ·rw [if_neg e1] at hq
    rw [if_neg e2] at hq'
    rw [hmu q (hk2 q hq)] at e lq
    rw [hmu q' (hk2 q' hq')] at e lq'
    exact (hmem2 hS).inj q q' hq hq' lq lq' e
  ·obtain ⟨q,hq,lq,e'⟩:=hblk b e.symm
   refine hf q ?_ lq e'
   obtain ⟨jw,hob'⟩:=Option.ne_none_iff_exists'.1 hq
   show lk (F++F2) q≠none
   rw [fV,hob'];simp
  ·rw [aa] at hq
   by_cases e1:q=k
   ·subst e1
    refine .inl ⟨⟨Nat.le_refl _,Nat.lt_succ_self _⟩,?_⟩
    rw [bF]
    intro ln
    rcases wV ln with h | h
    ·obtain ⟨q',hq',lq',e'⟩:=hblk _ h
     refine .inr ⟨q',?_,lq',e'⟩
     obtain ⟨jw,hob'⟩:=Option.ne_none_iff_exists'.1 hq'
     show lk (F++F2) q'≠none
     rw [fV,hob'];simp
    ·exact .inl h
   ·rw [if_neg e1] at hq
    refine .inr ⟨fun h=>hnew q h (hk2 q hq),?_⟩
    obtain ⟨jw,hob'⟩:=Option.ne_none_iff_exists'.1 hq
    show lk (F++F2) q≠none
    rw [fV]
    cases lk F q <;> simp [hob']
 ·have hq:lk (F++F2) q=some ob:=hq
  rw [fV] at hq
  split at hq
  ·rename_i hh
   injection hq with hq
   subst hq
   exact hsubB q _ hh
  ·exact hsubX q ob hq
end
end
section
section
variable {P:Program}
theorem rN (em:Bool)(d:Nat)(ih:∀ (t:TypeId) (ks:List Bool) (xs:List Value) (w:World),bk P d t=some ks→xs.length=ks.length→(Instr.checkKey em d t (valOf P t xs)).run P w= .ok () w)
  (xs : List Value) (w:World):∀ (fs:List Field) (o:Nat) (ks:List Bool),lJ (bk P d) o fs=some ks→o+ks.length≤xs.length→
   (forIn (m:=Sem) fs PUnit.unit fun f _=>do
    if f.name≠ "_" then
     Instr.checkKey em d f.type (← part f.type xs.toArray f.offset)
    pure (ForInStep.yield PUnit.unit)).run P w= .ok PUnit.unit w:=by
 intro fs
 induction fs with
 | nil=>intro o ks h _;simp
 | cons f fs ihf=>
  intro o ks h hx
  simp only [lJ] at h
  split at h
  ·cases h
  ·rename_i hno
   simp only [not_or,ne_eq,Decidable.not_not] at hno
   split at h
   ·rename_i ks1 h1
    split at h
    ·rename_i ks2 h2
     simp at h
     subst h
     simp at hx
     have hr:=ihf (o+ks1.length) ks2 h2 (by omega)
     have hi:=ih f.type ks1 ((xs.drop o).take ks1.length) w h1 (by simp;omega)
     simp only [List.forIn_cons,Sem.run_bind,ne_eq,hno.1,not_false_eq_true,if_true,hno.2,kL h1 xs o (by omega),Result.andThen_ok,hi,Sem.run_pure]
     simpa using hr
    ·cases h
   ·cases h
theorem vL (em:Bool)(d:Nat)(ih:∀ (t:TypeId) (ks:List Bool) (xs:List Value) (w:World),bk P d t=some ks→xs.length=ks.length→(Instr.checkKey em d t (valOf P t xs)).run P w= .ok () w)
  {e:TypeId} {ks:List Bool} (he:bk P d e=some ks) (xs:List Value) (w:World):∀ (n k:Nat),(k+n)*ks.length≤xs.length→
   (forIn (m:=Sem) (List.range' k n) PUnit.unit fun i _=>do
    let s ← sizeOf e
    let v ← part e xs.toArray (i*s)
    Instr.checkKey em d e v
    pure (ForInStep.yield PUnit.unit)).run P w= .ok PUnit.unit w:=by
 intro n
 obtain ⟨i',hi',hs'⟩:=lM he
 induction n with
 | zero=>intro k _;simp
 | succ n ihn=>
  intro k hx
  have hx':k*ks.length+ks.length≤xs.length:=by
   have:(k+(n+1))*ks.length=k*ks.length+ks.length+n*ks.length:=by rw [Nat.add_mul,Nat.add_mul];omega
   omega
  have hr:=ihn (k+1) (by rwa [show k+1+n=k+(n+1) by omega])
  have hi:=ih e ks ((xs.drop (k*ks.length)).take ks.length) w he (by simp;omega)
  simp only [List.range'_succ,List.forIn_cons,Sem.run_bind,dm hi',hs',Result.andThen_ok,kL he xs _ hx',hi,Sem.run_pure]
  exact hr
theorem vM (em:Bool):∀ (d:Nat) (t:TypeId) (ks:List Bool) (xs:List Value) (w:World),bk P d t=some ks→xs.length=ks.length→(Instr.checkKey em d t (valOf P t xs)).run P w= .ok () w:=by
  intro d
  induction d with
  | zero=>intro t ks xs w h;simp [bk] at h
  | succ d ih=>
    intro t ks xs w h hl
    simp only [bk] at h
    split at h
    · rename_i i h1 h2
      generalize valOf P t xs=v
      cases v <;> simp [Instr.checkKey,run_underlying h1]
    · rename_i k i h1 h2
      generalize valOf P t xs=v
      cases v <;> simp [Instr.checkKey,run_underlying h1]
    · rename_i fs i h1 h2
      split at h
      · cases h
      · split at h
        · rename_i ks' h3
          split at h
          · rename_i hsize
            simp at h;subst h
            have ht:dx P t=some (some i.size):=by simp [dx,h1,h2]
            have:=rN (P:=P) em d ih xs w fs.toList 0 ks' h3 (by omega)
            simp only [valOf,ht,Instr.checkKey,Sem.run_bind,run_underlying h1,Result.andThen_ok]
            simp only [← Array.forIn_toList] 
            rw [this];rfl
          · cases h
        · cases h
    · rename_i n e i h1 h2
      split at h
      · rename_i ks' h3
        split at h
        · rename_i hsize
          simp at h;subst h
          have ht:dx P t=some (some i.size):=by simp [dx,h1,h2]
          rw [lK] at hl
          have:=vL (P:=P) em d ih h3 xs w n 0 (by simp;omega)
          simp only [valOf,ht,Instr.checkKey,Sem.run_bind,run_underlying h1,Result.andThen_ok]
          simp only [Std.Legacy.Range.forIn_eq_forIn_range',Std.Legacy.Range.size,Nat.sub_zero,Nat.add_sub_cancel,Nat.div_one]
          rw [this];rfl
        · cases h
      · cases h
    · cases h
theorem Hi:∀ {k:Bool} {x y:Value},EB k x y=some true→x=y:=by
 intro k x y h
 cases k <;> cases x <;> cases y <;> simp [EB] at h
 ·subst h;rfl
 ·obtain ⟨rfl,rfl⟩:=h;rfl
theorem zq:∀ {ks:List Bool} {xs ys:List Value},dU ks xs ys=some true→xs=ys
 | [],[],[],_=>rfl
 | [],[],_::_,h=>by simp [dU] at h
 | [],_::_,_,h=>by simp [dU] at h
 | _::_,[],_,h=>by simp [dU] at h
 | _::_,_::_,[],h=>by simp [dU] at h
 | k ::ks,x::xs,y::ys,h=>by
  simp only [dU] at h
  split at h
  ·rename_i a b h1 h2
   simp at h
   obtain ⟨rfl,rfl⟩:=h
   rw [Hi h1,zq h2]
  ·cases h
theorem wW {k:Bool}{x:Value}{b:Bool}(h:EB k x x=some b)(d:Nat):Instr.sameBits d x x=true:=by
 cases k <;> cases x <;> simp [EB] at h <;> cases d <;> simp [Instr.sameBits]
theorem uG {d:Nat}:∀ {ks:List Bool} {xs:List Value} {b:Bool},dU ks xs xs=some b→(xs.zip xs).all (fun (x,y)=>Instr.sameBits d x y)=true
 | [],[],_,_=>rfl
 | [],_::_,_,h=>by simp [dU] at h
 | _::_,[],_,h=>by simp [dU] at h
 | k ::ks,x::xs,b,h=>by
  simp only [dU] at h
  split at h
  ·rename_i a b h1 h2
   simp only [List.zip_cons_cons,List.all_cons,uG h2,Bool.and_true]
   exact wW h1 d
  ·cases h
structure ot (P:Program)(t:TypeId)(ks:List Bool)(v:Value):Prop where
 eq:v=valOf P t v.cells.toList
 self:∃ b,dU ks v.cells.toList v.cells.toList=some b
theorem ot.len {t:TypeId}{ks:List Bool}{v:Value}(h:ot P t ks v):v.cells.toList.length=ks.length:=by
 obtain ⟨b,hb⟩:=h.self
 exact (gL hb).1
theorem ot.check {t:TypeId}{ks:List Bool}{v:Value}(h:ot P t ks v)(hks:bk P 10000 t=some ks)(em:Bool)(w:World):(Instr.checkKey em 10000 t v).run P w= .ok () w:=by
 have:=vM (P:=P) em 10000 t ks v.cells.toList w hks h.len
 rwa [← h.eq] at this
theorem ot.stays {t:TypeId}{ks:List Bool}{v:Value}(h:ot P t ks v)(w:World):(Instr.keyThatStays v v).run P w= .ok v w:=by
 have:Instr.sameBits 10000 v v=true:=by
  obtain ⟨b,hb⟩:=h.self
  by_cases ha:∃ cs,v= .agg cs
  ·obtain ⟨cs,rfl⟩:=ha
   simp only [Value.cells] at hb
   simp only [Instr.sameBits,BEq.rfl,Bool.true_and]
   exact uG hb
  ·have hc:v.cells= #[v]:=by cases v <;> first | rfl | exact absurd ⟨_,rfl⟩ ha
   rw [hc] at hb
   match ks,hb with
   | [k],hb=>
    have hb:=oZ hb
    exact wW hb 10000
   | [],hb=>simp [dU] at hb
   | _::_::_,hb=>
    simp only [dU] at hb
    split at hb
    ·rename_i h2;simp at h2
    ·cases hb
 simp [Instr.keyThatStays,this]
theorem ot.same {t:TypeId}{ks:List Bool}{u v:Value}(hu:ot P t ks u)(hv:ot P t ks v)(h:dU ks u.cells.toList v.cells.toList=some true):u=v:=by
 rw [hu.eq,hv.eq,zq h]
theorem fW {p:Nat→Prop}{μ:Nat→Nm}{M:Mem}{t:TypeId}{ks:List Bool}(hks:bk P 10000 t=some ks){key:SV}(uj:gZ ks (mu P t) key=true){v:Value}(hr:Rp p μ M key v):
  ot P t ks v∧aR p μ M key.cells v.cells.toList:=by
 unfold gZ at uj
 simp only [Bool.and_eq_true,beq_iff_eq] at uj
 obtain ⟨h1,h2⟩:=uj
 obtain ⟨b,hb⟩:=Option.isSome_iff_exists.1 h2
 by_cases ha:∃ cs,key= .agg cs
 ·obtain ⟨cs,rfl⟩:=ha
  obtain ⟨vs,rfl,hvs⟩:=Rp.ez.1 hr
  refine ⟨⟨?_,b,kM hb hvs hvs⟩,hvs⟩
  simp only [j_] at h1
  have:∃ n,dx P t=some (some n):=by
   unfold mu at h1
   split at h1
   ·exact ⟨_,by assumption⟩
   ·cases h1
  obtain ⟨n,hn⟩:=this
  simp [valOf,hn,Value.cells]
 ·have hc:key.cells=[key]:=by cases key <;> first | rfl | exact absurd ⟨_,rfl⟩ ha
  have hg:j_ key=false:=by cases key <;> first | rfl | exact absurd ⟨_,rfl⟩ ha
  rw [hg] at h1
  rw [hc] at hb ⊢
  have hk1:∃ k,ks=[k]∧EC k key key=some b:=by
   match ks,hb with
   | [],hb=>simp [iA] at hb
   | [k],hb=>
    simp only [iA] at hb
    split at hb
    ·rename_i a b' e1 e2
     simp at hb e2
     subst e2;subst hb
     exact ⟨k,rfl,by simpa using e1⟩
    ·cases hb
   | _::_::_,hb=>
    simp only [iA] at hb
    split at hb
    ·rename_i h2;simp at h2
    ·cases hb
  obtain ⟨k,rfl,hk⟩:=hk1
  have hty:dx P t=some none:=by
   rcases jx hks with ⟨e,_⟩ | e
   ·exact e
   ·simp [mu,e] at h1
  have hv:v.cells= #[v]:=by
   cases k <;> cases key <;> simp [EC] at hk <;> rename_i x <;> cases x <;> simp [EC] at hk
   ·rw [Rp.bz.1 hr];rfl
   ·rw [Rp.aN.1 hr];rfl
  have hcs:aR p μ M [key] v.cells.toList:=by rw [hv];exact aR.aF.2 ⟨v,[],rfl,hr,aR.aP.2 rfl⟩
  refine ⟨⟨?_,b,kM hb hcs hcs⟩,hcs⟩
  simp [valOf,hty,hv]
noncomputable def j0 (P:Program)(t:TypeId)(ks:List Bool)(x:Value):List MapEntry→Nat→Option (Option Nat)
 | [],_=>some none
 | e::r,i=>open Classical in if ot P t ks e.key then match dU ks x.cells.toList e.key.cells.toList with
  | some true=>some (some i)
  | some false=>j0 P t ks x r (i+1)
  | none=>none
  else none
theorem pg {p:Nat→Prop}{μ:Nat→Nm}{M:Mem}{t:TypeId}{ks:List Bool}(hks:bk P 10000 t=some ks){key:SV}{x:Value}(hx:aR p μ M key.cells x.cells.toList):∀ {es:List (Nat×SV×SV)} {c_:List MapEntry} {i:Nat} {r:Option Nat},
  fT p μ M es c_→g_ ks (mu P t) key es i=some r→j0 P t ks x c_ i=some r∧(∀ j,r=some j→i≤j∧∃ e en,es[j - i]? =some e∧c_[j - i]? =some en∧ot P t ks en.key∧dU ks x.cells.toList en.key.cells.toList=some true∧Rp p μ M e.2.1 en.key∧Rp p μ M e.2.2 en.val)
 | [],c_,i,r,hr,h=>by
  simp only [fT] at hr
  subst hr
  simp only [g_,Option.some.injEq] at h
  subst h
  exact ⟨rfl,fun j h=>by cases h⟩
 | (b, k,v)::es,c_,i,r,hr,h=>by
  obtain ⟨en,ens',rfl,h1,h2,h3,h4⟩:=hr
  simp only [g_] at h
  split at h
  ·rename_i uj
   obtain ⟨hv,hkc⟩:=fW hks uj h2
   split at h
   ·rename_i hq
    have hq:=kM hq hx hkc
    simp at h;subst h
    refine ⟨by simp [j0,hq,hv],fun j hj=> ?_⟩
    simp at hj;subst hj
    exact ⟨Nat.le_refl _,(b,k,v),en,by simp,by simp,hv,hq,h2,h3⟩
   ·rename_i hq
    have hq:=kM hq hx hkc
    obtain ⟨a1,a2⟩:=pg hks hx h4 h
    refine ⟨by simp [j0,hq,a1,hv],fun j hj=> ?_⟩
    obtain ⟨b1,e,en',b2,b3,b4⟩:=a2 j hj
    refine ⟨by omega,e,en',?_,?_,b4⟩
    ·rw [show j - i=(j - (i+1))+1 by omega];simpa using b2
    ·rw [show j - i=(j - (i+1))+1 by omega];simpa using b3
   ·cases h
  ·cases h
theorem sI {t:TypeId}{ks:List Bool}(hks:bk P 10000 t=some ks){x:Value}(hx:ot P t ks x)(w:World):∀ (es:List MapEntry) (i:Nat) (r:Option Nat),j0 P t ks x es i=some r→
  ((Instr.findAsking t x es i).run P w= .ok (r.map fun j=>(j,((es[j - i]?).map (·.val)).getD undef)) w)∧∀ j,r=some j→i≤j
 | [],i,r,h=>by
  simp only [j0,Option.some.injEq] at h
  subst h
  exact ⟨by simp [Instr.findAsking],fun j h=>by cases h⟩
 | e ::es,i,r,h=>by
  simp only [j0] at h
  split at h <;> first | (cases h;done) | skip
  rename_i he
  have hq:∀ b,dU ks x.cells.toList e.key.cells.toList=some b→(Op.equal t x e.key).run P w= .ok b w:=fun b hb=>by
   have:=ru (P:=P) (w:=w) 10000 t ks _ _ b hks hb
   rw [← hx.eq,← he.eq] at this
   exact this
  split at h
  ·rename_i hb
   simp at h;subst h
   exact ⟨by simp [Instr.findAsking,hq _ hb],fun j hj=>by simp at hj;omega⟩
  ·rename_i hb
   obtain ⟨a1,a2⟩:=sI hks hx w es (i+1) r h
   refine ⟨?_,fun j hj=>by have:=a2 j hj;omega⟩
   simp only [Instr.findAsking,Sem.run_bind,hq _ hb,Result.andThen_ok,Bool.false_eq_true,if_false,a1]
   cases r with
   | none=>rfl
   | some j=>
    have:=a2 j rfl
    simp only [Option.map_some,show j - i=(j - (i+1))+1 by omega,List.getElem?_cons_succ]
  ·cases h
theorem pn {d:TypeDesc}{a b:Value}{r:Bool}(h:Instr.sameNow d a b=some r)(hd:(∃ fs,d= .struct fs)∨∃ n e,d= .array n e):False:=by
 rcases hd with ⟨fs,rfl⟩ | ⟨n,e,rfl⟩ <;> simp [Instr.sameNow] at h
theorem uH {t:TypeId}{d:TypeDesc}{k:Bool}(hd:(k=true∧∃ q,d= .int q)∨(k=false∧d= .bool)){x:Value}(hx1:x.cells.toList=[x])(I6:∀ {v:Value},ot P t [k] v→v.cells.toList=[v]):∀ (es:List MapEntry) (i:Nat) (r:Option Nat),j0 P t [k] x es i=some r→
  Instr.findNow d x es i=some (r.map fun j=>(j,((es[j - i]?).map (·.val)).getD undef))∧∀ j,r=some j→i≤j
 | [],i,r,h=>by
  simp only [j0,Option.some.injEq] at h
  subst h
  exact ⟨by simp [Instr.findNow],fun j h=>by cases h⟩
 | e ::es,i,r,h=>by
  simp only [j0] at h
  split at h <;> first | (cases h;done) | skip
  rename_i hke
  have hq:∀ b,dU [k] x.cells.toList e.key.cells.toList=some b→Instr.sameNow d x e.key=some b:=fun b hb=>by
   rw [hx1,I6 hke] at hb
   have hb:=oZ hb
   generalize e.key=y at hb
   rcases hd with ⟨rfl,q,rfl⟩ | ⟨rfl,rfl⟩ <;> cases x <;> cases y <;> simp [EB] at hb
   ·simp [Instr.sameNow,hb]
   ·simp [Instr.sameNow,hb]
  split at h
  ·rename_i hb
   simp at h;subst h
   exact ⟨by simp [Instr.findNow,hq _ hb],fun j hj=>by simp at hj;omega⟩
  ·rename_i hb
   obtain ⟨a1,a2⟩:=uH hd hx1 I6 es (i+1) r h
   refine ⟨?_,fun j hj=>by have:=a2 j hj;omega⟩
   simp only [Instr.findNow,hq _ hb,a1]
   cases r with
   | none=>rfl
   | some j=>
    have:=a2 j rfl
    simp only [Option.map_some,show j - i=(j - (i+1))+1 by omega,List.getElem?_cons_succ]
  ·cases h
theorem gP {t:TypeId}{ks:List Bool}(hks:bk P 10000 t=some ks){x:Value}(hx:ot P t ks x)(w:World){es:List MapEntry}{r:Option Nat}(h:j0 P t ks x es 0=some r):
  (Instr.findKey t x es).run P w= .ok (r.map fun j=>(j,((es[j]?).map (·.val)).getD undef)) w:=by
 obtain ⟨a1,_⟩:=sI hks hx w es 0 r h
 have agg:(∃ d,P.underlying t=some d∧((∃ fs,d= .struct fs)∨∃ n e,d= .array n e))→(Instr.findKey t x es).run P w= .ok (r.map fun j=>(j,((es[j]?).map (·.val)).getD undef)) w:=by
  rintro ⟨d,hd,hk⟩
  simp only [Instr.findKey,Sem.run_bind,run_underlying hd,Result.andThen_ok]
  cases es with
  | nil=>
   simp only [j0,Option.some.injEq] at h
   subst h
   simp [Instr.findNow]
  | cons e es=>
   have:Instr.findNow d x (e::es) 0=none:=by
    simp only [Instr.findNow]
    split
    ·rename_i hs;exact (pn hs hk).elim
    ·rename_i hs;exact (pn hs hk).elim
    ·rfl
   rw [this]
   simpa using a1
 have one:∀ (k:Bool) (d:TypeDesc),ks=[k]→P.underlying t=some d→dx P t=some none→((k=true∧∃ q,d= .int q)∨(k=false∧d= .bool))→(Instr.findKey t x es).run P w= .ok (r.map fun j=>(j,((es[j]?).map (·.val)).getD undef)) w:=by
  intro k d hk hd hty hkd
  subst hk
  have I6:∀ {v:Value},ot P t [k] v→v.cells.toList=[v]:=fun {v} hv=>by
   have e:=hv.eq
   simp only [valOf,hty] at e
   have hl:=hv.len
   match hc:v.cells.toList,hl with
   | [y],_=>rw [hc] at e;simp at e;rw [e]
  obtain ⟨b1,_⟩:=uH hkd (I6 hx) I6 es 0 r h
  simp only [Instr.findKey,Sem.run_bind,run_underlying hd,Result.andThen_ok,b1]
  simp
 obtain ⟨d,hks⟩:∃ d,bk P (d+1) t=some ks:=⟨9999,hks⟩
 simp only [bk] at hks
 split at hks
 ·rename_i i h1 h2
  simp at hks;obtain ⟨_,rfl⟩:=hks
  exact one false _ rfl h1 (by simp [dx,h1,h2]) (.inr ⟨rfl,rfl⟩)
 ·rename_i k i h1 h2
  simp at hks;obtain ⟨_,rfl⟩:=hks
  exact one true _ rfl h1 (by simp [dx,h1,h2]) (.inl ⟨rfl,_,rfl⟩)
 ·rename_i fs i h1 h2
  exact agg ⟨_,h1,.inl ⟨_,rfl⟩⟩
 ·rename_i n el i h1 h2
  exact agg ⟨_,h1,.inr ⟨_,_,rfl⟩⟩
 ·cases hks
end
section
variable {P:Program} {o:Oper} {E:Nat→Option SV} {H:Nat→Option Ob} {k:Nat} {own:Bool} {e:kH}
theorem uI {t:TypeId}{z:SV}(h:uD P t=some z):∃ v,(∀ w:World,(zeroValue t).run P w= .ok v w)∧∀ {p:Nat→Prop} {μ:Nat→Nm} {M:Mem},Rp p μ M z v:=by
 unfold uD at h
 split at h
 ·rename_i i hi
  split at h
  ·rename_i z' hz
   exact ⟨z',fun w=>oW hi hz,fun {_ _ _}=>BD h⟩
  ·cases h
 ·cases h
theorem fT.length {p:Nat→Prop}{μ:Nat→Nm}{M:Mem}:∀ {es:List (Nat×SV×SV)} {c_:List MapEntry},fT p μ M es c_→c_.length=es.length
 | [],c_,hr=>by simp only [fT] at hr;subst hr;rfl
 | (b,k,v)::es,c_,hr=>by
  obtain ⟨en,ens',rfl,h1,h2,h3,h4⟩:=hr
  simp [fT.length h4]
theorem fT.append {p:Nat→Prop}{μ:Nat→Nm}{M:Mem}{b:Nat}{k v:SV}{en:MapEntry}(h1:en.born=b)(h2:Rp p μ M k en.key)(h3:Rp p μ M v en.val):∀ {es:List (Nat×SV×SV)} {c_:List MapEntry},fT p μ M es c_→fT p μ M (es++[(b,k,v)]) (c_++[en])
 | [],c_,hr=>by simp only [fT] at hr;subst hr;exact ⟨en,[],rfl,h1,h2,h3,rfl⟩
 | (b',k',v')::es,c_,hr=>by
  obtain ⟨en',ens',rfl,g1,g2,g3,g4⟩:=hr
  exact ⟨en',_,rfl,g1,g2,g3,fT.append h1 h2 h3 g4⟩
theorem fT.modify {p:Nat→Prop}{μ:Nat→Nm}{M:Mem}{v:SV}{u:Value}(hv:Rp p μ M v u):∀ {es:List (Nat×SV×SV)} {c_:List MapEntry} (i:Nat),fT p μ M es c_→fT p μ M (es.modify i fun e=>(e.1,e.2.1,v)) (c_.modify i fun e=>{ e with val:=u})
 | [],c_,i,hr=>by simp only [fT] at hr;subst hr;simp [fT]
 | (b',k',v')::es,c_,0,hr=>by
  obtain ⟨en',ens',rfl,g1,g2,g3,g4⟩:=hr
  exact ⟨_,_,rfl,g1,g2,hv,g4⟩
 | (b',k',v')::es,c_,i+1,hr=>by
  obtain ⟨en',ens',rfl,g1,g2,g3,g4⟩:=hr
  exact ⟨en',_,rfl,g1,g2,g3,fT.modify hv i g4⟩
theorem fT.erase {p:Nat→Prop}{μ:Nat→Nm}{M:Mem}:∀ {es:List (Nat×SV×SV)} {c_:List MapEntry} (i:Nat),fT p μ M es c_→fT p μ M (es.eraseIdx i) (c_.eraseIdx i)
 | [],c_,i,hr=>by simp only [fT] at hr;subst hr;simp [fT]
 | (b',k',v')::es,c_,0,hr=>by
  obtain ⟨en',ens',rfl,g1,g2,g3,g4⟩:=hr
  exact g4
 | (b',k',v')::es,c_,i+1,hr=>by
  obtain ⟨en',ens',rfl,g1,g2,g3,g4⟩:=hr
  exact ⟨en',_,rfl,g1,g2,g3,fT.erase i g4⟩
theorem fT.find {p:Nat→Prop}{μ:Nat→Nm}{M:Mem}{st:Nat}:∀ {es:List (Nat×SV×SV)} {c_:List MapEntry} {e:Nat×SV×SV},fT p μ M es c_→es.find? (fun e=>e.1 == st)=some e→∃ en,c_.find? (fun x=>x.born == st)=some en∧Rp p μ M e.2.1 en.key∧Rp p μ M e.2.2 en.val
 | [],c_,e,hr,h=>by simp at h
 | (b',k',v')::es,c_,e,hr,h=>by
  obtain ⟨en',ens',rfl,g1,g2,g3,g4⟩:=hr
  simp only [List.find?_cons] at h ⊢
  rw [g1]
  cases hb:b' == st
  ·simp only [hb] at h ⊢
   exact fT.find g4 h
  ·simp only [hb,Option.some.injEq] at h ⊢
   subst h
   exact ⟨_,rfl,g2,g3⟩
theorem Rp.sJ {p:Nat→Prop}{μ:Nat→Nm}{M:Mem}{n:Nat}{v:Value}(h:Rp p μ M (.mp n) v)(hl:(μ n).live=true):v= .map (some (μ n).blk):=by simpa [cI,hl] using h.rep
theorem Rp.pq {p:Nat→Prop}{μ:Nat→Nm}{M:Mem}{n:Nat}{v:Value}(h:Rp p μ M (.mp n) v)(hl:(μ n).live=false):v= .map none:=by simpa [cI,hl] using h.rep
theorem Rp.Gv {p:Nat→Prop}{μ:Nat→Nm}{M:Mem}{n:Nat}{v:Value}(h:Rp p μ M (.it n) v):v= .pointer (some ⟨(μ n).blk,0,none⟩):=by simpa [cI] using h.rep
theorem Rp.rX {p:Nat→Prop}{μ:Nat→Nm}{M:Mem}{v:Value}(h:Rp p μ M (.d .jl) v):v= .map none:=by simpa [bQ] using Rp.cu.1 h
theorem lR {p:Nat→Prop}{μ:Nat→Nm}{M:Mem}{v:SV}{u:Value}{b:Bool}(ok:Bool)(h:Rp p μ M v u):Rp p μ M (kf ok v b) (if ok then .tuple #[u,.bool b] else u):=by
 cases ok
 ·exact h
 ·exact Rp.dP.2 ⟨_,rfl,aR.aF.2 ⟨_,_,rfl,h,aR.aF.2 ⟨_,_,rfl,Rp.bz.2 rfl,aR.aP.2 rfl⟩⟩⟩
theorem Hj {t kt et:TypeId}{m i:Operand}{ok:Bool}{m' i':X}{ks:List Bool}{z:SV}(ho:o.op= .lookup t m i ok)(ht:P.underlying t=some (.map kt et))(hm:cX m=some m')(hi:cX i=some i')
  (hks:bk P 10000 kt=some ks) (hz:uD P et=some z) (he:cZ E H k own (.look ks (mu P kt) z m' i' ok)=some e):Sound P o E H k e:=by
 obtain ⟨z',hz1,hz2⟩:=uI hz
 simp only [cZ] at he
 split at he <;> first | (cases he;done) | skip
 ·rename_i key h1 h2
  split at he <;> first | (cases he;done) | skip
  rename_i uj
  injection he with he
  subst he
  refine ⟨OT.pure fun p μ M a w hk hS=>⟨if ok then .tuple #[z',.bool false] else z',?_,lR ok hz2⟩,aQ⟩
  have e1:=(hk.get (by simp [ho,Op.operands]) hm h1).rX
  obtain ⟨kv,_⟩:=fW hks uj (hk.get (by simp [ho,Op.operands]) hi h2)
  have hf:=gP hks kv w (es:=[]) (r:=none) (by simp [j0])
  simp [execOp,ho,Instr.lookup,run_underlying ht,e1,kv.check hks,hf,hz1]
 ·rename_i n key h1 h2
  split at he <;> first | (cases he;done) | skip
  ·rename_i es c hH
   split at he <;> first | (cases he;done) | skip
   rename_i uj
   split at he <;> first | (cases he;done) | skip
   rename_i r hf
   injection he with he
   subst he
   refine ⟨OT.pure fun p μ M a w hk hS=> ?_,sub_one hH⟩
   obtain ⟨_,⟨h0,c_,hb,hre⟩,_⟩:=hS.one
   have e1:=(hk.get (by simp [ho,Op.operands]) hm h1).sJ h0
   obtain ⟨kv,kc⟩:=fW hks uj (hk.get (by simp [ho,Op.operands]) hi h2)
   obtain ⟨hv,hj⟩:=pg hks kc hre hf
   have hfk:=gP hks kv w hv
   cases r with
   | none=>
    refine ⟨if ok then .tuple #[z',.bool false] else z',?_,lR ok hz2⟩
    simp [execOp,ho,Instr.lookup,run_underlying ht,e1,MapKept.run_getObj_map hb,kv.check hks,hfk,hz1]
   | some j=>
    obtain ⟨_,q,en,hq,yg,_,_,_,hval⟩:=hj j rfl
    simp only [Nat.sub_zero] at hq yg
    simp only [Option.map_some,yg,Option.getD_some] at hfk
    refine ⟨if ok then .tuple #[en.val,.bool true] else en.val,?_,lR ok (by simpa [fH,hq] using hval)⟩
    simp [execOp,ho,Instr.lookup,run_underlying ht,e1,MapKept.run_getObj_map hb,kv.check hks,hfk]
  ·rename_i hH
   split at he <;> first | (cases he;done) | skip
   rename_i uj
   injection he with he
   subst he
   refine ⟨OT.pure fun p μ M a w hk hS=>⟨if ok then .tuple #[z',.bool false] else z',?_,lR ok hz2⟩,sub_one hH⟩
   have e1:=(hk.get (by simp [ho,Op.operands]) hm h1).pq hS.one.2.1
   obtain ⟨kv,_⟩:=fW hks uj (hk.get (by simp [ho,Op.operands]) hi h2)
   have hf:=gP hks kv w (es:=[]) (r:=none) (by simp [j0])
   simp [execOp,ho,Instr.lookup,run_underlying ht,e1,kv.check hks,hf,hz1]
theorem Hl {c:Call}{t kt et:TypeId}{x:Operand}{y:X}(ho:o.op= .call c)(bR:c.callee= .builtin .len)(ha:c.args.toList=[x])(oy:c.argTypes.toList=[t])(ht:P.underlying t=some (.map kt et))
  (hx:cX x=some y) (he:cZ E H k own (.G0 y)=some e):Sound P o E H k e:=by
 have ha':c.args= #[x]:=by cases hh:c.args;simp [hh] at ha;simp [ha]
 have hat':c.argTypes= #[t]:=by cases hh:c.argTypes;simp [hh] at oy;simp [oy]
 have hin:x∈o.op.operands:=by simp [ho,Op.operands,Call.operands,bR,ha']
 simp only [cZ] at he
 split at he <;> first | (cases he;done) | skip
 ·rename_i h1
  injection he with he
  subst he
  refine ⟨OT.pure fun p μ M a w hk hS=>⟨.int .i64 0,?_,Rp.aN.2 rfl⟩,aQ⟩
  have e1:=(hk.get hin hx h1).rX
  simp [execOp,ho,resolve,bR,ha',hat',invoke,builtin,e1,Builtin.len_,run_underlying ht,goInt]
 ·rename_i n h1
  split at he <;> first | (cases he;done) | skip
  ·rename_i es c' hH
   injection he with he
   subst he
   refine ⟨OT.pure fun p μ M a w hk hS=> ?_,sub_one hH⟩
   obtain ⟨_,⟨h0,c_,hb,hre⟩,_⟩:=hS.one
   have e1:=(hk.get hin hx h1).sJ h0
   refine ⟨.int .i64 es.length,?_,Rp.aN.2 rfl⟩
   have:=hre.length
   simp at this
   simp [execOp,ho,resolve,bR,ha',hat',invoke,builtin,e1,Builtin.len_,run_underlying ht,goInt,MapKept.run_getObj_map hb,this]
  ·rename_i hH
   injection he with he
   subst he
   refine ⟨OT.pure fun p μ M a w hk hS=>⟨.int .i64 0,?_,Rp.aN.2 rfl⟩,sub_one hH⟩
   have e1:=(hk.get hin hx h1).pq hS.one.2.1
   simp [execOp,ho,resolve,bR,ha',hat',invoke,builtin,e1,Builtin.len_,run_underlying ht,goInt]
theorem jJ {w:World}{b:Nat}{x:Obj}(o:Obj)(hb:w.heap[b]? =some x):({ w with heap:=w.heap.setIfInBounds b o}:World).heap[b]? =some o∧∀ c,c≠b→({ w with heap:=w.heap.setIfInBounds b o}:World).heap[c]? =w.heap[c]? :=by
 have hlt:=(Array.getElem?_eq_some_iff.1 hb).1
 refine ⟨by simp [Array.getElem?_setIfInBounds,hlt],fun c hc=> ?_⟩
 simp only [Array.getElem?_setIfInBounds]
 rw [if_neg (fun h:b=c=>hc h.symm)]
theorem BM {t kt et:TypeId}{m i v:Operand}{m' i' v':X}{ks:List Bool}(ho:o.op= .mapUpdate t m i v∨o.op= .insert t m i v)(ht:P.underlying t=some (.map kt et))(hm:cX m=some m')(hi:cX i=some i')(hv:cX v=some v')
  (hks:bk P 10000 kt=some ks) (he:cZ E H k own (.sF ks (mu P kt) m' i' v')=some e):Sound P o E H k e:=by
 have hin:m∈o.op.operands∧i∈o.op.operands∧v∈o.op.operands:=by rcases ho with ho | ho <;> simp [ho,Op.operands]
 simp only [cZ] at he
 split at he <;> first | (cases he;done) | skip
 rename_i n key s h1 h2 h3
 split at he <;> first | (cases he;done) | skip
 rename_i es c hH
 split at he <;> first | (cases he;done) | skip
 rename_i uj
 split at he <;> first | (cases he;done) | skip
 rename_i r hf
 injection he with he
 subst he
 refine ⟨OT.write fun p μ M a w hk hp bn=> ?_,sub_one hH⟩
 obtain ⟨h0,c_,hb,hre⟩:=bn
 have e1:=(hk.get hin.1 hm h1).sJ h0
 have r2:=hk.get hin.2.1 hi h2
 have r3:=hk.get hin.2.2 hv h3
 obtain ⟨kv,kc⟩:=fW hks uj r2
 obtain ⟨hfv,hj⟩:=pg hks kc hre hf
 have hfk:=gP hks kv w hfv
 cases r with
 | none=>
  obtain ⟨g1,g2⟩:=jJ (.map (c_.push { key:=a.eval i,val:=a.eval v,born:=c}) (c+1)) hb
  refine ⟨undef,_,.inr ⟨?_,rfl⟩,Rp.any,⟨h0,c_.push { key:=a.eval i,val:=a.eval v,born:=c},g1,?_⟩,fun b hb=>g2 b (hb h0),by simp,rfl,⟨rfl,Nat.le_refl _⟩,rfl⟩
  ·rcases ho with ho | ho <;> simp [execOp,ho,Instr.mapUpdate,run_underlying ht,e1,MapKept.run_getObj_map hb,kv.check hks,hfk,MapKept.run_setObj_map _ hb]
  ·simp only [Array.toList_push]
   exact fT.append (en:={ key:=a.eval i,val:=a.eval v,born:=c}) rfl r2 r3 hre
 | some j=>
  obtain ⟨_,q,en,hq,yg,hkv,hcs,hkr,hval⟩:=hj j rfl
  simp only [Nat.sub_zero] at hq yg
  have hsame:=kv.same hkv hcs
  simp only [Option.map_some,yg,Option.getD_some] at hfk
  have hen':c_[j]? =some en:=by simpa using yg
  obtain ⟨g1,g2⟩:=jJ (.map (c_.modify j fun e=>{ e with key:=a.eval i,val:=a.eval v}) c) hb
  refine ⟨undef,_,.inr ⟨?_,rfl⟩,Rp.any,⟨h0,c_.modify j fun e=>{ e with key:=a.eval i,val:=a.eval v},g1,?_⟩,fun b hb=>g2 b (hb h0),by simp,rfl,⟨rfl,Nat.le_refl _⟩,rfl⟩
  ·have hst:(Instr.keyThatStays en.key (a.eval i)).run P w= .ok (a.eval i) w:=by rw [← hsame];exact kv.stays w
   rcases ho with ho | ho <;> simp [execOp,ho,Instr.mapUpdate,run_underlying ht,e1,MapKept.run_getObj_map hb,kv.check hks,hfk,hen',hst,MapKept.run_setObj_map _ hb]
  ·have:(c_.modify j fun e=>{ e with key:=a.eval i,val:=a.eval v}).toList=c_.toList.modify j fun e=>{ e with val:=a.eval v}:=by
    rw [Array.toList_modify]
    apply List.ext_getElem?
    intro m
    simp only [List.getElem?_modify]
    by_cases hmj:j=m
    ·subst hmj
     simp [hen',hsame]
    ·simp [hmj]
   rw [this]
   exact fT.modify r3 j hre
theorem Ho {c :Call}{t kt et t':TypeId}{m i:Operand}{m' i':X}{ks:List Bool}(ho:o.op= .call c)(bR:c.callee= .builtin .delete)(ha:c.args.toList=[m,i])(oy:c.argTypes.toList=[t,t'])(ht:P.underlying t=some (.map kt et))(hm:cX m=some m')(hi:cX i=some i')
  (hks:bk P 10000 kt=some ks) (he:cZ E H k own (.EL ks (mu P kt) m' i')=some e):Sound P o E H k e:=by
 have ha':c.args= #[m,i]:=by cases hh:c.args;simp [hh] at ha;simp [ha]
 have hat':c.argTypes= #[t,t']:=by cases hh:c.argTypes;simp [hh] at oy;simp [oy]
 have hin1:m∈o.op.operands:=by simp [ho,Op.operands,Call.operands,bR,ha']
 have hin2:i∈o.op.operands:=by simp [ho,Op.operands,Call.operands,bR,ha']
 simp only [cZ] at he
 split at he <;> first | (cases he;done) | skip
 ·rename_i key h1 h2
  split at he <;> first | (cases he;done) | skip
  rename_i uj
  injection he with he
  subst he
  refine ⟨OT.pure fun p μ M a w hk hS=>⟨.tuple #[],?_,Rp.any⟩,aQ⟩
  have e1:=(hk.get hin1 hm h1).rX
  obtain ⟨kv,_⟩:=fW hks uj (hk.get hin2 hi h2)
  simp [execOp,ho,resolve,bR,ha',hat',invoke,builtin,Builtin.delete_,run_underlying ht,e1,kv.check hks]
 ·rename_i n key h1 h2
  split at he <;> first | (cases he;done) | skip
  ·rename_i es cl hH
   split at he <;> first | (cases he;done) | skip
   rename_i uj
   split at he <;> first | (cases he;done) | skip
   rename_i r hf
   injection he with he
   subst he
   refine ⟨OT.write fun p μ M a w hk hp bn=> ?_,sub_one hH⟩
   obtain ⟨h0,c_,hb,hre⟩:=bn
   have e1:=(hk.get hin1 hm h1).sJ h0
   obtain ⟨kv,kc⟩:=fW hks uj (hk.get hin2 hi h2)
   obtain ⟨hfv,hj⟩:=pg hks kc hre hf
   have hfk:=gP hks kv w hfv
   cases r with
   | none=>
    obtain ⟨g1,g2⟩:=jJ (.map c_ cl) hb
    refine ⟨.tuple #[],_,.inl ?_,Rp.any,⟨h0,c_,g1,hre⟩,fun b hb=>g2 b (hb h0),by simp,rfl,⟨rfl,Nat.le_refl _⟩,rfl⟩
    simp [execOp,ho,resolve,bR,ha',hat',invoke,builtin,Builtin.delete_,run_underlying ht,e1,MapKept.run_getObj_map hb,kv.check hks,hfk,MapKept.run_setObj_map _ hb]
   | some j=>
    obtain ⟨g1,g2⟩:=jJ (.map (c_.eraseIdxIfInBounds j) cl) hb
    refine ⟨.tuple #[],_,.inl ?_,Rp.any,⟨h0,c_.eraseIdxIfInBounds j,g1,?_⟩,fun b hb=>g2 b (hb h0),by simp,rfl,⟨rfl,Nat.le_refl _⟩,rfl⟩
    ·simp [execOp,ho,resolve,bR,ha',hat',invoke,builtin,Builtin.delete_,run_underlying ht,e1,MapKept.run_getObj_map hb,kv.check hks,hfk,MapKept.run_setObj_map _ hb]
    ·have:(c_.eraseIdxIfInBounds j).toList=c_.toList.eraseIdx j:=by
      unfold Array.eraseIdxIfInBounds
      split
      ·simp
      ·rw [List.eraseIdx_of_length_le]
       simp;omega
     rw [this]
     exact fT.erase j hre
  ·rename_i hH
   split at he <;> first | (cases he;done) | skip
   rename_i uj
   injection he with he
   subst he
   refine ⟨OT.pure fun p μ M a w hk hS=>⟨.tuple #[],?_,Rp.any⟩,sub_one hH⟩
   have e1:=(hk.get hin1 hm h1).pq hS.one.2.1
   obtain ⟨kv,_⟩:=fW hks uj (hk.get hin2 hi h2)
   simp [execOp,ho,resolve,bR,ha',hat',invoke,builtin,Builtin.delete_,run_underlying ht,e1,kv.check hks]
theorem OT.BN {n:Nat}{I7 ob:Ob}{v:SV}(h:∀ (p:Nat→Prop) (μ:Nat→Nm) (M:Mem) (a:Act) (w:World),gq E o.op.operands p μ M a→p n→bW p μ M w (μ n) I7→oV M w→
    ∃ u ro cap,(execOp a.eval o).run P w= .ok (.value u) (w.alloc ro)∧
      ∀ (p':Nat→Prop) (aZ:Nat→Nm),(∀ n,p n→p' n)→(∀ n,p n→aZ n=μ n)→p' k→aZ k=⟨w.heap.size,cap,true⟩→bW p' aZ M (w.alloc ro) ⟨w.heap.size,cap,true⟩ ob∧Rp p' aZ M v u):
    OT P o E [(n,I7)] (fun n=>k≤n∧n<k+1) v [(n,I7),(k,ob)]:=by
  intro rd p μ M a w K Q hnew hkn hS hK
  obtain ⟨hp,hob0,hM0⟩:=hS.one
  obtain ⟨u,ro,cap,hr,hu⟩:=h p μ M a w hkn hp hob0 hS.mem
  have hk: ¬ p k:=hnew k ⟨Nat.le_refl _,by omega⟩
  have hnk:n≠k:=fun e=>hk (e ▸ hp)
  have hlt:=fun l=>hob0.lt l
  obtain ⟨h1,h2⟩:=hu (fun n=>p n∨(k≤n∧n<k+1)) (yd μ k ⟨w.heap.size,cap,true⟩) (fun n h=> .inl h) (uB hk) (.inr ⟨Nat.le_refl _,by omega⟩) (bF _ _ _)
  have hlk:∀ m,lk [(n,I7),(k,ob)] m=if m=n then some I7 else if m=k then some ob else none:=by
    intro m
    rw [aa,bZ]
  refine gr hr (hK u (yd μ k ⟨w.heap.size,cap,true⟩) M (w.alloc ro) h2 ⟨kK ro hS.mem,fun m jw hm=> ?_,fun m m' hm hm' lm lm' e=> ?_⟩ ⟨fun n hn=> ?_,Mem.le_refl M,fun b hb _=>⟨jd w ro hb,fun _=>rfl⟩,by simp,fun m hm=> ?_,rfl,⟨rfl,Nat.le_refl _⟩,rfl⟩)
  · rw [hlk] at hm
    split at hm
    · rename_i e
      subst e
      simp at hm;subst hm
      rw [eA _ _ _ hnk]
      exact ⟨.inl hp,hob0.more (fun _ h=> .inl h) (uB hk) (Mem.le_refl M) (fun l=>jd w ro (hlt l)),hM0⟩
    · split at hm
      · rename_i e
        subst e
        simp at hm;subst hm
        rw [bF]
        exact ⟨.inr ⟨Nat.le_refl _,by omega⟩,h1,fun _=>sG hS.mem (Nat.le_refl _)⟩
      · cases hm
  · rw [hlk] at hm hm'
    by_cases a1:m=n <;> by_cases a2:m'=n
    · omega
    · by_cases a3:m'=k
      · subst a1;subst a3
        rw [eA _ _ _ hnk] at e lm
        rw [bF] at e
        have:=hlt lm
        simp at e;omega
      · simp [a2,a3] at hm'
    · by_cases a3:m=k
      · subst a2;subst a3
        rw [eA _ _ _ hnk] at e lm'
        rw [bF] at e
        have:=hlt lm'
        simp at e;omega
      · simp [a1,a3] at hm
    · by_cases a3:m=k <;> by_cases a4:m'=k
      · omega
      · simp [a2,a4] at hm'
      · simp [a1,a3] at hm
      · simp [a1,a3] at hm
  · exact eA _ _ _ (by omega)
  · rw [hlk] at hm
    by_cases a1:m=n
    · subst a1
      exact .inr ⟨fun h=>hk (by
          have:m=k:=by omega
          exact this ▸ hp),by simp [bZ]⟩
    · by_cases a2:m=k
      · subst a2
        exact .inl ⟨⟨Nat.le_refl _,by omega⟩,fun _=> .inl (by rw [bF];exact Nat.le_refl _)⟩
      · simp [a1,a2] at hm
theorem Rp.BO {p:Nat→Prop}{μ:Nat→Nm}{M:Mem}{n:Nat}(hp:p n):Rp p μ M (.it n) (.pointer (some ⟨(μ n).blk,0,none⟩)):=fun aZ h=>by
 simp [cI,h n hp]
theorem BP {t kt et:TypeId}{m:Operand}{m':X}(ho:o.op= .range t m)(ht:P.underlying t=some (.map kt et))(hm:cX m=some m')(he:cZ E H k own (.lI m')=some e):Sound P o E H k e:=by
 simp only [cZ] at he
 split at he <;> first | (cases he;done) | skip
 ·rename_i h1
  injection he with he
  subst he
  refine ⟨OT.make fun p μ M a w hk hM=> ?_,aQ⟩
  have e1:=(hk.get (by simp [ho,Op.operands]) hm h1).rX
  refine ⟨.pointer (some ⟨w.heap.size,0,none⟩),.mapIter none 0 #[] 0,0,?_,fun p' aZ hp jv hpk hk'=>⟨⟨rfl,(fun n h=>by cases h),fF w (.mapIter none 0 #[] 0)⟩,?_⟩⟩
  ·simp [execOp,ho,Instr.range,run_underlying ht,e1,run_newObj]
  ·have:=Rp.BO (μ:=aZ) (M:=M) hpk
   rwa [hk'] at this
 ·rename_i n h1
  split at he <;> first | (cases he;done) | skip
  ·rename_i es c hH
   injection he with he
   subst he
   refine ⟨OT.BN fun p μ M a w hk hpn bn hM=> ?_,sub_one hH⟩
   obtain ⟨h0,c_,hb,hre⟩:=bn
   have e1:=(hk.get (by simp [ho,Op.operands]) hm h1).sJ h0
   refine ⟨.pointer (some ⟨w.heap.size,0,none⟩),.mapIter (some (μ n).blk) c #[] c,0,?_,fun p' aZ hp jv hpk hk'=>⟨⟨rfl,(fun n' h=>by cases h;exact hp _ hpn),?_⟩,?_⟩⟩
   ·simp [execOp,ho,Instr.range,run_underlying ht,e1,MapKept.run_getObj_map hb,run_newObj]
   ·have:=fF w (.mapIter (some (μ n).blk) c #[] c)
    simpa [jv n hpn] using this
   ·have:=Rp.BO (μ:=aZ) (M:=M) hpk
    rwa [hk'] at this
  ·rename_i hH
   injection he with he
   subst he
   refine ⟨OT.BN fun p μ M a w hk hpn bn hM=> ?_,sub_one hH⟩
   have e1:=(hk.get (by simp [ho,Op.operands]) hm h1).pq bn
   refine ⟨.pointer (some ⟨w.heap.size,0,none⟩),.mapIter none 0 #[] 0,0,?_,fun p' aZ hp jv hpk hk'=>⟨⟨rfl,(fun n h=>by cases h),fF w (.mapIter none 0 #[] 0)⟩,?_⟩⟩
   ·simp [execOp,ho,Instr.range,run_underlying ht,e1,run_newObj]
   ·have:=Rp.BO (μ:=aZ) (M:=M) hpk
    rwa [hk'] at this
theorem BQ {x:Operand}{x':X}(ho:o.op= .entry x)(hx:cX x=some x')(he:cZ E H k own (.mI x')=some e)(bn:e.ob):Sound P o E H k e:=by
 simp only [cZ] at he
 split at he <;> first | (cases he;done) | skip
 rename_i n h1
 split at he <;> first | (cases he;done) | skip
 rename_i m since seen st hH
 split at he <;> first | (cases he;done) | skip
 rename_i es c hH2
 split at he <;> first | (cases he;done) | skip
 rename_i stamp hst
 split at he <;> first | (cases he;done) | skip
 rename_i en yg
 injection he with he
 subst he
 obtain ⟨rfl,hnm⟩:=bn
 refine ⟨OT.pure fun p μ M a w hk hS=> ?_,?_⟩
 ·obtain ⟨_,hb,_⟩:=hS.obs n (.iter (some m) since seen c) (by simp [aa])
  obtain ⟨_,EF,_⟩:=hS.obs m (.map es c) (by rw [aa,if_neg (fun h=>hnm h.symm),bZ,if_pos rfl])
  obtain ⟨_,_,hb⟩:=hb
  obtain ⟨_,c_,EF,hre⟩:=EF
  have e1:=(hk.get (by simp [ho,Op.operands]) hx h1).Gv
  obtain ⟨en',hf,g1,g2⟩:=hre.find yg
  have hf':c_.find? (fun x=>x.born == stamp)=some en':=by rw [← Array.find?_toList];exact hf
  have hbk:seen.toArray.back? =some stamp:=by simpa using hst
  refine ⟨.tuple #[en'.key,en'.val],?_,Rp.dP.2 ⟨_,rfl,aR.aF.2 ⟨_,_,rfl,g1,aR.aF.2 ⟨_,_,rfl,g2,aR.aP.2 rfl⟩⟩⟩⟩
  simp only [Option.map_some] at hb
  have hg:(getObj (μ n).blk).run P w= .ok (.mapIter (some (μ m).blk) since seen.toArray c) w:=by simp [getObj,Sem.run,hb]
  simp [execOp,ho,Instr.entry,e1,hg,hbk,MapKept.run_getObj_map EF,hf']
 ·intro q ob hq
  rw [aa,bZ] at hq
  split at hq
  ·rename_i e;subst e;simp at hq;subst hq;exact hH
  ·split at hq
   ·rename_i e;subst e;simp at hq;subst hq;exact hH2
   ·cases hq
end
end
section
section
variable {P:Program} {o:Oper} {E:Nat→Option SV} {H:Nat→Option Ob} {k:Nat} {own:Bool} {e:kH}
theorem fT.get {p:Nat→Prop}{μ:Nat→Nm}{M:Mem}:∀ {es:List (Nat×SV×SV)} {c_:List MapEntry} (i:Nat),fT p μ M es c_→
  (es[i]? =none∧c_[i]? =none)∨∃ e en,es[i]? =some e∧c_[i]? =some en∧en.born=e.1∧Rp p μ M e.2.1 en.key∧Rp p μ M e.2.2 en.val
 | [],c_,i,h=>by
  have h:c_=[]:=h
  subst h;exact .inl ⟨by simp,by simp⟩
 | (b,k,v)::r,c_,i,h=>by
  obtain ⟨en,ens',rfl,h1,h2,h3,h4⟩:=h
  cases i with
  | zero=>exact .inr ⟨_,en,rfl,rfl,h1,h2,h3⟩
  | succ i=>simpa using fT.get i h4
theorem fT.findIdx {p:Nat→Prop}{μ:Nat→Nm}{M:Mem}{b:Int}:∀ {es:List (Nat×SV×SV)} {c_:List MapEntry},fT p μ M es c_→c_.findIdx? (fun e=>(e.born:Int) == b)=es.findIdx? (fun e=>(e.1:Int) == b)
 | [],c_,h=>by
  have h:c_=[]:=h
  subst h;rfl
 | (t,k,v)::r,c_,h=>by
  obtain ⟨en,ens',rfl,h1,_,_,h4⟩:=h
  simp only [List.findIdx?_cons,h1,fT.findIdx h4]
theorem EZ {t kt et:TypeId}{m i:Operand}{m' i':X}{ks:List Bool}{z:SV}(ho:o.op= .mapEntry t m i)(ht:P.underlying t=some (.map kt et))(hm:cX m=some m')(hi:cX i=some i')
  (hks:bk P 10000 kt=some ks) (hz:uD P et=some z) (he:cZ E H k own (.rj ks (mu P kt) z m' i')=some e):Sound P o E H k e:=by
 have hin:m∈o.op.operands∧i∈o.op.operands:=by simp [ho,Op.operands]
 simp only [cZ] at he
 split at he <;> first | (cases he;done) | skip
 rename_i n key h1 h2
 split at he <;> first | (cases he;done) | skip
 rename_i es c hH
 split at he <;> first | (cases he;done) | skip
 rename_i uj
 split at he <;> first | (cases he;done) | skip
 rename_i r hf
 injection he with he
 subst he
 refine ⟨OT.write fun p μ M a w hk hp bn=> ?_,sub_one hH⟩
 obtain ⟨h0,c_,hb,hre⟩:=bn
 have e1:=(hk.get hin.1 hm h1).sJ h0
 have r2:=hk.get hin.2 hi h2
 obtain ⟨kv,kc⟩:=fW hks uj r2
 obtain ⟨hfv,hj⟩:=pg hks kc hre hf
 have hfk:=gP hks kv w hfv
 obtain ⟨zv,hzv,hzr⟩:=uI hz
 cases r with
 | none=>
  obtain ⟨g1,g2⟩:=jJ (.map (c_.push { key:=a.eval i,val:=zv,born:=c}) (c+1)) hb
  refine ⟨.tuple #[zv,.int .i64 c],_,.inl ?_,Rp.dP.2 ⟨_,rfl,aR.aF.2 ⟨zv,_,rfl,hzr,aR.aF.2 ⟨_,[],rfl,Rp.aN.2 rfl,aR.aP.2 rfl⟩⟩⟩,⟨h0,c_.push { key:=a.eval i,val:=zv,born:=c},g1,?_⟩,fun b hb=>g2 b (hb h0),by simp,rfl,⟨rfl,Nat.le_refl _⟩,rfl⟩
  ·simp [execOp,ho,Instr.mapEntry,run_underlying ht,e1,MapKept.run_getObj_map hb,kv.check hks,hfk,hzv,MapKept.run_setObj_map _ hb,goInt]
  ·simp only [Array.toList_push]
   exact fT.append (en:={ key:=a.eval i,val:=zv,born:=c}) rfl r2 hzr hre
 | some j=>
  obtain ⟨_,q,en,hq,yg,hkv,hcs,hkr,hval⟩:=hj j rfl
  simp only [Nat.sub_zero] at hq yg
  have hsame:=kv.same hkv hcs
  simp only [Option.map_some,yg,Option.getD_some] at hfk
  have hen':c_[j]? =some en:=by simpa using yg
  have hmod:c_.modify j (fun e=>{ e with key:=a.eval i})=c_:=by
   apply Array.ext_getElem?
   intro m
   rw [Array.getElem?_modify]
   by_cases hmj:j=m
   ·subst hmj
    simp [hen',hsame]
   ·simp [hmj]
  obtain ⟨g1,g2⟩:=jJ (.map c_ c) hb
  have hborn:en.born=q.1:=by
   rcases fT.get j hre with ⟨x1,x2⟩ | ⟨e',en',x1,x2,x3,_⟩
   ·rw [hq] at x1;cases x1
   ·rw [hq] at x1;rw [yg] at x2
    injection x1 with x1;injection x2 with x2
    rw [x1,x2];exact x3
  refine ⟨.tuple #[en.val,.int .i64 en.born],_,.inl ?_,?_,⟨h0,c_,g1,hre⟩,fun b hb=>g2 b (hb h0),by simp,rfl,⟨rfl,Nat.le_refl _⟩,rfl⟩
  ·have hst:(Instr.keyThatStays en.key (a.eval i)).run P w= .ok (a.eval i) w:=by rw [← hsame];exact kv.stays w
   simp [execOp,ho,Instr.mapEntry,run_underlying ht,e1,MapKept.run_getObj_map hb,kv.check hks,hfk,hen',hst,MapKept.run_setObj_map _ hb,goInt,hmod]
  ·refine Rp.dP.2 ⟨_,rfl,aR.aF.2 ⟨en.val,_,rfl,?_,aR.aF.2 ⟨_,[],rfl,Rp.aN.2 ?_,aR.aP.2 rfl⟩⟩⟩
   ·simp only [fH,hq];exact hval
   ·simp only [wS,hq,hborn]
theorem E1 {t:TypeId}{m s x:Operand}{m' s' x':X}(ho:o.op= .entryStore t m s x)(hm:cX m=some m')(hs:cX s=some s')(hx:cX x=some x')(he:cZ E H k own (.rm m' s' x')=some e):Sound P o E H k e:=by
 have hin:m∈o.op.operands∧s∈o.op.operands∧x∈o.op.operands:=by simp [ho,Op.operands]
 simp only [cZ] at he
 split at he <;> first | (cases he;done) | skip
 rename_i n kb b v h1 h2 h3
 split at he <;> first | (cases he;done) | skip
 rename_i es c hH
 split at he <;> first | (cases he;done) | skip
 rename_i j hj
 injection he with he
 subst he
 refine ⟨OT.write fun p μ M a w hk hp bn=> ?_,sub_one hH⟩
 obtain ⟨h0,c_,hb,hre⟩:=bn
 have e1:=(hk.get hin.1 hm h1).sJ h0
 have e2:=Rp.aN.1 (hk.get hin.2.1 hs h2)
 have r3:=hk.get hin.2.2 hx h3
 have hfi:c_.findIdx? (fun e=>(e.born:Int) == b)=some j:=by
  have h2:∀ (q:Array MapEntry) (f:MapEntry→Bool),q.findIdx? f=q.toList.findIdx? f:=fun q f=>by cases q;simp
  rw [h2,fT.findIdx hre];exact hj
 obtain ⟨g1,g2⟩:=jJ (.map (c_.modify j fun e=>{ e with val:=a.eval x}) c) hb
 refine ⟨undef,_,.inr ⟨?_,rfl⟩,Rp.any,⟨h0,c_.modify j fun e=>{ e with val:=a.eval x},g1,?_⟩,fun b hb=>g2 b (hb h0),by simp,rfl,⟨rfl,Nat.le_refl _⟩,rfl⟩
 ·simp [execOp,ho,Instr.entryStore,e1,e2,MapKept.run_getObj_map hb,hfi,MapKept.run_setObj_map _ hb,asInt,asIntOf]
 ·rw [Array.toList_modify]
  exact fT.modify r3 j hre
theorem I8 {c:Call}{t el:TypeId}{x:Operand}{x':X}{ti:TypeInfo}{z:List SV}(ho:o.op= .call c)(bR:c.callee= .builtin .clear)(ha:c.args.toList=[x])(oy:c.argTypes.toList=[t])(ht:P.underlying t=some (.slice el))
  (hi:P.info? el=some ti) (hz:fh P el=some z) (hsz:z.length=ti.size∧0<ti.size) (hx:cX x=some x') (he:cZ E H k own (.IS ti.size z x')=some e) (bn:e.ob):Sound P o E H k e:=by
 have ha':c.args= #[x]:=by cases hh:c.args;simp [hh] at ha;simp [ha]
 have hat':c.argTypes= #[t]:=by cases hh:c.argTypes;simp [hh] at oy;simp [oy]
 have hin:x∈o.op.operands:=by simp [ho,Op.operands,Call.operands,bR,ha']
 simp only [cZ] at he
 split at he <;> first | (cases he;done) | skip
 rename_i n off len h1
 split at he <;> first | (cases he;done) | skip
 rename_i el' z' l cs hH
 injection he with he
 subst he
 obtain ⟨b1,b2⟩:=bn
 refine ⟨OT.write fun p μ M a w hk hp bn=> ?_,sub_one hH⟩
 have hpos:0<len*ti.size:=Nat.mul_pos b1 hsz.2
 rcases bn with ⟨_,_,rfl⟩ | bn
 ·simp at b2;omega
 obtain ⟨h0,vs,hb,hl1,hl2,ID,hl4,hr⟩:=bn
 obtain ⟨A,cp,e1,e2,e3⟩:=(by simpa only [cI] using (hk.get hin hx h1).rep:∃ A c,a.eval x= .slice (some A) len c∧len≤c∧(len≠0→A=⟨(μ n).blk,off,none⟩))
 have e3:=e3 (by omega)
 subst e3
 obtain ⟨v,hv,IE,hzone⟩:=fG hz (p:=p) (μ:=μ) (M:=M)
 have hvs:v.cells.size=ti.size:=by have:=IE.length;simp at this;omega
 have hm:=sH IE len (len*ti.size) (by rw [hsz.1])
 have hle:l*z'≤vs.size:=by rw [hl4];exact Nat.mul_le_mul_right z' hl2
 have hzl:((Array.range (len*ti.size)).map (v.cells[· % v.cells.size]!)).toList=(Builtin.zeroCells v.cells len).toList:=by
  unfold Builtin.zeroCells;rw [hvs]
 have hlen:(Builtin.zeroCells v.cells len).toList.length=len*ti.size:=by rw [← hzl];simp
 rw [hzl] at hm
 have hone:∀ u∈(Builtin.zeroCells v.cells len).toList,u.oneCell'=true:=by
  refine aR.BK ?_ hm
  rw [List.all_eq_true] at hzone ⊢
  intro y hy
  rw [List.mem_flatten] at hy
  obtain ⟨q,hq,hy⟩:=hy
  rw [List.eq_of_mem_replicate hq] at hy
  exact hzone y hy
 obtain ⟨w',hr',q1,q2,q3,q4,q5,q6⟩:=gY (P:=P) (Builtin.zeroCells v.cells len).toList vs w off 0 hb (by rw [hlen];omega) hone
 have hlr:((List.replicate len z).flatten).length=len*ti.size:=by rw [hm.length.symm,hlen]
 refine ⟨.tuple #[],w',.inl ?_,Rp.any,.inr ⟨h0,_,q1,?_,hl2,ID,?_,?_⟩,fun b hb=>q2 b (hb h0),q3,q4,q5,q6⟩
 ·obtain ⟨len',rfl⟩:∃ m,len=m+1:=⟨len - 1,by omega⟩
  simp [execOp,ho,resolve,bR,ha',hat',invoke,builtin,Builtin.clear_,run_underlying ht,e1,hv,hr']
 ·rw [qn (by omega)]
  simp only [List.length_append,List.length_take,List.length_drop,hlr]
  omega
 ·simp only [oq,List.size_toArray,List.length_append,List.length_take,List.length_drop,Array.length_toList,Nat.add_zero] at hlen ⊢
  omega
 ·have:=aR.cU (o:=off) hr hm (by omega)
  rw [← uE _ _ _ _ (by omega) (by simpa using hle)] at this
  simpa using this
theorem OT.Hq {k n m:Nat}{ob jw om:Ob}{v:SV}(hnm:n≠m)(h:∀ (p:Nat→Prop) (μ:Nat→Nm) (M:Mem) (a:Act) (w:World),gq E o.op.operands p μ M a→p n→p m→bW p μ M w (μ n) ob→bW p μ M w (μ m) om→
  ∃ u w',((execOp a.eval o).run P w= .ok (.value u) w'∨((execOp a.eval o).run P w= .ok .skip w'∧u=undef))∧Rp p μ M v u∧bW p μ M w' (μ n) jw∧
   (∀ b,((μ n).live=true→b≠(μ n).blk)→w'.heap[b]? =w.heap[b]?)∧w'.heap.size=w.heap.size∧w'.os=w.os∧Tape w w'∧w'.output=w.output):
  OT P o E [(n,ob),(m,om)] (fun q=>k≤q∧q<k+0) v [(n,jw),(m,om)]:=by
 intro rd p μ M a w K Q hnew hkn hS hK
 have hlk:∀ (o1:Ob) q,lk [(n,o1),(m,om)] q=if q=n then some o1 else if q=m then some om else none:=fun o1 q=>by rw [aa,bZ]
 obtain ⟨hp,bn,hmn⟩:=hS.obs n ob (by rw [hlk,if_pos rfl])
 obtain ⟨hpm,hom,hmm⟩:=hS.obs m om (by rw [hlk,if_neg (Ne.symm hnm),if_pos rfl])
 have hne:(μ n).live=true→(μ m).live=true→(μ n).blk≠(μ m).blk:=fun l1 l2 e=>hnm (hS.inj n m (by rw [hlk,if_pos rfl];simp) (by rw [hlk,if_neg (Ne.symm hnm),if_pos rfl];simp) l1 l2 e)
 obtain ⟨u,w',hr,hu,hob',hother,hsz,h1,h2,h3⟩:=h p μ M a w hkn hp hpm bn hom
 have hpk:∀ m,p m→(fun m=>p m∨(k≤m∧m<k+0)) m:=fun m hm=> .inl hm
 have key:K (a.put o.dst u) w':=by
  refine hK u μ M w' (hu.more hpk (fun _ _=>rfl) (Mem.le_refl M)) ⟨⟨fun b i x hm=> ?_,hS.mem.j9⟩,fun q ob'' hm=> ?_,fun q q' hm hm' lm lm' e=> ?_⟩
   ⟨fun _ _=>rfl,Mem.le_refl M,fun b hb hf=>⟨hother b fun l e=>hf n (by rw [hlk,if_pos rfl];simp) l e.symm,fun _=>rfl⟩,by omega,fun q hm=> ?_,h1,h2,h3⟩
  ·have hb:(μ n).live=true→b≠(μ n).blk:=fun l e=>by rw [e,hmn l] at hm;cases hm
   rw [← hS.mem b i x hm]
   unfold World.cell?
   rw [hother b hb]
  ·rw [hlk] at hm
   split at hm
   ·rename_i e
    subst e
    simp at hm
    subst hm
    exact ⟨.inl hp,hob'.more hpk (fun _ _=>rfl) (Mem.le_refl M) fun _=>rfl,hmn⟩
   ·split at hm
    ·rename_i e
     subst e
     simp at hm
     subst hm
     exact ⟨.inl hpm,hom.more hpk (fun _ _=>rfl) (Mem.le_refl M) fun l=>hother _ fun l' e=>hne l' l e.symm,hmm⟩
    ·cases hm
  ·refine hS.inj q q' ?_ ?_ lm lm' e
   ·rw [hlk] at hm ⊢
    split at hm
    ·rename_i e;rw [if_pos e];simp
    ·rename_i e;rw [if_neg e];exact hm
   ·rw [hlk] at hm' ⊢
    split at hm'
    ·rename_i e;rw [if_pos e];simp
    ·rename_i e;rw [if_neg e];exact hm'
  ·refine .inr ⟨by omega,?_⟩
   rw [hlk] at hm ⊢
   split at hm
   ·rename_i e;rw [if_pos e];simp
   ·rename_i e;rw [if_neg e];exact hm
 rcases hr with hr | ⟨hr,rfl⟩
 ·exact gr hr key
 ·exact zl hr key
theorem Hr {c:Call}{t el t':TypeId}{x y:Operand}{x' y':X}{ti:TypeInfo}(ho:o.op= .call c)(bR:c.callee= .builtin .copy)(ha:c.args.toList=[x,y])(oy:c.argTypes.toList=[t,t'])(ht:P.underlying t=some (.slice el))
  (hi:P.info? el=some ti) (hx:cX x=some x') (hy:cX y=some y') (he:cZ E H k own (.copy el ti.size x' y')=some e) (bn:e.ob):Sound P o E H k e:=by
 have ha':c.args= #[x,y]:=by cases hh:c.args;simp [hh] at ha;simp [ha]
 have hat':c.argTypes= #[t,t']:=by cases hh:c.argTypes;simp [hh] at oy;simp [oy]
 have hin:x∈o.op.operands∧y∈o.op.operands:=by simp [ho,Op.operands,Call.operands,bR,ha']
 simp only [cZ] at he
 split at he <;> first | (cases he;done) | skip
 rename_i n off len m off' len' h1 h2
 split at he <;> first | (cases he;done) | skip
 rename_i tb cs tb' cs' hH hH'
 split at he <;> first | (cases he;done) | skip
 rename_i hone
 injection he with he
 subst he
 obtain ⟨b0,b1,b2,b3,b4⟩:=bn
 refine ⟨OT.Hq b0 fun p μ M a w hk hp hpm bn hom=> ?_,fun q ob hq=> ?_⟩
 ·obtain ⟨h0,vs,hb,hr⟩:=bn
  obtain ⟨h0',vs',hb',hr'⟩:=hom
  obtain ⟨A,cp,e1,e2,e3⟩:=(by simpa only [cI] using (hk.get hin.1 hx h1).rep:∃ A c,a.eval x= .slice (some A) len c∧len≤c∧(len≠0→A=⟨(μ n).blk,off,none⟩))
  have e3:=e3 (by omega)
  subst e3
  obtain ⟨A,cp',f1,f2,f3⟩:=(by simpa only [cI] using (hk.get hin.2 hy h2).rep:∃ A c,a.eval y= .slice (some A) len' c∧len'≤c∧(len'≠0→A=⟨(μ m).blk,off',none⟩))
  have f3:=f3 (by omega)
  subst f3
  subst b4
  let us:List Value:=(vs'.toList.drop off').take (len*ti.size)
  have hru:aR p μ M ((cs'.drop off').take (len*ti.size)) us:=aR.take _ (aR.drop _ hr')
  have hul:us.length=len*ti.size:=by rw [hru.length];simp;omega
  have hone':∀ u∈us,u.oneCell'=true:=aR.BK (by
   rw [List.all_eq_true] at hone ⊢
   intro z hz
   exact hone z (List.mem_of_mem_drop (List.mem_of_mem_take hz))) hru
  have hvl:vs.size=cs.length:=by have:=hr.length;simpa using this
  have hf:=run_firstCells_some (P:=P) w ti.size len ⟨(μ m).blk,off',none⟩ len cp' us hul (fun j u hj=>by
   rw [dz,cell_of hb']
   simp only [us,List.getElem?_take,List.getElem?_drop] at hj
   split at hj
   ·simpa using hj
   ·cases hj)
  obtain ⟨w',hr'',q1,q2,q3,q4,q5,q6⟩:=gY (P:=P) us vs w off 0 hb (by rw [hul];omega) hone'
  refine ⟨.int .i64 (len:Nat),w',.inl ?_,Rp.aN.2 rfl,⟨h0,_,q1,?_⟩,fun b hb=>q2 b (hb h0),q3,q4,q5,q6⟩
  ·simp [execOp,ho,resolve,bR,ha',hat',invoke,builtin,Builtin.copy_,run_underlying ht,e1,f1,Builtin.lenOf,sizeOf,typeInfo,hi,hf,hr'',goInt]
  ·have:=aR.cU (o:=off) hr hru (by simp;omega)
   simpa using this
 ·rw [aa,bZ] at hq
  split at hq
  ·rename_i e;subst e;rw [← hq];exact hH
  ·split at hq
   ·rename_i e;subst e;rw [← hq];exact hH'
   ·cases hq
end
end
section
section
variable {P:Program} {o:Oper} {E:Nat→Option SV} {H:Nat→Option Ob} {k:Nat} {own:Bool} {e:kH}
theorem Ap {so:SO}(hc:cO P o.op=some so)(he:cZ E H k own so=some e)(bn:e.ob):Sound P o E H k e:=by
 cases hop:o.op <;> rw [hop] at hc <;> simp only [cO] at hc <;> try (cases hc;done)
 case move x=>
  obtain ⟨y,hy,rfl⟩:=Option.map_eq_some_iff.1 hc
  exact IT (.inl hop) hy he
 case assign x=>
  obtain ⟨y,hy,rfl⟩:=Option.map_eq_some_iff.1 hc
  exact IT (.inr hop) hy he
 case pick c x y=>
  split at hc <;> first | (cases hc;done) | skip
  rename_i h1 h2 h3
  injection hc with hc;subst hc
  exact G2 hop h1 h2 h3 he
 case alloc t=>
  obtain ⟨z,hz,rfl⟩:=Option.map_eq_some_iff.1 hc
  exact EO hop hz he
 case box t x=>
  obtain ⟨y,hy,rfl⟩:=Option.map_eq_some_iff.1 hc
  exact IU hop hy he
 case build t parts=>
  split at hc <;> first | (cases hc;done) | skip
  ·rename_i fs z ht hz
   split at hc <;> first | (cases hc;done) | skip
   rename_i Km
   obtain ⟨qs,hq,rfl⟩:=Option.map_eq_some_iff.1 hc
   exact He hop ht hz Km hq he bn
  ·rename_i n el z ht hz
   split at hc <;> first | (cases hc;done) | skip
   rename_i j hj
   obtain ⟨qs,hq,rfl⟩:=Option.map_eq_some_iff.1 hc
   exact Hf hop ht hz hj hq he bn
 case buildSlice t len parts=>
  split at hc <;> first | (cases hc;done) | skip
  rename_i el ht
  split at hc <;> first | (cases hc;done) | skip
  rename_i j z hj hz
  split at hc <;> first | (cases hc;done) | skip
  rename_i hsz
  obtain ⟨qs,hq,rfl⟩:=Option.map_eq_some_iff.1 hc
  exact I3 hop ht hj hz hsz hq he bn
 case load t x=>
  split at hc <;> first | (cases hc;done) | skip
  rename_i y sz h1 h2
  injection hc with hc;subst hc
  exact G3 hop h1 h2 he bn
 case store t x v=>
  split at hc <;> first | (cases hc;done) | skip
  rename_i h1 h2 h3
  injection hc with hc;subst hc
  exact EV hop h3 h1 h2 he bn
 case nilCheck x=>
  obtain ⟨y,hy,rfl⟩:=Option.map_eq_some_iff.1 hc
  exact G5 hop hy he
 case binOp op t x y t'=>
  split at hc
  ·rename_i hq
   split at hc
   ·split at hc <;> first | (cases hc;done) | skip
    rename_i h1 h2
    injection hc with hc;subst hc
    exact Gs hop h1 h2 he bn
   ·rename_i ht
    split at hc <;> first | (cases hc;done) | skip
    rename_i h1 h2
    injection hc with hc;subst hc
    exact I2 hop hq ht h1 h2 he
   ·rename_i fs ht
    split at hc <;> first | (cases hc;done) | skip
    rename_i h1 h2 h3
    split at hc <;> first | (cases hc;done) | skip
    rename_i hg
    injection hc with hc;subst hc
    exact Gu hop hq (.inl ⟨_,ht⟩) h3 (by simpa using hg) h1 h2 he
   ·rename_i n el ht
    split at hc <;> first | (cases hc;done) | skip
    rename_i h1 h2 h3
    split at hc <;> first | (cases hc;done) | skip
    rename_i hg
    injection hc with hc;subst hc
    exact Gu hop hq (.inr ⟨_,_,ht⟩) h3 (by simpa using hg) h1 h2 he
   ·split at hc <;> first | (cases hc;done) | skip
    rename_i h1 h2
    injection hc with hc;subst hc
    exact EU hop hq h1 h2 he bn
  ·split at hc <;> first | (cases hc;done) | skip
   rename_i h1 h2
   injection hc with hc;subst hc
   exact Gs hop h1 h2 he bn
 case unOp op t x=>
  cases op <;> simp only at hc <;> try (cases hc;done)
  ·obtain ⟨y,hy,rfl⟩:=Option.map_eq_some_iff.1 hc
   exact IW hop hy he
  ·obtain ⟨y,hy,rfl⟩:=Option.map_eq_some_iff.1 hc
   exact IV hop hy he
 case convert s d x=>
  split at hc <;> first | (cases hc;done) | skip
  rename_i h1 h2 h3
  injection hc with hc;subst hc
  exact G6 hop h1 h2 h3 he
 case makeFunc f a c=>
  split at hc <;> first | (cases hc;done) | skip
  rename_i h1 h2
  injection hc with hc;subst hc
  exact IY hop h1 h2 he
 case makeMap t r=>
  cases r <;> simp only at hc <;> try (cases hc;done)
  injection hc with hc;subst hc
  exact IZ hop he
 case makeSlice t l c=>
  split at hc <;> first | (cases hc;done) | skip
  rename_i el l' c' ht hl hc'
  split at hc <;> first | (cases hc;done) | skip
  rename_i i z hi hz
  split at hc <;> first | (cases hc;done) | skip
  rename_i hsz
  injection hc with hc;subst hc
  exact I4 hop ht hi hz hsz hl hc' he bn
 case slice t x lo hi mx=>
  cases mx with
  | some m=>
   cases lo <;> cases hi <;> simp only at hc <;> try (cases hc;done)
   rename_i h
   split at hc <;> first | (cases hc;done) | skip
   rename_i el x' h' m' ht hx hh hm
   split at hc <;> first | (cases hc;done) | skip
   rename_i j hj
   injection hc with hc;subst hc
   exact Hg hop ht hj hx hh hm he bn
  | none=>
  simp only at hc
  split at hc <;> first | (cases hc;done) | skip
  ·rename_i el x' lo' hi' ht hx hl hh
   split at hc <;> first | (cases hc;done) | skip
   rename_i j hj
   injection hc with hc;subst hc
   exact I5 hop ht hj hx hl hh he bn
  ·rename_i nn el x' lo' hi' ht hx hl hh
   split at hc <;> first | (cases hc;done) | skip
   rename_i j hj
   injection hc with hc;subst hc
   exact Hh hop ht hj hx hl hh he bn
 case fieldAddr s x f=>
  split at hc <;> first | (cases hc;done) | skip
  rename_i fs x' hs hx
  split at hc <;> first | (cases hc;done) | skip
  rename_i fl hf
  split at hc <;> first | (cases hc;done) | skip
  rename_i i hi
  split at hc <;> first | (cases hc;done) | skip
  rename_i KC
  injection hc with hc;subst hc
  exact I1 hop hs hf hi KC hx he
 case field t x f=>
  split at hc <;> first | (cases hc;done) | skip
  rename_i fs x' hs hx
  split at hc <;> first | (cases hc;done) | skip
  rename_i fl hf
  split at hc <;> first | (cases hc;done) | skip
  rename_i sz hz
  injection hc with hc;subst hc
  exact ER hop hs hf hz hx he bn
 case indexAddr t x i=>
  split at hc <;> first | (cases hc;done) | skip
  ·rename_i n el x' i' ht hx hi
   split at hc <;> first | (cases hc;done) | skip
   rename_i j hj
   injection hc with hc;subst hc
   exact G9 hop ht hj hx hi he bn
  ·rename_i el x' i' ht hx hi
   split at hc <;> first | (cases hc;done) | skip
   rename_i j hj
   injection hc with hc;subst hc
   exact G_ hop ht hj hx hi he bn
 case index t x i=>
  split at hc <;> first | (cases hc;done) | skip
  ·rename_i n el x' i' ht hx hi
   split at hc <;> first | (cases hc;done) | skip
   rename_i j sz hj hz
   split at hc <;> first | (cases hc;done) | skip
   rename_i Gt
   injection hc with hc;subst hc
   exact ES hop ht hj hz (by cases sz <;> simp_all [BE]) hx hi he bn
  ·rename_i x' i' ht hx hi
   injection hc with hc;subst hc
   exact G8 hop ht hx hi he bn
 case extract x i=>
  obtain ⟨y,hy,rfl⟩:=Option.map_eq_some_iff.1 hc
  exact IX hop hy he
 case lookup t m i ok=>
  split at hc <;> first | (cases hc;done) | skip
  rename_i kt et m' i' ht hm hi
  split at hc <;> first | (cases hc;done) | skip
  rename_i ks z hks hz
  injection hc with hc;subst hc
  exact Hj hop ht hm hi hks hz he
 case mapUpdate t m i v=>
  split at hc <;> first | (cases hc;done) | skip
  rename_i kt et m' i' v' ht hm hi hv
  split at hc <;> first | (cases hc;done) | skip
  rename_i ks hks
  injection hc with hc;subst hc
  exact BM (.inl hop) ht hm hi hv hks he
 case insert t m i v=>
  split at hc <;> first | (cases hc;done) | skip
  rename_i kt et m' i' v' ht hm hi hv
  split at hc <;> first | (cases hc;done) | skip
  rename_i ks hks
  injection hc with hc;subst hc
  exact BM (.inr hop) ht hm hi hv hks he
 case mapEntry t m i=>
  split at hc <;> first | (cases hc;done) | skip
  rename_i kt et m' i' ht hm hi
  split at hc <;> first | (cases hc;done) | skip
  rename_i ks z hks hz
  injection hc with hc;subst hc
  exact EZ hop ht hm hi hks hz he
 case entryStore t m s x=>
  split at hc <;> first | (cases hc;done) | skip
  rename_i m' s' x' hm hs hx
  injection hc with hc;subst hc
  exact E1 hop hm hs hx he
 case range t m=>
  split at hc <;> first | (cases hc;done) | skip
  rename_i kt et m' ht hm
  injection hc with hc;subst hc
  exact BP hop ht hm he
 case next it s=>
  split at hc
  ·cases hc
  ·obtain ⟨y,hy,rfl⟩:=Option.map_eq_some_iff.1 hc
   simp [cZ] at he
 case entry it=>
  obtain ⟨y,hy,rfl⟩:=Option.map_eq_some_iff.1 hc
  exact BQ hop hy he bn
 case call c=>
  split at hc <;> first | (cases hc;done) | skip
  ·rename_i x t bR ha oy
   split at hc <;> first | (cases hc;done) | skip
   ·rename_i el x' ht hx
    injection hc with hc;subst hc
    exact zo hop bR ha oy ht hx he
   ·rename_i kt et x' ht hx
    injection hc with hc;subst hc
    exact Hl hop bR ha oy ht hx he
   ·rename_i x' ht hx
    injection hc with hc;subst hc
    exact G7 hop bR ha oy ht hx he
  ·rename_i x t bR ha oy
   split at hc <;> first | (cases hc;done) | skip
   rename_i el x' ht hx
   split at hc <;> first | (cases hc;done) | skip
   rename_i i z hi hz
   split at hc <;> first | (cases hc;done) | skip
   rename_i hsz
   injection hc with hc;subst hc
   exact I8 hop bR ha oy ht hi hz hsz hx he bn
  ·rename_i x y t t' bR ha oy
   split at hc <;> first | (cases hc;done) | skip
   rename_i el x' y' ht hx hy
   split at hc <;> first | (cases hc;done) | skip
   rename_i i hi
   injection hc with hc;subst hc
   exact Hr hop bR ha oy ht hi hx hy he bn
  ·rename_i m i t t' bR ha oy
   split at hc <;> first | (cases hc;done) | skip
   rename_i kt et m' i' ht hm hi
   split at hc <;> first | (cases hc;done) | skip
   rename_i ks hks
   injection hc with hc;subst hc
   exact Ho hop bR ha oy ht hm hi hks he
  ·rename_i x y t t' bR ha oy
   split at hc <;> first | (cases hc;done) | skip
   rename_i htt
   subst htt
   split at hc <;> first | (cases hc;done) | skip
   rename_i el x' y' ht hx hy
   split at hc <;> first | (cases hc;done) | skip
   rename_i i z hi hz
   split at hc <;> first | (cases hc;done) | skip
   rename_i hzl
   injection hc with hc;subst hc
   exact BL hop bR ha oy ht hi hz hzl hx hy he bn
  ·split at hc <;> first | (cases hc;done) | skip
   injection hc with hc;subst hc
   simp [cZ] at he
  ·rename_i x y bR ha
   split at hc <;> first | (cases hc;done) | skip
   rename_i hx hy
   injection hc with hc;subst hc
   exact KA hop bR ha hx hy he
  ·rename_i x y bR ha
   split at hc <;> first | (cases hc;done) | skip
   rename_i hx hy
   injection hc with hc;subst hc
   exact KB hop bR ha hx hy he
def cg:SO→Bool
 | .alloc .. | .box .. | .store .. | .oU .. | .app .. | .zj | .Kl .. | .sF .. | .EL .. | .lI .. | .jY .. | .copy .. | .rj .. | .rm .. | .IS .. | .call .. =>false
 | _=>true
end
end
end Go.Sl
