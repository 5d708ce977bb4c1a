/-
 The machine does what 'sop' says: first part.
-/
import Derived.Test.YtaelhkkjgfobhaaGreatP1
import Derived.Maps.AppendAt
import Derived.ArgAppend
import Derived.Maps.Keyed
set_option linter.unusedSimpArgs false
set_option linter.unusedSectionVars false
set_option linter.unusedVariables false
namespace Go.Sl
open Go.RowKit
section
def Sound (P:Program)(o:Oper)(E:Nat→Option SV)(H:Nat→Option Ob)(k:Nat)(e:l6):Prop:=
 OT P o E e.F (fun n=>k≤n∧n<k+e.nk) e.v e.F'∧∀ n ob,lk e.F n=some ob→H n=some ob
section
variable {P:Program} {o:Oper} {E:Nat→Option SV} {H:Nat→Option Ob} {k:Nat} {own:Bool} {e:l6}
theorem aV:∀ n ob,lk ([]:Hp) n=some ob→H n=some ob:=fun n ob h=>by simp [bE] at h
theorem sub_one {n:Nat}{ob:Ob}(h:H n=some ob):∀ m kg,lk [(n,ob)] m=some kg→H m=some kg:=fun m kg hm=>by
 rw [cZ] at hm
 split at hm
 ·rename_i e
  simp at hm;subst hm;subst e;exact h
 ·cases hm
theorem LY {x:Operand}{y:X}(ho:o.op= .move x∨o.op= .assign x)(hx:cX x=some y)(he:dH E H k own (.mv y)=some e):Sound P o E H k e:=by
 simp only [dH] at he
 split at he <;> first | (cases he;done) | skip
 rename_i s hs;injection he with he;subst he;refine ⟨OT.pure fun p μ M a w hk hS=>⟨a.eval x,?_,hk.get (by rcases ho with h | h <;> simp [h,Op.operands]) hx hs⟩,aV⟩;rcases ho with h | h <;> simp [execOp,h]
theorem J8 {c x y:Operand}{c' x' y':X}(ho:o.op= .pick c x y)(hc:cX c=some c')(hx:cX x=some x')(hy:cX y=some y')(he:dH E H k own (.pick c' x' y')=some e):Sound P o E H k e:=by
 simp only [dH] at he
 split at he <;> first | (cases he;done) | skip
 ·rename_i hb
  split at he <;> first | (cases he;done) | skip
  rename_i s hs;injection he with he;subst he;refine ⟨OT.pure fun p μ M a w hk hS=>⟨a.eval x,?_,hk.get (by simp [ho,Op.operands]) hx hs⟩,aV⟩;have:=Rp.bG.1 (hk.get (by simp [ho,Op.operands]) hc hb);simp [execOp,ho,this,asBool]
 ·rename_i hb
  split at he <;> first | (cases he;done) | skip
  rename_i s hs;injection he with he;subst he;refine ⟨OT.pure fun p μ M a w hk hS=>⟨a.eval y,?_,hk.get (by simp [ho,Op.operands]) hy hs⟩,aV⟩;have:=Rp.bG.1 (hk.get (by simp [ho,Op.operands]) hc hb);simp [execOp,ho,this,asBool]
theorem Rp.DW {p:Nat→Prop}{μ:Nat→Nm}{M:Mem}{n off:Nat}(hp:p n):Rp p μ M (.ptr n off) (.pointer (some ⟨(μ n).blk,off,none⟩)):=fun a_ h=>by
 simp [dy,h n hp]
theorem Rp.r8 {p:Nat→Prop}{μ:Nat→Nm}{M:Mem}{n off:Nat}{v:Value}(h:Rp p μ M (.ptr n off) v):v= .pointer (some ⟨(μ n).blk,off,none⟩):=by
 simpa [dy] using h.rep
theorem Rp.lI {p:Nat→Prop}{μ:Nat→Nm}{M:Mem}{n len:Nat}{v:Value}(h:Rp p μ M (.gs n len) v):((μ n).live=true∧v= .slice (some ⟨(μ n).blk,0,none⟩) len (μ n).cap)∨((μ n).live=false∧len=0∧∃ A,v= .slice A 0 0):=by
 simpa [dy] using h.rep
theorem Hf {t:TypeId}{z:List SV}(ho:o.op= .alloc t)(hz:gi P t=some z)(he:dH E H k own (.alloc t z)=some e):Sound P o E H k e:=by
 simp only [dH] at he;injection he with he;subst he;refine ⟨OT.make fun p μ M a w hk hM=> ?_,aV⟩;obtain ⟨v,hv,_,h2⟩:=gA hz (p:=p) (μ:=μ) (M:=M);refine ⟨.pointer (some ⟨w.heap.size,0,none⟩),.cells v.cells t,0,?_,fun p' a_ hp kf hpk hk'=>⟨⟨rfl,v.cells,gz w _,?_⟩,?_⟩⟩
 ·simp [execOp,ho,Instr.alloc,hv,newVar,newRow]
 ·obtain ⟨v',hv',h1',_⟩:=gA hz (p:=p') (μ:=a_) (M:=M)
  have:=hv w;rw [hv' w] at this;injection this with this;subst this;exact h1'
 ·have:=Rp.DW (μ:=a_) (M:=M) (n:=k) (off:=0) hpk
  rwa [hk'] at this
theorem LZ {t:TypeId}{x:Operand}{y:X}(ho:o.op= .box t x)(hx:cX x=some y)(he:dH E H k own (.box t y)=some e):Sound P o E H k e:=by
 simp only [dH] at he
 split at he <;> first | (cases he;done) | skip
 rename_i s hs
 split at he <;> first | (cases he;done) | skip
 rename_i hone;injection he with he;subst he;refine ⟨OT.make fun p μ M a w hk hM=> ?_,aV⟩;have hv:=hk.get (by simp [ho,Op.operands]) hx hs;refine ⟨.pointer (some ⟨w.heap.size,0,none⟩),.cells (a.eval x).cells t,0,?_,fun p' a_ hp kf hpk hk'=>⟨⟨rfl,(a.eval x).cells,gz w _,?_⟩,?_⟩⟩
 ·simp [execOp,ho,Instr.box,newVar,newRow]
 ·exact (Rp.cells hone (hv.more hp kf (Mem.le_refl M))).1
 ·have:=Rp.DW (μ:=a_) (M:=M) (n:=k) (off:=0) hpk
  rwa [hk'] at this
theorem J9 {t:TypeId}{x:Operand}{y:X}{sz:Option Nat}(ho:o.op= .load t x)(hx:cX x=some y)(ht:dV P t=some sz)(he:dH E H k own (.load sz y)=some e)(bz:e.ob):Sound P o E H k e:=by
 simp only [dH] at he
 split at he <;> first | (cases he;done) | skip
 rename_i s hs
 split at he <;> first | (cases he;done) | skip
 rename_i cs off F hc
 split at he <;> first | (cases he;done) | skip
 rename_i v hv;injection he with he;subst he;refine ⟨OT.pure fun p μ M a w hk hS=> ?_,sU hc⟩;obtain ⟨b,q,e1,hr⟩:=pZ hc (hk.get (by simp [ho,Op.operands]) hx hs) hS;obtain ⟨u,hu,hr'⟩:=Bh ht hv bz hr;refine ⟨u,?_,hr'⟩;simp [execOp,ho,Instr.loadAt,e1,Instr.sureAddr,hu]
theorem J_ {x:Operand}{y:X}(ho:o.op= .nilCheck x)(hx:cX x=some y)(he:dH E H k own (.dR y)=some e):Sound P o E H k e:=by
 simp only [dH] at he
 split at he <;> first | (cases he;done) | skip
 ·rename_i n off hs
  injection he with he;subst he;refine ⟨OT.pure fun p μ M a w hk hS=>⟨a.eval x,?_,hk.get (by simp [ho,Op.operands]) hx hs⟩,aV⟩;have:=(hk.get (by simp [ho,Op.operands]) hx hs).r8;simp [execOp,ho,this]
 ·rename_i cs i hs
  injection he with he;subst he;refine ⟨OT.pure fun p μ M a w hk hS=>⟨a.eval x,?_,hk.get (by simp [ho,Op.operands]) hx hs⟩,aV⟩;obtain ⟨b,q,e1,_⟩:=(by simpa [dy] using (hk.get (by simp [ho,Op.operands]) hx hs).rep:∃ b q,a.eval x= .pointer (some ⟨b,q+i,none⟩)∧dB M b q cs);simp [execOp,ho,e1]
theorem L0 {t:TypeId}{x:Operand}{y:X}(ho:o.op= .unOp .not t x)(hx:cX x=some y)(he:dH E H k own (.not y)=some e):Sound P o E H k e:=by
 simp only [dH] at he
 split at he <;> first | (cases he;done) | skip
 rename_i b hs;injection he with he;subst he;refine ⟨OT.pure fun p μ M a w hk hS=>⟨.bool !b,?_,Rp.bG.2 rfl⟩,aV⟩;have:=Rp.bG.1 (hk.get (by simp [ho,Op.operands]) hx hs);simp [execOp,ho,this,Op.unary]
theorem L1 {t:TypeId}{x:Operand}{y:X}(ho:o.op= .unOp .neg t x)(hx:cX x=some y)(he:dH E H k own (.neg y)=some e):Sound P o E H k e:=by
 simp only [dH] at he
 split at he <;> first | (cases he;done) | skip
 rename_i kd n hs;injection he with he;subst he;refine ⟨OT.pure fun p μ M a w hk hS=>⟨.int kd (kd.wrap (-n)),?_,Rp.aL.2 rfl⟩,aV⟩;have:=Rp.aL.1 (hk.get (by simp [ho,Op.operands]) hx hs);simp [execOp,ho,this,Op.unary,Op.intArith]
theorem J' {s d:TypeId}{x:Operand}{y:X}{ks kd:IntKind}(ho:o.op= .convert s d x)(h1:P.underlying s=some (.int ks))(h2:P.underlying d=some (.int kd))(hx:cX x=some y)
  (he:dH E H k own (.conv kd y)=some e):Sound P o E H k e:=by
 simp only [dH] at he
 split at he <;> first | (cases he;done) | skip
 rename_i kk n hs;injection he with he;subst he;refine ⟨OT.pure fun p μ M a w hk hS=>⟨.int kd (kd.wrap n),?_,Rp.aL.2 rfl⟩,aV⟩;have:=Rp.aL.1 (hk.get (by simp [ho,Op.operands]) hx hs);simp [execOp,ho,this,convert,run_underlying h1,run_underlying h2,Conv.intToInt]
theorem L2 {x:Operand}{y:X}{i:Nat}(ho:o.op= .extract x i)(hx:cX x=some y)(he:dH E H k own (.ext i y)=some e):Sound P o E H k e:=by
 simp only [dH] at he
 split at he <;> first | (cases he;done) | skip
 rename_i cs hs
 split at he <;> first | (cases he;done) | skip
 rename_i v hv;injection he with he;subst he;refine ⟨OT.pure fun p μ M a w hk hS=> ?_,aV⟩;obtain ⟨vs,e1,hr⟩:=Rp.dX.1 (hk.get (by simp [ho,Op.operands]) hx hs);obtain ⟨u,hu,hu'⟩:=hr.get hv;refine ⟨u,?_,hu'⟩;have:vs[i]? =some u:=by simpa using hu
 simp [execOp,ho,e1,Instr.extract,this]
theorem Ka {c:Call}{t:TypeId}{x:Operand}{y:X}(ho:o.op= .call c)(cu:c.callee= .builtin .len)(ha:c.args.toList=[x])(p0:c.argTypes.toList=[t])(ht:P.underlying t=some .string)
  (hx:cX x=some y) (he:dH E H k own (.lens y)=some e):Sound P o E H k e:=by
 have ha':c.args= #[x]:=by cases hh:c.args;simp [hh] at ha;simp [ha]
 have hat':c.argTypes= #[t]:=by cases hh:c.argTypes;simp [hh] at p0;simp [p0]
 have hin:x∈o.op.operands:=by simp [ho,Op.operands,Call.operands,cu,ha']
 simp only [dH] at he
 split at he <;> first | (cases he;done) | skip
 rename_i s hs;injection he with he;subst he;refine ⟨OT.pure fun p μ M a w hk hS=>⟨.int .i64 s.length,?_,Rp.aL.2 rfl⟩,aV⟩;obtain ⟨b,e1,rfl⟩:=(by simpa [bX] using Rp.cU.1 (hk.get hin hx hs):∃ b:ByteArray,a.eval x= .string b∧b.data.toList.map UInt8.toNat=s);simp [execOp,ho,resolve,cu,ha',hat',invoke,builtin,e1,Builtin.len_,run_underlying ht,goInt]
theorem DX {b:ByteArray}{i:Nat}(h:i<b.data.size):b[i]? =some (b.data[i]):=by
 have h':i<b.size:=h;rw [getElem?_pos b i h'];rfl
theorem Kb {t:TypeId}{x i:Operand}{y j:X}(ho:o.op= .index t x i)(ht:P.underlying t=some .string)(hx:cX x=some y)(hj:cX i=some j)
  (he:dH E H k own (.dQ y j)=some e) (bz:e.ob):Sound P o E H k e:=by
 simp only [dH] at he
 split at he <;> first | (cases he;done) | skip
 rename_i s kk n hs hn;injection he with he;subst he;refine ⟨OT.pure fun p μ M a w hk hS=>⟨.int .u8 ((s.getD n.toNat 0:Nat):Int),?_,Rp.aL.2 rfl⟩,aV⟩;obtain ⟨b,e1,rfl⟩:=(by simpa [bX] using Rp.cU.1 (hk.get (by simp [ho,Op.operands]) hx hs):∃ b:ByteArray,a.eval x= .string b∧b.data.toList.map UInt8.toNat=s);have e2:=Rp.aL.1 (hk.get (by simp [ho,Op.operands]) hj hn);obtain ⟨h1,h2⟩:=bz;have h3:n.toNat<b.data.size:=by
  show n.toNat<b.size;simp at h2;omega
 have h4:=DX h3;have h5:b.data[n.toNat]? =some b.data[n.toNat]:=Array.getElem?_eq_getElem h3;simp [execOp,ho,Instr.index,run_underlying ht,e1,e2,asIntOf,h1,h4,h5]
theorem Bi {c:Call}{t:TypeId}{x:Operand}{y:X}{el:TypeId}(ho:o.op= .call c)(cu:c.callee= .builtin .len)(ha:c.args.toList=[x])(p0:c.argTypes.toList=[t])(ht:P.underlying t=some (.slice el))
  (hx:cX x=some y) (he:dH E H k own (.len y)=some e):Sound P o E H k e:=by
 have ha':c.args= #[x]:=by cases hh:c.args;simp [hh] at ha;simp [ha]
 have hat':c.argTypes= #[t]:=by cases hh:c.argTypes;simp [hh] at p0;simp [p0]
 have hin:x∈o.op.operands:=by simp [ho,Op.operands,Call.operands,cu,ha']
 have run:∀ (a:Act) (w:World) (A:Option Addr) (n cp:Nat),a.eval x= .slice A n cp→(execOp a.eval o).run P w= .ok (.value (.int .i64 n)) w:=by
  intro a w A n cp h;simp [execOp,ho,resolve,cu,ha',hat',invoke,builtin,h,Builtin.len_,run_underlying ht,goInt]
 simp only [dH] at he
 split at he <;> first | (cases he;done) | skip
 ·rename_i n cs hs
  injection he with he;subst he;refine ⟨OT.pure fun p μ M a w hk hS=>⟨.int .i64 n,?_,Rp.aL.2 rfl⟩,aV⟩;obtain ⟨A,cp,e1,_⟩:=(by simpa [bX] using Rp.cU.1 (hk.get hin hx hs):∃ A cp,a.eval x= .slice A n cp∧_);exact run a w A n cp e1
 ·rename_i hs
  injection he with he;subst he;refine ⟨OT.pure fun p μ M a w hk hS=>⟨.int .i64 0,?_,Rp.aL.2 rfl⟩,aV⟩;have e1:a.eval x= .slice none 0 0:=by simpa [bX] using Rp.cU.1 (hk.get hin hx hs)
  exact run a w none 0 0 e1
 ·rename_i m n hs
  injection he with he;subst he;refine ⟨OT.pure fun p μ M a w hk hS=>⟨.int .i64 n,?_,Rp.aL.2 rfl⟩,aV⟩;rcases (hk.get hin hx hs).lI with ⟨_,e1⟩ | ⟨_,rfl,_,e1⟩
  ·exact run a w _ n _ e1
  ·exact run a w _ 0 _ e1
 ·rename_i m off n hs
  injection he with he;subst he;refine ⟨OT.pure fun p μ M a w hk hS=>⟨.int .i64 n,?_,Rp.aL.2 rfl⟩,aV⟩;obtain ⟨A,c,e1,_⟩:=(by simpa [dy] using (hk.get hin hx hs).rep:∃ A c,a.eval x= .slice (some A) n c∧_);exact run a w _ n _ e1
theorem NC {c:Call}{x y:Operand}{x' y':X}(ho:o.op= .call c)(cu:c.callee= .builtin .max)(ha:c.args.toList=[x,y])
  (hx:cX x=some x') (hy:cX y=some y') (he:dH E H k own (.mx x' y')=some e):Sound P o E H k e:=by
 have ha':c.args= #[x,y]:=by cases hh:c.args;simp [hh] at ha;simp [ha]
 simp only [dH] at he
 split at he <;> first | (cases he;done) | skip
 rename_i kk m Jt n h1 h2;injection he with he;subst he;refine ⟨OT.pure fun p μ M a w hk hS=>⟨_,?_,Rp.aL.2 rfl⟩,aV⟩;have e1:=Rp.aL.1 (hk.get (by simp [ho,Op.operands,Call.operands,cu,ha']) hx h1);have e2:=Rp.aL.1 (hk.get (by simp [ho,Op.operands,Call.operands,cu,ha']) hy h2);simp [execOp,ho,resolve,cu,ha',invoke,builtin,e1,e2,Builtin.max_,Builtin.max2]
theorem ND {c:Call}{x y:Operand}{x' y':X}(ho:o.op= .call c)(cu:c.callee= .builtin .min)(ha:c.args.toList=[x,y])
  (hx:cX x=some x') (hy:cX y=some y') (he:dH E H k own (.mn x' y')=some e):Sound P o E H k e:=by
 have ha':c.args= #[x,y]:=by cases hh:c.args;simp [hh] at ha;simp [ha]
 simp only [dH] at he
 split at he <;> first | (cases he;done) | skip
 rename_i kk m Jt n h1 h2;injection he with he;subst he;refine ⟨OT.pure fun p μ M a w hk hS=>⟨_,?_,Rp.aL.2 rfl⟩,aV⟩;have e1:=Rp.aL.1 (hk.get (by simp [ho,Op.operands,Call.operands,cu,ha']) hx h1);have e2:=Rp.aL.1 (hk.get (by simp [ho,Op.operands,Call.operands,cu,ha']) hy h2);simp [execOp,ho,resolve,cu,ha',invoke,builtin,e1,e2,Builtin.min_,Builtin.min2]
theorem L3 {f:Fn}{a c:Array Operand}{a' c':List X}(ho:o.op= .makeFunc f a c)(ha:DJ a.toList=some a')(hc:DJ c.toList=some c')(he:dH E H k own (.sQ f a' c')=some e):Sound P o E H k e:=by
 simp only [dH] at he
 split at he <;> first | (cases he;done) | skip
 rename_i s s' h1 h2;injection he with he;subst he;refine ⟨OT.pure fun p μ M ac w hk hS=>⟨.func f (a.map ac.eval) (c.map ac.eval),by simp [execOp,ho,Instr.makeFunc],Rp.rX.2 ⟨_,_,rfl,?_,?_⟩⟩,aV⟩
 ·simpa using hk.DS (os:=a.toList) (fun x hx=>by rw [ho];simp only [Op.operands,Array.mem_append];exact .inl (by simpa using hx)) ha h1
 ·simpa using hk.DS (os:=c.toList) (fun x hx=>by rw [ho];simp only [Op.operands,Array.mem_append];exact .inr (by simpa using hx)) hc h2
theorem L4 {t:TypeId}(ho:o.op= .makeMap t none)(he:dH E H k own .zZ=some e):Sound P o E H k e:=by
 simp only [dH] at he;injection he with he;subst he;refine ⟨OT.make fun p μ M a w hk hM=>⟨.map (some w.heap.size),.map #[] 0,0,?_,fun p' a_ hp kf hpk hk'=>⟨⟨rfl,#[],gz w _,by simp [gP]⟩,fun ν ic=> ?_⟩⟩,aV⟩
 ·simp [execOp,ho,Instr.makeMap]
 ·exact .inl (by simp [ic k hpk,hk'])
theorem Bj {n:Nat}{s v:SV}(h:DT n s=some v){p:Nat→Prop}{μ:Nat→Nm}{M:Mem}{u:Value}(hu:Rp p μ M s u):
  ∃ b q,u= .pointer (some ⟨b,q,none⟩)∧Rp p μ M v (.pointer (some ⟨b,q+n,none⟩)):=by
 cases s <;> simp [DT] at h
 case ptr m off=>
  subst h;refine ⟨(μ m).blk,off,hu.r8,fun ν ic=> ?_⟩;have h1:=hu ν ic;have h2:=hu.rep;simp only [dy] at h1 h2 ⊢;rw [h2] at h1;injection h1 with h1;injection h1 with h1;injection h1 with h1;rw [h1]
 case vp cs i=>
  subst h;obtain ⟨b,q,e1,hr⟩:=(by simpa [dy] using hu.rep:∃ b q,u= .pointer (some ⟨b,q+i,none⟩)∧dB M b q cs);refine ⟨b,q+i,e1,fun ν ic=> ?_⟩;simp only [dy];exact ⟨b,q,by rw [Nat.add_assoc],hr⟩
theorem L5 {s:TypeId}{x:Operand}{y:X}{f:Nat}{fs:Array Field}{fl:Field}{i:TypeInfo}(ho:o.op= .fieldAddr s x f)(hs:P.underlying s=some (.struct fs))(hf:fs[f]? =some fl)
  (hi:P.info? fl.type=some i) (NF: ¬ i.size=0) (hx:cX x=some y) (he:dH E H k own (.aX fl.offset y)=some e):Sound P o E H k e:=by
 simp only [dH] at he
 split at he <;> first | (cases he;done) | skip
 rename_i sv hsv
 split at he <;> first | (cases he;done) | skip
 rename_i v hv;injection he with he;subst he;refine ⟨OT.pure fun p μ M a w hk hS=> ?_,aV⟩;obtain ⟨b,q,e1,hr⟩:=Bj hv (hk.get (by simp [ho,Op.operands]) hx hsv);refine ⟨_,?_,hr⟩;simp [execOp,ho,Instr.fieldAt,run_underlying hs,hf,e1,Instr.sureAddr,fieldPlace,dS hi,NF,ej]
theorem Kc {t el:TypeId}{n:Nat}{x i:Operand}{y j:X}{ti:TypeInfo}(ho:o.op= .indexAddr t x i)(ht:P.underlying t=some (.array n el))(hi:P.info? el=some ti)(hx:cX x=some y)(hj:cX i=some j)
  (he:dH E H k own (.Cc n ti.size y j)=some e) (bz:e.ob):Sound P o E H k e:=by
 simp only [dH] at he
 split at he <;> first | (cases he;done) | skip
 rename_i s kk m hs hm
 split at he <;> first | (cases he;done) | skip
 rename_i v hv;injection he with he;subst he;refine ⟨OT.pure fun p μ M a w hk hS=> ?_,aV⟩;obtain ⟨b,q,e1,hr⟩:=Bj hv (hk.get (by simp [ho,Op.operands]) hx hs);have e2:=Rp.aL.1 (hk.get (by simp [ho,Op.operands]) hj hm);refine ⟨_,?_,hr⟩;simp [execOp,ho,Instr.indexAt,run_underlying ht,e1,e2,Instr.sureAddr,asIntOf,dS hi,bz.1,bz.2,ej]
theorem Ke {t el:TypeId}{x i:Operand}{y j:X}{ti:TypeInfo}(ho:o.op= .indexAddr t x i)(ht:P.underlying t=some (.slice el))(hi:P.info? el=some ti)(hx:cX x=some y)(hj:cX i=some j)
  (he:dH E H k own (.eD ti.size y j)=some e) (bz:e.ob):Sound P o E H k e:=by
 simp only [dH] at he
 split at he <;> first | (cases he;done) | skip
 ·rename_i n cs kk m hs hm
  injection he with he;subst he;refine ⟨OT.pure fun p μ M a w hk hS=> ?_,aV⟩;have hob1:0≤m:=bz.1;have hob2:m<(n:Int):=bz.2;obtain ⟨A,cp,e1,_,_,h4⟩:=(by simpa [bX] using Rp.cU.1 (hk.get (by simp [ho,Op.operands]) hx hs):∃ A cp,a.eval x= .slice A n cp∧n≤cp∧(n=0→cs=[])∧(0<n→∃ b q,A=some ⟨b,q,none⟩∧dB M b q cs));obtain ⟨b,q,rfl,hr⟩:=h4 (by omega);have e2:=Rp.aL.1 (hk.get (by simp [ho,Op.operands]) hj hm);refine ⟨.pointer (some ⟨b,q+m.toNat*ti.size,none⟩),?_,fun ν ic=> ?_⟩
  ·simp [execOp,ho,Instr.indexAt,run_underlying ht,e1,e2,asIntOf,dS hi,hob1,hob2,ej]
  ·simp only [dy]
   exact ⟨b,q,rfl,hr⟩
 ·rename_i n l kk m hs hm
  injection he with he;subst he;refine ⟨OT.pure fun p μ M a w hk hS=> ?_,aV⟩;have hob1:0≤m:=bz.1;have hob2:m<(l:Int):=bz.2;have hs':=hk.get (by simp [ho,Op.operands]) hx hs;obtain ⟨hl,e1⟩:(μ n).live=true∧a.eval x= .slice (some ⟨(μ n).blk,0,none⟩) l (μ n).cap:=by
   rcases hs'.lI with h | ⟨_,h,_⟩
   ·exact h
   ·omega
  have e2:=Rp.aL.1 (hk.get (by simp [ho,Op.operands]) hj hm);refine ⟨.pointer (some ⟨(μ n).blk,0+m.toNat*ti.size,none⟩),?_,fun ν ic=> ?_⟩
  ·simp [execOp,ho,Instr.indexAt,run_underlying ht,e1,e2,asIntOf,dS hi,hob1,hob2,ej]
  ·have:=hs' ν ic
   rw [e1] at this;simp only [dy] at this ⊢;rcases this with ⟨_,this⟩ | ⟨_,h,_⟩
   ·injection this with t1
    injection t1 with t1;injection t1 with t1;rw [t1];simp
   ·omega
 ·rename_i n off l kk m hs hm
  injection he with he;subst he;refine ⟨OT.pure fun p μ M a w hk hS=> ?_,aV⟩;have hob1:0≤m:=bz.1;have hob2:m<(l:Int):=bz.2;have hs':=hk.get (by simp [ho,Op.operands]) hx hs;obtain ⟨A,c,e1,_,hA⟩:=(by simpa [dy] using hs'.rep:∃ A c,a.eval x= .slice (some A) l c∧l≤c∧(¬ l=0→A=⟨(μ n).blk,off,none⟩));have hA:=hA (by omega);subst hA;have e2:=Rp.aL.1 (hk.get (by simp [ho,Op.operands]) hj hm);refine ⟨.pointer (some ⟨(μ n).blk,off+m.toNat*ti.size,none⟩),?_,fun ν ic=> ?_⟩
  ·simp [execOp,ho,Instr.indexAt,run_underlying ht,e1,e2,asIntOf,dS hi,hob1,hob2,ej]
  ·have:=hs' ν ic
   rw [e1] at this;simp only [dy] at this ⊢;obtain ⟨A,c',h1,_,h2⟩:=this;injection h1 with h1;injection h1 with h1;have h2:=h2 (by omega);rw [← h1] at h2;injection h2 with h2;rw [h2]
theorem Hg {op:BinOp}{t:TypeId}{w:World}{ka kb:IntKind}{a b:Int}{v:SV}{ob:Prop}(hk:vv op ka kb=true)(h:vu op ka a b=some (v,ob))(bz:ob):
  ∃ u,(binOp op t (.int ka a) (.int kb b)).run P w= .ok u w∧∀ (p:Nat→Prop) (μ:Nat→Nm) (M:Mem),Rp p μ M v u:=by
 cases op <;> simp [vv] at hk <;> simp only [vu,Option.some.injEq,Prod.mk.injEq] at h <;> obtain ⟨rfl,rfl⟩:=h <;> (try subst hk)
 case add=>exact ⟨_,by rw [binOp_add];rfl,fun _ _ _=>Rp.aL.2 rfl⟩
 case sub=>exact ⟨_,by rw [binOp_sub];rfl,fun _ _ _=>Rp.aL.2 rfl⟩
 case mul=>exact ⟨_,by rw [binOp_mul];rfl,fun _ _ _=>Rp.aL.2 rfl⟩
 case quo=>exact ⟨_,by rw [binOp_quo];simp [Op.intDiv,bz],fun _ _ _=>Rp.aL.2 rfl⟩
 case rem=>exact ⟨_,by rw [binOp_rem];simp [Op.intDiv,bz],fun _ _ _=>Rp.aL.2 rfl⟩
 case and=>exact ⟨_,by rw [binOp_and];rfl,fun _ _ _=>Rp.aL.2 rfl⟩
 case or=>exact ⟨_,by rw [binOp_or];rfl,fun _ _ _=>Rp.aL.2 rfl⟩
 case xor=>exact ⟨_,by rw [binOp_xor];rfl,fun _ _ _=>Rp.aL.2 rfl⟩
 case andNot=>exact ⟨_,by rw [binOp_andNot];rfl,fun _ _ _=>Rp.aL.2 rfl⟩
 case shl=>exact ⟨_,by rw [binOp_shl,shift_shl ka kb a b bz.1 bz.2];rfl,fun _ _ _=>Rp.aL.2 rfl⟩
 case shr=>exact ⟨_,by rw [binOp_shr,shift_shr ka kb a b bz.1 bz.2];rfl,fun _ _ _=>Rp.aL.2 rfl⟩
 case eql=>exact ⟨_,by rw [binOp_eql];rfl,fun _ _ _=>Rp.bG.2 rfl⟩
 case neq=>exact ⟨_,by rw [binOp_neq];rfl,fun _ _ _=>Rp.bG.2 rfl⟩
 case lss=>exact ⟨_,by rw [binOp_lss];rfl,fun _ _ _=>Rp.bG.2 rfl⟩
 case leq=>exact ⟨_,by rw [binOp_leq];rfl,fun _ _ _=>Rp.bG.2 rfl⟩
 case gtr=>exact ⟨_,by rw [binOp_gtr];rfl,fun _ _ _=>Rp.bG.2 rfl⟩
 case geq=>exact ⟨_,by rw [binOp_geq];rfl,fun _ _ _=>Rp.bG.2 rfl⟩
theorem Ju {op:BinOp}{t t':TypeId}{x y:Operand}{x' y':X}(ho:o.op= .binOp op t x y t')(hx:cX x=some x')(hy:cX y=some y')(he:dH E H k own (.bin op x' y')=some e)(bz:e.ob):Sound P o E H k e:=by
 simp only [dH] at he
 split at he <;> first | (cases he;done) | skip
 rename_i ka a kb b h1 h2
 split at he <;> first | (cases he;done) | skip
 rename_i hkk
 split at he <;> first | (cases he;done) | skip
 rename_i v ob hv;injection he with he;subst he;refine ⟨OT.pure fun p μ M ac w hk hS=> ?_,aV⟩;have e1:=Rp.aL.1 (hk.get (by simp [ho,Op.operands]) hx h1);have e2:=Rp.aL.1 (hk.get (by simp [ho,Op.operands]) hy h2);obtain ⟨u,hu,hr⟩:=Hg (P:=P) (t:=t) (w:=w) hkk hv bz;refine ⟨u,?_,hr p μ M⟩;simp [execOp,ho,e1,e2,eqGuard_at_int,hu]
end
end
section
section
variable {P:Program} {o:Oper} {E:Nat→Option SV} {H:Nat→Option Ob} {k:Nat} {own:Bool} {e:l6}
theorem yw {w:World}{t:TypeId}{sz:Option Nat}(ht:dV P t=some sz){cs:List SV}{vs:Array Value}{off:Nat}{s:SV}(h:z7 cs off sz=some s)(hle:yh cs off sz){p:Nat→Prop}{μ:Nat→Nm}{M:Mem}
  (hr:aU p μ M cs vs.toList):∃ v,(part t vs off).run P w= .ok v w∧Rp p μ M s v:=by
 cases sz with
 | none=>
  obtain ⟨u,hu,hr'⟩:=hr.get h;have hu':vs[off]? =some u:=by simpa using hu
  exact ⟨u,by simp [part,r6 ht,hu'],hr'⟩
 | some m=>
  simp only [yh] at hle;simp [z7] at h;subst h;refine ⟨.agg (vs.extract off (off+m)),by simp [part,(kB ht).1,(kB ht).2],Rp.eT.2 ⟨_,rfl,?_⟩⟩;have:=(hr.drop off).take m
  simpa using this
theorem Hh {t:TypeId}{x:Operand}{y:X}{f:Nat}{fs:Array Field}{fl:Field}{sz:Option Nat}(ho:o.op= .field t x f)(hs:P.underlying t=some (.struct fs))(hf:fs[f]? =some fl)
  (hz:dV P fl.type=some sz) (hx:cX x=some y) (he:dH E H k own (.field fl.offset sz y)=some e) (bz:e.ob):Sound P o E H k e:=by
 simp only [dH] at he
 split at he <;> first | (cases he;done) | skip
 rename_i cs hcs
 split at he <;> first | (cases he;done) | skip
 rename_i v hv;injection he with he;subst he;refine ⟨OT.pure fun p μ M a w hk hS=> ?_,aV⟩;obtain ⟨vs,e1,hr⟩:=Rp.eT.1 (hk.get (by simp [ho,Op.operands]) hx hcs);obtain ⟨u,hu,hr'⟩:=yw (P:=P) (w:=w) hz hv bz hr;refine ⟨u,?_,hr'⟩;simp [execOp,ho,Instr.field,run_underlying hs,hf,e1,asAgg,hu]
theorem Hi {t el:TypeId}{n:Nat}{x i:Operand}{y j:X}{ti:TypeInfo}{sz:Option Nat}(ho:o.op= .index t x i)(ht:P.underlying t=some (.array n el))(hi:P.info? el=some ti)(hz:dV P el=some sz)
  (Jv:sz=(if sz.isSome then some ti.size else none)) (hx:cX x=some y) (hj:cX i=some j) (he:dH E H k own (.index n ti.size sz.isSome y j)=some e) (bz:e.ob):Sound P o E H k e:=by
 simp only [dH] at he
 split at he <;> first | (cases he;done) | skip
 rename_i cs kk m hs hm;rw [← Jv] at he
 split at he <;> first | (cases he;done) | skip
 rename_i v hv;injection he with he;subst he;refine ⟨OT.pure fun p μ M a w hk hS=> ?_,aV⟩;obtain ⟨vs,e1,hr⟩:=Rp.eT.1 (hk.get (by simp [ho,Op.operands]) hx hs);have e2:=Rp.aL.1 (hk.get (by simp [ho,Op.operands]) hj hm);obtain ⟨u,hu,hr'⟩:=yw (P:=P) (w:=w) hz hv bz.2 hr;refine ⟨u,?_,hr'⟩;have h1:=bz.1.1;have h2:=bz.1.2;simp [execOp,ho,Instr.index,run_underlying ht,e1,e2,asIntOf,h1,h2,dS hi,hu]
theorem Hj {kd:Bool}{s t:SV}{b:Bool}(h:G3 kd s t=some b){p:Nat→Prop}{μ:Nat→Nm}{M:Mem}{u v:Value}(hu:Rp p μ M s u)(hv:Rp p μ M t v):G2 kd u v=some b:=by
 unfold G3 at h
 split at h
 ·rw [Rp.aL.1 hu,Rp.aL.1 hv];exact h
 ·rw [Rp.bG.1 hu,Rp.bG.1 hv];exact h
 ·cases h
theorem mg:∀ {ks:List Bool} {ss ts:List SV} {b:Bool},jw ks ss ts=some b→∀ {p:Nat→Prop} {μ:Nat→Nm} {M:Mem} {us vs:List Value},aU p μ M ss us→aU p μ M ts vs→eZ ks us vs=some b
 | [],[],[],b,h,_,_,_,us,vs,hu,hv=>by rw [aU.aR.1 hu,aU.aR.1 hv];exact h
 | [],[],_::_,_,h,_,_,_,_,_,_,_=>by simp [jw] at h
 | [],_::_,_,_,h,_,_,_,_,_,_,_=>by simp [jw] at h
 | _::_,[],_,_,h,_,_,_,_,_,_,_=>by simp [jw] at h
 | _::_,_::_,[],_,h,_,_,_,_,_,_,_=>by simp [jw] at h
 | kd::ks,s::ss,t::ts,b,h,p,μ,M,us,vs,hu,hv=>by
  simp only [jw] at h
  split at h
  ·rename_i a b' h1 h2
   obtain ⟨u,us',rfl,hu1,hu2⟩:=aU.aD.1 hu;obtain ⟨v,vs',rfl,hv1,hv2⟩:=aU.aD.1 hv;simp only [eZ,Hj h1 hu1 hv1,mg h2 hu2 hv2];exact h
  ·cases h
theorem mS {op:BinOp}(h:isEq op=true):op= .eql∨op= .neq:=by
 cases op <;> simp [isEq] at h <;> simp
theorem Jw {op:BinOp}{t t':TypeId}{x y:Operand}{x' y':X}{ks:List Bool}(ho:o.op= .binOp op t x y t')(hop:isEq op=true)(ht:(∃ fs,P.underlying t=some (.struct fs))∨∃ n el,P.underlying t=some (.array n el))(hks:bA P 10000 t=some ks)
  (hg:P.eqGuardType P.depth t=false) (hx:cX x=some x') (hy:cX y=some y') (he:dH E H k own (.eqv (eG op) ks x' y')=some e):Sound P o E H k e:=by
 simp only [dH] at he
 split at he <;> first | (cases he;done) | skip
 rename_i s s' h1 h2
 split at he <;> first | (cases he;done) | skip
 rename_i b hb;injection he with he;subst he;refine ⟨OT.pure fun p μ M a w hk hS=>⟨.bool (bif eG op then !b else b),?_,Rp.bG.2 rfl⟩,aV⟩;obtain ⟨xs,e1,r1⟩:=Rp.eT.1 (hk.get (by simp [ho,Op.operands]) hx h1);obtain ⟨ys,e2,r2⟩:=Rp.eT.1 (hk.get (by simp [ho,Op.operands]) hy h2);have hc:=mg hb r1 r2;have heq:=sV (P:=P) (w:=w) 10000 t ks _ _ b hks hc;have hty:∃ n,dV P t=some (some n):=by
  rcases ko hks with ⟨t1,_⟩ | t1
  ·exfalso
   obtain ⟨i,hi,_⟩:=mR hks;rcases ht with ⟨fs,ht⟩ | ⟨n,el,ht⟩ <;> simp [dV,ht,hi] at t1
  ·exact ⟨_,t1⟩
 obtain ⟨n,hty⟩:=hty;simp only [valOf,hty] at heq;have hgu:(eqGuard op t x y (.agg xs) (.agg ys)).run P w= .ok () w:=run_eqGuard_agg w op t x y xs ys hg;rcases mS hop with rfl | rfl <;> simp [execOp,ho,e1,e2,hgu,binOp,Op.equal,Op.maxDepth,heq,eG]
theorem L6 {op:BinOp}{t t':TypeId}{x y:Operand}{x' y':X}(ho:o.op= .binOp op t x y t')(hop:isEq op=true)(ht:P.underlying t=some .bool)
  (hx:cX x=some x') (hy:cX y=some y') (he:dH E H k own (.qC (eG op) x' y')=some e):Sound P o E H k e:=by
 simp only [dH] at he
 split at he <;> first | (cases he;done) | skip
 rename_i s s' h1 h2;injection he with he;subst he;refine ⟨OT.pure fun p μ M a w hk hS=>⟨.bool (bif eG op then !(s == s') else s == s'),?_,Rp.bG.2 rfl⟩,aV⟩;have e1:=Rp.bG.1 (hk.get (by simp [ho,Op.operands]) hx h1);have e2:=Rp.bG.1 (hk.get (by simp [ho,Op.operands]) hy h2);have heq:=run_equalIn_bool (P:=P) w 9999 t s s' ht;rcases mS hop with rfl | rfl <;> simp [execOp,ho,e1,e2,eqGuard_at_bool,binOp,Op.equal,Op.maxDepth,heq,eG]
theorem Hl {op:BinOp}{t t':TypeId}{x y:Operand}{x':X}{kd:Nat}(ho:o.op= .binOp op t x y t')(hop:isEq op=true)(hy:yu P t y=some kd)
  (hx:cX x=some x') (he:dH E H k own (.kG (eG op) kd x')=some e) (bz:e.ob):Sound P o E H k e:=by
 have finF:∀ (F:Hp) (hF:∀ n ob,lk F n=some ob→H n=some ob) (b:Bool) (pp:Prop),(∀ (p:Nat→Prop) (μ:Nat→Nm) (M:Mem) (a:Act) (w:World),ig E o.op.operands p μ M a→bU p μ M (lk F) w→(∀ d,(Op.equalIn (d+1) t (a.eval x) (a.eval y)).run P w= .ok b w)∧
    (∀ kd n,a.eval x≠ .int kd n)∧(∀ q,a.eval x≠ .string q)∧(∀ q n,a.eval x≠ .float q n)∧(∀ q n m,a.eval x≠ .complex q n m)∧eqGuard op t x y (a.eval x) (a.eval y)=Pure.pure ())→
   Sound P o E H k ⟨.d (.bool (bif eG op then !b else b)),F,F,0,pp⟩:=by
  intro F hF b pp h;refine ⟨OT.pure fun p μ M a w hk hS=>⟨.bool (bif eG op then !b else b),?_,Rp.bG.2 rfl⟩,hF⟩;obtain ⟨h0,n1,n2,n3,n4,n5⟩:=h p μ M a w hk hS;have h1:=h0 9999;clear h0;have hb:(binOp op t (a.eval x) (a.eval y)).run P w= .ok (.bool (bif eG op then !b else b)) w:=by
   generalize a.eval x=u at*;generalize a.eval y=v at*;rcases mS hop with rfl | rfl <;> cases u <;> first
    | exact absurd rfl (n1 _ _)
    | exact absurd rfl (n2 _)
    | exact absurd rfl (n3 _ _)
    | exact absurd rfl (n4 _ _ _)
    | (cases v <;> simp [binOp,Op.equal,Op.maxDepth,h1,eG])
  simp only [execOp,ho,Sem.run_bind,n5,Sem.run_pure,Result.andThen_ok,hb]
 have fin:=finF [] aV;unfold yu at hy;simp only [dH] at he
 split at hy <;> first | (cases hy;done) | skip
 all_goals rename_i hty
 all_goals injection hy with hy
 all_goals subst hy
 all_goals split at he <;> first | (cases he;done) | skip
 all_goals first | contradiction | skip
 all_goals first | (rename_i hs;injection he with he;subst he) | skip
 ·have:=fin true True fun p μ M a w hk hS=>by
   have e1:a.eval x= .pointer none:=by simpa [bX] using Rp.cU.1 (hk.get (by simp [ho,Op.operands]) hx hs)
   refine ⟨fun d=>by rw [e1];simp [Act.eval,Op.equalIn,run_underlying hty],?_⟩;rw [e1];simp [eqGuard_at_pointer]
  cases hn:eG op <;> simpa [hn] using this
 ·rename_i n off _
  have:=fin false True fun p μ M a w hk hS=>by
   have e1:a.eval x= .pointer (some ⟨(μ n).blk,off,none⟩):=(hk.get (by simp [ho,Op.operands]) hx hs).r8;refine ⟨fun d=>by rw [e1];simp [Act.eval,Op.equalIn,run_underlying hty],?_⟩;rw [e1];simp [eqGuard_at_pointer]
  cases hn:eG op <;> simpa [hn] using this
 ·have:=fin false True fun p μ M a w hk hS=>by
   obtain ⟨b,q,e1⟩:∃ b q,a.eval x= .pointer (some ⟨b,q,none⟩):=by
    have:=(hk.get (by simp [ho,Op.operands]) hx hs).rep;simp only [dy] at this;obtain ⟨b,q,e1,_⟩:=this;exact ⟨b,_,e1⟩
   refine ⟨fun d=>by rw [e1];simp [Act.eval,Op.equalIn,run_underlying hty],?_⟩;rw [e1];simp [eqGuard_at_pointer]
  cases hn:eG op <;> simpa [hn] using this
 ·have:=fin true True fun p μ M a w hk hS=>by
   have e1:a.eval x= .map none:=by simpa [bX] using Rp.cU.1 (hk.get (by simp [ho,Op.operands]) hx hs)
   refine ⟨fun d=>by rw [e1];simp [Act.eval,Op.equalIn,run_underlying hty],?_⟩;rw [e1];simp [eqGuard_at_map]
  cases hn:eG op <;> simpa [hn] using this
 ·rename_i n _ hs
  split at he <;> first | (cases he;done) | skip
  ·rename_i es c hH
   injection he with he;subst he;have:=finF [(n,.map es c)] (sub_one hH) false True fun p μ M a w hk hS=>by
    have hl:(μ n).live=true:=hS.one.2.1.1;have e1:a.eval x= .map (some (μ n).blk):=by simpa [dy,hl] using (hk.get (by simp [ho,Op.operands]) hx hs).rep
    refine ⟨fun d=>by rw [e1];simp [Act.eval,Op.equalIn,run_underlying hty],?_⟩;rw [e1];simp [eqGuard_at_map]
   cases hn:eG op <;> simpa [hn] using this
  ·rename_i hH
   injection he with he;subst he;have:=finF [(n,.gp)] (sub_one hH) true True fun p μ M a w hk hS=>by
    have hl:(μ n).live=false:=hS.one.2.1;have e1:a.eval x= .map none:=by simpa [dy,hl] using (hk.get (by simp [ho,Op.operands]) hx hs).rep
    refine ⟨fun d=>by rw [e1];simp [Act.eval,Op.equalIn,run_underlying hty],?_⟩;rw [e1];simp [eqGuard_at_map]
   cases hn:eG op <;> simpa [hn] using this
 ·have:=fin true True fun p μ M a w hk hS=>by
   have e1:a.eval x= .nilFunc:=by simpa [bX] using Rp.cU.1 (hk.get (by simp [ho,Op.operands]) hx hs)
   refine ⟨fun d=>by rw [e1];simp [Act.eval,Op.equalIn,run_underlying hty],?_⟩;rw [e1];simp [eqGuard_at_nilFunc]
  cases hn:eG op <;> simpa [hn] using this
 ·have:=fin false True fun p μ M a w hk hS=>by
   obtain ⟨as,cs,e1,_⟩:=Rp.rX.1 (hk.get (by simp [ho,Op.operands]) hx hs);refine ⟨fun d=>by rw [e1];simp [Act.eval,Op.equalIn,run_underlying hty],?_⟩;rw [e1];simp [eqGuard_at_func]
  cases hn:eG op <;> simpa [hn] using this
 ·have:=fin true True fun p μ M a w hk hS=>by
   have e1:a.eval x= .slice none 0 0:=by simpa [bX] using Rp.cU.1 (hk.get (by simp [ho,Op.operands]) hx hs)
   refine ⟨fun d=>by rw [e1];simp [Act.eval,Op.equalIn,run_underlying hty],?_⟩;rw [e1];simp [eqGuard_at_slice]
  cases hn:eG op <;> simpa [hn] using this
 ·rename_i n len _
  have:=fin false (len≠0) fun p μ M a w hk hS=>by
   obtain ⟨_,e1⟩ | ⟨_,h,_⟩:=(hk.get (by simp [ho,Op.operands]) hx hs).lI
   rotate_left
   ·exact absurd h bz
   refine ⟨fun d=>by rw [e1];simp [Act.eval,Op.equalIn,run_underlying hty],?_⟩;rw [e1];simp [eqGuard_at_slice]
  cases hn:eG op <;> simpa [hn] using this
end
end
section
section
variable {P:Program} {o:Oper} {E:Nat→Option SV} {H:Nat→Option Ob} {k:Nat} {own:Bool} {e:l6}
theorem vQ (vs us:List Value)(o n:Nat)(h:o+us.length≤n)(hn:n≤vs.length):(pU vs o us).take n=pU (vs.take n) o us:=by
 have h0:o≤vs.length:=by omega
 unfold pU;apply List.ext_getElem?;intro i;simp only [List.getElem?_take,List.getElem?_append,List.length_append,List.length_take,List.getElem?_drop,Nat.min_eq_left h0,Nat.min_eq_left (show o≤min n vs.length by omega)]
 by_cases h1:i<n
 ·simp only [h1,if_true]
  by_cases h2:i<o
  ·simp [h2,show i<o+us.length by omega]
  ·by_cases h3:i<o+us.length
   ·simp [h2,h3]
   ·simp [h3,show o+us.length+(i - (o+us.length))<n by omega]
 ·simp only [h1,if_false]
  simp [show ¬ i<o+us.length by omega,show ¬ o+us.length+(i - (o+us.length))<n by omega]
theorem qK {w:World}{t ty:TypeId}{i:TypeInfo}{b off:Nat}{vs:Array Value}{v:Value}(hi:P.info? t=some i)(hb:w.heap[b]? =some (.cells vs ty (0,0)))(hs:v.cells.size=i.size)
  (h1:∀ u∈v.cells.toList,u.oneCell'=true) (hl:off+i.size≤vs.size):
  ∃ w',(storeVar t ⟨b,off,none⟩ v).run P w= .ok () w'∧w'.heap[b]? =some (.cells (pU vs.toList off v.cells.toList).toArray ty (0,0))∧(∀ c,c≠b→w'.heap[c]? =w.heap[c]?)∧
   w'.heap.size=w.heap.size∧w'.os=w.os∧Tape w w'∧w'.output=w.output:=by
 obtain ⟨w',hr,h2,h3⟩:=ja (P:=P) v.cells.toList vs w off 0 hb (by simp [hs];omega) h1;refine ⟨w',?_,by simpa using h2,h3⟩;simp [storeVar,dS hi,hs,hr]
theorem Ho {t:TypeId}{x v:Operand}{x' v':X}{i:TypeInfo}(ho:o.op= .store t x v)(hi:P.info? t=some i)(hx:cX x=some x')(hv:cX v=some v')
  (he:dH E H k own (.store i.size x' v')=some e) (bz:e.ob):Sound P o E H k e:=by
 simp only [dH] at he
 split at he <;> first | (cases he;done) | skip
 rename_i n off s h1 h2
 split at he <;> first | (cases he;done) | skip
 rename_i hone
 split at he <;> first | (cases he;done) | skip
 ·rename_i ty cs hH
  injection he with he;subst he;obtain ⟨hob1,hob2⟩:=bz;refine ⟨OT.write fun p μ M a w hk hp bz=> ?_,sub_one hH⟩;obtain ⟨h0,vs,hb,hr⟩:=bz;have e1:=(hk.get (by simp [ho,Op.operands]) hx h1).r8;obtain ⟨c1,c2⟩:=Rp.cells hone (hk.get (by simp [ho,Op.operands]) hv h2);have hvs:vs.size=cs.length:=by simpa using hr.length
  have hsz:(a.eval v).cells.size=i.size:=by have:=c1.length;simp at this;omega
  obtain ⟨w',hr',q1,q2,q3,q4,q5,q6⟩:=qK (P:=P) (v:=a.eval v) hi hb hsz c2 (off:=off) (by omega);refine ⟨undef,w',.inr ⟨?_,rfl⟩,Rp.any,⟨h0,_,q1,?_⟩,fun b hb=>q2 b (hb h0),q3,q4,q5,q6⟩
  ·simp [execOp,ho,Instr.storeAt,e1,Instr.sureAddr,hr']
  ·simpa using aU.cN hr c1 (by omega)
 ·rename_i el z l cs hH
  injection he with he;subst he;obtain ⟨hob1,hob2,hob3⟩:=bz;refine ⟨OT.write fun p μ M a w hk hp bz=> ?_,sub_one hH⟩;rcases bz with ⟨_,_,rfl⟩ | bz
  ·simp at hob2;omega
  obtain ⟨h0,vs,hb,hl1,hl2,LM,hl4,hr⟩:=bz;have e1:=(hk.get (by simp [ho,Op.operands]) hx h1).r8;obtain ⟨c1,c2⟩:=Rp.cells hone (hk.get (by simp [ho,Op.operands]) hv h2);have hle:l*z≤vs.size:=by rw [hl4];exact Nat.mul_le_mul_right z hl2
  have hsz:(a.eval v).cells.size=i.size:=by have:=c1.length;simp at this;omega
  obtain ⟨w',hr',q1,q2,q3,q4,q5,q6⟩:=qK (P:=P) (v:=a.eval v) hi hb hsz c2 (off:=off) (by omega);refine ⟨undef,w',.inr ⟨?_,rfl⟩,Rp.any,.inr ⟨h0,_,q1,?_,hl2,LM,?_,?_⟩,fun b hb=>q2 b (hb h0),q3,q4,q5,q6⟩
  ·simp [execOp,ho,Instr.storeAt,e1,Instr.sureAddr,hr']
  ·rw [qf (by omega)]
   simp;omega
  ·simp [pU]
   omega
  ·have lJ:(a.eval v).cells.toList.length=i.size:=by simpa using hsz
   have:=aU.cN (o:=off) hr c1 (by omega);rw [← vQ _ _ _ _ (by omega) (by simpa using hle)] at this
   simpa using this
theorem Af (us:List Value):∀ (j off:Nat) (vs:Array Value),off+j+us.length≤vs.size→((us.zipIdx j).foldl (fun cs (x:Value×Nat)=>cs.setIfInBounds (off+x.2) x.1) vs).toList=pU vs.toList (off+j) us:=by
 induction us with
 | nil=>intro j off vs _;simp [pU]
 | cons u us ih=>
  intro j off vs h;simp only [List.length_cons] at h;simp only [List.zipIdx_cons,List.foldl_cons];rw [ih (j+1) off _ (by simp;omega),Array.toList_setIfInBounds,show off+(j+1)=off+j+1 by omega];exact r7 vs.toList (off+j) u us (by simp;omega)
theorem qL (pl:Nat→Option (Nat×Nat)){p:Nat→Prop}{μ:Nat→Nm}{M:Mem}{a:Act}{xs:Array Operand}(hk:ig E xs p μ M a):∀ (parts:List (Nat×Operand)) (qs:List (Nat×Nat×X)) (ps:List (Nat×Nat×SV)) (cells cs:List SV) (ob:Prop) (vs:Array Value),
  lV pl parts=some qs→vn E qs=some ps→lU cells ps=some (cs,ob)→ob→(∀ x∈parts,x.2∈xs)→aU p μ M cells vs.toList→
  ∃ vs':Array Value,Instr.fill pl vs (parts.map fun (i,x)=>(i,a.eval x))=some vs'∧aU p μ M cs vs'.toList
 | [],qs,ps,cells,cs,ob,vs,h1,h2,h3,bz,_,hr=>by
  simp [lV] at h1;subst h1;simp [vn] at h2;subst h2;simp [lU] at h3;obtain ⟨rfl,_⟩:=h3;exact ⟨vs,rfl,hr⟩
 | (i,x)::parts,qs,ps,cells,cs,ob,vs,h1,h2,h3,bz,hin,hr=>by
  simp only [lV] at h1
  split at h1 <;> first | (cases h1;done) | skip
  rename_i off n y qs' hpl hy hqs;injection h1 with h1;subst h1;simp only [vn] at h2
  split at h2 <;> first | (cases h2;done) | skip
  rename_i s ss hs hss;injection h2 with h2;subst h2;simp only [lU] at h3
  split at h3 <;> first | (cases h3;done) | skip
  rename_i hone
  split at h3 <;> first | (cases h3;done) | skip
  rename_i cs' kg hb;injection h3 with h3;injection h3 with h3 h3';subst h3;subst h3';obtain ⟨hob1,hob2,hob3⟩:=bz;obtain ⟨c1,c2⟩:=Rp.cells hone (hk.get (hin (i,x) (by simp)) hy hs);have hvl:=hr.length;have lJ:=c1.length;simp only [Array.length_toList] at hvl lJ;have hsp:=aU.cN (o:=off) hr c1 (by omega);have hf:=Af (a.eval x).cells.toList 0 off vs (by simp;omega);simp only [Nat.add_zero] at hf;rw [← hf] at hsp;obtain ⟨vs',r1,r2⟩:=qL pl hk parts qs' ss _ _ kg _ hqs hss hb hob3 (fun y hy=>hin y (by simp [hy])) hsp;refine ⟨vs',?_,r2⟩;simp only [List.map_cons,Instr.fill,hpl];rw [if_neg (by simp;omega)];rw [← Array.foldl_toList,Array.toList_zipIdx];exact r1
theorem run_places {w:World}:∀ (fs:List Field),(fs.all fun f=>(P.info? f.type).isSome)=true→
  (fs.mapM (m:=Sem) fun f=>do pure (f.offset,← sizeOf f.type)).run P w= .ok (fs.map fun f=>(f.offset,P.cellsOf f.type)) w
 | [],_=>by simp
 | f::fs,h=>by
  simp only [List.all_cons,Bool.and_eq_true] at h;obtain ⟨i,hi⟩:=Option.isSome_iff_exists.1 h.1;have ih:=run_places (w:=w) fs h.2;simp only [List.mapM_cons,Sem.run_bind,dS hi,Result.andThen_ok,Sem.run_pure,ih,List.map_cons,Program.cellsOf,hi,Option.map_some,Option.getD_some]
theorem Ag {pl NG:Nat→Option (Nat×Nat)}:∀ (parts:List (Nat×Value)) (vs:Array Value),(∀ i,pl i=NG i)→Instr.fill pl vs parts=Instr.fill NG vs parts
 | parts,vs,h=>by rw [show pl=NG from funext h]
theorem Kf {t:TypeId}{parts:Array (Nat×Operand)}{fs:Array Field}{z:List SV}{qs:List (Nat×Nat×X)}(ho:o.op= .build t parts)(ht:P.underlying t=some (.struct fs))(hz:gi P t=some z)
  (Nr:fs.all (fun f=>(P.info? f.type).isSome)=true) (hq:lV (qJ P fs) parts.toList=some qs) (he:dH E H k own (.fL z qs)=some e) (bz:e.ob):Sound P o E H k e:=by
 simp only [dH] at he
 split at he <;> first | (cases he;done) | skip
 rename_i ps hps
 split at he <;> first | (cases he;done) | skip
 rename_i cs ob hb;injection he with he;subst he;refine ⟨OT.pure fun p μ M a w hk hS=> ?_,aV⟩;obtain ⟨v,hv,hr,_⟩:=gA hz (p:=p) (μ:=μ) (M:=M);obtain ⟨vs',r1,r2⟩:=qL (qJ P fs) hk parts.toList qs ps z cs ob v.cells hq hps hb bz (fun x hx=>by
  rw [ho];simp only [Op.operands,List.mem_toArray,List.mem_map];exact ⟨x,by simpa using hx,rfl⟩) hr
 refine ⟨.agg vs',?_,Rp.eT.2 ⟨_,rfl,r2⟩⟩;have hpl:(fs.mapM (m:=Sem) fun f=>do pure (f.offset,← sizeOf f.type)).run P w= .ok (fs.map fun f=>(f.offset,P.cellsOf f.type)) w:=by
  rw [← Array.toArray_toList (xs:=fs),List.mapM_toArray];rw [Sem.run_map,run_places fs.toList (by simpa using Nr)];simp only [Result.andThen_ok]
  congr 1
  apply Array.ext';simp
 have hpe:∀ i,(fs.map fun f=>(f.offset,P.cellsOf f.type))[i]? =qJ P fs i:=by
  intro i;unfold qJ;rw [Array.getElem?_map];cases hi:fs[i]? with
  | none=>rfl
  | some f=>
   have hf:(P.info? f.type).isSome=true:=by
    have:=Array.all_eq_true_iff_forall_mem.1 Nr f (Array.mem_of_getElem? hi);exact this
   obtain ⟨j,hj⟩:=Option.isSome_iff_exists.1 hf;simp [hj,Program.cellsOf]
 have hfill:Instr.fill ((fs.map fun f=>(f.offset,P.cellsOf f.type))[·]?) v.cells (parts.map fun (i,x)=>(i,a.eval x)).toList=some vs':=by
  rw [Ag _ _ hpe]
  simpa using r1
 simp only [execOp,ho,Instr.build,Sem.run_bind,hv w,Result.andThen_ok,run_underlying ht,hpl,hfill,Sem.run_pure]
theorem Kg {t el:TypeId}{n:Nat}{parts:Array (Nat×Operand)}{ti:TypeInfo}{z:List SV}{qs:List (Nat×Nat×X)}(ho:o.op= .build t parts)(ht:P.underlying t=some (.array n el))(hz:gi P t=some z)
  (hi:P.info? el=some ti) (hq:lV (fun i=>some (i*ti.size,ti.size)) parts.toList=some qs) (he:dH E H k own (.fL z qs)=some e) (bz:e.ob):Sound P o E H k e:=by
 simp only [dH] at he
 split at he <;> first | (cases he;done) | skip
 rename_i ps hps
 split at he <;> first | (cases he;done) | skip
 rename_i cs ob hb;injection he with he;subst he;refine ⟨OT.pure fun p μ M a w hk hS=> ?_,aV⟩;obtain ⟨v,hv,hr,_⟩:=gA hz (p:=p) (μ:=μ) (M:=M);obtain ⟨vs',r1,r2⟩:=qL _ hk parts.toList qs ps z cs ob v.cells hq hps hb bz (fun x hx=>by
  rw [ho];simp only [Op.operands,List.mem_toArray,List.mem_map];exact ⟨x,by simpa using hx,rfl⟩) hr
 refine ⟨.agg vs',?_,Rp.eT.2 ⟨_,rfl,r2⟩⟩;have hfill:Instr.fill (fun i=>some (i*ti.size,ti.size)) v.cells (parts.map fun (i,x)=>(i,a.eval x)).toList=some vs':=by simpa using r1
 simp only [execOp,ho,Instr.build,Sem.run_bind,hv w,Result.andThen_ok,run_underlying ht,dS hi,hfill,Sem.run_pure]
end
end
section
section
variable {P:Program} {o:Oper} {E:Nat→Option SV} {H:Nat→Option Ob} {k:Nat} {own:Bool} {e:l6}
theorem aU.mk {p:Nat→Prop}{μ:Nat→Nm}{M:Mem}:∀ {cs:List SV} {vs:List Value},vs.length=cs.length→(∀ (i:Nat) (c:SV),cs[i]? =some c→∃ u,vs[i]? =some u∧Rp p μ M c u)→aU p μ M cs vs
 | [],vs,hl,_=>by
  simp at hl;exact aU.aR.2 hl
 | c::cs,[],hl,_=>by simp at hl
 | c::cs,v::vs,hl,h=>by
  obtain ⟨u,hu,hr⟩:=h 0 c rfl;simp at hu;subst hu;exact aU.aD.2 ⟨_,_,rfl,hr,aU.mk (by simpa using hl) fun i c' hi=>by simpa using h (i+1) c' (by simpa using hi)⟩
theorem qM {α:Type}(z:List α):∀ (n i:Nat),i<n*z.length→((List.replicate n z).flatten)[i]? =z[i % z.length]?
 | 0,i,h=>by simp at h
 | n + 1,i,h=>by
  rw [List.replicate_succ,List.flatten_cons,List.getElem?_append]
  split
  ·rename_i hlt
   rw [Nat.mod_eq_of_lt hlt]
  ·rename_i hge
   have hpos:0<z.length:=by
    rcases Nat.eq_zero_or_pos z.length with h0 | h0
    ·rw [h0] at h;simp at h
    ·exact h0
   rw [Nat.add_mul,Nat.one_mul] at h;rw [qM z n (i - z.length) (by omega)]
   congr 1
   rw [Nat.mod_eq_sub_mod (a:=i) (by omega)]
theorem tV {p:Nat→Prop}{μ:Nat→Nm}{M:Mem}{z:List SV}{zs:Array Value}(hz:aU p μ M z zs.toList)(n m:Nat)(hm:m=n*z.length):
  aU p μ M ((List.replicate n z).flatten) ((Array.range m).map (zs[· % zs.size]!)).toList:=by
 subst hm;have hl:=hz.length;simp only [Array.length_toList] at hl;refine aU.mk (by simp) fun i c hi=> ?_
 have hlt:i<n*z.length:=by
  have:=(List.getElem?_eq_some_iff.1 hi).1
  simpa using this
 rw [qM z n i hlt] at hi;obtain ⟨u,hu,hr⟩:=hz.get hi;refine ⟨u,?_,hr⟩;have hpos:0<zs.size:=by
  rcases Nat.eq_zero_or_pos z.length with h0 | h0
  ·rw [h0] at hlt;simp at hlt
  ·omega
 have hu':zs[i % zs.size]? =some u:=by rw [hl];simpa using hu
 have hlt':i % zs.size<zs.size:=Nat.mod_lt _ hpos;rw [Array.getElem?_eq_getElem hlt'] at hu';injection hu' with hu';simp [hlt,getElem!_pos zs (i % zs.size) hlt',hu']
theorem Cd {p:Nat→Prop}{μ:Nat→Nm}{M:Mem}{t:TypeId}{z:List SV}(hz:gi P t=some z)(n m:Nat)(hm:m=n*z.length):∃ zs:Array Value,
  (m=0→zs= #[])∧(m≠0→∃ v,(∀ w:World,(zeroValue t).run P w= .ok v w)∧v.cells=zs)∧aU p μ M ((List.replicate n z).flatten) ((Array.range m).map (zs[· % zs.size]!)).toList:=by
 by_cases h0:m=0
 ·subst h0
  refine ⟨#[],fun _=>rfl,fun h=>absurd rfl h,?_⟩;have:(List.replicate n z).flatten=[]:=List.eq_nil_of_length_eq_zero (by simp;omega);rw [this];exact aU.aR.2 (by simp)
 ·obtain ⟨v,hv,hr,_⟩:=gA hz (p:=p) (μ:=μ) (M:=M)
  exact ⟨v.cells,fun h=>absurd h h0,fun _=>⟨v,hv,rfl⟩,tV hr n m hm⟩
theorem OT.Hq {v:SV}(h:∀ (p:Nat→Prop) (μ:Nat→Nm) (M:Mem) (a:Act) (w:World),ig E o.op.operands p μ M a→qE M w→
  ∃ u vs t,(execOp a.eval o).run P w= .ok (.value u) (w.alloc (.cells vs t))∧∀ M':Mem,Mem.le M M'→(∀ i,M' w.heap.size i=vs[i]?)→Rp p μ M' v u):OT P o E [] (fun n=>k≤n∧n<k+0) v []:=by
 intro rd p μ M a w K Q hnew hkn hS hK;obtain ⟨u,vs,t,hr,hu⟩:=h p μ M a w hkn hS.mem;have hno:=tT hS.mem (Nat.le_refl _)
 let M':Mem:=fun b i=>if b=w.heap.size then vs[i]? else M b i
 have hle:Mem.le M M':=fun b i x hx=>by
  have:b≠w.heap.size:=fun e=>by rw [e,hno] at hx;cases hx
  simp [M',this,hx]
 refine ij hr (hK u μ M' _ ((hu M' hle fun i=>by simp [M']).more (fun n h=> .inl h) (fun _ _=>rfl) (Mem.le_refl _)) ⟨⟨fun b i x hx=> ?_,hS.mem.kF.le hle⟩,fun n ob hn=>by simp [bE] at hn,fun n m hn=>by simp [bE] at hn⟩
  ⟨fun _ _=>rfl,hle,fun b hb _=>⟨jQ w _ hb,fun i=>by simp [M',Nat.ne_of_lt hb]⟩,by simp,fun n hn=>by simp [bE] at hn,rfl,⟨rfl,Nat.le_refl _⟩,rfl⟩)
 by_cases hb:b=w.heap.size
 ·subst hb
  simp [M'] at hx;rw [cell_of (gz w _),hx]
 ·simp [M',hb] at hx
  exact mc _ hS.mem b i x hx
theorem vR:∀ {cs:List SV} {ds:List DV},e_ cs=some ds→cs=ds.map .d
 | [],ds,h=>by simp [e_] at h;subst h;rfl
 | .d x::r,ds,h=>by
  simp only [e_] at h
  split at h
  ·rename_i xs hxs
   simp at h;subst h;simp [vR hxs]
  ·cases h
 | .ptr _ _::_,_,h | .gs _ _::_,_,h | .vp _ _::_,_,h | .mp _::_,_,h | .bs _ _ _::_,_,h | .it _::_,_,h | .yl _::_,_,h | .fn _ _ _::_,_,h | .agg _::_,_,h | .dm _::_,_,h | .any::_,_,h=>by simp [e_] at h
theorem Hr {p:Nat→Prop}{μ:Nat→Nm}{M M':Mem}{b:Nat}(hle:Mem.le M M'){vs:Array Value}(hM:∀ i,M' b i=vs[i]?){ds:List DV}(h:aU p μ M (ds.map .d) vs.toList):dB M' b 0 ds:=by
 refine dB.mk fun i c hi=> ?_
 obtain ⟨u,hu,hr⟩:=h.get (i:=i) (c:= .d c) (by simp [hi]);exact ⟨u,by rw [Nat.zero_add,hM];simpa using hu,(Rp.cU.1 hr).mono hle⟩
theorem Rp.DY {p:Nat→Prop}{μ:Nat→Nm}{M:Mem}{n len:Nat}(hp:p n)(hl:(μ n).live=true):Rp p μ M (.gs n len) (.slice (some ⟨(μ n).blk,0,none⟩) len (μ n).cap):=fun a_ h=>by
 simp [dy,h n hp,hl]
theorem sW:∀ {ps:List (Nat×Nat×SV)} {cells cs:List SV} {ob:Prop},lU cells ps=some (cs,ob)→ob→cs.length=cells.length
 | [],cells,cs,ob,h,_=>by simp [lU] at h;rw [← h.1]
 | (off,n,s)::ps,cells,cs,ob,h,bz=>by
  simp only [lU] at h
  split at h <;> first | (cases h;done) | skip
  split at h <;> first | (cases h;done) | skip
  rename_i cs' kg hb;injection h with h;injection h with h h';subst h;subst h';have:=sW hb bz.2.2;rw [this,qf (by have:=bz.1;have:=bz.2.1;omega)];simp;have:=bz.1;have:=bz.2.1;omega
theorem L7 {t el:TypeId}{len:Nat}{parts:Array (Nat×Operand)}{ti:TypeInfo}{z:List SV}{qs:List (Nat×Nat×X)}(ho:o.op= .buildSlice t len parts)(ht:P.underlying t=some (.slice el))(hi:P.info? el=some ti)(hz:gi P el=some z)
  (hsz:(len*ti.size≤16777216∧len≤16777216)∧z.length=ti.size) (hq:lV (fun i=>some (i*ti.size,ti.size)) parts.toList=some qs)
  (he:dH E H k own (.lB el ti.size len ((List.replicate len z).flatten) qs)=some e) (bz:e.ob):Sound P o E H k e:=by
 simp only [dH] at he
 split at he <;> first | (cases he;done) | skip
 rename_i ps hps
 split at he <;> first | (cases he;done) | skip
 rename_i cs ob hb
 split at he <;> first | (cases he;done) | skip
 rename_i hone;have lJ:ob→cs.length=len*ti.size:=fun h=>by rw [sW hb h];simp [hsz.2]
 have run:∀ (p:Nat→Prop) (μ:Nat→Nm) (M:Mem) (a:Act) (w:World),ob→ig E o.op.operands p μ M a→∃ vs:Array Value,(execOp a.eval o).run P w= .ok (.value (.slice (some ⟨w.heap.size,0,none⟩) len len)) (w.alloc (.cells vs el))∧aU p μ M cs vs.toList:=by
  intro p μ M a w bz hk;obtain ⟨zs,hz0,hz1,hr⟩:=Cd (P:=P) (p:=p) (μ:=μ) (M:=M) hz len (len*ti.size) (by rw [hsz.2]);obtain ⟨vs',r1,r2⟩:=qL _ hk parts.toList qs ps _ cs ob _ hq hps hb bz (fun x hx=>by
   rw [ho];simp only [Op.operands,List.mem_toArray,List.mem_map];exact ⟨x,by simpa using hx,rfl⟩) hr
  refine ⟨vs',?_,r2⟩;have hfill:Instr.fill (fun i=>some (i*ti.size,ti.size)) ((Array.range (len*ti.size)).map (zs[· % zs.size]!)) (parts.map fun (i,x)=>(i,a.eval x)).toList=some vs':=by simpa using r1
  have hgt: ¬ (len*ti.size>2 ^ 24):=by have:=hsz.1.1;omega
  by_cases h0:len*ti.size=0
  ·rw [hz0 h0] at hfill
   simp only [execOp,ho,Instr.buildSlice,Sem.run_bind,run_underlying ht,Result.andThen_ok,dS hi,hgt,if_false,if_pos h0,Sem.run_pure,hfill,newRow,run_newObj,World.alloc_eq]
  ·obtain ⟨v,hv,rfl⟩:=hz1 h0
   simp only [execOp,ho,Instr.buildSlice,Sem.run_bind,run_underlying ht,Result.andThen_ok,dS hi,hgt,if_false,if_neg h0,hv w,Sem.run_pure,hfill,newRow,run_newObj,World.alloc_eq]
 have arr:ob→Sound P o E H k ⟨.gs k len,[],[(k,.arr el ti.size len cs)],1,ob⟩:=by
  intro bz;refine ⟨OT.make fun p μ M a w hk hM=> ?_,aV⟩;obtain ⟨vs,hr,hc⟩:=run p μ M a w bz hk;have hvl:=hc.length;simp only [Array.length_toList] at hvl;refine ⟨_,_,len,hr,fun p' a_ hp kf hpk hk'=>⟨.inr ⟨rfl,vs,gz w _,lJ bz,Nat.le_refl _,?_,?_,?_⟩,?_⟩⟩
  ·show len≤maxLen
   have:=hsz.1.2;unfold maxLen;omega
  ·show vs.size=len*ti.size
   rw [hvl,lJ bz]
  ·rw [List.take_of_length_le (by rw [Array.length_toList,hvl,lJ bz];exact Nat.le_refl _)]
   exact hc.more hp kf (Mem.le_refl M)
  ·have:=Rp.DY (μ:=a_) (M:=M) (n:=k) (len:=len) hpk (by rw [hk'])
   rwa [hk'] at this
 split at he
 ·injection he with he
  subst he;exact arr bz
 ·rename_i hno
  split at he
  ·rename_i ds hds
   injection he with he;subst he;refine ⟨OT.Hq fun p μ M a w hk hM=> ?_,aV⟩;obtain ⟨vs,hr,hc⟩:=run p μ M a w bz hk;rw [vR hds] at hc;refine ⟨_,vs,el,hr,fun M' hle hM'=>Rp.cU.2 ?_⟩;simp only [bX];refine ⟨_,len,rfl,Nat.le_refl _,fun h0=> ?_,fun hpos=>⟨w.heap.size,0,rfl,Hr hle hM' hc⟩⟩;simp [h0] at hno
  ·injection he with he
   subst he;exact arr bz
theorem L8 {t el:TypeId}{l c:Operand}{l' c':X}{ti:TypeInfo}{z:List SV}(ho:o.op= .makeSlice t l c)(ht:P.underlying t=some (.slice el))(hi:P.info? el=some ti)(hz:gi P el=some z)(hsz:z.length=ti.size∧0<ti.size)
  (hl:cX l=some l') (hc:cX c=some c') (he:dH E H k own (.Nq el ti.size ti.bytes z l' c')=some e) (bz:e.ob):Sound P o E H k e:=by
 simp only [dH] at he
 split at he <;> first | (cases he;done) | skip
 rename_i kl lv kc cv h1 h2;injection he with he;subst he;obtain ⟨b1,b2,b3,b4⟩:=bz;refine ⟨OT.make fun p μ M a w hk hM=> ?_,aV⟩;have e1:=Rp.aL.1 (hk.get (by simp [ho,Op.operands]) hl h1);have e2:=Rp.aL.1 (hk.get (by simp [ho,Op.operands]) hc h2);obtain ⟨v,hv,hr,_⟩:=gA hz (p:=p) (μ:=μ) (M:=M);have hzv:ti.zero=some v:=by
  have hz':=hz;unfold gi at hz';rw [hi] at hz';cases Jv:ti.zero with
  | none=>simp [Jv] at hz'
  | some v'=>
   have:=hv w;rw [qG hi Jv] at this;injection this with this;rw [this]
 have hm:=tV hr cv.toNat (cv.toNat*ti.size) (by rw [hsz.1]);have hrun:=run_make (P:=P) w t el ti v ht hi hzv kl kc lv cv b1 b2 b4 b3;have hex:(execOp a.eval o).run P w= .ok (.value (.slice (some ⟨w.heap.size,0,none⟩) lv.toNat cv.toNat)) (w.alloc (.cells (madeCells v.cells (cv.toNat*ti.size)) el)):=by
  simp only [execOp,ho,e1,e2,Sem.run_bind,hrun,Result.andThen_ok,Sem.run_pure]
 have hle1:lv.toNat≤cv.toNat:=by omega
 have hle2:cv.toNat≤maxLen:=by unfold maxLen;omega
 refine ⟨_,_,cv.toNat,hex,fun p' a_ hp kf hpk hk'=>⟨.inr ⟨rfl,_,gz w _,by simp [hsz.1],hle1,hle2,?_,?_⟩,?_⟩⟩
 ·rw [size_madeCells]
 ·have hle:lv.toNat*ti.size≤cv.toNat*ti.size:=Nat.mul_le_mul_right _ (by omega)
  have h1:=(hm.more hp kf (Mem.le_refl M)).take (lv.toNat*ti.size);have h2:((List.replicate cv.toNat z).flatten).take (lv.toNat*ti.size)=(List.replicate lv.toNat z).flatten:=by
   apply List.ext_getElem?;intro i;rw [List.getElem?_take]
   split
   ·rename_i hlt
    rw [qM z _ _ (by rw [hsz.1];omega),qM z _ _ (by rw [hsz.1];omega)]
   ·rename_i hge
    rw [List.getElem?_eq_none (by simp [hsz.1];omega)]
  rw [h2] at h1;exact h1
 ·have:=Rp.DY (μ:=a_) (M:=M) (n:=k) (len:=lv.toNat) hpk (by rw [hk'])
  rwa [hk'] at this
end
end
section
section
variable {P:Program} {o:Oper} {E:Nat→Option SV} {H:Nat→Option Ob} {k:Nat} {own:Bool} {e:l6}
theorem gd {w:World}{kd:IntKind}{m:Int}{y:Nat}{code:BoundsCode}(h0:0≤m)(h1:m≤y):(Instr.sliceBound (.int kd m) y code).run P w= .ok m.toNat w:=by
 simp [Instr.sliceBound,asIntOf,h0,h1]
theorem o7 {w:World}{t el:TypeId}{ti:TypeInfo}(ht:P.underlying t=some (.slice el))(hi:P.info? el=some ti)(A:Option Addr)(n c:Nat)(lo hi':Option Value)(l h:Nat)(hn:n≤c)
  (hlo:(lo=none∧l=0)∨∃ kd m,lo=some (.int kd m)∧0≤m∧m.toNat=l) (hhi:(hi'=none∧h=n)∨∃ kd m,hi'=some (.int kd m)∧0≤m∧m.toNat=h) (Pu:l≤h) (Pv:h≤c):
  (Instr.sliceAt t (.slice A n c) lo hi' none).run P w= .ok (.slice (if c=l then A else A.map (·.add (l*ti.size))) (h - l) (c - l)) w:=by
 have hb:(Instr.sliceBounds true n c lo hi' none).run P w= .ok (l,h,c) w:=by
  rcases hlo with ⟨rfl,rfl⟩ | ⟨kl,ml,rfl,hl0,rfl⟩ <;> rcases hhi with ⟨rfl,rfl⟩ | ⟨kh,mh,rfl,hh0,rfl⟩
  ·simp [Instr.sliceBounds]
  ·simp [Instr.sliceBounds,gd (P:=P) (w:=w) (kd:=kh) (code:= .sliceAcap) hh0 (show mh≤(c:Int) by omega)]
  ·simp [Instr.sliceBounds,gd (P:=P) (w:=w) (kd:=kl) (code:= .sliceB) hl0 (show ml≤(h:Int) by omega)]
  ·simp [Instr.sliceBounds,gd (P:=P) (w:=w) (kd:=kh) (code:= .sliceAcap) hh0 (show mh≤(c:Int) by omega),gd (P:=P) (w:=w) (kd:=kl) (code:= .sliceB) hl0 (show ml≤(mh.toNat:Int) by omega)]
 simp [Instr.sliceAt,run_underlying ht,Instr.slice,hb,dS hi]
theorem fM {E:Nat→Option SV}{xs:Array Operand}{p:Nat→Prop}{μ:Nat→Nm}{M:Mem}{a:Act}(hk:ig E xs p μ M a){lo:Option Operand}{lo':Option X}{d l:Int}{kd dk:IntKind}
  (h:lW lo=some lo') (he:(match lo' with | some l=>ev E l | none=>some (.d (.int dk d)))=some (.d (.int kd l))) (hin:∀ x,lo=some x→x∈xs):
  (lo.map a.eval=none∧l=d)∨∃ kd m,lo.map a.eval=some (.int kd m)∧m=l:=by
 cases lo with
 | none=>
  simp [lW] at h;subst h;simp at he;exact .inl ⟨rfl,he.2.symm⟩
 | some x=>
  simp only [lW] at h;obtain ⟨y,hy,rfl⟩:=Option.map_eq_some_iff.1 h;have:=Rp.aL.1 (hk.get (hin x rfl) hy he);exact .inr ⟨kd,l,by simp [this],rfl⟩
theorem L9 {t el:TypeId}{ti:TypeInfo}{x:Operand}{lo hi:Option Operand}{x':X}{lo' hi':Option X}(ho:o.op= .slice t x lo hi none)(ht:P.underlying t=some (.slice el))(DK:P.info? el=some ti)(hx:cX x=some x')
  (hl:lW lo=some lo') (hh:lW hi=some hi') (he:dH E H k own (.slc ti.size x' lo' hi')=some e) (bz:e.ob):Sound P o E H k e:=by
 have hinl:∀ y,lo=some y→y∈o.op.operands:=fun y h=>by subst h;simp [ho,Op.operands]
 have hinh:∀ y,hi=some y→y∈o.op.operands:=fun y h=>by subst h;simp [ho,Op.operands]
 simp only [dH] at he
 split at he <;> first | (cases he;done) | skip
 ·rename_i n cs hs
  split at he <;> first | (cases he;done) | skip
  rename_i kl l kh h h1 h2;injection he with he;subst he;obtain ⟨b1,b2,b3,b4⟩:=bz;refine ⟨OT.pure fun p μ M a w hk hS=> ?_,aV⟩;obtain ⟨A,c,e1,e2,e3,e4⟩:=(by simpa [bX] using Rp.cU.1 (hk.get (by simp [ho,Op.operands]) hx hs):∃ A cp,a.eval x= .slice A n cp∧n≤cp∧(n=0→cs=[])∧(0<n→∃ b q,A=some ⟨b,q,none⟩∧dB M b q cs));have q1:=fM hk hl h1 hinl;have q2:=fM hk hh h2 hinh;have hr:=o7 (P:=P) (w:=w) ht DK A n c (lo.map a.eval) (hi.map a.eval) l.toNat h.toNat e2 (by
    rcases q1 with ⟨u,rfl⟩ | ⟨kd,m,u,rfl⟩
    ·exact .inl ⟨u,rfl⟩
    ·exact .inr ⟨kd,m,u,b1,rfl⟩) (by
    rcases q2 with ⟨u,rfl⟩ | ⟨kd,m,u,rfl⟩
    ·exact .inl ⟨u,by simp⟩
    ·exact .inr ⟨kd,m,u,by omega,rfl⟩) (by omega) (by omega)
  have hex:(execOp a.eval o).run P w= .ok (.value (.slice (if c=l.toNat then A else A.map (·.add (l.toNat*ti.size))) (h.toNat - l.toNat) (c - l.toNat))) w:=by
   simp only [execOp,ho,e1,Option.map_none,Sem.run_bind,hr,Result.andThen_ok,Sem.run_pure]
  refine ⟨_,hex,Rp.cU.2 ?_⟩;simp only [bX];refine ⟨_,_,rfl,by omega,fun h0=>by simp [h0],fun hpos=> ?_⟩;obtain ⟨b,q,rfl,hrr⟩:=e4 (by omega);rw [if_neg (by omega)];exact ⟨b,q+l.toNat*ti.size,by simp [ej],(hrr.drop _).take _⟩
 ·rename_i hs
  split at he <;> first | (cases he;done) | skip
  rename_i kl l kh h h1 h2;injection he with he;subst he;obtain ⟨b1,b2⟩:=bz;refine ⟨OT.pure fun p μ M a w hk hS=> ?_,aV⟩;have e1:a.eval x= .slice none 0 0:=by simpa [bX] using Rp.cU.1 (hk.get (by simp [ho,Op.operands]) hx hs)
  have q1:=fM hk hl h1 hinl;have q2:=fM hk hh h2 hinh;have hr:=o7 (P:=P) (w:=w) ht DK none 0 0 (lo.map a.eval) (hi.map a.eval) 0 0 (Nat.le_refl _) (by
    rcases q1 with ⟨u,rfl⟩ | ⟨kd,m,u,rfl⟩
    ·exact .inl ⟨u,rfl⟩
    ·exact .inr ⟨kd,m,u,by omega,by omega⟩) (by
    rcases q2 with ⟨u,rfl⟩ | ⟨kd,m,u,rfl⟩
    ·exact .inl ⟨u,rfl⟩
    ·exact .inr ⟨kd,m,u,by omega,by omega⟩) (Nat.le_refl _) (Nat.le_refl _)
  exact ⟨.slice none 0 0,by simp [execOp,ho,e1,hr],Rp.cU.2 (by simp [bX])⟩
 ·rename_i n len hs
  split at he <;> first | (cases he;done) | skip
  rename_i el' z len' cs hH
  split at he <;> first | (cases he;done) | skip
  ·rename_i kh h h2
   injection he with he;subst he;obtain ⟨b1,b2,b3⟩:=bz;subst b3;refine ⟨OT.pure fun p μ M a w hk hS=> ?_,sub_one hH⟩;have hlo:lo=none:=by
    cases lo with
    | none=>rfl
    | some y=>
     simp only [lW] at hl;obtain ⟨_,_,h⟩:=Option.map_eq_some_iff.1 hl;cases h
   have q2:=fM hk hh h2 hinh;have hs':=hk.get (by simp [ho,Op.operands]) hx hs;obtain ⟨hpn,bz,_⟩:=hS.one;have mk:∀ A c,a.eval x= .slice A len' c→len'≤c→(execOp a.eval o).run P w= .ok (.value (.slice A h.toNat c)) w:=fun A c e1 hc=>by
    have hr:=o7 (P:=P) (w:=w) ht DK A len' c (lo.map a.eval) (hi.map a.eval) 0 h.toNat hc (.inl ⟨by rw [hlo];rfl,rfl⟩) (by
     rcases q2 with ⟨u,rfl⟩ | ⟨kd,m,u,rfl⟩
     ·exact .inl ⟨u,by simp⟩
     ·exact .inr ⟨kd,m,u,by omega,rfl⟩) (by omega) (by omega)
    have hA:(if c=0 then A else A.map (·.add (0*ti.size)))=A:=by
     split
     ·rfl
     ·cases A with
      | none=>rfl
      | some ad=>obtain ⟨b,q,f⟩:=ad;cases f <;> simp [Addr.add]
    rw [hA] at hr;simp only [execOp,ho,e1,Option.map_none,Sem.run_bind,hr,Result.andThen_ok,Sem.run_pure,Nat.sub_zero]
   rcases hs'.lI with ⟨hlive,e1⟩ | ⟨hdead,h0,A,e1⟩
   ·have hcap:len'≤(μ n).cap:=by
     rcases bz with ⟨hd,_⟩ | ⟨_,_,_,_,h,_⟩
     ·rw [hlive] at hd;cases hd
     ·exact h
    refine ⟨_,mk _ _ e1 hcap,fun ν ic=> ?_⟩;have he:=ic n hpn;simp only [dy,he];exact .inl ⟨hlive,trivial⟩
   ·subst h0
    have e0:h.toNat=0:=by omega
    refine ⟨_,mk _ _ e1 (Nat.le_refl _),fun ν ic=> ?_⟩;have he:=ic n hpn;simp only [dy,he,e0];exact .inr ⟨hdead,trivial,A,rfl⟩
  ·rename_i ll kh h h2
   split at he <;> first | (cases he;done) | skip
   rename_i kl l h1;injection he with he;subst he;obtain ⟨b1,b2,b3,b4⟩:=bz;subst b4;refine ⟨OT.pure fun p μ M a w hk hS=> ?_,sub_one hH⟩;have q1:=fM (d:=0) (dk:= .i64) hk hl (show (match (some ll:Option X) with | some l=>ev E l | none=>some (.d (.int .i64 0)))=some (.d (.int kl l)) from h1) hinl;have q2:=fM hk hh h2 hinh;have hs':=hk.get (by simp [ho,Op.operands]) hx hs;obtain ⟨hpn,bz,_⟩:=hS.one;rcases hs'.lI with ⟨hlive,e1⟩ | ⟨hdead,h0,A,e1⟩
   ·have hcap:len'≤(μ n).cap:=by
     rcases bz with ⟨hd,_⟩ | ⟨_,_,_,_,h,_⟩
     ·rw [hlive] at hd;cases hd
     ·exact h
    have hr:=o7 (P:=P) (w:=w) ht DK (some ⟨(μ n).blk,0,none⟩) len' (μ n).cap (lo.map a.eval) (hi.map a.eval) l.toNat h.toNat hcap (by
     rcases q1 with ⟨u,rfl⟩ | ⟨kd,m,u,rfl⟩
     ·exact .inl ⟨u,rfl⟩
     ·exact .inr ⟨kd,m,u,by omega,rfl⟩) (by
     rcases q2 with ⟨u,rfl⟩ | ⟨kd,m,u,rfl⟩
     ·exact .inl ⟨u,by simp⟩
     ·exact .inr ⟨kd,m,u,by omega,rfl⟩) (by omega) (by omega)
    have hex:(execOp a.eval o).run P w= .ok (.value (.slice (some ⟨(μ n).blk,l.toNat*ti.size,none⟩) (h.toNat - l.toNat) ((μ n).cap - l.toNat))) w:=by
     rw [if_neg (by omega)] at hr;simp only [execOp,ho,e1,Option.map_none,Sem.run_bind,hr,Result.andThen_ok,Sem.run_pure,Option.map_some,ej,Nat.zero_add]
    refine ⟨_,hex,fun ν ic=> ?_⟩;have he:=ic n hpn;simp only [dy,he];exact ⟨_,_,rfl,by omega,fun _=>rfl⟩
   ·omega
theorem Kh {t el:TypeId}{ti:TypeInfo}{x h m:Operand}{x' h' m':X}(ho:o.op= .slice t x none (some h) (some m))(ht:P.underlying t=some (.slice el))(DK:P.info? el=some ti)(hx:cX x=some x')
  (hh:cX h=some h') (hm:cX m=some m') (he:dH E H k own (.J6 x' h' m')=some e) (bz:e.ob):Sound P o E H k e:=by
 have key:∀ (w:World) (A:Option Addr) (n c:Nat) (kh km:IntKind),n≤c→(Instr.sliceAt t (.slice A n c) none (some (.int kh n)) (some (.int km n))).run P w= .ok (.slice (if n=0 then A else A.map (·.add (0*ti.size))) n n) w:=fun w A n c kh km hc=>by
  have hb:(Instr.sliceBounds true n c none (some (.int kh n)) (some (.int km n))).run P w= .ok (0,n,n) w:=by
   simp [Instr.sliceBounds,gd (P:=P) (w:=w) (kd:=km) (code:= .slice3Acap) (Int.natCast_nonneg n) (show (n:Int)≤(c:Int) by omega),gd (P:=P) (w:=w) (kd:=kh) (code:= .slice3B) (Int.natCast_nonneg n) (show (n:Int)≤(n:Int) by omega)]
  simp [Instr.sliceAt,run_underlying ht,Instr.slice,hb,dS DK]
 simp only [dH] at he
 split at he <;> first | (cases he;done) | skip
 ·rename_i n cs kh h kl l h1 h2 h3
  injection he with he;subst he;obtain ⟨rfl,rfl⟩:=bz;refine ⟨OT.pure fun p μ M a w hk hS=> ?_,aV⟩;obtain ⟨A,c,e1,e2,e3,e4⟩:=(by simpa [bX] using Rp.cU.1 (hk.get (by simp [ho,Op.operands]) hx h1):∃ A cp,a.eval x= .slice A n cp∧n≤cp∧(n=0→cs=[])∧(0<n→∃ b q,A=some ⟨b,q,none⟩∧dB M b q cs));have q1:=Rp.aL.1 (hk.get (by simp [ho,Op.operands]) hh h2);have q2:=Rp.aL.1 (hk.get (by simp [ho,Op.operands]) hm h3);have hr:=key w A n c kh kl e2;refine ⟨_,by simp only [execOp,ho,e1,Option.map_none,Option.map_some,q1,q2,Sem.run_bind,hr,Result.andThen_ok,Sem.run_pure];rfl,Rp.cU.2 ?_⟩;simp only [bX];refine ⟨_,_,rfl,Nat.le_refl _,e3,fun hpos=> ?_⟩;obtain ⟨b,q,rfl,hrr⟩:=e4 hpos;rw [if_neg (by omega)];exact ⟨b,q,by simp [ej],hrr⟩
 ·rename_i kh h kl l h1 h2 h3
  injection he with he;subst he;obtain ⟨rfl,rfl⟩:=bz;refine ⟨OT.pure fun p μ M a w hk hS=> ?_,aV⟩;have e1:a.eval x= .slice none 0 0:=by simpa [bX] using Rp.cU.1 (hk.get (by simp [ho,Op.operands]) hx h1)
  have q1:=Rp.aL.1 (hk.get (by simp [ho,Op.operands]) hh h2);have q2:=Rp.aL.1 (hk.get (by simp [ho,Op.operands]) hm h3);have hr:(Instr.sliceAt t (.slice none 0 0) none (some (.int kh 0)) (some (.int kl 0))).run P w= .ok (.slice none 0 0) w:=by simpa using key w none 0 0 kh kl (Nat.le_refl _)
  exact ⟨.slice none 0 0,by simp only [execOp,ho,e1,Option.map_none,Option.map_some,q1,q2,Sem.run_bind,hr,Result.andThen_ok,Sem.run_pure],Rp.cU.2 (by simp [bX])⟩
theorem Ki {t el:TypeId}{nn:Nat}{ti:TypeInfo}{x:Operand}{lo hi:Option Operand}{x':X}{lo' hi':Option X}(ho:o.op= .slice t x lo hi none)(ht:P.underlying t=some (.array nn el))(DK:P.info? el=some ti)(hx:cX x=some x')
  (hl:lW lo=some lo') (hh:lW hi=some hi') (he:dH E H k own (.J5 nn ti.size x' lo' hi')=some e) (bz:e.ob):Sound P o E H k e:=by
 have hinl:∀ y,lo=some y→y∈o.op.operands:=fun y h=>by subst h;simp [ho,Op.operands]
 have hinh:∀ y,hi=some y→y∈o.op.operands:=fun y h=>by subst h;simp [ho,Op.operands]
 simp only [dH] at he
 split at he <;> first | (cases he;done) | skip
 rename_i m off kl l kh h hs h1 h2;injection he with he;subst he;obtain ⟨b1,b2,b3⟩:=bz;refine ⟨OT.pure fun p μ M a w hk hS=> ?_,aV⟩;have hs':=hk.get (by simp [ho,Op.operands]) hx hs;have e1:=hs'.r8;have q1:=fM hk hl h1 hinl;have q2:=fM hk hh h2 hinh;have hb:(Instr.sliceBounds false nn nn (lo.map a.eval) (hi.map a.eval) none).run P w= .ok (l.toNat,h.toNat,nn) w:=by
  rcases q1 with ⟨u,rfl⟩ | ⟨ki,mi,u,rfl⟩ <;> rcases q2 with ⟨u',rfl⟩ | ⟨kj,mj,u',rfl⟩ <;> rw [u,u']
  ·simp [Instr.sliceBounds]
  ·simp [Instr.sliceBounds,asIntOf,gd (P:=P) (w:=w) (kd:=kj) (code:= .sliceAlen) (show 0≤mj by omega) b3]
  ·simp [Instr.sliceBounds,gd (P:=P) (w:=w) (kd:=ki) (code:= .sliceB) b1 b2]
  ·simp [Instr.sliceBounds,gd (P:=P) (w:=w) (kd:=kj) (code:= .sliceAlen) (show 0≤mj by omega) b3,gd (P:=P) (w:=w) (kd:=ki) (code:= .sliceB) b1 (show mi≤(mj.toNat:Int) by omega)]
 have hex:(execOp a.eval o).run P w= .ok (.value (.slice (some (if nn=l.toNat then ⟨(μ m).blk,off,none⟩ else ⟨(μ m).blk,off+l.toNat*ti.size,none⟩)) (h.toNat - l.toNat) (nn - l.toNat))) w:=by
  simp only [execOp,ho,e1,Option.map_none,Sem.run_bind,Instr.sliceAt,run_underlying ht,Instr.sureAddr,Sem.run_pure,hb,Result.andThen_ok,dS DK,ej]
 refine ⟨_,hex,fun ν ic=> ?_⟩;have hm:(ν m).blk=(μ m).blk:=by
  have:=hs' ν ic;rw [e1] at this;simp only [dy] at this;injection this with this;injection this with this;injection this with this;exact this.symm
 simp only [dy,hm];refine ⟨_,_,rfl,by omega,fun hne=> ?_⟩;rw [if_neg (by omega)]
theorem tf {w:World}(base:Nat)(t ty el:TypeId)(i:TypeInfo)(size:Nat)(ht:P.underlying t=some (.slice el))(hi:P.info? el=some i)
  (v:Value) (n:Nat) (xs:List Value) (hown:w.ownsRow base el size v n xs) (c:Nat):(Builtin.append_ #[t,t] ty #[v,.slice none 0 c]).run P w= .ok v w:=by
 rcases hown.2 with ⟨rfl,rfl⟩ | ⟨g,cap,cur,rfl,_,_,hnc,_⟩
 ·simp [Builtin.append_,run_underlying ht,sizeOf,typeInfo,hi,Builtin.lenOf,Builtin.firstCells]
 ·simp [Builtin.append_,run_underlying ht,sizeOf,typeInfo,hi,Builtin.lenOf,Builtin.firstCells,hnc,storeCells]
theorem mT (w:World)(r:Option Nat):w.grownBy w r:=⟨rfl,rfl,rfl,Nat.le_refl _,fun _ _ _=>rfl⟩
def Src (w:World)(v:Value)(m:Nat)(us:List Value):Prop:=
 ∃ A c,v= .slice A m c∧((A=none∧m=0∧us=[])∨∃ ad,A=some ad∧∀ (j:Nat) (u:Value),us[j]? =some u→w.cell? (ad.add j)=some u)
theorem Hs {w:World}(t ty el:TypeId)(i:TypeInfo)(z:Value)(ht:P.underlying t=some (.slice el))(hi:P.info? el=some i)(hz:i.zero=some z)(hzs:z.cells.size=i.size)(hsz:0<i.size)
  (v:Value) (n:Nat) (xs:List Value) (hown:w.ownsRow 0 el i.size v n xs) (x:Value) (m:Nat) (us:List Value) (hx:Src w x m us) (hl:us.length=m*i.size) (h1:∀ u∈us,u.oneCell'=true)
  (h63:n+m≤9223372036854775807) (hbytes:(n+m)*i.bytes≤140737488355328) (hne:v≠ .slice none 0 0∨m≠0):
  ∃ v' w' g cap cur,(Builtin.append_ #[t,t] ty #[v,x]).run P w= .ok v' w'∧v'= .slice (some ⟨g,0,none⟩) (n+m) cap∧w'.heap[g]? =some (.cells cur el (0,0))∧n+m≤cap∧cap≤maxLen∧cur.size=cap*i.size∧cur.toList.take ((n+m)*i.size)=xs++us∧
   w.grownBy w' v.ownBlock∧(v.ownBlock=some g∨g=w.heap.size):=by
 obtain ⟨A,c,rfl,hA⟩:=hx
 have fin:∀ v' w',w'.ownsRow 0 el i.size v' (n+m) (xs++us)→w.grownBy w' v.ownBlock→v'≠ .slice none 0 0→(v'.ownBlock=v.ownBlock∨v'.ownBlock=some w.heap.size)→(Builtin.append_ #[t,t] ty #[v,.slice A m c]).run P w= .ok v' w'→
   ∃ v' w' g cap cur,(Builtin.append_ #[t,t] ty #[v,.slice A m c]).run P w= .ok v' w'∧v'= .slice (some ⟨g,0,none⟩) (n+m) cap∧w'.heap[g]? =some (.cells cur el (0,0))∧n+m≤cap∧cap≤maxLen∧cur.size=cap*i.size∧cur.toList.take ((n+m)*i.size)=xs++us∧
   w.grownBy w' v.ownBlock∧(v.ownBlock=some g∨g=w.heap.size):=by
  intro v' w' ho' hg hnn bz hr;rcases ho'.2 with ⟨rfl,h0⟩ | ⟨g,cap,cur,rfl,_,r1,r2,r3,r4,r5⟩
  ·exact absurd rfl hnn
  ·refine ⟨_,w',g,cap,cur,hr,rfl,r1,r2,r3,r4,r5,hg,?_⟩
   rcases bz with bz | bz
   ·exact .inl (by rw [← bz];rfl)
   ·exact .inr (by simpa [Value.ownBlock] using bz)
 rcases hA with ⟨rfl,rfl,rfl⟩ | ⟨ad,rfl,hc⟩
 ·refine fin v w (by simpa using hown) (mT _ _) (by simpa using hne) (.inl rfl) (tf 0 t ty el i i.size ht hi v n xs hown c)
 ·obtain ⟨v',w',hrun,h2,h3,h4,h5⟩:=run_append_own_at (P:=P) w 0 t ty el i z i.size i.bytes ht hi hz rfl rfl hzs hsz v n xs hown ad m c us hl hc h1 (by unfold maxLen;omega) hbytes (Nat.zero_le _)
  refine fin v' w' h2 h3 (fun e=> ?_) h5 hrun;obtain ⟨a1,a2⟩:=h4.1 e;rcases hne with h | h
  ·exact h a1
  ·exact h a2
theorem DZ {w:World}(t ty el:TypeId)(i:TypeInfo)(z:Value)(ht:P.underlying t=some (.slice el))(hi:P.info? el=some i)(hz:i.zero=some z)(hzs:z.cells.size=i.size)(hsz:0<i.size)
  (v:Value) (n:Nat) (xs:List Value) (r:Option Nat) (hown:(w.ownsRow 0 el i.size v n xs∧v≠ .slice none 0 0∧v.ownBlock=r)∨((∃ A0,v= .slice A0 0 0)∧n=0∧xs=[]∧r=none))
  (x:Value) (m:Nat) (us:List Value) (hx:Src w x m us) (hl:us.length=m*i.size) (h1:∀ u∈us,u.oneCell'=true)
  (h63:n+m≤9223372036854775807) (hbytes:(n+m)*i.bytes≤140737488355328):
  ∃ v' w',(Builtin.append_ #[t,t] ty #[v,x]).run P w= .ok v' w'∧w.grownBy w' r∧((n+m=0∧∃ A,v'= .slice A 0 0)∨
   ∃ g cap cur,v'= .slice (some ⟨g,0,none⟩) (n+m) cap∧w'.heap[g]? =some (.cells cur el (0,0))∧n+m≤cap∧cap≤maxLen∧cur.size=cap*i.size∧cur.toList.take ((n+m)*i.size)=xs++us∧
   (r=some g∨w.heap.size≤g)):=by
 rcases hown with ⟨hown,hne,rfl⟩ | ⟨⟨A0,rfl⟩,rfl,rfl,rfl⟩
 ·obtain ⟨v',w',g,cap,cur,hrun,a1,a2,a3,a4,a5,a6,a7,a8⟩:=Hs t ty el i z ht hi hz hzs hsz v n xs hown x m us hx hl h1 h63 hbytes (.inl hne)
  exact ⟨v',w',hrun,a7,.inr ⟨g,cap,cur,a1,a2,a3,a4,a5,a6,a8.imp id fun h=>by omega⟩⟩
 ·obtain ⟨A,c,rfl,hA⟩:=hx
  rcases hA with ⟨rfl,rfl,rfl⟩ | ⟨ad,rfl,hc⟩
  ·refine ⟨_,w,?_,mT _ _,.inl ⟨rfl,A0,rfl⟩⟩
   cases A0 with
   | none=>simp [Builtin.append_,run_underlying ht,sizeOf,typeInfo,hi,Builtin.lenOf,Builtin.firstCells]
   | some b=>simp [Builtin.append_,run_underlying ht,sizeOf,typeInfo,hi,Builtin.lenOf,Builtin.firstCells,storeCells]
  ·rcases Nat.eq_zero_or_pos m with rfl | hm
   ·refine ⟨_,w,?_,mT _ _,.inl ⟨rfl,A0,rfl⟩⟩
    have hus:us=[]:=List.eq_nil_of_length_eq_zero (by simpa using hl);subst hus;have hf:=run_firstCells_some (P:=P) w i.size 0 ad 0 c [] (by simp) (by simp);cases A0 with
    | none=>simp [Builtin.append_,run_underlying ht,sizeOf,typeInfo,hi,Builtin.lenOf,hf,storeCells]
    | some b=>simp [Builtin.append_,run_underlying ht,sizeOf,typeInfo,hi,Builtin.lenOf,hf,storeCells]
   ·have key:∃ v' w',(Builtin.append_ #[t,t] ty #[.slice A0 0 0,.slice (some ad) m c]).run P w= .ok v' w'∧w'.ownsRow w.heap.size el i.size v' (0+m) ([]++us)∧w.grownBy w' none:=by
     cases A0 with
     | none=>
      obtain ⟨v',w',hrun,h2,h3,_⟩:=run_append_own_at (P:=P) w w.heap.size t ty el i z i.size i.bytes ht hi hz rfl rfl hzs hsz (.slice none 0 0) 0 [] (World.ownsRow_nil w _ el i.size) ad m c us hl hc h1 (by unfold maxLen;omega) hbytes (Nat.le_refl _);exact ⟨v',w',hrun,h2,h3⟩
     | some b=>
      exact run_append_arg_grows (P:=P) w t ty el i z i.size i.bytes ht hi hz rfl rfl hzs hsz b 0 0 [] (by simp) (fun j u hj=>by simp at hj) ad m c us hl hc (by omega) (by unfold maxLen;omega) hbytes
    obtain ⟨v',w',hrun,h2,h3⟩:=key;refine ⟨v',w',hrun,h3,.inr ?_⟩;rcases h2.2 with ⟨_,h0⟩ | ⟨g,cap,cur,rfl,r0,r1,r2,r3,r4,r5⟩
    ·omega
    ·exact ⟨g,cap,cur,rfl,r1,r2,r3,r4,r5,.inr r0⟩
theorem gQ {F F2:Hp}{n:Nat}:lk (F++F2) n=match lk F n with
  | some ob=>some ob
  | none=>lk F2 n:=by
 unfold lk
 induction F with
 | nil=>rfl
 | cons x F ih=>
  obtain ⟨m,ob⟩:=x;simp only [List.cons_append,List.lookup];cases n == m
  ·exact ih
  ·rfl
theorem aa {F:Hp}{m n:Nat}{ob:Ob}:lk ((m,ob)::F) n=if n=m then some ob else lk F n:=by
 unfold lk;simp only [List.lookup]
 by_cases h:n=m
 ·subst h;simp
 ·rw [if_neg h,show (n == m)=false by simpa using h]
theorem D0 {xs:Array Operand}{p:Nat→Prop}{μ:Nat→Nm}{M:Mem}{a:Act}{w:World}{x:Operand}{x':X}{m:Nat}{news:List SV}{F2:Hp}{He:Prop}(hk:ig E xs p μ M a)(hin:x∈xs)(hx:cX x=some x')
  (h:tU H (ev E x')=some (m,news,F2,He)) (bz:He) (hS:bU p μ M (lk F2) w) (hlen:∀ sz,news.length=m*sz→True):
  (∃ us,(∀ sz,news.length=m*sz→us.length=m*sz)∧Src w (a.eval x) m us∧aU p μ M news us)∧(∀ n ob,lk F2 n=some ob→H n=some ob):=by
 unfold tU at h
 split at h <;> first | (cases h;done) | skip
 ·rename_i hs
  simp at h;obtain ⟨rfl,rfl,rfl,_⟩:=h;have e1:a.eval x= .slice none 0 0:=by simpa [bX] using Rp.cU.1 (hk.get hin hx hs)
  exact ⟨⟨[],by simp,⟨none,0,e1,.inl ⟨rfl,rfl,rfl⟩⟩,aU.aR.2 rfl⟩,aV⟩
 ·rename_i m' ds hs
  simp at h;obtain ⟨rfl,rfl,rfl,_⟩:=h;obtain ⟨A,c,e1,e2,e3,e4⟩:=(by simpa [bX] using Rp.cU.1 (hk.get hin hx hs):∃ A cp,a.eval x= .slice A m' cp∧m'≤cp∧(m'=0→ds=[])∧(0<m'→∃ b q,A=some ⟨b,q,none⟩∧dB M b q ds));refine ⟨?_,aV⟩;rcases Nat.eq_zero_or_pos m' with h0 | h0
  ·have:=e3 h0
   subst this;refine ⟨[],by simp,⟨A,c,e1,?_⟩,aU.aR.2 rfl⟩;cases A with
   | none=>exact .inl ⟨rfl,h0,rfl⟩
   | some ad=>exact .inr ⟨ad,rfl,fun j u hj=>by simp at hj⟩
  ·obtain ⟨b,q,rfl,hr⟩:=e4 h0
   have key:∀ (l:List DV) (q:Nat),dB M b q l→∃ us:List Value,us.length=l.length∧aU p μ M (l.map .d) us∧∀ (j:Nat) (u:Value),us[j]? =some u→w.cell? ⟨b,q+j,none⟩=some u:=by
    intro l
    induction l with
    | nil=>intro q _;exact ⟨[],rfl,aU.aR.2 rfl,fun j u h=>by simp at h⟩
    | cons c l ih=>
     intro q hq;simp only [dB] at hq;obtain ⟨⟨u,hu,hd⟩,hq⟩:=hq;obtain ⟨us,l1,l2,l3⟩:=ih (q+1) hq;refine ⟨u::us,by simp [l1],aU.aD.2 ⟨u,us,rfl,Rp.cU.2 hd,l2⟩,fun j x hj=> ?_⟩;cases j with
     | zero=>simp at hj;subst hj;exact hS.mem b _ _ (by simpa using hu)
     | succ j=>
      have:=l3 j x (by simpa using hj)
      rwa [show q+1+j=q+(j+1) by omega] at this
   obtain ⟨us,l1,l2,l3⟩:=key ds q hr;exact ⟨us,fun sz h=>by rw [l1];simpa using h,⟨_,c,e1,.inr ⟨_,rfl,fun j u hj=>by rw [ej];exact l3 j u hj⟩⟩,l2⟩
 ·rename_i n m' hs
  split at h <;> first | (cases h;done) | skip
  rename_i e' sz' len' cs hH;simp only [Option.some.injEq,Prod.mk.injEq] at h;obtain ⟨rfl,rfl,rfl,rfl⟩:=h;subst bz;refine ⟨?_,sub_one hH⟩;obtain ⟨_,⟨h0,rfl,rfl⟩ | ⟨h0,vs,hb,q1,q2,q3,q4,hr⟩,_⟩:=hS.one
  ·obtain ⟨h0',_⟩ | ⟨_,_,A,e1⟩:=(hk.get hin hx hs).lI
   ·rw [h0] at h0';cases h0'
   ·refine ⟨[],by simp,⟨A,0,e1,?_⟩,aU.aR.2 rfl⟩
    cases A with
    | none=>exact .inl ⟨rfl,rfl,rfl⟩
    | some ad=>exact .inr ⟨ad,rfl,fun j u hj=>by simp at hj⟩
  obtain ⟨_,e1⟩ | ⟨h0',_⟩:=(hk.get hin hx hs).lI
  rotate_left
  ·rw [h0] at h0';cases h0'
  refine ⟨_,fun sz h=>by rw [hr.length];exact h,⟨_,_,e1,.inr ⟨_,rfl,fun j u hj=> ?_⟩⟩,hr⟩;rw [ej,cell_of hb];rw [List.getElem?_take] at hj
  split at hj
  ·simpa using hj
  ·cases hj
theorem aU.D1 {p:Nat→Prop}{μ:Nat→Nm}{M:Mem}:∀ {cs:List SV} {vs:List Value},cs.all SV.dO=true→aU p μ M cs vs→∀ u∈vs,u.oneCell'=true
 | [],vs,_,h,u,hu=>by rw [aU.aR.1 h] at hu;cases hu
 | c::cs,vs,hc,h,u,hu=>by
  obtain ⟨u',us,rfl,h1,h2⟩:=aU.aD.1 h;simp only [List.all_cons,Bool.and_eq_true] at hc;rcases List.mem_cons.1 hu with rfl | hu
  ·exact h1.rep.one hc.1
  ·exact aU.D1 hc.2 h2 u hu
theorem D2 {c:Call}{t el:TypeId}{x y:Operand}{x' y':X}{i:TypeInfo}{z:List SV}(ho:o.op= .call c)(cu:c.callee= .builtin .append)(ha:c.args.toList=[x,y])(p0:c.argTypes.toList=[t,t])
  (ht:P.underlying t=some (.slice el)) (hi:P.info? el=some i) (hz:gi P el=some z) (hzl:z.length=i.size∧0<i.size)
  (hx:cX x=some x') (hy:cX y=some y') (he:dH E H k own (.app el i.size i.bytes x' y')=some e) (bz:e.ob):Sound P o E H k e:=by
 have ha':c.args= #[x,y]:=by cases hh:c.args;simp [hh] at ha;simp [ha]
 have hat':c.argTypes= #[t,t]:=by cases hh:c.argTypes;simp [hh] at p0;simp [p0]
 have hin1:x∈o.op.operands:=by simp [ho,Op.operands,Call.operands,cu,ha']
 have hin2:y∈o.op.operands:=by simp [ho,Op.operands,Call.operands,cu,ha']
 simp only [dH] at he
 split at he <;> first | (cases he;done) | skip
 rename_i n cs F ob m news F2 He hB hX
 split at he <;> first | (cases he;done) | skip
 rename_i hone;injection he with he;subst he;obtain ⟨b1,b2,b3,b4,b5,b6⟩:=bz;have hdis :∀ q,lk F q≠none→lk F2 q=none:=by
  intro q hq;cases hh:lk F2 q with
  | none=>rfl
  | some ob=>
   exfalso
   have m1:∀ (G:Hp),lk G q≠none→q∈G.map (·.1):=by
    intro G
    induction G with
    | nil=>intro h;exact absurd rfl h
    | cons g G ih=>
     obtain ⟨gn,gob⟩:=g;intro h;rw [aa] at h
     by_cases hq:q=gn
     ·simp [hq]
     ·rw [if_neg hq] at h
      rw [List.map_cons,List.mem_cons];exact .inr (ih h)
   have a1:=m1 F hq;have a2:=m1 F2 (by rw [hh];simp);have:=List.all_eq_true.1 (List.all_eq_true.1 b6 q a1) q a2;simp at this
 have hmem2:∀ {p:Nat→Prop} {μ:Nat→Nm} {M:Mem} {w:World},bU p μ M (lk (F++F2)) w→bU p μ M (lk F2) w:=fun hS=>hS.sub fun q ob hq=>by
  rw [gQ];cases hh:lk F q with
  | none=>exact hq
  | some kg=>rw [hdis q (by rw [hh];simp)] at hq;cases hq
 have hmem1:∀ {p:Nat→Prop} {μ:Nat→Nm} {M:Mem} {w:World},bU p μ M (lk (F++F2)) w→bU p μ M (lk F) w:=fun hS=>hS.sub fun q ob hq=>by
  rw [gQ,hq]
 have hsubX:∀ n ob,lk F2 n=some ob→H n=some ob:=by
  have:=hX;unfold tU at this
  split at this <;> first | (cases this;done) | skip
  ·simp at this;obtain ⟨_,_,rfl,_⟩:=this;exact aV
  ·simp at this;obtain ⟨_,_,rfl,_⟩:=this;exact aV
  ·split at this <;> first | (cases this;done) | skip
   rename_i hH;simp at this;obtain ⟨_,_,rfl,_⟩:=this;exact sub_one hH
 have hsubB:∀ n ob,lk F n=some ob→H n=some ob:=by
  have:=hB;unfold vw at this
  split at this <;> first | (cases this;done) | skip
  ·simp at this;obtain ⟨_,_,rfl,_⟩:=this;exact aV
  ·split at this <;> first | (cases this;done) | skip
   rename_i hH;simp at this;obtain ⟨_,_,rfl,_⟩:=this;exact sub_one hH
 refine ⟨?_,fun q ob hq=> ?_⟩
 ·show OT P o E (F++F2) (fun n=>k≤n∧n<k+1) (.gs k (n+m)) ((k,.arr el i.size (n+m) (cs++news))::F2)
  intro rd p μ M a w K Q hnew hkn hS hK;obtain ⟨⟨us,hul,hsrc,hrx⟩,_⟩:=D0 hkn hin2 hy hX b2 (hmem2 hS) (fun _ _=>trivial);have hul:=hul _ b5;obtain ⟨v,hv,hr,_⟩:=gA hz (p:=p) (μ:=μ) (M:=M);have hzv:i.zero=some v:=by
   have hz':=hz;unfold gi at hz';rw [hi] at hz';cases Jv:i.zero with
   | none=>simp [Jv] at hz'
   | some v'=>
    have:=hv w;rw [qG hi Jv] at this;injection this with this;rw [this]
  have hzs:v.cells.size=i.size:=by have:=hr.length;simp at this;omega
  -- the base
  have hbase:∃ xs r,((w.ownsRow 0 el i.size (a.eval x) n xs∧a.eval x≠ .slice none 0 0∧(a.eval x).ownBlock=r)∨((∃ A0,a.eval x= .slice A0 0 0)∧n=0∧xs=[]∧r=none))∧aU p μ M cs xs∧cs.length=n*i.size∧
    (∀ g,r=some g→∃ q,lk F q≠none∧(μ q).live=true∧(μ q).blk=g):=by
   have hB':=hB;unfold vw at hB'
   split at hB' <;> first | (cases hB';done) | skip
   ·rename_i hs
    simp at hB';obtain ⟨rfl,rfl,rfl,rfl⟩:=hB';have e1:a.eval x= .slice none 0 0:=by simpa [bX] using Rp.cU.1 (hkn.get hin1 hx hs)
    rw [e1];exact ⟨[],none,.inr ⟨⟨none,rfl⟩,rfl,rfl,rfl⟩,aU.aR.2 rfl,by simp,fun g hg=>by cases hg⟩
   ·rename_i n' len hs
    split at hB' <;> first | (cases hB';done) | skip
    rename_i e' sz' len' cs' hH;simp only [Option.some.injEq,Prod.mk.injEq] at hB';obtain ⟨rfl,rfl,rfl,rfl⟩:=hB';obtain ⟨rfl,rfl,rfl⟩:=b1;obtain ⟨_,hob1,_⟩:=(hmem1 hS).one;rcases (hkn.get hin1 hx hs).lI with ⟨hl,e1⟩ | ⟨hl,h0,A,e1⟩
    ·rcases hob1 with ⟨hl',_⟩ | ⟨_,vs,hb,q1,q2,q3,q4,hr'⟩
     ·rw [hl] at hl';cases hl'
     rw [e1];exact ⟨_,some (μ n').blk,.inl ⟨⟨by rw [hr'.length];exact q1,.inr ⟨_,_,vs,rfl,Nat.zero_le _,hb,q2,q3,q4,rfl⟩⟩,by simp,rfl⟩,hr',q1,fun g hg=>⟨n',by simp [cZ],hl,by simpa using hg⟩⟩
    ·rcases hob1 with ⟨_,_,h2⟩ | ⟨hl',_⟩
     ·subst h2
      rw [e1];exact ⟨[],none,.inr ⟨⟨A,rfl⟩,h0,rfl,rfl⟩,aU.aR.2 rfl,by simp [h0],fun g hg=>by cases hg⟩
     ·rw [hl] at hl';cases hl'
  obtain ⟨xs,r,hown,hrb,lJ,hblk⟩:=hbase;obtain ⟨v',w',hrun,hgrow,hres⟩:=DZ (P:=P) t o.type el i v ht hi hzv hzs hzl.2 (a.eval x) n xs r hown (a.eval y) m us hsrc hul (hrx.D1 hone) b3 b4;have hpk: ¬ p k:=hnew k ⟨Nat.le_refl _,Nat.lt_succ_self _⟩
  have hnm:∃ nm:Nm,(∀ (p':Nat→Prop) (a_:Nat→Nm),p' k→a_ k=nm→Rp p' a_ M (.gs k (n+m)) v')∧
    (∀ (p':Nat→Prop) (a_:Nat→Nm),(∀ n,p n→p' n)→(∀ n,p n→a_ n=μ n)→cE p' a_ M w' nm (.arr el i.size (n+m) (cs++news)))∧(nm.live=true→(r=some nm.blk∨w.heap.size≤nm.blk)):=by
   rcases hres with ⟨h0,A,rfl⟩ | ⟨g,cap,cur,rfl,hg,c1,c2,c3,c4,vz⟩
   ·have hn0:n=0:=by omega
    have hm0:m=0:=by omega
    refine ⟨⟨0,0,false⟩,fun p' a_ oq hk' ν ic=> ?_,fun p' a_ _ _=> .inl ⟨rfl,by omega,?_⟩,fun h=>by cases h⟩
    ·simp only [dy]
     exact .inr ⟨by rw [ic k oq,hk'],h0,A,rfl⟩
    ·have h1:cs=[]:=List.eq_nil_of_length_eq_zero (by rw [lJ,hn0];simp)
     have h2:news=[]:=List.eq_nil_of_length_eq_zero (by rw [b5,hm0];simp);rw [h1,h2];rfl
   ·refine ⟨⟨g,cap,true⟩,fun p' a_ oq hk'=> ?_,fun p' a_ oq hμ'=> .inr ⟨rfl,cur,hg,by rw [List.length_append,lJ,b5,Nat.add_mul],c1,c2,c3,?_⟩,fun _=>vz⟩
    ·have:=Rp.DY (p:=p') (μ:=a_) (M:=M) (n:=k) (len:=n+m) oq (by rw [hk'])
     rwa [hk'] at this
    ·rw [c4]
     exact (hrb.append hrx).more oq hμ' (Mem.le_refl M)
  obtain ⟨nm,hnm1,hnm2,vz⟩:=hnm;have hmu:=vN (μ:=μ) (m:=nm) hpk;have hrM:∀ g,r=some g→∀ j,M g j=none:=fun g h=>by
   obtain ⟨q,hq,hl,rfl⟩:=hblk g h;obtain ⟨kg,hob'⟩:=Option.ne_none_iff_exists'.1 hq;exact (hS.obs q kg (by rw [gQ,hob'])).2.2 hl
  have hgM:nm.live=true→∀ j,M nm.blk j=none:=fun hl=>by
   rcases vz hl with h | h
   ·exact hrM _ h
   ·exact tT hS.mem h
  have hmem':∀ b j u,M b j=some u→w'.cell? ⟨b,j,none⟩=some u:=fun b j u hm=>by
   have h1:=hS.mem b j u hm;have hlt:=World.block_lt_of_cell? w ⟨b,j,none⟩ h1;have hb:some b≠r:=fun e=>by rw [hrM b e.symm] at hm;cases hm
   rw [← h1];exact World.cell?_of_block (hgrow.block b hlt hb)
  have hrun':(execOp a.eval o).run P w= .ok (.value v') w':=by
   simp only [execOp,ho,resolve,cu,ha',hat',invoke,builtin,Sem.run_bind,Sem.run_pure,Result.andThen_ok,List.map_toArray,List.map_cons,List.map_nil,hrun]
  have hold2:∀ q,lk F2 q≠none→(μ q).live=true→(μ q).blk<w.heap.size∧some (μ q).blk≠r:=fun q hq lq=>by
   refine ⟨(hmem2 hS).lt hq lq,fun e=> ?_⟩;obtain ⟨q',hq',lq',e'⟩:=hblk _ e.symm;have hq1:lk (F++F2) q'≠none:=by
    obtain ⟨kg,hob'⟩:=Option.ne_none_iff_exists'.1 hq';rw [gQ,hob'];simp
   have hq2:lk (F++F2) q≠none:=by
    obtain ⟨kg,hob'⟩:=Option.ne_none_iff_exists'.1 hq;rw [gQ];cases lk F q <;> simp [hob']
   have:=hS.inj q' q hq1 hq2 lq' lq e';subst this;exact hq (hdis q' hq')
  have hk2:∀ q,lk F2 q≠none→p q:=fun q hq=>by
   obtain ⟨kg,hob'⟩:=Option.ne_none_iff_exists'.1 hq;exact ((hmem2 hS).obs q kg hob').1
  have hgne:∀ q,lk F2 q≠none→(μ q).live=true→nm.live=true→(μ q).blk≠nm.blk:=fun q hq lq ln e=>by
   obtain ⟨h1,h2⟩:=hold2 q hq lq;rcases vz ln with h | h
   ·exact h2 (by rw [e,h])
   ·omega
  refine ij hrun' (hK v' (Ae μ k nm) M w' (hnm1 _ _ (.inr ⟨Nat.le_refl _,Nat.lt_succ_self _⟩) (bN _ _ _)) ⟨⟨hmem',hS.mem.kF⟩,fun q kg hq=> ?_,fun q q' hq hq' lq lq' e=> ?_⟩ ⟨fun q hq=>fD _ _ _ (fun e=>hq (by subst e;exact ⟨Nat.le_refl _,Nat.lt_succ_self _⟩)),Mem.le_refl M,fun b hb hf=>⟨hgrow.block b hb fun e=> ?_,fun _=>rfl⟩,hgrow.size,fun q hq=> ?_,hgrow.os,⟨hgrow.tape,Cb _ _ _ _ hrun⟩,hgrow.output⟩)
  ·rw [aa] at hq
   split at hq
   ·rename_i e1
    subst e1;injection hq with hq;subst hq;rw [bN];exact ⟨.inr ⟨Nat.le_refl _,Nat.lt_succ_self _⟩,hnm2 _ _ (fun q h=> .inl h) hmu,hgM⟩
   ·have hne2:lk F2 q≠none:=by rw [hq];simp
    obtain ⟨a1,a2,a3⟩:=(hmem2 hS).obs q kg hq;rw [hmu q a1];exact ⟨.inl a1,a2.more (fun q h=> .inl h) hmu (Mem.le_refl M) (fun l=>hgrow.block _ (hold2 q hne2 l).1 (hold2 q hne2 l).2),a3⟩
  ·rw [aa] at hq hq'
   by_cases e1:q=k <;> by_cases e2:q'=k
   ·omega
   ·rw [if_neg e2] at hq'
    subst e1;rw [bN] at lq e;rw [hmu q' (hk2 q' hq')] at e lq';exact absurd e.symm (hgne q' hq' lq' lq)
   ·rw [if_neg e1] at hq
    subst e2;rw [bN] at lq' e;rw [hmu q (hk2 q hq)] at e lq;exact absurd e (hgne q hq lq lq')
   ·rw [if_neg e1] at hq
    rw [if_neg e2] at hq';rw [hmu q (hk2 q hq)] at e lq;rw [hmu q' (hk2 q' hq')] at e lq';exact (hmem2 hS).inj q q' hq hq' lq lq' e
  ·obtain ⟨q,hq,lq,e'⟩:=hblk b e.symm
   refine hf q ?_ lq e';obtain ⟨kg,hob'⟩:=Option.ne_none_iff_exists'.1 hq;show lk (F++F2) q≠none;rw [gQ,hob'];simp
  ·rw [aa] at hq
   by_cases e1:q=k
   ·subst e1
    refine .inl ⟨⟨Nat.le_refl _,Nat.lt_succ_self _⟩,?_⟩;rw [bN];intro ln;rcases vz ln with h | h
    ·obtain ⟨q',hq',lq',e'⟩:=hblk _ h
     refine .inr ⟨q',?_,lq',e'⟩;obtain ⟨kg,hob'⟩:=Option.ne_none_iff_exists'.1 hq';show lk (F++F2) q'≠none;rw [gQ,hob'];simp
    ·exact .inl h
   ·rw [if_neg e1] at hq
    refine .inr ⟨fun h=>hnew q h (hk2 q hq),?_⟩;obtain ⟨kg,hob'⟩:=Option.ne_none_iff_exists'.1 hq;show lk (F++F2) q≠none;rw [gQ];cases lk F q <;> simp [hob']
 ·have hq:lk (F++F2) q=some ob:=hq
  rw [gQ] at hq
  split at hq
  ·rename_i hh
   injection hq with hq;subst hq;exact hsubB q _ hh
  ·exact hsubX q ob hq
end
end
section
section
variable {P:Program}
theorem tg (em:Bool)(d:Nat)(ih:∀ (t:TypeId) (ks:List Bool) (xs:List Value) (w:World),bA P d t=some ks→xs.length=ks.length→(Instr.checkKey em d t (valOf P t xs)).run P w= .ok () w)
  (xs : List Value) (w:World):∀ (fs:List Field) (o:Nat) (ks:List Bool),mP (bA P d) o fs=some ks→o+ks.length≤xs.length→
   (forIn (m:=Sem) fs PUnit.unit fun f _=>do
    if f.name≠ "_" then
     Instr.checkKey em d f.type (← part f.type xs.toArray f.offset)
    pure (ForInStep.yield PUnit.unit)).run P w= .ok PUnit.unit w:=by
 intro fs
 induction fs with
 | nil=>intro o ks h _;simp
 | cons f fs ihf=>
  intro o ks h hx;simp only [mP] at h
  split at h
  ·cases h
  ·rename_i hno
   simp only [not_or,ne_eq,Decidable.not_not] at hno
   split at h
   ·rename_i ks1 h1
    split at h
    ·rename_i ks2 h2
     simp at h;subst h;simp at hx;have hr:=ihf (o+ks1.length) ks2 h2 (by omega);have hi:=ih f.type ks1 ((xs.drop o).take ks1.length) w h1 (by simp;omega);simp only [List.forIn_cons,Sem.run_bind,ne_eq,hno.1,not_false_eq_true,if_true,hno.2,me h1 xs o (by omega),Result.andThen_ok,hi,Sem.run_pure]
     simpa using hr
    ·cases h
   ·cases h
theorem xm (em:Bool)(d:Nat)(ih:∀ (t:TypeId) (ks:List Bool) (xs:List Value) (w:World),bA P d t=some ks→xs.length=ks.length→(Instr.checkKey em d t (valOf P t xs)).run P w= .ok () w)
  {e:TypeId} {ks:List Bool} (he:bA P d e=some ks) (xs:List Value) (w:World):∀ (n k:Nat),(k+n)*ks.length≤xs.length→
   (forIn (m:=Sem) (List.range' k n) PUnit.unit fun i _=>do
    let s ← sizeOf e
    let v ← part e xs.toArray (i*s)
    Instr.checkKey em d e v
    pure (ForInStep.yield PUnit.unit)).run P w= .ok PUnit.unit w:=by
 intro n;obtain ⟨i',hi',hs'⟩:=mR he
 induction n with
 | zero=>intro k _;simp
 | succ n ihn=>
  intro k hx;have hx':k*ks.length+ks.length≤xs.length:=by
   have:(k+(n+1))*ks.length=k*ks.length+ks.length+n*ks.length:=by rw [Nat.add_mul,Nat.add_mul];omega
   omega
  have hr:=ihn (k+1) (by rwa [show k+1+n=k+(n+1) by omega]);have hi:=ih e ks ((xs.drop (k*ks.length)).take ks.length) w he (by simp;omega);simp only [List.range'_succ,List.forIn_cons,Sem.run_bind,dS hi',hs',Result.andThen_ok,me he xs _ hx',hi,Sem.run_pure];exact hr
theorem xo (em:Bool):∀ (d:Nat) (t:TypeId) (ks:List Bool) (xs:List Value) (w:World),bA P d t=some ks→xs.length=ks.length→(Instr.checkKey em d t (valOf P t xs)).run P w= .ok () w:=by
  intro d
  induction d with
  | zero=>intro t ks xs w h;simp [bA] at h
  | succ d ih=>
    intro t ks xs w h hl;simp only [bA] at h
    split at h
    · rename_i i h1 h2
      generalize valOf P t xs=v;cases v <;> simp [Instr.checkKey,run_underlying h1]
    · rename_i k i h1 h2
      generalize valOf P t xs=v;cases v <;> simp [Instr.checkKey,run_underlying h1]
    · rename_i fs i h1 h2
      split at h
      · cases h
      · split at h
        · rename_i ks' h3
          split at h
          · rename_i hsize
            simp at h;subst h;have ht:dV P t=some (some i.size):=by simp [dV,h1,h2]
            have:=tg (P:=P) em d ih xs w fs.toList 0 ks' h3 (by omega);simp only [valOf,ht,Instr.checkKey,Sem.run_bind,run_underlying h1,Result.andThen_ok];simp only [← Array.forIn_toList];rw [this];rfl
          · cases h
        · cases h
    · rename_i n e i h1 h2
      split at h
      · rename_i ks' h3
        split at h
        · rename_i hsize
          simp at h;subst h;have ht:dV P t=some (some i.size):=by simp [dV,h1,h2]
          rw [mQ] at hl;have:=xm (P:=P) em d ih h3 xs w n 0 (by simp;omega);simp only [valOf,ht,Instr.checkKey,Sem.run_bind,run_underlying h1,Result.andThen_ok];simp only [Std.Legacy.Range.forIn_eq_forIn_range',Std.Legacy.Range.size,Nat.sub_zero,Nat.add_sub_cancel,Nat.div_one];rw [this];rfl
        · cases h
      · cases h
    · cases h
theorem Kj:∀ {k:Bool} {x y:Value},G2 k x y=some true→x=y:=by
 intro k x y h;cases k <;> cases x <;> cases y <;> simp [G2] at h
 ·subst h;rfl
 ·obtain ⟨rfl,rfl⟩:=h;rfl
theorem Bk:∀ {ks:List Bool} {xs ys:List Value},eZ ks xs ys=some true→xs=ys
 | [],[],[],_=>rfl
 | [],[],_::_,h=>by simp [eZ] at h
 | [],_::_,_,h=>by simp [eZ] at h
 | _::_,[],_,h=>by simp [eZ] at h
 | _::_,_::_,[],h=>by simp [eZ] at h
 | k ::ks,x::xs,y::ys,h=>by
  simp only [eZ] at h
  split at h
  ·rename_i a b h1 h2
   simp at h;obtain ⟨rfl,rfl⟩:=h;rw [Kj h1,Bk h2]
  ·cases h
theorem yx {k:Bool}{x:Value}{b:Bool}(h:G2 k x x=some b)(d:Nat):Instr.sameBits d x x=true:=by
 cases k <;> cases x <;> simp [G2] at h <;> cases d <;> simp [Instr.sameBits]
theorem vS {d:Nat}:∀ {ks:List Bool} {xs:List Value} {b:Bool},eZ ks xs xs=some b→(xs.zip xs).all (fun (x,y)=>Instr.sameBits d x y)=true
 | [],[],_,_=>rfl
 | [],_::_,_,h=>by simp [eZ] at h
 | _::_,[],_,h=>by simp [eZ] at h
 | k ::ks,x::xs,b,h=>by
  simp only [eZ] at h
  split at h
  ·rename_i a b h1 h2
   simp only [List.zip_cons_cons,List.all_cons,vS h2,Bool.and_true];exact yx h1 d
  ·cases h
structure pV (P:Program)(t:TypeId)(ks:List Bool)(v:Value):Prop where
 eq:v=valOf P t v.cells.toList
 self:∃ b,eZ ks v.cells.toList v.cells.toList=some b
theorem pV.len {t:TypeId}{ks:List Bool}{v:Value}(h:pV P t ks v):v.cells.toList.length=ks.length:=by
 obtain ⟨b,hb⟩:=h.self;exact (iR hb).1
theorem pV.check {t:TypeId}{ks:List Bool}{v:Value}(h:pV P t ks v)(hks:bA P 10000 t=some ks)(em:Bool)(w:World):(Instr.checkKey em 10000 t v).run P w= .ok () w:=by
 have:=xo (P:=P) em 10000 t ks v.cells.toList w hks h.len
 rwa [← h.eq] at this
theorem pV.stays {t:TypeId}{ks:List Bool}{v:Value}(h:pV P t ks v)(w:World):(Instr.keyThatStays v v).run P w= .ok v w:=by
 have:Instr.sameBits 10000 v v=true:=by
  obtain ⟨b,hb⟩:=h.self
  by_cases ha:∃ cs,v= .agg cs
  ·obtain ⟨cs,rfl⟩:=ha
   simp only [Value.cells] at hb;simp only [Instr.sameBits,BEq.rfl,Bool.true_and];exact vS hb
  ·have hc:v.cells= #[v]:=by cases v <;> first | rfl | exact absurd ⟨_,rfl⟩ ha
   rw [hc] at hb
   match ks,hb with
   | [k],hb=>
    have hb:=qH hb;exact yx hb 10000
   | [],hb=>simp [eZ] at hb
   | _::_::_,hb=>
    simp only [eZ] at hb
    split at hb
    ·rename_i h2;simp at h2
    ·cases hb
 simp [Instr.keyThatStays,this]
theorem pV.same {t:TypeId}{ks:List Bool}{u v:Value}(hu:pV P t ks u)(hv:pV P t ks v)(h:eZ ks u.cells.toList v.cells.toList=some true):u=v:=by
 rw [hu.eq,hv.eq,Bk h]
theorem gR {p:Nat→Prop}{μ:Nat→Nm}{M:Mem}{t:TypeId}{ks:List Bool}(hks:bA P 10000 t=some ks){key:SV}(tA:iS ks (nU P t) key=true){v:Value}(hr:Rp p μ M key v):
  pV P t ks v∧aU p μ M key.cells v.cells.toList:=by
 unfold iS at tA;simp only [Bool.and_eq_true,beq_iff_eq] at tA;obtain ⟨h1,h2⟩:=tA;obtain ⟨b,hb⟩:=Option.isSome_iff_exists.1 h2
 by_cases ha:∃ cs,key= .agg cs
 ·obtain ⟨cs,rfl⟩:=ha
  obtain ⟨vs,rfl,hvs⟩:=Rp.eT.1 hr;refine ⟨⟨?_,b,mg hb hvs hvs⟩,hvs⟩;simp only [kH] at h1;have:∃ n,dV P t=some (some n):=by
   unfold nU at h1
   split at h1
   ·exact ⟨_,by assumption⟩
   ·cases h1
  obtain ⟨n,hn⟩:=this;simp [valOf,hn,Value.cells]
 ·have hc:key.cells=[key]:=by cases key <;> first | rfl | exact absurd ⟨_,rfl⟩ ha
  have hg:kH key=false:=by cases key <;> first | rfl | exact absurd ⟨_,rfl⟩ ha
  rw [hg] at h1;rw [hc] at hb ⊢;have hk1:∃ k,ks=[k]∧G3 k key key=some b:=by
   match ks,hb with
   | [],hb=>simp [jw] at hb
   | [k],hb=>
    simp only [jw] at hb
    split at hb
    ·rename_i a b' e1 e2
     simp at hb e2;subst e2;subst hb;exact ⟨k,rfl,by simpa using e1⟩
    ·cases hb
   | _::_::_,hb=>
    simp only [jw] at hb
    split at hb
    ·rename_i h2;simp at h2
    ·cases hb
  obtain ⟨k,rfl,hk⟩:=hk1;have hty:dV P t=some none:=by
   rcases ko hks with ⟨e,_⟩ | e
   ·exact e
   ·simp [nU,e] at h1
  have hv:v.cells= #[v]:=by
   cases k <;> cases key <;> simp [G3] at hk <;> rename_i x <;> cases x <;> simp [G3] at hk
   ·rw [Rp.bG.1 hr];rfl
   ·rw [Rp.aL.1 hr];rfl
  have hcs:aU p μ M [key] v.cells.toList:=by rw [hv];exact aU.aD.2 ⟨v,[],rfl,hr,aU.aR.2 rfl⟩
  refine ⟨⟨?_,b,mg hb hcs hcs⟩,hcs⟩;simp [valOf,hty,hv]
noncomputable def lK (P:Program)(t:TypeId)(ks:List Bool)(x:Value):List MapEntry→Nat→Option (Option Nat)
 | [],_=>some none
 | e::r,i=>open Classical in if pV P t ks e.key then match eZ ks x.cells.toList e.key.cells.toList with
  | some true=>some (some i)
  | some false=>lK P t ks x r (i+1)
  | none=>none
  else none
theorem qN {p:Nat→Prop}{μ:Nat→Nm}{M:Mem}{t:TypeId}{ks:List Bool}(hks:bA P 10000 t=some ks){key:SV}{x:Value}(hx:aU p μ M key.cells x.cells.toList):∀ {es:List (Nat×SV×SV)} {dP:List MapEntry} {i:Nat} {r:Option Nat},
  gP p μ M es dP→iT ks (nU P t) key es i=some r→lK P t ks x dP i=some r∧(∀ j,r=some j→i≤j∧∃ e en,es[j - i]? =some e∧dP[j - i]? =some en∧pV P t ks en.key∧eZ ks x.cells.toList en.key.cells.toList=some true∧Rp p μ M e.2.1 en.key∧Rp p μ M e.2.2 en.val)
 | [],dP,i,r,hr,h=>by
  simp only [gP] at hr;subst hr;simp only [iT,Option.some.injEq] at h;subst h;exact ⟨rfl,fun j h=>by cases h⟩
 | (b, k,v)::es,dP,i,r,hr,h=>by
  obtain ⟨en,ens',rfl,h1,h2,h3,h4⟩:=hr;simp only [iT] at h
  split at h
  ·rename_i tA
   obtain ⟨hv,hkc⟩:=gR hks tA h2
   split at h
   ·rename_i hq
    have hq:=mg hq hx hkc;simp at h;subst h;refine ⟨by simp [lK,hq,hv],fun j hj=> ?_⟩;simp at hj;subst hj;exact ⟨Nat.le_refl _,(b,k,v),en,by simp,by simp,hv,hq,h2,h3⟩
   ·rename_i hq
    have hq:=mg hq hx hkc;obtain ⟨a1,a2⟩:=qN hks hx h4 h;refine ⟨by simp [lK,hq,a1,hv],fun j hj=> ?_⟩;obtain ⟨b1,e,en',b2,b3,b4⟩:=a2 j hj;refine ⟨by omega,e,en',?_,?_,b4⟩
    ·rw [show j - i=(j - (i+1))+1 by omega];simpa using b2
    ·rw [show j - i=(j - (i+1))+1 by omega];simpa using b3
   ·cases h
  ·cases h
theorem tW {t:TypeId}{ks:List Bool}(hks:bA P 10000 t=some ks){x:Value}(hx:pV P t ks x)(w:World):∀ (es:List MapEntry) (i:Nat) (r:Option Nat),lK P t ks x es i=some r→
  ((Instr.findAsking t x es i).run P w= .ok (r.map fun j=>(j,((es[j - i]?).map (·.val)).getD undef)) w)∧∀ j,r=some j→i≤j
 | [],i,r,h=>by
  simp only [lK,Option.some.injEq] at h;subst h;exact ⟨by simp [Instr.findAsking],fun j h=>by cases h⟩
 | e ::es,i,r,h=>by
  simp only [lK] at h
  split at h <;> first | (cases h;done) | skip
  rename_i he;have hq:∀ b,eZ ks x.cells.toList e.key.cells.toList=some b→(Op.equal t x e.key).run P w= .ok b w:=fun b hb=>by
   have:=sV (P:=P) (w:=w) 10000 t ks _ _ b hks hb;rw [← hx.eq,← he.eq] at this;exact this
  split at h
  ·rename_i hb
   simp at h;subst h;exact ⟨by simp [Instr.findAsking,hq _ hb],fun j hj=>by simp at hj;omega⟩
  ·rename_i hb
   obtain ⟨a1,a2⟩:=tW hks hx w es (i+1) r h;refine ⟨?_,fun j hj=>by have:=a2 j hj;omega⟩;simp only [Instr.findAsking,Sem.run_bind,hq _ hb,Result.andThen_ok,Bool.false_eq_true,if_false,a1];cases r with
   | none=>rfl
   | some j=>
    have:=a2 j rfl;simp only [Option.map_some,show j - i=(j - (i+1))+1 by omega,List.getElem?_cons_succ]
  ·cases h
theorem qO {d:TypeDesc}{a b:Value}{r:Bool}(h:Instr.sameNow d a b=some r)(hd:(∃ fs,d= .struct fs)∨∃ n e,d= .array n e):False:=by
 rcases hd with ⟨fs,rfl⟩ | ⟨n,e,rfl⟩ <;> simp [Instr.sameNow] at h
theorem vT {t:TypeId}{d:TypeDesc}{k:Bool}(hd:(k=true∧∃ q,d= .int q)∨(k=false∧d= .bool)){x:Value}(hx1:x.cells.toList=[x])(L_:∀ {v:Value},pV P t [k] v→v.cells.toList=[v]):∀ (es:List MapEntry) (i:Nat) (r:Option Nat),lK P t [k] x es i=some r→
  Instr.findNow d x es i=some (r.map fun j=>(j,((es[j - i]?).map (·.val)).getD undef))∧∀ j,r=some j→i≤j
 | [],i,r,h=>by
  simp only [lK,Option.some.injEq] at h;subst h;exact ⟨by simp [Instr.findNow],fun j h=>by cases h⟩
 | e ::es,i,r,h=>by
  simp only [lK] at h
  split at h <;> first | (cases h;done) | skip
  rename_i hke;have hq:∀ b,eZ [k] x.cells.toList e.key.cells.toList=some b→Instr.sameNow d x e.key=some b:=fun b hb=>by
   rw [hx1,L_ hke] at hb;have hb:=qH hb;generalize e.key=y at hb;rcases hd with ⟨rfl,q,rfl⟩ | ⟨rfl,rfl⟩ <;> cases x <;> cases y <;> simp [G2] at hb
   ·simp [Instr.sameNow,hb]
   ·simp [Instr.sameNow,hb]
  split at h
  ·rename_i hb
   simp at h;subst h;exact ⟨by simp [Instr.findNow,hq _ hb],fun j hj=>by simp at hj;omega⟩
  ·rename_i hb
   obtain ⟨a1,a2⟩:=vT hd hx1 L_ es (i+1) r h;refine ⟨?_,fun j hj=>by have:=a2 j hj;omega⟩;simp only [Instr.findNow,hq _ hb,a1];cases r with
   | none=>rfl
   | some j=>
    have:=a2 j rfl;simp only [Option.map_some,show j - i=(j - (i+1))+1 by omega,List.getElem?_cons_succ]
  ·cases h
theorem iU {t:TypeId}{ks:List Bool}(hks:bA P 10000 t=some ks){x:Value}(hx:pV P t ks x)(w:World){es:List MapEntry}{r:Option Nat}(h:lK P t ks x es 0=some r):
  (Instr.findKey t x es).run P w= .ok (r.map fun j=>(j,((es[j]?).map (·.val)).getD undef)) w:=by
 obtain ⟨a1,_⟩:=tW hks hx w es 0 r h;have agg:(∃ d,P.underlying t=some d∧((∃ fs,d= .struct fs)∨∃ n e,d= .array n e))→(Instr.findKey t x es).run P w= .ok (r.map fun j=>(j,((es[j]?).map (·.val)).getD undef)) w:=by
  rintro ⟨d,hd,hk⟩;simp only [Instr.findKey,Sem.run_bind,run_underlying hd,Result.andThen_ok];cases es with
  | nil=>
   simp only [lK,Option.some.injEq] at h;subst h;simp [Instr.findNow]
  | cons e es=>
   have:Instr.findNow d x (e::es) 0=none:=by
    simp only [Instr.findNow]
    split
    ·rename_i hs;exact (qO hs hk).elim
    ·rename_i hs;exact (qO hs hk).elim
    ·rfl
   rw [this]
   simpa using a1
 have one:∀ (k:Bool) (d:TypeDesc),ks=[k]→P.underlying t=some d→dV P t=some none→((k=true∧∃ q,d= .int q)∨(k=false∧d= .bool))→(Instr.findKey t x es).run P w= .ok (r.map fun j=>(j,((es[j]?).map (·.val)).getD undef)) w:=by
  intro k d hk hd hty hkd;subst hk;have L_:∀ {v:Value},pV P t [k] v→v.cells.toList=[v]:=fun {v} hv=>by
   have e:=hv.eq;simp only [valOf,hty] at e;have hl:=hv.len
   match hc:v.cells.toList,hl with
   | [y],_=>rw [hc] at e;simp at e;rw [e]
  obtain ⟨b1,_⟩:=vT hkd (L_ hx) L_ es 0 r h;simp only [Instr.findKey,Sem.run_bind,run_underlying hd,Result.andThen_ok,b1];simp
 obtain ⟨d,hks⟩:∃ d,bA P (d+1) t=some ks:=⟨9999,hks⟩;simp only [bA] at hks
 split at hks
 ·rename_i i h1 h2
  simp at hks;obtain ⟨_,rfl⟩:=hks;exact one false _ rfl h1 (by simp [dV,h1,h2]) (.inr ⟨rfl,rfl⟩)
 ·rename_i k i h1 h2
  simp at hks;obtain ⟨_,rfl⟩:=hks;exact one true _ rfl h1 (by simp [dV,h1,h2]) (.inl ⟨rfl,_,rfl⟩)
 ·rename_i fs i h1 h2
  exact agg ⟨_,h1,.inl ⟨_,rfl⟩⟩
 ·rename_i n el i h1 h2
  exact agg ⟨_,h1,.inr ⟨_,_,rfl⟩⟩
 ·cases hks
end
section
variable {P:Program} {o:Oper} {E:Nat→Option SV} {H:Nat→Option Ob} {k:Nat} {own:Bool} {e:l6}
theorem vU {t:TypeId}{z:SV}(h:vP P t=some z):∃ v,(∀ w:World,(zeroValue t).run P w= .ok v w)∧∀ {p:Nat→Prop} {μ:Nat→Nm} {M:Mem},Rp p μ M z v:=by
 unfold vP at h
 split at h
 ·rename_i i hi
  split at h
  ·rename_i z' hz
   exact ⟨z',fun w=>qG hi hz,fun {_ _ _}=>DR h⟩
  ·cases h
 ·cases h
theorem gP.length {p:Nat→Prop}{μ:Nat→Nm}{M:Mem}:∀ {es:List (Nat×SV×SV)} {dP:List MapEntry},gP p μ M es dP→dP.length=es.length
 | [],dP,hr=>by simp only [gP] at hr;subst hr;rfl
 | (b,k,v)::es,dP,hr=>by
  obtain ⟨en,ens',rfl,h1,h2,h3,h4⟩:=hr;simp [gP.length h4]
theorem gP.append {p:Nat→Prop}{μ:Nat→Nm}{M:Mem}{b:Nat}{k v:SV}{en:MapEntry}(h1:en.born=b)(h2:Rp p μ M k en.key)(h3:Rp p μ M v en.val):∀ {es:List (Nat×SV×SV)} {dP:List MapEntry},gP p μ M es dP→gP p μ M (es++[(b,k,v)]) (dP++[en])
 | [],dP,hr=>by simp only [gP] at hr;subst hr;exact ⟨en,[],rfl,h1,h2,h3,rfl⟩
 | (b',k',v')::es,dP,hr=>by
  obtain ⟨en',ens',rfl,g1,g2,g3,g4⟩:=hr;exact ⟨en',_,rfl,g1,g2,g3,gP.append h1 h2 h3 g4⟩
theorem gP.modify {p:Nat→Prop}{μ:Nat→Nm}{M:Mem}{v:SV}{u:Value}(hv:Rp p μ M v u):∀ {es:List (Nat×SV×SV)} {dP:List MapEntry} (i:Nat),gP p μ M es dP→gP p μ M (es.modify i fun e=>(e.1,e.2.1,v)) (dP.modify i fun e=>{ e with val:=u})
 | [],dP,i,hr=>by simp only [gP] at hr;subst hr;simp [gP]
 | (b',k',v')::es,dP,0,hr=>by
  obtain ⟨en',ens',rfl,g1,g2,g3,g4⟩:=hr;exact ⟨_,_,rfl,g1,g2,hv,g4⟩
 | (b',k',v')::es,dP,i+1,hr=>by
  obtain ⟨en',ens',rfl,g1,g2,g3,g4⟩:=hr;exact ⟨en',_,rfl,g1,g2,g3,gP.modify hv i g4⟩
theorem gP.erase {p:Nat→Prop}{μ:Nat→Nm}{M:Mem}:∀ {es:List (Nat×SV×SV)} {dP:List MapEntry} (i:Nat),gP p μ M es dP→gP p μ M (es.eraseIdx i) (dP.eraseIdx i)
 | [],dP,i,hr=>by simp only [gP] at hr;subst hr;simp [gP]
 | (b',k',v')::es,dP,0,hr=>by
  obtain ⟨en',ens',rfl,g1,g2,g3,g4⟩:=hr;exact g4
 | (b',k',v')::es,dP,i+1,hr=>by
  obtain ⟨en',ens',rfl,g1,g2,g3,g4⟩:=hr;exact ⟨en',_,rfl,g1,g2,g3,gP.erase i g4⟩
theorem gP.find {p:Nat→Prop}{μ:Nat→Nm}{M:Mem}{st:Nat}:∀ {es:List (Nat×SV×SV)} {dP:List MapEntry} {e:Nat×SV×SV},gP p μ M es dP→es.find? (fun e=>e.1 == st)=some e→∃ en,dP.find? (fun x=>x.born == st)=some en∧Rp p μ M e.2.1 en.key∧Rp p μ M e.2.2 en.val
 | [],dP,e,hr,h=>by simp at h
 | (b',k',v')::es,dP,e,hr,h=>by
  obtain ⟨en',ens',rfl,g1,g2,g3,g4⟩:=hr;simp only [List.find?_cons] at h ⊢;rw [g1];cases hb:b' == st
  ·simp only [hb] at h ⊢
   exact gP.find g4 h
  ·simp only [hb,Option.some.injEq] at h ⊢
   subst h;exact ⟨_,rfl,g2,g3⟩
theorem Rp.tX {p:Nat→Prop}{μ:Nat→Nm}{M:Mem}{n:Nat}{v:Value}(h:Rp p μ M (.mp n) v)(hl:(μ n).live=true):v= .map (some (μ n).blk):=by simpa [dy,hl] using h.rep
theorem Rp.qP {p:Nat→Prop}{μ:Nat→Nm}{M:Mem}{n:Nat}{v:Value}(h:Rp p μ M (.mp n) v)(hl:(μ n).live=false):v= .map none:=by simpa [dy,hl] using h.rep
theorem Rp.Jx {p:Nat→Prop}{μ:Nat→Nm}{M:Mem}{n:Nat}{v:Value}(h:Rp p μ M (.it n) v):v= .pointer (some ⟨(μ n).blk,0,none⟩):=by simpa [dy] using h.rep
theorem Rp.tB {p:Nat→Prop}{μ:Nat→Nm}{M:Mem}{v:Value}(h:Rp p μ M (.d .jj) v):v= .map none:=by simpa [bX] using Rp.cU.1 h
theorem mU {p:Nat→Prop}{μ:Nat→Nm}{M:Mem}{v:SV}{u:Value}{b:Bool}(ok:Bool)(h:Rp p μ M v u):Rp p μ M (kI ok v b) (if ok then .tuple #[u,.bool b] else u):=by
 cases ok
 ·exact h
 ·exact Rp.dX.2 ⟨_,rfl,aU.aD.2 ⟨_,_,rfl,h,aU.aD.2 ⟨_,_,rfl,Rp.bG.2 rfl,aU.aR.2 rfl⟩⟩⟩
theorem Kk {t kt et:TypeId}{m i:Operand}{ok:Bool}{m' i':X}{ks:List Bool}{z:SV}(ho:o.op= .lookup t m i ok)(ht:P.underlying t=some (.map kt et))(hm:cX m=some m')(hi:cX i=some i')
  (hks:bA P 10000 kt=some ks) (hz:vP P et=some z) (he:dH E H k own (.look ks (nU P kt) z m' i' ok)=some e):Sound P o E H k e:=by
 obtain ⟨z',hz1,hz2⟩:=vU hz;simp only [dH] at he
 split at he <;> first | (cases he;done) | skip
 ·rename_i key h1 h2
  split at he <;> first | (cases he;done) | skip
  rename_i tA;injection he with he;subst he;refine ⟨OT.pure fun p μ M a w hk hS=>⟨if ok then .tuple #[z',.bool false] else z',?_,mU ok hz2⟩,aV⟩;have e1:=(hk.get (by simp [ho,Op.operands]) hm h1).tB;obtain ⟨kv,_⟩:=gR hks tA (hk.get (by simp [ho,Op.operands]) hi h2);have hf:=iU hks kv w (es:=[]) (r:=none) (by simp [lK]);simp [execOp,ho,Instr.lookup,run_underlying ht,e1,kv.check hks,hf,hz1]
 ·rename_i n key h1 h2
  split at he <;> first | (cases he;done) | skip
  ·rename_i es c hH
   split at he <;> first | (cases he;done) | skip
   rename_i tA
   split at he <;> first | (cases he;done) | skip
   rename_i r hf;injection he with he;subst he;refine ⟨OT.pure fun p μ M a w hk hS=> ?_,sub_one hH⟩;obtain ⟨_,⟨h0,dP,hb,hre⟩,_⟩:=hS.one;have e1:=(hk.get (by simp [ho,Op.operands]) hm h1).tX h0;obtain ⟨kv,kc⟩:=gR hks tA (hk.get (by simp [ho,Op.operands]) hi h2);obtain ⟨hv,hj⟩:=qN hks kc hre hf;have hfk:=iU hks kv w hv;cases r with
   | none=>
    refine ⟨if ok then .tuple #[z',.bool false] else z',?_,mU ok hz2⟩;simp [execOp,ho,Instr.lookup,run_underlying ht,e1,MapKept.run_getObj_map hb,kv.check hks,hfk,hz1]
   | some j=>
    obtain ⟨_,q,en,hq,Ah,_,_,_,hval⟩:=hj j rfl;simp only [Nat.sub_zero] at hq Ah;simp only [Option.map_some,Ah,Option.getD_some] at hfk;refine ⟨if ok then .tuple #[en.val,.bool true] else en.val,?_,mU ok (by simpa [gB,hq] using hval)⟩;simp [execOp,ho,Instr.lookup,run_underlying ht,e1,MapKept.run_getObj_map hb,kv.check hks,hfk]
  ·rename_i hH
   split at he <;> first | (cases he;done) | skip
   rename_i tA;injection he with he;subst he;refine ⟨OT.pure fun p μ M a w hk hS=>⟨if ok then .tuple #[z',.bool false] else z',?_,mU ok hz2⟩,sub_one hH⟩;have e1:=(hk.get (by simp [ho,Op.operands]) hm h1).qP hS.one.2.1;obtain ⟨kv,_⟩:=gR hks tA (hk.get (by simp [ho,Op.operands]) hi h2);have hf:=iU hks kv w (es:=[]) (r:=none) (by simp [lK]);simp [execOp,ho,Instr.lookup,run_underlying ht,e1,kv.check hks,hf,hz1]
theorem Kl {c:Call}{t kt et:TypeId}{x:Operand}{y:X}(ho:o.op= .call c)(cu:c.callee= .builtin .len)(ha:c.args.toList=[x])(p0:c.argTypes.toList=[t])(ht:P.underlying t=some (.map kt et))
  (hx:cX x=some y) (he:dH E H k own (.J7 y)=some e):Sound P o E H k e:=by
 have ha':c.args= #[x]:=by cases hh:c.args;simp [hh] at ha;simp [ha]
 have hat':c.argTypes= #[t]:=by cases hh:c.argTypes;simp [hh] at p0;simp [p0]
 have hin:x∈o.op.operands:=by simp [ho,Op.operands,Call.operands,cu,ha']
 simp only [dH] at he
 split at he <;> first | (cases he;done) | skip
 ·rename_i h1
  injection he with he;subst he;refine ⟨OT.pure fun p μ M a w hk hS=>⟨.int .i64 0,?_,Rp.aL.2 rfl⟩,aV⟩;have e1:=(hk.get hin hx h1).tB;simp [execOp,ho,resolve,cu,ha',hat',invoke,builtin,e1,Builtin.len_,run_underlying ht,goInt]
 ·rename_i n h1
  split at he <;> first | (cases he;done) | skip
  ·rename_i es c' hH
   injection he with he;subst he;refine ⟨OT.pure fun p μ M a w hk hS=> ?_,sub_one hH⟩;obtain ⟨_,⟨h0,dP,hb,hre⟩,_⟩:=hS.one;have e1:=(hk.get hin hx h1).tX h0;refine ⟨.int .i64 es.length,?_,Rp.aL.2 rfl⟩;have:=hre.length;simp at this;simp [execOp,ho,resolve,cu,ha',hat',invoke,builtin,e1,Builtin.len_,run_underlying ht,goInt,MapKept.run_getObj_map hb,this]
  ·rename_i hH
   injection he with he;subst he;refine ⟨OT.pure fun p μ M a w hk hS=>⟨.int .i64 0,?_,Rp.aL.2 rfl⟩,sub_one hH⟩;have e1:=(hk.get hin hx h1).qP hS.one.2.1;simp [execOp,ho,resolve,cu,ha',hat',invoke,builtin,e1,Builtin.len_,run_underlying ht,goInt]
theorem kJ {w:World}{b:Nat}{x:Obj}(o:Obj)(hb:w.heap[b]? =some x):({ w with heap:=w.heap.setIfInBounds b o}:World).heap[b]? =some o∧∀ c,c≠b→({ w with heap:=w.heap.setIfInBounds b o}:World).heap[c]? =w.heap[c]? :=by
 have hlt:=(Array.getElem?_eq_some_iff.1 hb).1;refine ⟨by simp [Array.getElem?_setIfInBounds,hlt],fun c hc=> ?_⟩;simp only [Array.getElem?_setIfInBounds];rw [if_neg (fun h:b=c=>hc h.symm)]
theorem D3 {t kt et:TypeId}{m i v:Operand}{m' i' v':X}{ks:List Bool}(ho:o.op= .mapUpdate t m i v∨o.op= .insert t m i v)(ht:P.underlying t=some (.map kt et))(hm:cX m=some m')(hi:cX i=some i')(hv:cX v=some v')
  (hks:bA P 10000 kt=some ks) (he:dH E H k own (.qF ks (nU P kt) m' i' v')=some e):Sound P o E H k e:=by
 have hin:m∈o.op.operands∧i∈o.op.operands∧v∈o.op.operands:=by rcases ho with ho | ho <;> simp [ho,Op.operands]
 simp only [dH] at he
 split at he <;> first | (cases he;done) | skip
 rename_i n key s h1 h2 h3
 split at he <;> first | (cases he;done) | skip
 rename_i es c hH
 split at he <;> first | (cases he;done) | skip
 rename_i tA
 split at he <;> first | (cases he;done) | skip
 rename_i r hf;injection he with he;subst he;refine ⟨OT.write fun p μ M a w hk hp bz=> ?_,sub_one hH⟩;obtain ⟨h0,dP,hb,hre⟩:=bz;have e1:=(hk.get hin.1 hm h1).tX h0;have r2:=hk.get hin.2.1 hi h2;have r3:=hk.get hin.2.2 hv h3;obtain ⟨kv,kc⟩:=gR hks tA r2;obtain ⟨hfv,hj⟩:=qN hks kc hre hf;have hfk:=iU hks kv w hfv;cases r with
 | none=>
  obtain ⟨g1,g2⟩:=kJ (.map (dP.push { key:=a.eval i,val:=a.eval v,born:=c}) (c+1)) hb;refine ⟨undef,_,.inr ⟨?_,rfl⟩,Rp.any,⟨h0,dP.push { key:=a.eval i,val:=a.eval v,born:=c},g1,?_⟩,fun b hb=>g2 b (hb h0),by simp,rfl,⟨rfl,Nat.le_refl _⟩,rfl⟩
  ·rcases ho with ho | ho <;> simp [execOp,ho,Instr.mapUpdate,run_underlying ht,e1,MapKept.run_getObj_map hb,kv.check hks,hfk,MapKept.run_setObj_map _ hb]
  ·simp only [Array.toList_push]
   exact gP.append (en:={ key:=a.eval i,val:=a.eval v,born:=c}) rfl r2 r3 hre
 | some j=>
  obtain ⟨_,q,en,hq,Ah,hkv,hcs,hkr,hval⟩:=hj j rfl;simp only [Nat.sub_zero] at hq Ah;have hsame:=kv.same hkv hcs;simp only [Option.map_some,Ah,Option.getD_some] at hfk;have hen':dP[j]? =some en:=by simpa using Ah
  obtain ⟨g1,g2⟩:=kJ (.map (dP.modify j fun e=>{ e with key:=a.eval i,val:=a.eval v}) c) hb;refine ⟨undef,_,.inr ⟨?_,rfl⟩,Rp.any,⟨h0,dP.modify j fun e=>{ e with key:=a.eval i,val:=a.eval v},g1,?_⟩,fun b hb=>g2 b (hb h0),by simp,rfl,⟨rfl,Nat.le_refl _⟩,rfl⟩
  ·have hst:(Instr.keyThatStays en.key (a.eval i)).run P w= .ok (a.eval i) w:=by rw [← hsame];exact kv.stays w
   rcases ho with ho | ho <;> simp [execOp,ho,Instr.mapUpdate,run_underlying ht,e1,MapKept.run_getObj_map hb,kv.check hks,hfk,hen',hst,MapKept.run_setObj_map _ hb]
  ·have:(dP.modify j fun e=>{ e with key:=a.eval i,val:=a.eval v}).toList=dP.toList.modify j fun e=>{ e with val:=a.eval v}:=by
    rw [Array.toList_modify];apply List.ext_getElem?;intro m;simp only [List.getElem?_modify]
    by_cases hmj:j=m
    ·subst hmj
     simp [hen',hsame]
    ·simp [hmj]
   rw [this];exact gP.modify r3 j hre
theorem Km {c :Call}{t kt et t':TypeId}{m i:Operand}{m' i':X}{ks:List Bool}(ho:o.op= .call c)(cu:c.callee= .builtin .delete)(ha:c.args.toList=[m,i])(p0:c.argTypes.toList=[t,t'])(ht:P.underlying t=some (.map kt et))(hm:cX m=some m')(hi:cX i=some i')
  (hks:bA P 10000 kt=some ks) (he:dH E H k own (.G9 ks (nU P kt) m' i')=some e):Sound P o E H k e:=by
 have ha':c.args= #[m,i]:=by cases hh:c.args;simp [hh] at ha;simp [ha]
 have hat':c.argTypes= #[t,t']:=by cases hh:c.argTypes;simp [hh] at p0;simp [p0]
 have hin1:m∈o.op.operands:=by simp [ho,Op.operands,Call.operands,cu,ha']
 have hin2:i∈o.op.operands:=by simp [ho,Op.operands,Call.operands,cu,ha']
 simp only [dH] at he
 split at he <;> first | (cases he;done) | skip
 ·rename_i key h1 h2
  split at he <;> first | (cases he;done) | skip
  rename_i tA;injection he with he;subst he;refine ⟨OT.pure fun p μ M a w hk hS=>⟨.tuple #[],?_,Rp.any⟩,aV⟩;have e1:=(hk.get hin1 hm h1).tB;obtain ⟨kv,_⟩:=gR hks tA (hk.get hin2 hi h2);simp [execOp,ho,resolve,cu,ha',hat',invoke,builtin,Builtin.delete_,run_underlying ht,e1,kv.check hks]
 ·rename_i n key h1 h2
  split at he <;> first | (cases he;done) | skip
  ·rename_i es cl hH
   split at he <;> first | (cases he;done) | skip
   rename_i tA
   split at he <;> first | (cases he;done) | skip
   rename_i r hf;injection he with he;subst he;refine ⟨OT.write fun p μ M a w hk hp bz=> ?_,sub_one hH⟩;obtain ⟨h0,dP,hb,hre⟩:=bz;have e1:=(hk.get hin1 hm h1).tX h0;obtain ⟨kv,kc⟩:=gR hks tA (hk.get hin2 hi h2);obtain ⟨hfv,hj⟩:=qN hks kc hre hf;have hfk:=iU hks kv w hfv;cases r with
   | none=>
    obtain ⟨g1,g2⟩:=kJ (.map dP cl) hb;refine ⟨.tuple #[],_,.inl ?_,Rp.any,⟨h0,dP,g1,hre⟩,fun b hb=>g2 b (hb h0),by simp,rfl,⟨rfl,Nat.le_refl _⟩,rfl⟩;simp [execOp,ho,resolve,cu,ha',hat',invoke,builtin,Builtin.delete_,run_underlying ht,e1,MapKept.run_getObj_map hb,kv.check hks,hfk,MapKept.run_setObj_map _ hb]
   | some j=>
    obtain ⟨g1,g2⟩:=kJ (.map (dP.eraseIdxIfInBounds j) cl) hb;refine ⟨.tuple #[],_,.inl ?_,Rp.any,⟨h0,dP.eraseIdxIfInBounds j,g1,?_⟩,fun b hb=>g2 b (hb h0),by simp,rfl,⟨rfl,Nat.le_refl _⟩,rfl⟩
    ·simp [execOp,ho,resolve,cu,ha',hat',invoke,builtin,Builtin.delete_,run_underlying ht,e1,MapKept.run_getObj_map hb,kv.check hks,hfk,MapKept.run_setObj_map _ hb]
    ·have:(dP.eraseIdxIfInBounds j).toList=dP.toList.eraseIdx j:=by
      unfold Array.eraseIdxIfInBounds
      split
      ·simp
      ·rw [List.eraseIdx_of_length_le]
       simp;omega
     rw [this];exact gP.erase j hre
  ·rename_i hH
   split at he <;> first | (cases he;done) | skip
   rename_i tA;injection he with he;subst he;refine ⟨OT.pure fun p μ M a w hk hS=>⟨.tuple #[],?_,Rp.any⟩,sub_one hH⟩;have e1:=(hk.get hin1 hm h1).qP hS.one.2.1;obtain ⟨kv,_⟩:=gR hks tA (hk.get hin2 hi h2);simp [execOp,ho,resolve,cu,ha',hat',invoke,builtin,Builtin.delete_,run_underlying ht,e1,kv.check hks]
theorem OT.D4 {n:Nat}{Ma ob:Ob}{v:SV}(h:∀ (p:Nat→Prop) (μ:Nat→Nm) (M:Mem) (a:Act) (w:World),ig E o.op.operands p μ M a→p n→cE p μ M w (μ n) Ma→qE M w→
    ∃ u ro cap,(execOp a.eval o).run P w= .ok (.value u) (w.alloc ro)∧
      ∀ (p':Nat→Prop) (a_:Nat→Nm),(∀ n,p n→p' n)→(∀ n,p n→a_ n=μ n)→p' k→a_ k=⟨w.heap.size,cap,true⟩→cE p' a_ M (w.alloc ro) ⟨w.heap.size,cap,true⟩ ob∧Rp p' a_ M v u):
    OT P o E [(n,Ma)] (fun n=>k≤n∧n<k+1) v [(n,Ma),(k,ob)]:=by
  intro rd p μ M a w K Q hnew hkn hS hK;obtain ⟨hp,hob0,hM0⟩:=hS.one;obtain ⟨u,ro,cap,hr,hu⟩:=h p μ M a w hkn hp hob0 hS.mem;have hk: ¬ p k:=hnew k ⟨Nat.le_refl _,by omega⟩;have hnk:n≠k:=fun e=>hk (e ▸ hp)
  have hlt:=fun l=>hob0.lt l
  obtain ⟨h1,h2⟩:=hu (fun n=>p n∨(k≤n∧n<k+1)) (Ae μ k ⟨w.heap.size,cap,true⟩) (fun n h=> .inl h) (vN hk) (.inr ⟨Nat.le_refl _,by omega⟩) (bN _ _ _);have hlk:∀ m,lk [(n,Ma),(k,ob)] m=if m=n then some Ma else if m=k then some ob else none:=by
    intro m;rw [aa,cZ]
  refine ij hr (hK u (Ae μ k ⟨w.heap.size,cap,true⟩) M (w.alloc ro) h2 ⟨mc ro hS.mem,fun m kg hm=> ?_,fun m m' hm hm' lm lm' e=> ?_⟩ ⟨fun n hn=> ?_,Mem.le_refl M,fun b hb _=>⟨jQ w ro hb,fun _=>rfl⟩,by simp,fun m hm=> ?_,rfl,⟨rfl,Nat.le_refl _⟩,rfl⟩)
  · rw [hlk] at hm
    split at hm
    · rename_i e
      subst e;simp at hm;subst hm;rw [fD _ _ _ hnk];exact ⟨.inl hp,hob0.more (fun _ h=> .inl h) (vN hk) (Mem.le_refl M) (fun l=>jQ w ro (hlt l)),hM0⟩
    · split at hm
      · rename_i e
        subst e;simp at hm;subst hm;rw [bN];exact ⟨.inr ⟨Nat.le_refl _,by omega⟩,h1,fun _=>tT hS.mem (Nat.le_refl _)⟩
      · cases hm
  · rw [hlk] at hm hm'
    by_cases a1:m=n <;> by_cases a2:m'=n
    · omega
    · by_cases a3:m'=k
      · subst a1;subst a3
        rw [fD _ _ _ hnk] at e lm;rw [bN] at e;have:=hlt lm;simp at e;omega
      · simp [a2,a3] at hm'
    · by_cases a3:m=k
      · subst a2;subst a3
        rw [fD _ _ _ hnk] at e lm';rw [bN] at e;have:=hlt lm';simp at e;omega
      · simp [a1,a3] at hm
    · by_cases a3:m=k <;> by_cases a4:m'=k
      · omega
      · simp [a2,a4] at hm'
      · simp [a1,a3] at hm
      · simp [a1,a3] at hm
  · exact fD _ _ _ (by omega)
  · rw [hlk] at hm
    by_cases a1:m=n
    · subst a1
      exact .inr ⟨fun h=>hk (by
          have:m=k:=by omega
          exact this ▸ hp),by simp [cZ]⟩
    · by_cases a2:m=k
      · subst a2
        exact .inl ⟨⟨Nat.le_refl _,by omega⟩,fun _=> .inl (by rw [bN];exact Nat.le_refl _)⟩
      · simp [a1,a2] at hm
theorem Rp.D5 {p:Nat→Prop}{μ:Nat→Nm}{M:Mem}{n:Nat}(hp:p n):Rp p μ M (.it n) (.pointer (some ⟨(μ n).blk,0,none⟩)):=fun a_ h=>by
 simp [dy,h n hp]
theorem D6 {t kt et:TypeId}{m:Operand}{m':X}(ho:o.op= .range t m)(ht:P.underlying t=some (.map kt et))(hm:cX m=some m')(he:dH E H k own (.mO m')=some e):Sound P o E H k e:=by
 simp only [dH] at he
 split at he <;> first | (cases he;done) | skip
 ·rename_i h1
  injection he with he;subst he;refine ⟨OT.make fun p μ M a w hk hM=> ?_,aV⟩;have e1:=(hk.get (by simp [ho,Op.operands]) hm h1).tB;refine ⟨.pointer (some ⟨w.heap.size,0,none⟩),.mapIter none 0 #[] 0,0,?_,fun p' a_ hp kf hpk hk'=>⟨⟨rfl,(fun n h=>by cases h),gz w (.mapIter none 0 #[] 0)⟩,?_⟩⟩
  ·simp [execOp,ho,Instr.range,run_underlying ht,e1,run_newObj]
  ·have:=Rp.D5 (μ:=a_) (M:=M) hpk
   rwa [hk'] at this
 ·rename_i n h1
  split at he <;> first | (cases he;done) | skip
  ·rename_i es c hH
   injection he with he;subst he;refine ⟨OT.D4 fun p μ M a w hk hpn bz hM=> ?_,sub_one hH⟩;obtain ⟨h0,dP,hb,hre⟩:=bz;have e1:=(hk.get (by simp [ho,Op.operands]) hm h1).tX h0;refine ⟨.pointer (some ⟨w.heap.size,0,none⟩),.mapIter (some (μ n).blk) c #[] c,0,?_,fun p' a_ hp kf hpk hk'=>⟨⟨rfl,(fun n' h=>by cases h;exact hp _ hpn),?_⟩,?_⟩⟩
   ·simp [execOp,ho,Instr.range,run_underlying ht,e1,MapKept.run_getObj_map hb,run_newObj]
   ·have:=gz w (.mapIter (some (μ n).blk) c #[] c)
    simpa [kf n hpn] using this
   ·have:=Rp.D5 (μ:=a_) (M:=M) hpk
    rwa [hk'] at this
  ·rename_i hH
   injection he with he;subst he;refine ⟨OT.D4 fun p μ M a w hk hpn bz hM=> ?_,sub_one hH⟩;have e1:=(hk.get (by simp [ho,Op.operands]) hm h1).qP bz;refine ⟨.pointer (some ⟨w.heap.size,0,none⟩),.mapIter none 0 #[] 0,0,?_,fun p' a_ hp kf hpk hk'=>⟨⟨rfl,(fun n h=>by cases h),gz w (.mapIter none 0 #[] 0)⟩,?_⟩⟩
   ·simp [execOp,ho,Instr.range,run_underlying ht,e1,run_newObj]
   ·have:=Rp.D5 (μ:=a_) (M:=M) hpk
    rwa [hk'] at this
theorem D7 {x:Operand}{x':X}(ho:o.op= .entry x)(hx:cX x=some x')(he:dH E H k own (.oo x')=some e)(bz:e.ob):Sound P o E H k e:=by
 simp only [dH] at he
 split at he <;> first | (cases he;done) | skip
 rename_i n h1
 split at he <;> first | (cases he;done) | skip
 rename_i m since seen st hH
 split at he <;> first | (cases he;done) | skip
 rename_i es c hH2
 split at he <;> first | (cases he;done) | skip
 rename_i stamp hst
 split at he <;> first | (cases he;done) | skip
 rename_i en Ah;injection he with he;subst he;obtain ⟨rfl,hnm⟩:=bz;refine ⟨OT.pure fun p μ M a w hk hS=> ?_,?_⟩
 ·obtain ⟨_,hb,_⟩:=hS.obs n (.iter (some m) since seen c) (by simp [aa])
  obtain ⟨_,G4,_⟩:=hS.obs m (.map es c) (by rw [aa,if_neg (fun h=>hnm h.symm),cZ,if_pos rfl]);obtain ⟨_,_,hb⟩:=hb;obtain ⟨_,dP,G4,hre⟩:=G4;have e1:=(hk.get (by simp [ho,Op.operands]) hx h1).Jx;obtain ⟨en',hf,g1,g2⟩:=hre.find Ah;have hf':dP.find? (fun x=>x.born == stamp)=some en':=by rw [← Array.find?_toList];exact hf
  have hbk:seen.toArray.back? =some stamp:=by simpa using hst
  refine ⟨.tuple #[en'.key,en'.val],?_,Rp.dX.2 ⟨_,rfl,aU.aD.2 ⟨_,_,rfl,g1,aU.aD.2 ⟨_,_,rfl,g2,aU.aR.2 rfl⟩⟩⟩⟩;simp only [Option.map_some] at hb;have hg:(getObj (μ n).blk).run P w= .ok (.mapIter (some (μ m).blk) since seen.toArray c) w:=by simp [getObj,Sem.run,hb]
  simp [execOp,ho,Instr.entry,e1,hg,hbk,MapKept.run_getObj_map G4,hf']
 ·intro q ob hq
  rw [aa,cZ] at hq
  split at hq
  ·rename_i e;subst e;simp at hq;subst hq;exact hH
  ·split at hq
   ·rename_i e;subst e;simp at hq;subst hq;exact hH2
   ·cases hq
end
end
section
section
variable {P:Program} {o:Oper} {E:Nat→Option SV} {H:Nat→Option Ob} {k:Nat} {own:Bool} {e:l6}
theorem gP.get {p:Nat→Prop}{μ:Nat→Nm}{M:Mem}:∀ {es:List (Nat×SV×SV)} {dP:List MapEntry} (i:Nat),gP p μ M es dP→
  (es[i]? =none∧dP[i]? =none)∨∃ e en,es[i]? =some e∧dP[i]? =some en∧en.born=e.1∧Rp p μ M e.2.1 en.key∧Rp p μ M e.2.2 en.val
 | [],dP,i,h=>by
  have h:dP=[]:=h;subst h;exact .inl ⟨by simp,by simp⟩
 | (b,k,v)::r,dP,i,h=>by
  obtain ⟨en,ens',rfl,h1,h2,h3,h4⟩:=h;cases i with
  | zero=>exact .inr ⟨_,en,rfl,rfl,h1,h2,h3⟩
  | succ i=>simpa using gP.get i h4
theorem gP.findIdx {p:Nat→Prop}{μ:Nat→Nm}{M:Mem}{b:Int}:∀ {es:List (Nat×SV×SV)} {dP:List MapEntry},gP p μ M es dP→dP.findIdx? (fun e=>(e.born:Int) == b)=es.findIdx? (fun e=>(e.1:Int) == b)
 | [],dP,h=>by
  have h:dP=[]:=h;subst h;rfl
 | (t,k,v)::r,dP,h=>by
  obtain ⟨en,ens',rfl,h1,_,_,h4⟩:=h;simp only [List.findIdx?_cons,h1,gP.findIdx h4]
theorem Ht {t kt et:TypeId}{m i:Operand}{m' i':X}{ks:List Bool}{z:SV}(ho:o.op= .mapEntry t m i)(ht:P.underlying t=some (.map kt et))(hm:cX m=some m')(hi:cX i=some i')
  (hks:bA P 10000 kt=some ks) (hz:vP P et=some z) (he:dH E H k own (.sR ks (nU P kt) z m' i')=some e):Sound P o E H k e:=by
 have hin:m∈o.op.operands∧i∈o.op.operands:=by simp [ho,Op.operands]
 simp only [dH] at he
 split at he <;> first | (cases he;done) | skip
 rename_i n key h1 h2
 split at he <;> first | (cases he;done) | skip
 rename_i es c hH
 split at he <;> first | (cases he;done) | skip
 rename_i tA
 split at he <;> first | (cases he;done) | skip
 rename_i r hf;injection he with he;subst he;refine ⟨OT.write fun p μ M a w hk hp bz=> ?_,sub_one hH⟩;obtain ⟨h0,dP,hb,hre⟩:=bz;have e1:=(hk.get hin.1 hm h1).tX h0;have r2:=hk.get hin.2 hi h2;obtain ⟨kv,kc⟩:=gR hks tA r2;obtain ⟨hfv,hj⟩:=qN hks kc hre hf;have hfk:=iU hks kv w hfv;obtain ⟨zv,hzv,hzr⟩:=vU hz;cases r with
 | none=>
  obtain ⟨g1,g2⟩:=kJ (.map (dP.push { key:=a.eval i,val:=zv,born:=c}) (c+1)) hb;refine ⟨.tuple #[zv,.int .i64 c],_,.inl ?_,Rp.dX.2 ⟨_,rfl,aU.aD.2 ⟨zv,_,rfl,hzr,aU.aD.2 ⟨_,[],rfl,Rp.aL.2 rfl,aU.aR.2 rfl⟩⟩⟩,⟨h0,dP.push { key:=a.eval i,val:=zv,born:=c},g1,?_⟩,fun b hb=>g2 b (hb h0),by simp,rfl,⟨rfl,Nat.le_refl _⟩,rfl⟩
  ·simp [execOp,ho,Instr.mapEntry,run_underlying ht,e1,MapKept.run_getObj_map hb,kv.check hks,hfk,hzv,MapKept.run_setObj_map _ hb,goInt]
  ·simp only [Array.toList_push]
   exact gP.append (en:={ key:=a.eval i,val:=zv,born:=c}) rfl r2 hzr hre
 | some j=>
  obtain ⟨_,q,en,hq,Ah,hkv,hcs,hkr,hval⟩:=hj j rfl;simp only [Nat.sub_zero] at hq Ah;have hsame:=kv.same hkv hcs;simp only [Option.map_some,Ah,Option.getD_some] at hfk;have hen':dP[j]? =some en:=by simpa using Ah
  have hmod:dP.modify j (fun e=>{ e with key:=a.eval i})=dP:=by
   apply Array.ext_getElem?;intro m;rw [Array.getElem?_modify]
   by_cases hmj:j=m
   ·subst hmj
    simp [hen',hsame]
   ·simp [hmj]
  obtain ⟨g1,g2⟩:=kJ (.map dP c) hb;have hborn:en.born=q.1:=by
   rcases gP.get j hre with ⟨x1,x2⟩ | ⟨e',en',x1,x2,x3,_⟩
   ·rw [hq] at x1;cases x1
   ·rw [hq] at x1;rw [Ah] at x2
    injection x1 with x1;injection x2 with x2;rw [x1,x2];exact x3
  refine ⟨.tuple #[en.val,.int .i64 en.born],_,.inl ?_,?_,⟨h0,dP,g1,hre⟩,fun b hb=>g2 b (hb h0),by simp,rfl,⟨rfl,Nat.le_refl _⟩,rfl⟩
  ·have hst:(Instr.keyThatStays en.key (a.eval i)).run P w= .ok (a.eval i) w:=by rw [← hsame];exact kv.stays w
   simp [execOp,ho,Instr.mapEntry,run_underlying ht,e1,MapKept.run_getObj_map hb,kv.check hks,hfk,hen',hst,MapKept.run_setObj_map _ hb,goInt,hmod]
  ·refine Rp.dX.2 ⟨_,rfl,aU.aD.2 ⟨en.val,_,rfl,?_,aU.aD.2 ⟨_,[],rfl,Rp.aL.2 ?_,aU.aR.2 rfl⟩⟩⟩
   ·simp only [gB,hq];exact hval
   ·simp only [yt,hq,hborn]
theorem Hu {t:TypeId}{m s x:Operand}{m' s' x':X}(ho:o.op= .entryStore t m s x)(hm:cX m=some m')(hs:cX s=some s')(hx:cX x=some x')(he:dH E H k own (.sS m' s' x')=some e):Sound P o E H k e:=by
 have hin:m∈o.op.operands∧s∈o.op.operands∧x∈o.op.operands:=by simp [ho,Op.operands]
 simp only [dH] at he
 split at he <;> first | (cases he;done) | skip
 rename_i n kb b v h1 h2 h3
 split at he <;> first | (cases he;done) | skip
 rename_i es c hH
 split at he <;> first | (cases he;done) | skip
 rename_i j hj;injection he with he;subst he;refine ⟨OT.write fun p μ M a w hk hp bz=> ?_,sub_one hH⟩;obtain ⟨h0,dP,hb,hre⟩:=bz;have e1:=(hk.get hin.1 hm h1).tX h0;have e2:=Rp.aL.1 (hk.get hin.2.1 hs h2);have r3:=hk.get hin.2.2 hx h3;have hfi:dP.findIdx? (fun e=>(e.born:Int) == b)=some j:=by
  have h2:∀ (q:Array MapEntry) (f:MapEntry→Bool),q.findIdx? f=q.toList.findIdx? f:=fun q f=>by cases q;simp
  rw [h2,gP.findIdx hre];exact hj
 obtain ⟨g1,g2⟩:=kJ (.map (dP.modify j fun e=>{ e with val:=a.eval x}) c) hb;refine ⟨undef,_,.inr ⟨?_,rfl⟩,Rp.any,⟨h0,dP.modify j fun e=>{ e with val:=a.eval x},g1,?_⟩,fun b hb=>g2 b (hb h0),by simp,rfl,⟨rfl,Nat.le_refl _⟩,rfl⟩
 ·simp [execOp,ho,Instr.entryStore,e1,e2,MapKept.run_getObj_map hb,hfi,MapKept.run_setObj_map _ hb,asInt,asIntOf]
 ·rw [Array.toList_modify]
  exact gP.modify r3 j hre
theorem Mb {c:Call}{t el:TypeId}{x:Operand}{x':X}{ti:TypeInfo}{z:List SV}(ho:o.op= .call c)(cu:c.callee= .builtin .clear)(ha:c.args.toList=[x])(p0:c.argTypes.toList=[t])(ht:P.underlying t=some (.slice el))
  (hi:P.info? el=some ti) (hz:gi P el=some z) (hsz:z.length=ti.size∧0<ti.size) (hx:cX x=some x') (he:dH E H k own (.LK ti.size z x')=some e) (bz:e.ob):Sound P o E H k e:=by
 have ha':c.args= #[x]:=by cases hh:c.args;simp [hh] at ha;simp [ha]
 have hat':c.argTypes= #[t]:=by cases hh:c.argTypes;simp [hh] at p0;simp [p0]
 have hin:x∈o.op.operands:=by simp [ho,Op.operands,Call.operands,cu,ha']
 simp only [dH] at he
 split at he <;> first | (cases he;done) | skip
 rename_i n off len h1
 split at he <;> first | (cases he;done) | skip
 rename_i el' z' l cs hH;injection he with he;subst he;obtain ⟨b1,b2⟩:=bz;refine ⟨OT.write fun p μ M a w hk hp bz=> ?_,sub_one hH⟩;have hpos:0<len*ti.size:=Nat.mul_pos b1 hsz.2;rcases bz with ⟨_,_,rfl⟩ | bz
 ·simp at b2;omega
 obtain ⟨h0,vs,hb,hl1,hl2,LM,hl4,hr⟩:=bz;obtain ⟨A,cp,e1,e2,e3⟩:=(by simpa only [dy] using (hk.get hin hx h1).rep:∃ A c,a.eval x= .slice (some A) len c∧len≤c∧(len≠0→A=⟨(μ n).blk,off,none⟩));have e3:=e3 (by omega);subst e3;obtain ⟨v,hv,LN,hzone⟩:=gA hz (p:=p) (μ:=μ) (M:=M);have hvs:v.cells.size=ti.size:=by have:=LN.length;simp at this;omega
 have hm:=tV LN len (len*ti.size) (by rw [hsz.1]);have hle:l*z'≤vs.size:=by rw [hl4];exact Nat.mul_le_mul_right z' hl2
 have hzl:((Array.range (len*ti.size)).map (v.cells[· % v.cells.size]!)).toList=(Builtin.zeroCells v.cells len).toList:=by
  unfold Builtin.zeroCells;rw [hvs]
 have hlen:(Builtin.zeroCells v.cells len).toList.length=len*ti.size:=by rw [← hzl];simp
 rw [hzl] at hm;have hone:∀ u∈(Builtin.zeroCells v.cells len).toList,u.oneCell'=true:=by
  refine aU.D1 ?_ hm;rw [List.all_eq_true] at hzone ⊢;intro y hy;rw [List.mem_flatten] at hy;obtain ⟨q,hq,hy⟩:=hy;rw [List.eq_of_mem_replicate hq] at hy;exact hzone y hy
 obtain ⟨w',hr',q1,q2,q3,q4,q5,q6⟩:=ja (P:=P) (Builtin.zeroCells v.cells len).toList vs w off 0 hb (by rw [hlen];omega) hone;have hlr:((List.replicate len z).flatten).length=len*ti.size:=by rw [hm.length.symm,hlen]
 refine ⟨.tuple #[],w',.inl ?_,Rp.any,.inr ⟨h0,_,q1,?_,hl2,LM,?_,?_⟩,fun b hb=>q2 b (hb h0),q3,q4,q5,q6⟩
 ·obtain ⟨len',rfl⟩:∃ m,len=m+1:=⟨len - 1,by omega⟩
  simp [execOp,ho,resolve,cu,ha',hat',invoke,builtin,Builtin.clear_,run_underlying ht,e1,hv,hr']
 ·rw [qf (by omega)]
  simp only [List.length_append,List.length_take,List.length_drop,hlr];omega
 ·simp only [pU,List.size_toArray,List.length_append,List.length_take,List.length_drop,Array.length_toList,Nat.add_zero] at hlen ⊢
  omega
 ·have:=aU.cN (o:=off) hr hm (by omega)
  rw [← vQ _ _ _ _ (by omega) (by simpa using hle)] at this
  simpa using this
theorem OT.Kn {k n m:Nat}{ob kg om:Ob}{v:SV}(hnm:n≠m)(h:∀ (p:Nat→Prop) (μ:Nat→Nm) (M:Mem) (a:Act) (w:World),ig E o.op.operands p μ M a→p n→p m→cE p μ M w (μ n) ob→cE p μ M w (μ m) om→
  ∃ u w',((execOp a.eval o).run P w= .ok (.value u) w'∨((execOp a.eval o).run P w= .ok .skip w'∧u=undef))∧Rp p μ M v u∧cE p μ M w' (μ n) kg∧
   (∀ b,((μ n).live=true→b≠(μ n).blk)→w'.heap[b]? =w.heap[b]?)∧w'.heap.size=w.heap.size∧w'.os=w.os∧Tape w w'∧w'.output=w.output):
  OT P o E [(n,ob),(m,om)] (fun q=>k≤q∧q<k+0) v [(n,kg),(m,om)]:=by
 intro rd p μ M a w K Q hnew hkn hS hK;have hlk:∀ (o1:Ob) q,lk [(n,o1),(m,om)] q=if q=n then some o1 else if q=m then some om else none:=fun o1 q=>by rw [aa,cZ]
 obtain ⟨hp,bz,hmn⟩:=hS.obs n ob (by rw [hlk,if_pos rfl]);obtain ⟨hpm,hom,hmm⟩:=hS.obs m om (by rw [hlk,if_neg (Ne.symm hnm),if_pos rfl]);have hne:(μ n).live=true→(μ m).live=true→(μ n).blk≠(μ m).blk:=fun l1 l2 e=>hnm (hS.inj n m (by rw [hlk,if_pos rfl];simp) (by rw [hlk,if_neg (Ne.symm hnm),if_pos rfl];simp) l1 l2 e)
 obtain ⟨u,w',hr,hu,hob',hother,hsz,h1,h2,h3⟩:=h p μ M a w hkn hp hpm bz hom;have hpk:∀ m,p m→(fun m=>p m∨(k≤m∧m<k+0)) m:=fun m hm=> .inl hm
 have key:K (a.put o.dst u) w':=by
  refine hK u μ M w' (hu.more hpk (fun _ _=>rfl) (Mem.le_refl M)) ⟨⟨fun b i x hm=> ?_,hS.mem.kF⟩,fun q ob'' hm=> ?_,fun q q' hm hm' lm lm' e=> ?_⟩
   ⟨fun _ _=>rfl,Mem.le_refl M,fun b hb hf=>⟨hother b fun l e=>hf n (by rw [hlk,if_pos rfl];simp) l e.symm,fun _=>rfl⟩,by omega,fun q hm=> ?_,h1,h2,h3⟩
  ·have hb:(μ n).live=true→b≠(μ n).blk:=fun l e=>by rw [e,hmn l] at hm;cases hm
   rw [← hS.mem b i x hm];unfold World.cell?;rw [hother b hb]
  ·rw [hlk] at hm
   split at hm
   ·rename_i e
    subst e;simp at hm;subst hm;exact ⟨.inl hp,hob'.more hpk (fun _ _=>rfl) (Mem.le_refl M) fun _=>rfl,hmn⟩
   ·split at hm
    ·rename_i e
     subst e;simp at hm;subst hm;exact ⟨.inl hpm,hom.more hpk (fun _ _=>rfl) (Mem.le_refl M) fun l=>hother _ fun l' e=>hne l' l e.symm,hmm⟩
    ·cases hm
  ·refine hS.inj q q' ?_ ?_ lm lm' e
   ·rw [hlk] at hm ⊢
    split at hm
    ·rename_i e;rw [if_pos e];simp
    ·rename_i e;rw [if_neg e];exact hm
   ·rw [hlk] at hm' ⊢
    split at hm'
    ·rename_i e;rw [if_pos e];simp
    ·rename_i e;rw [if_neg e];exact hm'
  ·refine .inr ⟨by omega,?_⟩
   rw [hlk] at hm ⊢
   split at hm
   ·rename_i e;rw [if_pos e];simp
   ·rename_i e;rw [if_neg e];exact hm
 rcases hr with hr | ⟨hr,rfl⟩
 ·exact ij hr key
 ·exact Bg hr key
theorem Ko {c:Call}{t el t':TypeId}{x y:Operand}{x' y':X}{ti:TypeInfo}(ho:o.op= .call c)(cu:c.callee= .builtin .copy)(ha:c.args.toList=[x,y])(p0:c.argTypes.toList=[t,t'])(ht:P.underlying t=some (.slice el))
  (hi:P.info? el=some ti) (hx:cX x=some x') (hy:cX y=some y') (he:dH E H k own (.copy el ti.size x' y')=some e) (bz:e.ob):Sound P o E H k e:=by
 have ha':c.args= #[x,y]:=by cases hh:c.args;simp [hh] at ha;simp [ha]
 have hat':c.argTypes= #[t,t']:=by cases hh:c.argTypes;simp [hh] at p0;simp [p0]
 have hin:x∈o.op.operands∧y∈o.op.operands:=by simp [ho,Op.operands,Call.operands,cu,ha']
 simp only [dH] at he
 split at he <;> first | (cases he;done) | skip
 rename_i n off len m off' len' h1 h2
 split at he <;> first | (cases he;done) | skip
 rename_i tb cs tb' cs' hH hH'
 split at he <;> first | (cases he;done) | skip
 rename_i hone;injection he with he;subst he;obtain ⟨b0,b1,b2,b3,b4⟩:=bz;refine ⟨OT.Kn b0 fun p μ M a w hk hp hpm bz hom=> ?_,fun q ob hq=> ?_⟩
 ·obtain ⟨h0,vs,hb,hr⟩:=bz
  obtain ⟨h0',vs',hb',hr'⟩:=hom;obtain ⟨A,cp,e1,e2,e3⟩:=(by simpa only [dy] using (hk.get hin.1 hx h1).rep:∃ A c,a.eval x= .slice (some A) len c∧len≤c∧(len≠0→A=⟨(μ n).blk,off,none⟩));have e3:=e3 (by omega);subst e3;obtain ⟨A,cp',f1,f2,f3⟩:=(by simpa only [dy] using (hk.get hin.2 hy h2).rep:∃ A c,a.eval y= .slice (some A) len' c∧len'≤c∧(len'≠0→A=⟨(μ m).blk,off',none⟩));have f3:=f3 (by omega);subst f3;subst b4
  let us:List Value:=(vs'.toList.drop off').take (len*ti.size)
  have hru:aU p μ M ((cs'.drop off').take (len*ti.size)) us:=aU.take _ (aU.drop _ hr');have hul:us.length=len*ti.size:=by rw [hru.length];simp;omega
  have hone':∀ u∈us,u.oneCell'=true:=aU.D1 (by
   rw [List.all_eq_true] at hone ⊢;intro z hz;exact hone z (List.mem_of_mem_drop (List.mem_of_mem_take hz))) hru
  have hvl:vs.size=cs.length:=by have:=hr.length;simpa using this
  have hf:=run_firstCells_some (P:=P) w ti.size len ⟨(μ m).blk,off',none⟩ len cp' us hul (fun j u hj=>by
   rw [ej,cell_of hb'];simp only [us,List.getElem?_take,List.getElem?_drop] at hj
   split at hj
   ·simpa using hj
   ·cases hj)
  obtain ⟨w',hr'',q1,q2,q3,q4,q5,q6⟩:=ja (P:=P) us vs w off 0 hb (by rw [hul];omega) hone';refine ⟨.int .i64 (len:Nat),w',.inl ?_,Rp.aL.2 rfl,⟨h0,_,q1,?_⟩,fun b hb=>q2 b (hb h0),q3,q4,q5,q6⟩
  ·simp [execOp,ho,resolve,cu,ha',hat',invoke,builtin,Builtin.copy_,run_underlying ht,e1,f1,Builtin.lenOf,sizeOf,typeInfo,hi,hf,hr'',goInt]
  ·have:=aU.cN (o:=off) hr hru (by simp;omega)
   simpa using this
 ·rw [aa,cZ] at hq
  split at hq
  ·rename_i e;subst e;rw [← hq];exact hH
  ·split at hq
   ·rename_i e;subst e;rw [← hq];exact hH'
   ·cases hq
end
end
section
section
variable {P:Program} {o:Oper} {E:Nat→Option SV} {H:Nat→Option Ob} {k:Nat} {own:Bool} {e:l6}
theorem Ce {so:SO}(hc:cO P o.op=some so)(he:dH E H k own so=some e)(bz:e.ob):Sound P o E H k e:=by
 cases hop:o.op <;> rw [hop] at hc <;> simp only [cO] at hc <;> try (cases hc;done)
 case move x=>
  obtain ⟨y,hy,rfl⟩:=Option.map_eq_some_iff.1 hc;exact LY (.inl hop) hy he
 case assign x=>
  obtain ⟨y,hy,rfl⟩:=Option.map_eq_some_iff.1 hc;exact LY (.inr hop) hy he
 case pick c x y=>
  split at hc <;> first | (cases hc;done) | skip
  rename_i h1 h2 h3;injection hc with hc;subst hc;exact J8 hop h1 h2 h3 he
 case alloc t=>
  obtain ⟨z,hz,rfl⟩:=Option.map_eq_some_iff.1 hc;exact Hf hop hz he
 case box t x=>
  obtain ⟨y,hy,rfl⟩:=Option.map_eq_some_iff.1 hc;exact LZ hop hy he
 case build t parts=>
  split at hc <;> first | (cases hc;done) | skip
  ·rename_i fs z ht hz
   split at hc <;> first | (cases hc;done) | skip
   rename_i Nr;obtain ⟨qs,hq,rfl⟩:=Option.map_eq_some_iff.1 hc;exact Kf hop ht hz Nr hq he bz
  ·rename_i n el z ht hz
   split at hc <;> first | (cases hc;done) | skip
   rename_i j hj;obtain ⟨qs,hq,rfl⟩:=Option.map_eq_some_iff.1 hc;exact Kg hop ht hz hj hq he bz
 case buildSlice t len parts=>
  split at hc <;> first | (cases hc;done) | skip
  rename_i el ht
  split at hc <;> first | (cases hc;done) | skip
  rename_i j z hj hz
  split at hc <;> first | (cases hc;done) | skip
  rename_i hsz;obtain ⟨qs,hq,rfl⟩:=Option.map_eq_some_iff.1 hc;exact L7 hop ht hj hz hsz hq he bz
 case load t x=>
  split at hc <;> first | (cases hc;done) | skip
  rename_i y sz h1 h2;injection hc with hc;subst hc;exact J9 hop h1 h2 he bz
 case store t x v=>
  split at hc <;> first | (cases hc;done) | skip
  rename_i h1 h2 h3;injection hc with hc;subst hc;exact Ho hop h3 h1 h2 he bz
 case nilCheck x=>
  obtain ⟨y,hy,rfl⟩:=Option.map_eq_some_iff.1 hc;exact J_ hop hy he
 case binOp op t x y t'=>
  split at hc
  ·rename_i hq
   split at hc
   ·split at hc <;> first | (cases hc;done) | skip
    rename_i h1 h2;injection hc with hc;subst hc;exact Ju hop h1 h2 he bz
   ·rename_i ht
    split at hc <;> first | (cases hc;done) | skip
    rename_i h1 h2;injection hc with hc;subst hc;exact L6 hop hq ht h1 h2 he
   ·rename_i fs ht
    split at hc <;> first | (cases hc;done) | skip
    rename_i h1 h2 h3
    split at hc <;> first | (cases hc;done) | skip
    rename_i hg;injection hc with hc;subst hc;exact Jw hop hq (.inl ⟨_,ht⟩) h3 (by simpa using hg) h1 h2 he
   ·rename_i n el ht
    split at hc <;> first | (cases hc;done) | skip
    rename_i h1 h2 h3
    split at hc <;> first | (cases hc;done) | skip
    rename_i hg;injection hc with hc;subst hc;exact Jw hop hq (.inr ⟨_,_,ht⟩) h3 (by simpa using hg) h1 h2 he
   ·split at hc <;> first | (cases hc;done) | skip
    rename_i h1 h2;injection hc with hc;subst hc;exact Hl hop hq h1 h2 he bz
  ·split at hc <;> first | (cases hc;done) | skip
   rename_i h1 h2;injection hc with hc;subst hc;exact Ju hop h1 h2 he bz
 case unOp op t x=>
  cases op <;> simp only at hc <;> try (cases hc;done)
  ·obtain ⟨y,hy,rfl⟩:=Option.map_eq_some_iff.1 hc
   exact L1 hop hy he
  ·obtain ⟨y,hy,rfl⟩:=Option.map_eq_some_iff.1 hc
   exact L0 hop hy he
 case convert s d x=>
  split at hc <;> first | (cases hc;done) | skip
  rename_i h1 h2 h3;injection hc with hc;subst hc;exact J' hop h1 h2 h3 he
 case makeFunc f a c=>
  split at hc <;> first | (cases hc;done) | skip
  rename_i h1 h2;injection hc with hc;subst hc;exact L3 hop h1 h2 he
 case makeMap t r=>
  cases r <;> simp only at hc <;> try (cases hc;done)
  injection hc with hc;subst hc;exact L4 hop he
 case makeSlice t l c=>
  split at hc <;> first | (cases hc;done) | skip
  rename_i el l' c' ht hl hc'
  split at hc <;> first | (cases hc;done) | skip
  rename_i i z hi hz
  split at hc <;> first | (cases hc;done) | skip
  rename_i hsz;injection hc with hc;subst hc;exact L8 hop ht hi hz hsz hl hc' he bz
 case slice t x lo hi mx=>
  cases mx with
  | some m=>
   cases lo <;> cases hi <;> simp only at hc <;> try (cases hc;done)
   rename_i h
   split at hc <;> first | (cases hc;done) | skip
   rename_i el x' h' m' ht hx hh hm
   split at hc <;> first | (cases hc;done) | skip
   rename_i j hj;injection hc with hc;subst hc;exact Kh hop ht hj hx hh hm he bz
  | none=>
  simp only at hc
  split at hc <;> first | (cases hc;done) | skip
  ·rename_i el x' lo' hi' ht hx hl hh
   split at hc <;> first | (cases hc;done) | skip
   rename_i j hj;injection hc with hc;subst hc;exact L9 hop ht hj hx hl hh he bz
  ·rename_i nn el x' lo' hi' ht hx hl hh
   split at hc <;> first | (cases hc;done) | skip
   rename_i j hj;injection hc with hc;subst hc;exact Ki hop ht hj hx hl hh he bz
 case fieldAddr s x f=>
  split at hc <;> first | (cases hc;done) | skip
  rename_i fs x' hs hx
  split at hc <;> first | (cases hc;done) | skip
  rename_i fl hf
  split at hc <;> first | (cases hc;done) | skip
  rename_i i hi
  split at hc <;> first | (cases hc;done) | skip
  rename_i NF;injection hc with hc;subst hc;exact L5 hop hs hf hi NF hx he
 case field t x f=>
  split at hc <;> first | (cases hc;done) | skip
  rename_i fs x' hs hx
  split at hc <;> first | (cases hc;done) | skip
  rename_i fl hf
  split at hc <;> first | (cases hc;done) | skip
  rename_i sz hz;injection hc with hc;subst hc;exact Hh hop hs hf hz hx he bz
 case indexAddr t x i=>
  split at hc <;> first | (cases hc;done) | skip
  ·rename_i n el x' i' ht hx hi
   split at hc <;> first | (cases hc;done) | skip
   rename_i j hj;injection hc with hc;subst hc;exact Kc hop ht hj hx hi he bz
  ·rename_i el x' i' ht hx hi
   split at hc <;> first | (cases hc;done) | skip
   rename_i j hj;injection hc with hc;subst hc;exact Ke hop ht hj hx hi he bz
 case index t x i=>
  split at hc <;> first | (cases hc;done) | skip
  ·rename_i n el x' i' ht hx hi
   split at hc <;> first | (cases hc;done) | skip
   rename_i j sz hj hz
   split at hc <;> first | (cases hc;done) | skip
   rename_i Jv;injection hc with hc;subst hc;exact Hi hop ht hj hz (by cases sz <;> simp_all [DU]) hx hi he bz
  ·rename_i x' i' ht hx hi
   injection hc with hc;subst hc;exact Kb hop ht hx hi he bz
 case extract x i=>
  obtain ⟨y,hy,rfl⟩:=Option.map_eq_some_iff.1 hc;exact L2 hop hy he
 case lookup t m i ok=>
  split at hc <;> first | (cases hc;done) | skip
  rename_i kt et m' i' ht hm hi
  split at hc <;> first | (cases hc;done) | skip
  rename_i ks z hks hz;injection hc with hc;subst hc;exact Kk hop ht hm hi hks hz he
 case mapUpdate t m i v=>
  split at hc <;> first | (cases hc;done) | skip
  rename_i kt et m' i' v' ht hm hi hv
  split at hc <;> first | (cases hc;done) | skip
  rename_i ks hks;injection hc with hc;subst hc;exact D3 (.inl hop) ht hm hi hv hks he
 case insert t m i v=>
  split at hc <;> first | (cases hc;done) | skip
  rename_i kt et m' i' v' ht hm hi hv
  split at hc <;> first | (cases hc;done) | skip
  rename_i ks hks;injection hc with hc;subst hc;exact D3 (.inr hop) ht hm hi hv hks he
 case mapEntry t m i=>
  split at hc <;> first | (cases hc;done) | skip
  rename_i kt et m' i' ht hm hi
  split at hc <;> first | (cases hc;done) | skip
  rename_i ks z hks hz;injection hc with hc;subst hc;exact Ht hop ht hm hi hks hz he
 case entryStore t m s x=>
  split at hc <;> first | (cases hc;done) | skip
  rename_i m' s' x' hm hs hx;injection hc with hc;subst hc;exact Hu hop hm hs hx he
 case range t m=>
  split at hc <;> first | (cases hc;done) | skip
  rename_i kt et m' ht hm;injection hc with hc;subst hc;exact D6 hop ht hm he
 case next it s=>
  split at hc
  ·cases hc
  ·obtain ⟨y,hy,rfl⟩:=Option.map_eq_some_iff.1 hc
   simp [dH] at he
 case entry it=>
  obtain ⟨y,hy,rfl⟩:=Option.map_eq_some_iff.1 hc;exact D7 hop hy he bz
 case call c=>
  split at hc <;> first | (cases hc;done) | skip
  ·rename_i x t cu ha p0
   split at hc <;> first | (cases hc;done) | skip
   ·rename_i el x' ht hx
    injection hc with hc;subst hc;exact Bi hop cu ha p0 ht hx he
   ·rename_i kt et x' ht hx
    injection hc with hc;subst hc;exact Kl hop cu ha p0 ht hx he
   ·rename_i x' ht hx
    injection hc with hc;subst hc;exact Ka hop cu ha p0 ht hx he
  ·rename_i x t cu ha p0
   split at hc <;> first | (cases hc;done) | skip
   rename_i el x' ht hx
   split at hc <;> first | (cases hc;done) | skip
   rename_i i z hi hz
   split at hc <;> first | (cases hc;done) | skip
   rename_i hsz;injection hc with hc;subst hc;exact Mb hop cu ha p0 ht hi hz hsz hx he bz
  ·rename_i x y t t' cu ha p0
   split at hc <;> first | (cases hc;done) | skip
   rename_i el x' y' ht hx hy
   split at hc <;> first | (cases hc;done) | skip
   rename_i i hi;injection hc with hc;subst hc;exact Ko hop cu ha p0 ht hi hx hy he bz
  ·rename_i m i t t' cu ha p0
   split at hc <;> first | (cases hc;done) | skip
   rename_i kt et m' i' ht hm hi
   split at hc <;> first | (cases hc;done) | skip
   rename_i ks hks;injection hc with hc;subst hc;exact Km hop cu ha p0 ht hm hi hks he
  ·rename_i x y t t' cu ha p0
   split at hc <;> first | (cases hc;done) | skip
   rename_i htt;subst htt
   split at hc <;> first | (cases hc;done) | skip
   rename_i el x' y' ht hx hy
   split at hc <;> first | (cases hc;done) | skip
   rename_i i z hi hz
   split at hc <;> first | (cases hc;done) | skip
   rename_i hzl;injection hc with hc;subst hc;exact D2 hop cu ha p0 ht hi hz hzl hx hy he bz
  ·split at hc <;> first | (cases hc;done) | skip
   injection hc with hc;subst hc;simp [dH] at he
  ·rename_i x y cu ha
   split at hc <;> first | (cases hc;done) | skip
   rename_i hx hy;injection hc with hc;subst hc;exact NC hop cu ha hx hy he
  ·rename_i x y cu ha
   split at hc <;> first | (cases hc;done) | skip
   rename_i hx hy;injection hc with hc;subst hc;exact ND hop cu ha hx hy he
def dA:SO→Bool
 | .alloc .. | .box .. | .store .. | .lB .. | .app .. | .zZ | .Nq .. | .qF .. | .G9 .. | .mO .. | .lH .. | .copy .. | .sR .. | .sS .. | .LK .. | .call .. =>false
 | _=>true
end
end
end Go.Sl
