/-
 Small lemmas for walks.
-/
import Derived.Test.YtaelhkkjgfobhaaGreatP3
import Derived.ProofKit
import Derived.OpenShut
import Derived.Carry
import Derived.ShutString
import Derived.Maps.RangeRun
set_option linter.unusedSimpArgs false
set_option linter.unusedSectionVars false
set_option linter.unusedVariables false
namespace Go.Sl
open Go.RowKit
abbrev u32 (n:Nat):SV:= .d (.int .u32 (n:Int))
abbrev u64 (n:Nat):SV:= .d (.int .u64 (n:Int))
abbrev u8 (n:Nat):SV:= .d (.int .u8 (n:Int))
abbrev i64 (n:Int):SV:= .d (.int .i64 n)
abbrev bl (b:Bool):SV:= .d (.bool b)
mutual
theorem SV.ow:∀ s:SV,s.aC id=s
 | .d _ | .ptr _ _ | .gs _ _ | .bs _ _ _ | .vp _ _ | .mp _ | .it _ | .yl _ | .any=>rfl
 | .fn f a c=>by simp only [SV.aC,SV.bV a,SV.bV c]
 | .agg cs=>by simp only [SV.aC,SV.bV cs]
 | .dm cs=>by simp only [SV.aC,SV.bV cs]
theorem SV.bV:∀ s:List SV,SV.aT id s=s
 | []=>rfl
 | c::cs=>by simp only [SV.aT,SV.ow c,SV.bV cs]
end
theorem Ob.ow (o:Ob):o.aC id=o:=by
 cases o <;> simp [Ob.aC,SV.bV,SV.ow]
section
variable {P:Program} {N k0:Nat} {st:St} {Q:Exit→St→Prop}
end
theorem uf {α β:Type}(f:α→List β)(sz:Nat)(hf:∀ x,(f x).length=sz):∀ (l:List α) (i j:Nat) (x:α),l[i]? =some x→j<sz→(l.flatMap f)[i*sz+j]? =(f x)[j]?
 | [],i,j,x,h,_=>by simp at h
 | y::l,0,j,x,h,hj=>by
  simp at h;subst h;rw [List.flatMap_cons,List.getElem?_append_left (by rw [hf];omega)];simp
 | y::l,i+1,j,x,h,hj=>by
  simp at h;rw [List.flatMap_cons,List.getElem?_append_right (by rw [hf,Nat.add_mul];omega),hf];rw [show (i+1)*sz+j - sz=i*sz+j by rw [Nat.add_mul];omega];exact uf f sz hf l i j x h hj
theorem pg {α β:Type}(f:α→List β)(sz:Nat)(hf:∀ x,(f x).length=sz):∀ (l:List α) (i:Nat) (x:α),l[i]? =some x→((l.flatMap f).drop (i*sz)).take sz=f x
 | [],i,x,h=>by simp at h
 | y::l,0,x,h=>by
  simp at h;subst h;simp [List.flatMap_cons,List.take_left' (hf y)]
 | y::l,i+1,x,h=>by
  simp at h;rw [List.flatMap_cons,Nat.add_mul,Nat.one_mul,Nat.add_comm,← List.drop_drop,List.drop_left' (hf y)];exact pg f sz hf l i x h
theorem eC {α β:Type}(f:α→List β)(sz:Nat)(hf:∀ x,(f x).length=sz)(l:List α):(l.flatMap f).length=l.length*sz:=by
 induction l with
 | nil=>simp
 | cons x l ih=>simp [List.flatMap_cons,hf,ih,Nat.add_mul,Nat.add_comm]
theorem xw (n:Int)(h: -9223372036854775808≤n)(h':n<9223372036854775808):IntKind.i64.wrap n=n:=by
 simp [IntKind.wrap,IntKind.bits,IntKind.signed];omega
theorem HSub.nil (h:Hp):HSub [] h:=fun n ob hn=>by simp [bE] at hn
def Pure (P:Program)(f:FuncId)(args:List SV)(v:SV):Prop:=SB P f args [] 0 0 fun r F=>r=v∧F=[]
theorem SV.v7 {ρ:Nat→Nat}(s:SV):s.ok (fun n=>decide (n<0))=true→s.aC ρ=s:=
 SV.rec (motive_1:=fun s=>s.ok (fun n=>decide (n<0))=true→s.aC ρ=s) (motive_2:=fun l=>SV.ax (fun n=>decide (n<0)) l=true→SV.aT ρ l=l)
  (fun _ _=>rfl) (fun _ _ h=>by simp [SV.ok] at h) (fun _ _ h=>by simp [SV.ok] at h) (fun _ _ _ h=>by simp [SV.ok] at h) (fun _ _ _=>rfl) (fun _ h=>by simp [SV.ok] at h) (fun _ h=>by simp [SV.ok] at h) (fun _ h=>by simp [SV.ok] at h)
  (fun f a c h1 h2 h=>by simp only [SV.ok,Bool.and_eq_true] at h;simp only [SV.aC,h1 h.1,h2 h.2])
  (fun cs h1 h=>by simp only [SV.ok] at h;simp only [SV.aC,h1 h]) (fun cs h1 h=>by simp only [SV.ok] at h;simp only [SV.aC,h1 h]) (fun _=>rfl)
  (fun _=>rfl) (fun c cs h1 h2 h=>by simp only [SV.ax,Bool.and_eq_true] at h;simp only [SV.aT,h1 h.1,h2 h.2]) s
theorem Pure.sc {P:Program}{f:FuncId}{args:List SV}{v:SV}(h:Pure P f args v)(hv:v.ok (fun n=>decide (n<0))=true)(k:Nat):aF P f args [] k 0 v []:=by
 have:=SB.at h id k (fun n m hn=>absurd hn (Nat.not_lt_zero n)) (fun n hn=>absurd hn (Nat.not_lt_zero n)) (fun i hi=>absurd hi (Nat.not_lt_zero i));rw [SV.bV] at this;refine this.mono ?_;rintro r F' ⟨r0,F0,⟨rfl,rfl⟩,rfl,rfl⟩;exact ⟨SV.v7 _ hv,rfl⟩
structure aB where
 (a0 a1 a2 a3 a4 a5 a6 a7:Nat)
 deriving DecidableEq
def aB.get (v:aB):Nat→Nat
 | 0=>v.a0 | 1=>v.a1 | 2=>v.a2 | 3=>v.a3 | 4=>v.a4 | 5=>v.a5 | 6=>v.a6 | 7=>v.a7 | _=>0
def aB.of (f:Nat→Nat):aB:=⟨f 0,f 1,f 2,f 3,f 4,f 5,f 6,f 7⟩
theorem aB.NK (f:Nat→Nat){r:Nat}(h:r<8):(aB.of f).get r=f r:=by
 match r,h with
 | 0,_ | 1,_ | 2,_ | 3,_ | 4,_ | 5,_ | 6,_ | 7,_=>rfl
def aB.ds (v:aB):List DV:=[.int .u32 v.a0,.int .u32 v.a1,.int .u32 v.a2,.int .u32 v.a3,.int .u32 v.a4,.int .u32 v.a5,.int .u32 v.a6,.int .u32 v.a7]
def aB.cells (v:aB):List SV:=[u32 v.a0,u32 v.a1,u32 v.a2,u32 v.a3,u32 v.a4,u32 v.a5,u32 v.a6,u32 v.a7]
theorem aB.lX (v:aB):v.ds.map .d=v.cells:=rfl
theorem aB.jx (v:aB):v.ds.length=8:=rfl
theorem aB.pn (v:aB){r:Nat}(h:r<8):v.cells[r]? =some (u32 (v.get r)):=by
 match r,h with
 | 0,_ | 1,_ | 2,_ | 3,_ | 4,_ | 5,_ | 6,_ | 7,_=>rfl
theorem aB.cells_one (v:aB):v.cells.all SV.dO=true:=rfl
theorem aB.mu (v:aB):v.cells.length=8:=rfl
theorem aB.ak (v:aB)(q:Nat→Bool):SV.ax q v.cells=true:=rfl
def aB.set (v:aB)(i x:Nat):aB:=aB.of fun r=>if r=i then x else v.get r
def aB.wf (v:aB):Prop:=∀ r,r<8→v.get r<4294967296
theorem aB.qC (a b:aB):jw (rep 8 [true]) a.cells b.cells=some (decide (a=b)):=by
 have h:jw (rep 8 [true]) a.cells b.cells=some (((a.a0:Int) == b.a0) && (((a.a1:Int) == b.a1) && (((a.a2:Int) == b.a2) && (((a.a3:Int) == b.a3) && (((a.a4:Int) == b.a4) && (((a.a5:Int) == b.a5) && (((a.a6:Int) == b.a6) && (((a.a7:Int) == b.a7) && true)))))))):=by
  simp [jw,G3,rep,aB.cells]
 rw [h]
 congr 1
 obtain ⟨a0,a1,a2,a3,a4,a5,a6,a7⟩:=a;obtain ⟨b0,b1,b2,b3,b4,b5,b6,b7⟩:=b;rw [Bool.eq_iff_iff];simp;omega
end Go.Sl
namespace Go.Sl
open Go.RowKit Go.ChangeShapes Go.WideShapes
def yI (P:Program):Nat→List Field→Option Nat
 | o,[]=>some o
 | o,f::fs=>if f.offset=o then yI P (o+P.cellsOf f.type) fs else none
def Fit (P:Program):Nat→TypeId→List DV→Prop
 | 0,_,_=>False
 | d+1,t,ds=>match P.underlying t with
  | some .bool=>∃ b,ds=[.bool b]
  | some (.int k)=>∃ n,ds=[.int k n]∧(Lit.int k n).wf=true
  | some (.struct fs)=>ds.length=P.cellsOf t∧∀ f∈fs.toList,Fit P d f.type ((ds.drop f.offset).take (P.cellsOf f.type))
  | some (.array n e)=>ds.length=P.cellsOf t∧∀ i,i<n→Fit P d e ((ds.drop (i*P.cellsOf e)).take (P.cellsOf e))
  | some (.slice e)=>ds=[.aJ]∨∃ n cs,ds=[.sl n cs]∧n≤9223372036854775807∧cs.length=n*P.cellsOf e∧∀ i,i<n→Fit P d e ((cs.drop (i*P.cellsOf e)).take (P.cellsOf e))
  | _=>False
def jr (P:Program):Nat→TypeId→Bool
 | 0,_=>false
 | d+1,t=>match P.underlying t with
  | some .bool=>P.cellsOf t == 1
  | some (.int _)=>P.cellsOf t == 1
  | some (.struct fs)=>(yI P 0 fs.toList == some (P.cellsOf t)) && fs.toList.all fun f=>jr P d f.type
  | some (.array n e)=>(P.cellsOf t == n*P.cellsOf e) && jr P d e
  | some (.slice e)=>(P.cellsOf t == 1) && jr P d e && decide (0<P.cellsOf e) && decide (0<P.bytesOf e)
  | _=>false
def kL (w:World):Mem:=fun b o=>w.cell? ⟨b,o,none⟩
def Cells (M:Mem):List Value→List DV→Prop
 | [],[]=>True
 | v::vs,d::ds=>bX M d v∧Cells M vs ds
 | _,_=>False
theorem Cells.length {M:Mem}:∀ {vs:List Value} {ds:List DV},Cells M vs ds→vs.length=ds.length
 | [],[],_=>rfl
 | v::vs,d::ds,h=>by simp only [Cells] at h;simp [h.2.length]
 | [],d::ds,h=>by simp [Cells] at h
 | v::vs,[],h=>by simp [Cells] at h
theorem Cells.append {M:Mem}:∀ {vs us:List Value} {ds es:List DV},Cells M vs ds→Cells M us es→Cells M (vs++us) (ds++es)
 | [],us,[],es,_,h=>by simpa using h
 | v::vs,us,d::ds,es,h,k=>by simp only [Cells] at h;simp only [List.cons_append,Cells];exact ⟨h.1,h.2.append k⟩
 | [],us,d::ds,es,h,_=>by simp [Cells] at h
 | v::vs,us,[],es,h,_=>by simp [Cells] at h
theorem Cells.OD {M:Mem}{p:Nat→Prop}{μ:Nat→Nm}:∀ {vs:List Value} {ds:List DV},Cells M vs ds→aU p μ M (ds.map .d) vs
 | [],[],_=>aU.aR.2 rfl
 | v::vs,d::ds,h=>by simp only [Cells] at h;exact aU.aD.2 ⟨v,vs,rfl,Rp.cU.2 h.1,h.2.OD⟩
 | [],d::ds,h=>by simp [Cells] at h
 | v::vs,[],h=>by simp [Cells] at h
theorem Cells.Me {w:World}{b:Nat}:∀ {vs:List Value} {ds:List DV} (q:Nat),Cells (kL w) vs ds→(∀ (i:Nat) (v:Value),vs[i]? =some v→w.cell? ⟨b,q+i,none⟩=some v)→dB (kL w) b q ds
 | [],[],q,_,_=>by simp [dB]
 | v::vs,d::ds,q,h,hc=>by
  simp only [Cells] at h;simp only [dB];refine ⟨⟨v,by simpa [kL] using hc 0 v rfl,h.1⟩,Cells.Me (q+1) h.2 fun i u hi=> ?_⟩;have:=hc (i+1) u (by simpa using hi)
  rwa [show q+(i+1)=q+1+i by omega] at this
 | [],d::ds,q,h,_=>by simp [Cells] at h
 | v::vs,[],q,h,_=>by simp [Cells] at h
section
variable {H:Type} {enc:TypeId×Value→H} {P:Program} {w:World} {sp:Nat→Bool} {held:Bool}
theorem v8:∀ {d:Nat} {t:TypeId} {ds:List DV},jr P d t=true→Fit P d t ds→ds.length=P.cellsOf t
 | 0,t,ds,h,_=>by simp [jr] at h
 | d +1,t,ds,h,hf=>by
  simp only [jr] at h;simp only [Fit] at hf
  split at h
  ·rename_i hu;rw [hu] at hf;obtain ⟨b,rfl⟩:=hf;simp at h;simp [h]
  ·rename_i hu;rw [hu] at hf;obtain ⟨b,rfl,_⟩:=hf;simp at h;simp [h]
  ·rename_i hu;rw [hu] at hf;exact hf.1
  ·rename_i hu;rw [hu] at hf;exact hf.1
  ·rename_i hu;rw [hu] at hf
   simp at h;rcases hf with rfl | ⟨n,cs,rfl,_⟩ <;> simp [h.1.1.1]
  ·cases h
theorem Bq:∀ {fs:List Field} {o n:Nat},yI P o fs=some n→o≤n
 | [],o,n,h=>by simp [yI] at h;omega
 | f::fs,o,n,h=>by
  simp only [yI] at h
  split at h
  ·have:=Bq h;omega
  ·cases h
mutual
def DV.small (B:Nat):DV→Prop
 | .sl n cs=>n≤B∧eX B cs
 | _=>True
def eX (B:Nat):List DV→Prop
 | []=>True
 | c::cs=>c.small B∧eX B cs
end
theorem eX.append {B:Nat}:∀ {cs ds:List DV},eX B cs→eX B ds→eX B (cs++ds)
 | [],_,_,h=>h
 | _::_,_,h,k=>by
  simp only [List.cons_append,eX] at h ⊢;exact ⟨h.1,h.2.append k⟩
theorem ug {B:Nat}:∀ {cs:List DV},eX B cs↔∀ c,c∈cs→c.small B
 | []=>by simp [eX]
 | c::cs=>by simp [eX,ug (cs:=cs)]
def An (P:Program)(B:Nat)(t:TypeId)(y:DataW H):Prop:=∀ n,n∈y.weights P t→n≤B
def Sm (P:Program)(t:TypeId)(ds:List DV)(y:DataW H):Prop:=∀ (B:Nat),An P B t y→eX B ds
theorem kM {P:Program}{e:TypeId}{n:Nat}:∀ {xs:List (DataW H)} {x:DataW H},x∈xs→n∈x.weights P e→n∈DataW.weightsAll P e xs
 | [],_,h,_=>by cases h
 | y::ys,x,h,hn=>by
  simp only [DataW.weightsAll,List.mem_append];rcases List.mem_cons.1 h with rfl | h
  ·exact .inl hn
  ·exact .inr (kM h hn)
theorem nW {P:Program}{n:Nat}:∀ {ts:List TypeId} {xs:List (DataW H)} {j:Nat} {t:TypeId} {x:DataW H},ts[j]? =some t→xs[j]? =some x→n∈x.weights P t→n∈DataW.weightsEach P ts xs
 | t0::ts,x0::xs,0,t,x,ht,hx,hn=>by
  simp at ht hx;subst ht;subst hx;simp only [DataW.weightsEach,List.mem_append];exact .inl hn
 | t0::ts,x0::xs,j+1,t,x,ht,hx,hn=>by
  simp at ht hx;simp only [DataW.weightsEach,List.mem_append];exact .inr (nW ht hx hn)
 | [],_,_,_,_,ht,_,_=>by simp at ht
 | _::_,[],_,_,_,_,hx,_=>by simp at hx
theorem An.slice {P:Program}{B:Nat}{t e:TypeId}{es sp:List (DataW H)}(hu:P.underlying t=some (.slice e))(h:An P B t (.slice es sp)):(0<P.bytesOf e→es.length≤B)∧∀ x,x∈es→An P B e x:=by
 constructor
 ·intro hp
  have:=h ((es.length+sp.length)*P.bytesOf e) (by simp [DataW.weights,hu]);have h2:es.length*1≤(es.length+sp.length)*P.bytesOf e:=Nat.mul_le_mul (by omega) hp;omega
 ·intro x hx n hn
  exact h n (by simp only [DataW.weights,hu,List.mem_cons,List.mem_append];exact .inr (.inl (kM hx hn)))
theorem An.struct {P:Program}{B:Nat}{t:TypeId}{fs:Array Field}{xs:List (DataW H)}(hu:P.underlying t=some (.struct fs))(h:An P B t (.agg xs)){i:Nat}{f:Field}{x:DataW H}(hf:fs.toList[i]? =some f)(hx:xs[i]? =some x):An P B f.type x:=fun n hn=>
 h n (by simp only [DataW.weights,hu];exact nW (j:=i) (by rw [List.getElem?_map,hf];rfl) hx hn)
theorem An.array {P:Program}{B:Nat}{t e:TypeId}{k:Nat}{xs:List (DataW H)}(hu:P.underlying t=some (.array k e))(h:An P B t (.agg xs)){x:DataW H}(hx:x∈xs):An P B e x:=fun n hn=>
 h n (by simp only [DataW.weights,hu];exact kM hx hn)
theorem uh (d fuel:Nat)(cs:List Value)(Q:Field→DataW H→Prop)(part:∀ f:Field,jr P d f.type=true→∀ x,DataW.trod enc P w 0 sp held fuel f.type ((cs.drop f.offset).take (P.cellsOf f.type))=some x→
   ∃ ds,Fit P d f.type ds∧Cells (kL w) ((cs.drop f.offset).take (P.cellsOf f.type)) ds∧Sm P f.type ds x.1):
  ∀ (fs:List Field) (o n:Nat),yI P o fs=some n→n≤cs.length→(∀ f∈fs,jr P d f.type=true∧∃ x,DataW.trod enc P w 0 sp held fuel f.type ((cs.drop f.offset).take (P.cellsOf f.type))=some x∧Q f x.1)→
   ∃ ds,ds.length=n - o∧Cells (kL w) ((cs.drop o).take (n - o)) ds∧(∀ f∈fs,o≤f.offset∧Fit P d f.type ((ds.drop (f.offset - o)).take (P.cellsOf f.type)))∧∀ (B:Nat),(∀ f x,Q f x→An P B f.type x)→eX B ds
 | [],o,n,h,_,_=>by
  simp [yI] at h;subst h;exact ⟨[],by simp,by simp [Cells],by simp,fun _ _=>trivial⟩
 | f ::fs,o,n,h,hn,hf=>by
  simp only [yI] at h
  split at h <;> first | (cases h;done) | skip
  rename_i ho;have hle:=Bq h;obtain ⟨ds2,l2,c2,f2,s2⟩:=uh d fuel cs Q part fs _ n h hn fun g hg=>hf g (by simp [hg])
  obtain ⟨x1,hx1,hq1⟩:=(hf f (by simp)).2;obtain ⟨ds1,f1,c1,s1⟩:=part f (hf f (by simp)).1 x1 hx1;have l1:=v8 (hf f (by simp)).1 f1;refine ⟨ds1++ds2,by simp [l1,l2];omega,?_,?_,fun B hq=>(s1 B (hq _ _ hq1)).append (s2 B hq)⟩
  ·have:=c1.append c2
   rw [ho] at this;have e:(cs.drop o).take (n - o)=(cs.drop o).take (P.cellsOf f.type)++(cs.drop (o+P.cellsOf f.type)).take (n - (o+P.cellsOf f.type)):=by
    rw [← List.drop_drop,show n - o=P.cellsOf f.type+(n - (o+P.cellsOf f.type)) by omega,List.take_add]
   rw [e];exact this
  ·intro g hg
   rcases List.mem_cons.1 hg with rfl | hg
   ·refine ⟨by omega,?_⟩
    rw [show g.offset - o=0 by omega,List.drop_zero,List.take_left' l1];exact f1
   ·obtain ⟨q1,q2⟩:=f2 g hg
    refine ⟨by omega,?_⟩;rw [List.drop_append,List.drop_eq_nil_of_le (by omega),List.nil_append,l1,show g.offset - o - P.cellsOf f.type=g.offset - (o+P.cellsOf f.type) by omega];exact q2
theorem sq (d:Nat)(e:TypeId)(he:jr P d e=true)(cell:Nat→List Value)(Q:DataW H→Prop):∀ (n k:Nat),(∀ i,i<n→∃ ds,Fit P d e ds∧Cells (kL w) (cell (k+i)) ds∧∃ x,Q x∧Sm P e ds x)→
  ∃ ds,ds.length=n*P.cellsOf e∧Cells (kL w) ((List.range' k n).flatMap cell) ds∧(∀ i,i<n→Fit P d e ((ds.drop (i*P.cellsOf e)).take (P.cellsOf e)))∧∀ (B:Nat),(∀ x,Q x→An P B e x)→eX B ds
 | 0,k,_=>⟨[],by simp,by simp [Cells],by omega,fun _ _=>trivial⟩
 | n + 1,k,h=>by
  obtain ⟨ds1,f1,c1,x1,hq1,s1⟩:=h 0 (by omega);have l1:=v8 he f1;obtain ⟨ds2,l2,c2,f2,s2⟩:=sq d e he cell Q n (k+1) fun i hi=>by
   have:=h (i+1) (by omega)
   rwa [show k+(i+1)=k+1+i by omega] at this
  refine ⟨ds1++ds2,by simp [l1,l2,Nat.add_mul];omega,?_,fun i hi=> ?_,fun B hq=>(s1 B (hq _ hq1)).append (s2 B hq)⟩
  ·rw [List.range'_succ,List.flatMap_cons]
   exact c1.append c2
  ·cases i with
   | zero=>simp [List.take_left' l1];exact f1
   | succ i=>
    rw [Nat.add_mul,Nat.one_mul,Nat.add_comm,← List.drop_drop,List.drop_left' l1];exact f2 i (by omega)
theorem pn {b o n:Nat}{base:Nat}{cs:List Value}(h:w.cells? base ⟨b,o,none⟩ n=some cs):cs.length=n∧∀ (i:Nat) (v:Value),cs[i]? =some v→w.cell? ⟨b,o+i,none⟩=some v:=by
 obtain ⟨_,h1,h2⟩:=World.cells?_some h;refine ⟨h1,fun i v hi=> ?_⟩;have hlt:i<n:=by
  have:=(List.getElem?_eq_some_iff.1 hi).1;omega
 have:=h2 i hlt;rw [ej] at this;rw [this];exact hi
theorem Ed : ∀ (d fuel:Nat) (t:TypeId) (cs:List Value) (x:DataW H×List MemPlace),jr P d t=true→DataW.trod enc P w 0 sp held fuel t cs=some x→∃ ds,Fit P d t ds∧Cells (kL w) cs ds∧Sm P t ds x.1:=by
  intro d
  induction d with
  | zero=>intro fuel t cs x h;simp [jr] at h
  | succ d ih =>
    intro fuel t cs x h hx;simp only [jr] at h;simp only [Fit]
    split at h
    · rename_i hu
      (try rw [hu])
      obtain ⟨b,rfl,_⟩:=DataW.trod_bool hu hx;exact ⟨[.bool b],⟨b,rfl⟩,by simp [Cells,bX],fun _ _=>by simp [eX,DV.small]⟩
    · rename_i k hu
      (try rw [hu])
      obtain ⟨n,rfl,_,hw⟩:=DataW.trod_int hu hx;exact ⟨[.int k n],⟨n,rfl,hw⟩,by simp [Cells,bX],fun _ _=>by simp [eX,DV.small]⟩
    · rename_i fs hu
      (try rw [hu])
      simp only [Bool.and_eq_true,beq_iff_eq,List.all_eq_true] at h;obtain ⟨xs,n,hn,hxe,hl,hxl,hf⟩:=DataW.trod_struct hu hx;obtain ⟨ds,l1,c1,f1,s1⟩:=uh d n cs (fun f x=>∃ i,fs.toList[i]? =some f∧(xs.map (·.1))[i]? =some x) (fun f hft y hy=>ih n f.type _ y hft hy) fs.toList 0 (P.cellsOf t) h.1 (by omega) fun f hf'=>by
        refine ⟨h.2 f hf',?_⟩;obtain ⟨i,hi,e⟩:=List.getElem_of_mem hf';have hfi:fs[i]? =some f:=by
          have hi':i<fs.size:=by simpa using hi
          rw [Array.getElem?_eq_getElem hi'];simpa using e
        have:=hf i f hfi;have hix:i<xs.length:=by rw [hxl];simpa using hi
        exact ⟨_,this.trans (List.getElem?_eq_getElem hix),i,by rw [Array.getElem?_toList];exact hfi,by rw [List.getElem?_map,List.getElem?_eq_getElem hix];rfl⟩
      refine ⟨ds,⟨by simpa using l1,fun f hf'=>by simpa using (f1 f hf').2⟩,?_,fun B hq=>s1 B fun f x ⟨i,h1,h2⟩=>An.struct hu (by rw [hxe] at hq;exact hq) h1 h2⟩;rw [List.drop_zero,Nat.sub_zero,List.take_of_length_le (by omega)] at c1;exact c1
    · rename_i n e hu
      (try rw [hu])
      simp only [Bool.and_eq_true,beq_iff_eq] at h;obtain ⟨xs,m,hm,hxe,hl,hxl,hf⟩:=DataW.trod_array hu hx;obtain ⟨ds,l1,c1,f1,s1⟩:=sq d e h.2 (fun i=>(cs.drop (i*P.cellsOf e)).take (P.cellsOf e)) (fun x=>x∈xs.map (·.1)) n 0 fun i hi=>by
        have:=hf i hi;have hix:i<xs.length:=by omega
        rw [Nat.zero_add];obtain ⟨ds,a1,a2,a3⟩:=ih m e _ _ h.2 (this.trans (List.getElem?_eq_getElem hix));exact ⟨ds,a1,a2,_,List.mem_map.2 ⟨_,List.getElem_mem hix,rfl⟩,a3⟩
      have hfl:∀ (n k:Nat) (cs:List Value),(k+n)*P.cellsOf e≤cs.length→(List.range' k n).flatMap (fun i=>(cs.drop (i*P.cellsOf e)).take (P.cellsOf e))=(cs.drop (k*P.cellsOf e)).take (n*P.cellsOf e):=by
        intro n
        induction n with
        | zero=>intro k cs _;simp
        | succ n ihn=>
          intro k cs hk;rw [List.range'_succ,List.flatMap_cons,ihn (k+1) cs (by rwa [show k+1+n=k+(n+1) by omega])];rw [show (n+1)*P.cellsOf e=P.cellsOf e+n*P.cellsOf e by rw [Nat.add_mul];omega,List.take_add,List.drop_drop];rw [show k*P.cellsOf e+P.cellsOf e=(k+1)*P.cellsOf e by rw [Nat.add_mul];omega]
      refine ⟨ds,⟨by rw [l1,h.1],f1⟩,?_,fun B hq=>s1 B fun x hx'=>An.array hu (by rw [hxe] at hq;exact hq) hx'⟩;rw [hfl n 0 cs (by rw [hl,h.1];simp)] at c1;rw [Nat.zero_mul,List.drop_zero,List.take_of_length_le (by rw [hl,h.1];exact Nat.le_refl _)] at c1;exact c1
    · rename_i e hu
      (try rw [hu])
      simp only [Bool.and_eq_true,beq_iff_eq,decide_eq_true_eq] at h;rcases DataW.trod_slice hu hx with ⟨rfl,_⟩ | ⟨a,len,cap,elems,rest,n,hn,rfl,hxe,_,hlc,Ee,hel,hf,_⟩
      · exact ⟨[.aJ],.inl rfl,by simp [Cells,bX],fun _ _=>by simp [eX,DV.small]⟩
      · have hspot:0<len→a.spot=none:=by
          intro hpos;have:=hf 0 hpos;rw [show elems[0]? =some (elems[0]'(by omega)) from List.getElem?_eq_getElem (by omega)] at this;obtain ⟨c0,h0,_⟩:=Option.bind_eq_some_iff.1 this;obtain ⟨_,h1,h2⟩:=World.cells?_some h0;have h3:=h2 0 h.1.2;simp only [Nat.zero_mul] at h3;have e0:(a.add 0).add 0=a:=by simp [Addr.add]
          rw [e0] at h3;have hsome:c0[0]? =some (c0[0]'(by omega)):=List.getElem?_eq_getElem (by omega);rw [hsome] at h3;unfold World.cell? at h3
          split at h3
          · split at h3
            · cases h3
            · rename_i hs;simpa using hs
          · cases h3
        have hA:0<len→a=⟨a.block,a.off,none⟩:=fun hpos=>by
          have:=hspot hpos;obtain ⟨b,o,s⟩:=a;simp at this;subst this;rfl
        have hcell:∀ i,i<len→∃ c,w.cells? 0 (a.add (i*P.cellsOf e)) (P.cellsOf e)=some c∧∃ ds,Fit P d e ds∧Cells (kL w) c ds∧∃ x,x∈elems.map (·.1)∧Sm P e ds x:=by
          intro i hi;have:=hf i hi;rw [List.getElem?_eq_getElem (show i<elems.length by omega)] at this;obtain ⟨c,h0,h1⟩:=Option.bind_eq_some_iff.1 this;obtain ⟨ds,a1,a2,a3⟩:=ih n e c _ h.1.1.2 h1;exact ⟨c,h0,ds,a1,a2,_,List.mem_map.2 ⟨_,List.getElem_mem (by omega),rfl⟩,a3⟩
        let cell:Nat→List Value:=fun i=>((w.cells? 0 (a.add (i*P.cellsOf e)) (P.cellsOf e)).getD [])
        have lJ:∀ i,i<len→w.cells? 0 (a.add (i*P.cellsOf e)) (P.cellsOf e)=some (cell i):=fun i hi=>by
          obtain ⟨c,h0,_⟩:=hcell i hi;simp only [cell];rw [h0];rfl
        obtain ⟨ds,l1,c1,f1,s1⟩:=sq d e h.1.1.2 cell (fun x=>x∈elems.map (·.1)) len 0 fun i hi=>by
          obtain ⟨c,h0,h1⟩:=hcell i hi;rw [Nat.zero_add];simp only [cell];rw [h0];exact h1
        refine ⟨[.sl len ds],.inr ⟨len,ds,rfl,by unfold maxLen at Ee;omega,l1,f1⟩,?_,fun B hq=> ?_⟩;rotate_left
        · rw [hxe] at hq
          simp only [eX,DV.small,and_true];obtain ⟨g1,g2⟩:=An.slice hu hq;have:=g1 h.2;rw [List.length_map,hel] at this;exact ⟨this,s1 B fun x hx'=>g2 x hx'⟩
        simp only [Cells,bX,and_true];refine ⟨some a,cap,rfl,hlc,fun h0=> ?_,fun hpos=>⟨a.block,a.off,by rw [← hA hpos],?_⟩⟩
        · subst h0;simp at l1;exact l1
        · refine Cells.Me a.off c1 fun i v hi=> ?_
          have key:∀ (n k i:Nat) (v:Value),k+n≤len→((List.range' k n).flatMap cell)[i]? =some v→w.cell? ⟨a.block,a.off+k*P.cellsOf e+i,none⟩=some v:=by
            intro n
            induction n with
            | zero=>intro k i v _ h;simp at h
            | succ n ihn=>
              intro k i v hk hv;rw [List.range'_succ,List.flatMap_cons] at hv;have hck:=lJ k (by omega);rw [hA (by omega),ej] at hck;obtain ⟨g1,g2⟩:=pn hck
              by_cases hlt:i<(cell k).length
              · rw [List.getElem?_append_left hlt] at hv
                exact g2 i v hv
              · rw [List.getElem?_append_right (by omega),g1] at hv
                have:=ihn (k+1) (i - P.cellsOf e) v (by omega) hv
                rwa [show a.off+(k+1)*P.cellsOf e+(i - P.cellsOf e)=a.off+k*P.cellsOf e+i by rw [Nat.add_mul];omega] at this
          have:=key len 0 i v (by omega) hi
          simpa using this
    · cases h
def mw (P:Program)(t:TypeId)(ds:List DV):SV:=
 match dV P t with
 | some (some _)=> .agg (ds.map .d)
 | _=> .d (ds.headD .j0)
def sr (P:Program)(d:Nat):List TypeId→List (List DV)→Prop
 | [],[]=>True
 | t::ts,x::xs=>Fit P d t x∧sr P d ts xs
 | _,_=>False
def uj (P:Program):List TypeId→List (List DV)→List SV
 | t::ts,x::xs=>mw P t x::uj P ts xs
 | _,_=>[]
def ql (P:Program)(d:Nat)(ts:List TypeId):Bool:=ts.all fun t=>jr P d t && (P.readableRec t && decide (t<P.types.size))
theorem HB {t:TypeId}{v:Value}{d:Nat}{x:DataW H}{ps:List MemPlace}{r:Reach}{b0:Nat}(hf:jr P d t=true)(hv:Value.okWide P w r b0 t v)(h:DataW.Trod enc P w 0 sp held t v x ps)(p:Nat→Prop)(μ:Nat→Nm):
  ∃ ds,Fit P d t ds∧Rp p μ (kL w) (mw P t ds) v∧Sm P t ds x:=by
 obtain ⟨fuel,hx⟩:=h;obtain ⟨ds,h1,h2,h3⟩:=Ed d fuel t _ _ hf hx;refine ⟨ds,h1,?_,h3⟩;have hinfo:∃ i,P.info? t=some i:=by
  cases hi:P.info? t with
  | some i=>exact ⟨i,rfl⟩
  | none=>
   exfalso
   cases d with
   | zero=>simp [jr] at hf
   | succ d=>simp [jr,Program.underlying,hi] at hf
 obtain ⟨i,hi⟩:=hinfo;have one:∀ (hs:dV P t=some none) (Mf:v.cells.toList=[v]),Rp p μ (kL w) (mw P t ds) v:=by
  intro hs Mf;rw [Mf] at h2
  match ds,h2 with
  | [y],h2=>
   simp only [Cells] at h2;simp only [mw,hs,List.headD_cons];exact Rp.cU.2 h2.1
  | [],h2=>simp [Cells] at h2
  | y::z::r,h2=>simp [Cells] at h2
 have agg:∀ (n:Nat) (hs:dV P t=some (some n)) (cs:Array Value) (Mf:v= .agg cs),Rp p μ (kL w) (mw P t ds) v:=by
  intro n hs cs Mf;subst Mf;simp only [mw,hs];exact Rp.eT.2 ⟨cs,rfl,Cells.OD h2⟩
 cases d with
 | zero=>simp [jr] at hf
 | succ d=>
  simp only [jr] at hf
  split at hf
  ·rename_i hu
   obtain ⟨b,rfl⟩:=okWide_bool hu hv;exact one (by simp [dV,hu,hi]) rfl
  ·rename_i hu
   obtain ⟨b,rfl⟩:=okWide_int hu hv;exact one (by simp [dV,hu,hi]) rfl
  ·rename_i fs hu
   obtain ⟨cs,rfl,_⟩:=okWide_struct hu hv;exact agg i.size (by simp [dV,hu,hi]) cs rfl
  ·rename_i n e hu
   unfold Value.okWide at hv;rw [hu] at hv;obtain ⟨cs,rfl,_⟩:=hv;exact agg i.size (by simp [dV,hu,hi]) cs rfl
  ·rename_i e hu
   obtain ⟨a,len,cap,rfl⟩:=okWide_slice hu hv;exact one (by simp [dV,hu,hi]) rfl
  ·cases hf
theorem yJ {d:Nat}{r:Reach}{b0:Nat}(p:Nat→Prop)(μ:Nat→Nm):∀ (ts:List TypeId) (vs:List Value) (xs:List (DataW H)) (ps:List MemPlace),ql P d ts=true→DataW.TrodAll enc P w 0 sp held ts vs xs ps→
  (∀ (j:Nat) t v,ts[j]? =some t→vs[j]? =some v→Value.okWide P w r b0 t v)→∃ vq,sr P d ts vq∧aU p μ (kL w) (uj P ts vq) vs∧xs.length=ts.length∧∀ (B:Nat),(∀ n,n∈DataW.weightsEach P ts xs→n≤B)→∀ ds,ds∈vq→eX B ds
 | [],vs,xs,ps,_,h,_=>by
  obtain ⟨rfl,rfl,_⟩:=trodAll_nil h;exact ⟨[],trivial,aU.aR.2 rfl,rfl,fun _ _ _ h=>by cases h⟩
 | t::ts,vs,xs,ps,hf,h,hv=>by
  obtain ⟨v,vs',x,xs',p1,p2,rfl,rfl,rfl,h1,h2⟩:=trodAll_cons h;simp only [ql,List.all_cons,Bool.and_eq_true] at hf;obtain ⟨ds,a1,a2,a3⟩:=HB (P:=P) hf.1.1 (hv 0 t v rfl rfl) h1 p μ;obtain ⟨vq,b1,b2,b3,b4⟩:=yJ p μ ts vs' xs' p2 (by simpa [ql] using hf.2) h2 fun j t' v' ht hv'=>hv (j+1) t' v' (by simpa using ht) (by simpa using hv')
  refine ⟨ds::vq,⟨a1,b1⟩,aU.aD.2 ⟨v,vs',rfl,a2,b2⟩,by simp [b3],fun B hq ds' hd=> ?_⟩;rcases List.mem_cons.1 hd with rfl | hd
  ·exact a3 B fun n hn=>hq n (by simp only [DataW.weightsEach,List.mem_append];exact .inl hn)
  ·exact b4 B (fun n hn=>hq n (by simp only [DataW.weightsEach,List.mem_append];exact .inr hn)) ds' hd
theorem qa {d:Nat}(hl:laidOutB P=true){W W':World}{sp':Nat→Bool}:∀ (ts:List TypeId) (vs:List Value) (xs:List (DataW H)) (ps:List MemPlace),ql P d ts=true→DataW.TrodAll enc P W 0 (fun _=>true) true ts vs xs ps→
  (∀ x∈ps,W.sameAt W' x)→(∀ x∈ps,sp' x.block=true)→DataW.TrodAll enc P W' 0 sp' true ts vs xs ps
 | [],vs,xs,ps,_,h,_,_=>by
  obtain ⟨rfl,rfl,rfl⟩:=trodAll_nil h;exact trodAll_mk0
 | t ::ts,vs,xs,ps,hf,h,hs,hp=>by
  obtain ⟨v,vs',x,xs',p1,p2,rfl,rfl,rfl,h1,h2⟩:=trodAll_cons h;simp only [ql,List.all_cons,Bool.and_eq_true,decide_eq_true_eq] at hf
  exact trodAll_cons_mk (WideElems.Trod_stays hl hf.1.2.1 hf.1.2.2 h1 (fun q hq=>hs q (by simp [hq])) (fun q hq=>hp q (by simp [hq])))
   (qa hl ts vs' xs' p2 (by simpa [ql] using hf.2) h2 (fun q hq=>hs q (by simp [hq])) (fun q hq=>hp q (by simp [hq])))
theorem vA {f:Func}{s:ChangeSpec}{apart fresh handsOn again:Bool}{W W':World}{args:Array Value}{v:Value}{ds gs:List (DataW H)}{before pa pv:List MemPlace}
  (hW:DataW.Whole enc P f.params.toList s.vars apart W args.toList ds gs before)
  (hres:∀ (b:Nat) (sp:Nat→Bool) (hd:Bool),DataW.TrodAll enc P W' b sp hd f.resultTypes.toList (v.resultList f.resultTypes.size) (s.fn H (ds++gs)).results [])
  (hargs:∀ sp:Nat→Bool,(∀ p∈before,sp p.block=true)→DataW.TrodAll enc P W' 0 sp true f.params.toList args.toList (s.fn H (ds++gs)).args pa)
  (hvars:∀ sp:Nat→Bool,(∀ p∈before,sp p.block=true)→DataW.TrodVars enc P W' sp s.vars (s.fn H (ds++gs)).vars pv)
  (hps:before=pa++pv) (hb:Below W.heap.size W W')
  (hok:∀ (j:Nat) (t:TypeId) (r:Value),f.resultTypes[j]? =some t→(v.resultList f.resultTypes.size)[j]? =some r→Value.okWide P W' .any 0 t r):
  s.post enc P f apart fresh handsOn again W args v W':=by
 have hlt:∀ p∈before,p.block<W.heap.size:=fun p hp=>hW.lt p hp
 have hold:∀ p∈before,(fun b=>decide (b<W.heap.size)) p.block=true:=fun p hp=>by simpa using hlt p hp
 refine ⟨ds,gs,before,[],pa,pv,hW,hres _ _ _,hargs _ hold,hvars _ hold,World.keptBut_mono (fun p hp=>⟨hp,?_⟩) (hb.frame (· ∈before)),fun _=> ?_⟩
 ·rw [hps,List.mem_append] at hp
  exact Or.inr hp
 ·obtain ⟨_,_,_,_,_,hz,hn⟩:=hW
  refine ⟨hok,_,_,([]++pa)++pv,⟨[]++pa,pv,trodAll_append (hargs _ (fun _ _=>rfl)) (hres _ _ _),hvars _ (fun _ _=>rfl),rfl,?_,?_⟩,?_⟩
  ·intro b off hp
   have hin:MemPlace.cell b off∈before:=by rw [hps];simpa using hp
   rw [hb.frozen (hlt _ hin)];exact hz b off hin
  ·intro ha
   have:=hn ha;rw [hps] at this
   simpa using this
  ·intro p hp _
   rw [hps]
   simpa using hp
theorem Ch {f:FuncId}{fn:Func}{spec:ChangeSpec}{tb:TypeId}(d:Nat)(hl:laidOutB P=true)(hts:ql P d fn.params.toList=true)(hres:fn.resultTypes= #[tb])(htb:P.underlying tb=some .bool)(hvars:spec.vars=[])
  (Mg:∀ ds:List (DataW H),ds.length=fn.params.toList.length→(spec.fn H ds).results=[.lit (.bool true)]∧(spec.fn H ds).args=ds∧(spec.fn H ds).vars=[])
  (B:Nat)
  (NL:∀ vq,sr P d fn.params.toList vq→(∀ ds,ds∈vq→eX B ds)→SB P f (uj P fn.params.toList vq) [] 0 0 fun r F=>r=bl true)
  (W:World) (base:Nat) (args:Array Value) (ds gs:List (DataW H)) (before:List MemPlace)
  (hval:∀ (j:Nat) t v,fn.params[j]? =some t→args[j]? =some v→Value.okWide P W .any base t v)
  (hW:DataW.Whole enc P fn.params.toList spec.vars false W args.toList ds gs before) (hG:qe (kL W)) (hB:∀ n,n∈DataW.weightsEach P fn.params.toList ds→n≤B):
  Calls P f args W fun e W'=>∃ v,e= .returned v∧spec.post enc P fn false true false false W args v W':=by
 have hW':=hW;obtain ⟨p,q,hA,hV,rfl,hfz,n9⟩:=hW;rw [hvars] at hV;obtain ⟨rfl,rfl⟩:=trodVars_none hV;obtain ⟨vq,h1,h2,h3,h4⟩:=yJ (P:=P) (d:=d) (fun n=>n<0) (fun _=>⟨0,0,true⟩) fn.params.toList args.toList ds p hts hA fun j t v ht hv=>hval j t v (by simpa using ht) (by simpa using hv)
 refine ((NL vq h1 (h4 B hB)).2.2.2 (fun _=>⟨0,0,true⟩) (kL W) W args h2 ⟨⟨fun b o v h=>h,hG⟩,fun n ob h=>by simp [bE] at h,fun n m h=>by simp [bE] at h⟩).mono ?_;rintro e W' ⟨r,F',a_,M',u,rfl,rfl,_,_,hr,_,hE⟩;have hu:u= .bool true:=by simpa [dy,bX] using hr
 subst hu;have hb:Below W.heap.size W W':=⟨hE.os,hE.tape.1,hE.output,hE.size,fun b hb=>(hE.frame b hb fun n hn=>by simp [bE] at hn).1⟩;obtain ⟨s1,s2,s3⟩:=Mg (ds++[]) (by simpa using h3);refine ⟨_,rfl,vA (pa:=p) (pv:=[]) hW' (fun b sp hd=> ?_) (fun sp hsp=> ?_) (fun sp hsp=> ?_) rfl hb ?_⟩
 ·rw [s1,hres]
  exact trodAll_cons_mk (shut_bool htb _) trodAll_mk0
 ·rw [s2]
  simp only [List.append_nil] at hsp ⊢;exact qa hl _ _ _ _ hts hA (fun x hx=>hb.same (hW'.lt x (by simpa using hx))) hsp
 ·rw [hvars,s3]
  rfl
 ·exact ok_one hres rfl (okWide_bool_mk htb _)
end
end Go.Sl
namespace Go.Sl
open Go.RowKit
mutual
def SV.iw (n len:Nat)(ds:List DV):SV→SV
 | .gs m l=>if m=n then (if l=len then .d (.sl len ds) else .any) else .gs m l
 | .agg cs=> .agg (SV.vB n len ds cs)
 | .dm cs=> .dm (SV.vB n len ds cs)
 | s=>s
def SV.vB (n len:Nat)(ds:List DV):List SV→List SV
 | []=>[]
 | c::cs=>c.iw n len ds::SV.vB n len ds cs
end
def iZ (n len:Nat)(ds:List DV)(env:List (Nat×SV)):List (Nat×SV):=env.map fun x=>(x.1,x.2.iw n len ds)
theorem kN (n len:Nat)(ds:List DV):∀ (env:List (Nat×SV)) (t:Nat),(iZ n len ds env).lookup t=(env.lookup t).map (SV.iw n len ds)
 | [],t=>rfl
 | (q,s)::env,t=>by
  simp only [iZ,List.map_cons,List.lookup];cases t == q
  ·exact kN n len ds env t
  ·rfl
mutual
theorem SV.pq {p:Nat→Prop}{μ:Nat→Nm}{M:Mem}{n len:Nat}{ds:List DV}(hg:∀ v,Rp p μ M (.gs n len) v→Rp p μ M (.d (.sl len ds)) v):∀ (s:SV) (v:Value),Rp p μ M s v→Rp p μ M (s.iw n len ds) v
 | .gs m l,v,h=>by
  simp only [SV.iw]
  split
  ·rename_i e;subst e
   split
   ·rename_i e;subst e
    exact hg v h
   ·exact Rp.any
  ·exact h
 | .agg cs,v,h=>by
  obtain ⟨vs,e,h1⟩:=Rp.eT.1 h;simp only [SV.iw];exact Rp.eT.2 ⟨vs,e,SV.qW hg cs _ h1⟩
 | .dm cs,v,h=>by
  obtain ⟨vs,e,h1⟩:=Rp.dX.1 h;simp only [SV.iw];exact Rp.dX.2 ⟨vs,e,SV.qW hg cs _ h1⟩
 | .d _,v,h=>h
 | .ptr _ _,v,h=>h
 | .vp _ _,v,h=>h
 | .bs _ _ _,v,h=>h
 | .mp _,v,h=>h
 | .it _,v,h=>h
 | .yl _,v,h=>h
 | .fn _ _ _,v,h=>h
 | .any,v,h=>h
theorem SV.qW {p:Nat→Prop}{μ:Nat→Nm}{M:Mem}{n len:Nat}{ds:List DV}(hg:∀ v,Rp p μ M (.gs n len) v→Rp p μ M (.d (.sl len ds)) v):∀ (s:List SV) (v:List Value),aU p μ M s v→aU p μ M (SV.vB n len ds s) v
 | [],v,h=>h
 | c::cs,v,h=>by
  obtain ⟨u,us,e,h1,h2⟩:=aU.aD.1 h;simp only [SV.vB];exact aU.aD.2 ⟨u,us,e,SV.pq hg c u h1,SV.qW hg cs us h2⟩
end
theorem aU.Jy {p:Nat→Prop}{μ:Nat→Nm}{M:Mem}{ds:List DV}{vs:List Value}(h:aU p μ M (ds.map .d) vs){i:Nat}{x:DV}(hi:ds[i]? =some x):∃ u,vs[i]? =some u∧bX M x u:=by
 obtain ⟨u,hu,hr⟩:=h.get (i:=i) (c:= .d x) (by simp [hi]);exact ⟨u,hu,Rp.cU.1 hr⟩
section
variable {P:Program} {N k0:Nat} {st:St} {Q:Exit→St→Prop}
theorem iC.freeze {dg:Nat→Nm}{M0:Mem}{w0:World}{c0:Nat→Option Ob}{a:Act}{w:World}(n:Nat){e sz len:Nat}{cs:List SV}{ds:List DV}(hn:lk st.hp n=some (.arr e sz len cs))(hcs:cs=ds.map .d)
    (h:iC N dg M0 w0 c0 k0 st a w):iC N dg M0 w0 c0 k0 ⟨iZ n len ds st.env,cM st.hp n,st.k⟩ a w:=by
  subst hcs;obtain ⟨l7,hdf,hsz,μ,M,fc,hS,hE⟩:=h;obtain ⟨hpn,bz,hMn⟩:=hS.obs n _ hn;rcases bz with ⟨hdead,hl0,hds⟩ | ⟨hlive,vs,hb,hl1,hl2,LM,hl4,hr⟩
  · have hd0:ds=[]:=by simpa using hds
    subst hd0;subst hl0;have hg:∀ v,Rp (· <st.k) μ M (.gs n 0) v→Rp (· <st.k) μ M (.d (.sl 0 [])) v:=fun v hv=>by
      refine Rp.cU.2 ?_;simp only [bX];obtain ⟨h,_⟩ | ⟨_,_,A,e1⟩:=hv.lI
      · rw [hdead] at h;cases h
      · exact ⟨A,0,e1,Nat.le_refl _,fun _=>trivial,fun h=>absurd h (Nat.lt_irrefl _)⟩
    have hsub:∀ m ob,lk (cM st.hp n) m=some ob→lk st.hp m=some ob:=fun m ob hm=>by
      rw [dY] at hm
      split at hm
      · cases hm
      · exact hm
    refine ⟨l7,hdf,hsz,μ,M,fun t s hs=> ?_,hS.sub hsub,hE.yo fun m hm=> ?_⟩
    · rw [kN] at hs
      obtain ⟨s',hs',rfl⟩:=Option.map_eq_some_iff.1 hs;exact SV.pq hg s' _ (fc t s' hs')
    · obtain ⟨o1,ho1⟩:=Option.ne_none_iff_exists'.1 hm
      rw [hsub m o1 ho1];simp
  have hMn:=hMn hlive;have hlen:ds.length=len*sz:=by simpa using hl1
  let M':Mem:=fun b o=>if b=(μ n).blk then (if o<len*sz then vs[o]? else none) else M b o
  have hne:∀ b,b≠(μ n).blk→∀ o,M' b o=M b o:=fun b hb o=>by simp [M',hb]
  have hle:Mem.le M M':=fun b o v hv=>by
    have:b≠(μ n).blk:=fun e=>by rw [e,hMn] at hv;cases hv
    rw [hne b this];exact hv
  have hoth:∀ m,lk st.hp m≠none→m≠n→(μ m).live=true→(μ m).blk≠(μ n).blk:=fun m hm hmn lm e=>hmn (hS.inj m n hm (by rw [hn];simp) lm hlive e)
  have hsub:∀ m ob,lk (cM st.hp n) m=some ob→lk st.hp m=some ob∧m≠n:=fun m ob hm=>by
    rw [dY] at hm
    split at hm
    · cases hm
    · rename_i e;exact ⟨hm,e⟩
  have hg:∀ v,Rp (· <st.k) μ M' (.gs n len) v→Rp (· <st.k) μ M' (.d (.sl len ds)) v:=fun v hv=>by
    obtain ⟨_,e1⟩ | ⟨h,_⟩:=hv.lI
    rotate_left
    · rw [hlive] at h;cases h
    refine Rp.cU.2 ?_;simp only [bX];refine ⟨_,_,e1,hl2,fun h0=> ?_,fun _=>⟨_,_,rfl,dB.mk fun i c hi=> ?_⟩⟩
    · subst h0
      simp at hlen;exact hlen
    · obtain ⟨u,hu,hru⟩:=hr.Jy hi
      have hil:i<len*sz:=by rw [← hlen];exact (List.getElem?_eq_some_iff.1 hi).1
      refine ⟨u,?_,bX.mono hle _ _ hru⟩;rw [List.getElem?_take_of_lt hil] at hu;simp only [M',if_true,Nat.zero_add,hil]
      simpa using hu
  refine ⟨l7,hdf,hsz,μ,M',fun t s hs=> ?_,⟨⟨fun b o v hv=> ?_,hS.mem.kF.le hle⟩,fun m ob hm=> ?_,fun m m' hm hm' lm lm' e=> ?_⟩,⟨hE.old,Mem.le_trans hE.mem hle,fun b hb0 hf=> ?_,hE.size,fun m hm=> ?_,hE.os,hE.tape,hE.output⟩⟩
  · rw [kN] at hs
    obtain ⟨s',hs',rfl⟩:=Option.map_eq_some_iff.1 hs;exact SV.pq hg s' _ ((fc t s' hs').more (fun _ h=>h) (fun _ _=>rfl) hle)
  · by_cases hbn:b=(μ n).blk
    · subst hbn
      simp only [M',if_true] at hv
      split at hv
      · rw [cell_of hb];exact hv
      · cases hv
    · rw [hne b hbn] at hv
      exact hS.mem b o v hv
  · obtain ⟨hm1,hmn⟩:=hsub m ob hm
    obtain ⟨a1,a2,a3⟩:=hS.obs m ob hm1;refine ⟨a1,a2.more (fun _ h=>h) (fun _ _=>rfl) hle fun _=>rfl,fun lm o=> ?_⟩;rw [hne _ (hoth m (by rw [hm1];simp) hmn lm)];exact a3 lm o
  · obtain ⟨o1,ho1⟩:=Option.ne_none_iff_exists'.1 hm
    obtain ⟨o2,ho2⟩:=Option.ne_none_iff_exists'.1 hm';exact hS.inj m m' (by rw [(hsub m o1 ho1).1];simp) (by rw [(hsub m' o2 ho2).1];simp) lm lm' e
  · have hbn:b≠(μ n).blk:=fun e=>by
      rcases hE.names n (by rw [hn];simp) with ⟨_,hh⟩ | ⟨h,h'⟩
      · rcases hh hlive with h | ⟨m,hm,lm,e'⟩
        · omega
        · exact hf m hm lm (e'.trans e.symm)
      · rw [hE.old n h] at e hlive
        exact hf n h' hlive e.symm
    obtain ⟨f1,f2⟩:=hE.frame b hb0 hf;exact ⟨f1,fun o=>by rw [hne b hbn];exact f2 o⟩
  · obtain ⟨o1,ho1⟩:=Option.ne_none_iff_exists'.1 hm
    exact hE.names m (by rw [(hsub m o1 ho1).1];simp)
theorem SW.freeze {s:bP}(n:Nat){e sz len:Nat}{cs:List SV}(ds:List DV)(hn:lk st.hp n=some (.arr e sz len cs))(hcs:cs=ds.map .d)(h:SW P N k0 s ⟨iZ n len ds st.env,cM st.hp n,st.k⟩ Q):SW P N k0 s st Q:=
 fun c hc rd hrf dg M0 w0 c0 a w fP=>h c hc rd hrf dg M0 w0 c0 a w (fP.freeze n hn hcs)
theorem iC.jb {dg:Nat→Nm}{M0:Mem}{w0:World}{c0:Nat→Option Ob}{a:Act}{w:World}(t:Nat)(e sz:Nat)(ht:st.env.lookup t=some (.d .aJ))(h:iC N dg M0 w0 c0 k0 st a w):
    iC N dg M0 w0 c0 k0 ⟨(t,.gs st.k 0)::st.env,(st.k,.arr e sz 0 [])::st.hp,st.k+1⟩ a w:=by
  obtain ⟨l7,hdf,hsz,μ,M,fc,hS,hE⟩:=h;have hmu:=vN (μ:=μ) (m:=⟨0,0,false⟩) (p:=(· <st.k)) (k:=st.k) (Nat.lt_irrefl _);have hup:∀ n,n<st.k→n<st.k+1:=fun n h=>by omega
  have hlt:∀ n ob,lk st.hp n=some ob→n<st.k:=fun n ob h=>(hS.obs n ob h).1
  refine ⟨by show k0≤st.k+1;omega,hdf,hsz,Ae μ st.k ⟨0,0,false⟩,M,fun u s hs=> ?_,⟨hS.mem,fun n ob hn=> ?_,fun n m hn hm ln lm e=> ?_⟩,⟨fun n hn=> ?_,hE.mem,hE.frame,hE.size,fun n hn=> ?_,hE.os,hE.tape,hE.output⟩⟩
  · rw [mX] at hs
    split at hs
    · rename_i e1
      subst e1;injection hs with hs;subst hs;have h1:=(fc t _ ht).rep;simp only [dy,bX] at h1;intro ν ic;simp only [dy];rw [ic st.k (Nat.lt_succ_self _),bN];exact .inr ⟨rfl,trivial,none,h1⟩
    · exact (fc u s hs).more hup hmu (Mem.le_refl M)
  · rw [aa] at hn
    split at hn
    · rename_i e1
      subst e1;injection hn with hn;subst hn;rw [bN];exact ⟨Nat.lt_succ_self _,.inl ⟨rfl,rfl,rfl⟩,fun h=>by cases h⟩
    · obtain ⟨a1,a2,a3⟩:=hS.obs n ob hn
      rw [hmu n a1];exact ⟨hup n a1,a2.more hup hmu (Mem.le_refl M) fun _=>rfl,a3⟩
  · rw [aa] at hn hm
    by_cases e1:n=st.k
    · subst e1;rw [bN] at ln;cases ln
    · by_cases e2:m=st.k
      · subst e2;rw [bN] at lm;cases lm
      · rw [if_neg e1] at hn
        rw [if_neg e2] at hm;obtain ⟨o1,ho1⟩:=Option.ne_none_iff_exists'.1 hn;obtain ⟨o2,ho2⟩:=Option.ne_none_iff_exists'.1 hm;rw [hmu n (hlt n o1 ho1)] at e ln;rw [hmu m (hlt m o2 ho2)] at e lm;exact hS.inj n m hn hm ln lm e
  · simp only at hn
    by_cases e1:n=st.k
    · subst e1;omega
    · rw [fD _ _ _ e1];exact hE.old n (by omega)
  · rw [aa] at hn
    by_cases e1:n=st.k
    · subst e1
      rw [bN];exact .inl ⟨⟨by omega,Nat.lt_succ_self _⟩,fun h=>by cases h⟩
    · rw [if_neg e1] at hn
      obtain ⟨o1,ho1⟩:=Option.ne_none_iff_exists'.1 hn;rw [hmu n (hlt n o1 ho1)];rcases hE.names n hn with ⟨b1,b2⟩ | ⟨b1,b2⟩
      · exact .inl ⟨⟨b1.1,by have:=b1.2;show n<st.k+1;omega⟩,b2⟩
      · refine .inr ⟨fun h=> ?_,b2⟩
        have:n<st.k:=hlt n o1 ho1;exact b1 ⟨h.1,this⟩
theorem SW.jb {s:bP}(t:Nat)(e sz:Nat)(ht:st.env.lookup t=some (.d .aJ))(h:SW P N k0 s ⟨(t,.gs st.k 0)::st.env,(st.k,.arr e sz 0 [])::st.hp,st.k+1⟩ Q):SW P N k0 s st Q:=
 fun c hc rd hrf dg M0 w0 c0 a w fP=>h c hc rd hrf dg M0 w0 c0 a w (fP.jb t e sz ht)
theorem bX.m_ {M:Mem}{v:Value}(h:bX M .aJ v):bX M (.sl 0 []) v:=by
 simp only [bX] at h ⊢;exact ⟨none,0,h,Nat.le_refl _,fun _=>trivial,fun h=>absurd h (Nat.lt_irrefl _)⟩
theorem SC.args {f:FuncId}{args args':List SV}{F:Hp}{k nk:Nat}{Q:SV→Hp→Prop}(ha:∀ (p:Nat→Prop) μ M vs,aU p μ M args' vs→aU p μ M args vs)(h:SC P f args F k nk Q):SC P f args' F k nk Q:=
 ⟨h.1,fun p μ M w vals h1 h2 h3=>h.2 p μ M w vals h1 (ha p μ M _ h2) h3⟩
end
theorem SV.v_ {ρ:Nat→Nat}:∀ {l:List SV},SV.ax (fun n=>decide (n<0)) l=true→SV.aT ρ l=l
 | [],_=>rfl
 | c::cs,h=>by
  simp only [SV.ax,Bool.and_eq_true] at h;simp only [SV.aT,SV.v7 c h.1,SV.v_ h.2]
def fF (ns:List Nat)(k:Nat)(i:Nat):Nat:=match ns[i]? with
 | some n=>n
 | none=>i - ns.length+k
theorem Ef:∀ {h:Hp} {n:Nat} {ob:Ob},(n,ob)∈h→∃ kg,lk h n=some kg
 | [],n,ob,h=>by simp at h
 | (m,o)::h,n,ob,hm=>by
  rw [aa]
  by_cases e:n=m
  ·exact ⟨o,by simp [e]⟩
  ·rw [if_neg e]
   rcases List.mem_cons.1 hm with h1 | h1
   ·injection h1 with h1 _;exact absurd h1 e
   ·exact Ef h1
theorem SB.pz {P:Program}{f:FuncId}{args:List SV}{F F':Hp}{nk:Nat}{r:SV}(ns:List Nat)(h:SB P f args F ns.length nk fun r' F1=>r'=r∧F1=F')(hd:ns.Nodup)(hF:∀ i,i<ns.length→lk F i≠none)(k:Nat):
  aF P f (SV.aT (fF ns k) args) (F.aC (fF ns k)) k nk (r.aC (fF ns k)) (F'.aC (fF ns k)):=by
 have hlt:∀ i,i<ns.length→ns[i]? =some (fF ns k i):=fun i hi=>by simp [fF,hi]
 have:=SB.at h (fF ns k) k (fun n m hn hm e=> ?_) (fun n hn p μ M w vals _ hS=> ?_) (fun i hi=> ?_)
 ·refine this.mono ?_
  rintro r' F1 ⟨r0,F0,⟨rfl,rfl⟩,rfl,rfl⟩;exact ⟨rfl,rfl⟩
 ·have h1:=hlt n hn
  have h2:=hlt m hm;rw [e] at h1;exact (List.getElem?_inj hn hd).1 (h1.trans h2.symm)
 ·obtain ⟨ob,ho⟩:=Option.ne_none_iff_exists'.1 (hF n hn)
  have hm:(fF ns k n,ob.aC (fF ns k))∈F.aC (fF ns k):=List.mem_map.2 ⟨(n,ob),mZ ho,rfl⟩;obtain ⟨kg,ho'⟩:=Ef hm;exact (hS.obs _ _ ho').1
 ·simp [fF];omega
theorem SB.new {P:Program}{f:FuncId}{args:List SV}{F':Hp}{nk:Nat}{r:SV}(h:SB P f args [] 0 nk fun r' F1=>r'=r∧F1=F')(k:Nat):
  aF P f args [] k nk (r.aC (fF [] k)) (F'.aC (fF [] k)):=by
 have:=SB.pz [] h (by simp) (fun i hi=>absurd hi (Nat.not_lt_zero i)) k
 rwa [SV.v_ h.2.1] at this
@[simp] theorem Mh (h:Hp):HSub [] h↔True:=⟨fun _=>trivial,fun _=>HSub.nil h⟩
@[simp] theorem Mi (h:Hp) (n:Nat) (ob:Ob):HSub [(n,ob)] h↔lk h n=some ob:=by
 refine ⟨fun hs=>hs n ob (by simp [cZ]),fun hs m kg hm=> ?_⟩;rw [cZ] at hm
 split at hm
 ·rename_i e;subst e;simp at hm;subst hm;exact hs
 ·cases hm
def aB.zero:aB:=⟨0,0,0,0,0,0,0,0⟩
theorem aB.aI:[SV.d (.int .u32 0),.d (.int .u32 0),.d (.int .u32 0),.d (.int .u32 0),.d (.int .u32 0),.d (.int .u32 0),.d (.int .u32 0),.d (.int .u32 0)]=aB.zero.cells:=rfl
@[simp] theorem aB.bk (v:aB):v.cells.take 8=v.cells:=rfl
theorem aB.bD (u v:aB):cN u.cells 0 v.cells=v.cells:=rfl
attribute [simp] aB.mu aB.jx aB.ak aB.lX
theorem aB.ay (v:aB)(ρ:Nat→Nat):SV.aT ρ v.cells=v.cells:=rfl
@[simp] theorem Mj (l:List aB):(l.flatMap aB.ds).length=l.length*8:=eC aB.ds 8 (fun _=>rfl) l
theorem bH {α:Type}{l:List α}{i:Nat}{x:α}(h:l[i]? =some x):l.take (i+1)=l.take i++[x]:=by
 rw [List.take_add_one,h];rfl
theorem iV {α:Type}{l:List α}{i:Nat}{x:α}(h:l[i]? =some x):i<l.length:=(List.getElem?_eq_some_iff.1 h).1
theorem aZ {α:Type}{l:List α}{i:Nat}(h:i<l.length):∃ x,l[i]? =some x:=⟨_,List.getElem?_eq_getElem h⟩
theorem aB.yK (a b:aB):jw [true,true,true,true,true,true,true,true] a.cells b.cells=some (decide (a=b)):=aB.qC a b
structure Dt where
 (r n:Nat)
 deriving DecidableEq
def Dt.ds (d:Dt):List DV:=[.int .u8 d.r,.int .u32 d.n]
def Dt.cells (d:Dt):List SV:=[u8 d.r,u32 d.n]
theorem Dt.lX (d:Dt):d.ds.map .d=d.cells:=rfl
@[simp] theorem Dt.jx (d:Dt):d.ds.length=2:=rfl
@[simp] theorem Dt.mu (d:Dt):d.cells.length=2:=rfl
@[simp] theorem Dt.ak (d:Dt) (q:Nat→Bool):SV.ax q d.cells=true:=rfl
theorem Dt.ay (d:Dt)(ρ:Nat→Nat):SV.aT ρ d.cells=d.cells:=rfl
@[simp] theorem Dt.bk (d:Dt):d.cells.take 2=d.cells:=rfl
theorem Dt.Ao (d:Dt):d.cells[0]? =some (u8 d.r):=rfl
theorem Dt.Ap (d:Dt):d.cells[1]? =some (u32 d.n):=rfl
theorem Dt.bD (c d:Dt):cN c.cells 0 d.cells=d.cells:=rfl
theorem Dt.aI:[SV.d (.int .u8 0),.d (.int .u32 0)]=(Dt.mk 0 0).cells:=rfl
theorem Dt.fL (c:Dt)(a b:Nat):cN (cN c.cells 0 [.d (.int .u8 (a:Int))]) 1 [.d (.int .u32 (b:Int))]=(Dt.mk a b).cells:=rfl
@[simp] theorem Jz (cs:List SV) (o:Nat) (c:SV):(cN cs o [c]).length=cs.length:=by simp [cN]
theorem Dt.cells_one (d:Dt):d.cells.all SV.dO=true:=rfl
theorem Dt.qC (a b:Dt):jw [true,true] a.cells b.cells=some (decide (a=b)):=by
 have h:jw [true,true] a.cells b.cells=some (((a.r:Int) == b.r) && (((a.n:Int) == b.n) && true)):=by simp [jw,G3,Dt.cells]
 rw [h]
 congr 1
 obtain ⟨a0,a1⟩:=a;obtain ⟨b0,b1⟩:=b;rw [Bool.eq_iff_iff];simp;omega
def Dt.may (d:Dt):Bool:=decide (d.r<8) && decide (0<d.n)
def Dt.wf (d:Dt):Prop:=d.r<256∧d.n<4294967296
abbrev aW (l:List Dt):SV:= .d (.sl l.length (l.flatMap Dt.ds))
@[simp] theorem kO (l:List Dt):(l.flatMap Dt.ds).length=l.length*2:=eC Dt.ds 2 (fun _=>rfl) l
theorem bW {l:List Dt}{i:Nat}{x:Dt}(h:l[i]? =some x):List.take 2 (List.drop (i*2) (List.map SV.d (l.flatMap Dt.ds)))=x.cells:=by
 rw [← List.map_drop,← List.map_take,pg Dt.ds 2 (fun _=>rfl) l i x h];rfl
section
variable {P:Program} {N k0:Nat} {st:St} {Q:Exit→St→Prop}
theorem SW.slot {c:bP}(t:Nat){s:SV}(s':SV)(hl:st.env.lookup t=some s)(hs:∀ (p:Nat→Prop) μ M v,Rp p μ M s v→Rp p μ M s' v)(h:SW P N k0 c ⟨(t,s')::st.env,st.hp,st.k⟩ Q):SW P N k0 c st Q:=by
 refine fun cc hc rd hrf dg M0 w0 c0 a w fP=>h cc hc rd hrf dg M0 w0 c0 a w ?_
 obtain ⟨l7,hdf,hsz,μ,M,fc,hS,hE⟩:=fP;refine ⟨l7,hdf,hsz,μ,M,fun q x hq=> ?_,hS,hE⟩;simp only [List.lookup] at hq
 split at hq
 ·rename_i e
  have e:q=t:=by simpa using e
  injection hq with hq;subst e;subst hq;exact hs _ _ _ _ (fc q s hl)
 ·exact fc q x hq
theorem m_ (p:Nat→Prop)(μ:Nat→Nm)(M:Mem)(v:Value)(h:Rp p μ M (.d .aJ) v):Rp p μ M (.d (.sl 0 [])) v:=Rp.cU.2 (Rp.cU.1 h).m_
theorem SW.aJ {c:bP}(t:Nat)(hl:st.env.lookup t=some (.d .aJ))(h:SW P N k0 c ⟨(t,.d (.sl 0 []))::st.env,st.hp,st.k⟩ Q):SW P N k0 c st Q:=SW.slot t _ hl m_ h
end
end Go.Sl
namespace Go.Sl
section
namespace Co
def M (d s:Nat):SI:=⟨some d,.mv (.t s),none⟩
def G (d s g:Nat)(b:Bool):SI:=⟨some d,.mv (.t s),some (g,b)⟩
def J (d:Nat)(o:SO):SI:=⟨some d,o,none⟩
def H (d:Nat)(o:SO)(g:Nat)(b:Bool):SI:=⟨some d,o,some (g,b)⟩
def N (o:SO):SI:=⟨none,o,none⟩
def F (l:List SI)(n:Nat):bP:= .fm l (nV n) false
def C (f:FuncId):X:= .k (.fn (.func f) [] [])
def Z (n:Int):X:= .k (.d (.int .i64 n))
def B (b:Bool):X:= .k (.d (.bool b))
def b8 (n:Int):SV:= .d (.int .u8 n)
def av (n:Int):SV:= .d (.int .u32 n)
def bC (n:Int):SV:= .d (.int .u64 n)
def i6 (n:Int):SV:= .d (.int .i64 n)
def z8:List SV:=[.d (.int .u32 0),.d (.int .u32 0),.d (.int .u32 0),.d (.int .u32 0),.d (.int .u32 0),.d (.int .u32 0),.d (.int .u32 0),.d (.int .u32 0)]
def bF:List SV:=[.d (.int .u8 0),.d (.int .u32 0),.d (.int .u32 0),.d (.int .u32 0),.d (.int .u32 0),.d (.int .u32 0),.d (.int .u32 0),.d (.int .u32 0),.d (.int .u32 0),.d (.int .u32 0),.d (.int .u64 0),.d (.int .u32 0),.d (.int .u8 0),.d (.int .u32 0),.d (.int .u8 0),.d (.int .u8 0),.d (.int .u32 0),.d (.int .u32 0),.d (.int .u8 0),.d (.int .u8 0),.d (.int .u64 0),.d (.int .u8 0),.d (.int .u32 0),.d (.int .u8 0),.d (.int .u32 0),.d (.int .u32 0),.d (.int .u32 0),.d (.int .u32 0),.d .aJ]
def T (d a:Nat):SI:=⟨some d,.load none (.t a),none⟩
def K (d n a:Nat):SI:=⟨some d,.load (some n) (.t a),none⟩
def E (d i a:Nat):SI:=⟨some d,.ext i (.t a),none⟩
def L (d a:Nat):SI:=⟨some d,.len (.t a),none⟩
def P (d f a:Nat):SI:=⟨some d,.call (.k (.fn (.func f) [] [])) [.t a],none⟩
def Q (d f a b:Nat):SI:=⟨some d,.call (.k (.fn (.func f) [] [])) [.t a,.t b],none⟩
def R (d f a b c:Nat):SI:=⟨some d,.call (.k (.fn (.func f) [] [])) [.t a,.t b,.t c],none⟩
def x (d n a:Nat):SI:=⟨some d,.box n (.t a),none⟩
def W (n a b:Nat):SI:=⟨none,.store n (.t a) (.t b),none⟩
def Y (d:Nat)(o:BinOp)(a:Nat)(n:Int):SI:=⟨some d,.bin o (.t a) (.k (.d (.int .i64 n))),none⟩
def V (d:Nat)(o:BinOp)(a b:Nat):SI:=⟨some d,.bin o (.t a) (.t b),none⟩
def U (d a b:Nat):SI:=⟨some d,.pick (.t a) (.t b) (.k (.d (.bool false))),none⟩
def O (d a:Nat):SI:=⟨some d,.not (.t a),none⟩
def D (d o a:Nat):SI:=⟨some d,.aX o (.t a),none⟩
def A (d a:Nat):SI:=⟨some d,.dR (.t a),none⟩
def I (d n a b:Nat):SI:=⟨some d,.eD n (.t a) (.t b),none⟩
def S (a b:bP):bP:= .seq a b
end Co
def En (P:Program)(f:FuncId)(N:Nat)(s:bP)(rv:List RV):Prop:=
 ∀ {args:List SV} {F:Hp} {k nk:Nat} {Q:SV→Hp→Prop} (_:SV.ax (fun n=>decide (n<k)) args=true) (_:F.ok (fun n=>decide (n<k))=true) (_:args.length≤N)
  (_:SW P N k s ⟨lE 0 args,F,k⟩ fun e st'=>match e with | .normal=>Fin k nk rv Q st' | .ret=>Fin k nk rv Q st' | _=>False),SB P f args F k nk Q
theorem En.mk {P:Program}{f N:Nat}{fn:Func}{c:Code}{s:bP}{rv:List RV}(hf:P.funcs[f]? =some fn)(hN:fn.ntmps=N:=by rfl)(hb:fn.body=some c:=by kernel_rfl)(hc:cK P fn.ntmps c=some s:=by kernel_rfl)(hr:Hz P fn.results.toList=some rv:=by kernel_rfl)(ha:jR P f=true:=by kernel_rfl):En P f N s rv:=by
 subst hN;intro args F k nk Q h1 h2 h3 h;exact SB.HA hf hb hc hr ha h1 h2 h3 h
end
section
def aB.bn (v:aB)(d:Dt):Bool:=d.may && decide (d.n≤v.get d.r)
def aB.count (v:aB):Nat:=v.a0+v.a1+v.a2+v.a3+v.a4+v.a5+v.a6+v.a7
theorem wrap_u32 (n:Nat)(h:n<4294967296):IntKind.u32.wrap (n:Int)=n:=by
 simp [IntKind.wrap,IntKind.bits,IntKind.signed];omega
theorem wrap_u64 (n:Nat)(h:n<18446744073709551616):IntKind.u64.wrap (n:Int)=n:=by
 simp [IntKind.wrap,IntKind.bits,IntKind.signed];omega
theorem wrap_u8 (n:Nat)(h:n<256):IntKind.u8.wrap (n:Int)=n:=by
 simp [IntKind.wrap,IntKind.bits,IntKind.signed];omega
theorem aB.qm (a b c d e f g h:SV)(r:List SV)(v:aB):cN (a::b::c::d::e::f::g::h::r) 0 v.cells=v.cells++r:=rfl
theorem aB.Aq (u v:aB)(r:List SV):cN (u.cells++r) 8 v.cells=u.cells++cN r 0 v.cells:=rfl
theorem aB.uk (u v:aB)(r:List SV):cN (u.cells++r) 16 v.cells=u.cells++cN r 8 v.cells:=rfl
theorem aB.um (u v:aB)(r:List SV):cN (u.cells++r) 24 v.cells=u.cells++cN r 16 v.cells:=rfl
theorem aB.dM (u:aB)(r:List SV):e_ (u.cells++r)=match e_ r with | some x=>some (u.ds++x) | none=>none:=by
 cases h:e_ r <;> simp [aB.cells,e_,h,aB.ds]
theorem aB.dN (u:aB):e_ u.cells=some u.ds:=rfl
theorem Dt.qm (a b:SV)(r:List SV)(v:Dt):cN (a::b::r) 0 v.cells=v.cells++r:=rfl
theorem Dt.Ar (u v:Dt)(r:List SV):cN (u.cells++r) 2 v.cells=u.cells++cN r 0 v.cells:=rfl
theorem Dt.dM (u:Dt)(r:List SV):e_ (u.cells++r)=match e_ r with | some x=>some (u.ds++x) | none=>none:=by
 cases h:e_ r <;> simp [Dt.cells,e_,h,Dt.ds]
theorem Dt.dN (u:Dt):e_ u.cells=some u.ds:=rfl
theorem ng (l:List DV):(l.map SV.d).all SV.dO=true:=by simp [SV.dO]
def Eg (r a c:Nat):List Dt:=(List.range c).map fun i=>⟨r,a+i⟩
@[simp] theorem Ks (r a c:Nat):(Eg r a c).length=c:=by simp [Eg]
theorem SV.jT (ρ:Nat→Nat):∀ (a b:List SV),SV.aT ρ (a++b)=SV.aT ρ a++SV.aT ρ b
 | [],b=>rfl
 | x::a,b=>by simp [SV.aT,SV.jT ρ a b]
theorem SV.kP (q:Nat→Bool):∀ (a b:List SV),SV.ax q (a++b)=(SV.ax q a && SV.ax q b)
 | [],b=>rfl
 | x::a,b=>by simp [SV.ax,SV.kP q a b,Bool.and_assoc]
theorem Eh {α:Type}{l m:List α}(hl:l.length=m.length)(h:∀ j,j<l.length→l[j]? =m[j]?):l=m:=by
 apply List.ext_getElem?;intro j
 by_cases hj:j<l.length
 ·exact h j hj
 ·rw [List.getElem?_eq_none (by omega),List.getElem?_eq_none (by omega)]
theorem uo:(false == true)=false:=rfl
theorem uq:(true == false)=false:=rfl
end
section
theorem iD (es:List (Nat×SV×SV))(c:Nat)(k v:SV):j8 es c k v none= .map (es++[(c,k,v)]) (c+1):=rfl
theorem iE (es:List (Nat×SV×SV))(c:Nat)(k v:SV)(i:Nat):j8 es c k v (some i)= .map (es.modify i fun e=>(e.1,e.2.1,v)) c:=rfl
theorem iF (es:List (Nat×SV×SV))(c:Nat):yq es c none= .map es c:=rfl
theorem iI (es:List (Nat×SV×SV))(c i:Nat):yq es c (some i)= .map (es.eraseIdx i) c:=rfl
theorem iJ (es:List (Nat×SV×SV))(z:SV):gB es z none=z:=rfl
theorem iK (es:List (Nat×SV×SV))(z:SV)(i:Nat):gB es z (some i)=match es[i]? with
 | some e=>e.2.2
 | none=>z:=rfl
section
variable {K V:Type} [DecidableEq K]
abbrev MM (K V:Type):=List (Nat×K×V)
def MM.idx (L:MM K V)(a:K):Option Nat:=L.findIdx? fun x=>decide (a=x.2.1)
def MM.get (L:MM K V)(a:K):Option V:=(L.find? fun x=>decide (a=x.2.1)).map (·.2.2)
def MM.has (L:MM K V)(a:K):Bool:=(MM.get L a).isSome
def MM.keys (L:MM K V):List K:=L.map (·.2.1)
def MM.put (L:MM K V)(c:Nat)(a:K)(v:V):MM K V:=match MM.idx L a with
 | some i=>L.modify i fun x=>(x.1,x.2.1,v)
 | none=>L++[(c,a,v)]
def MM.jl (L:MM K V)(c:Nat)(a:K):Nat:=if MM.has L a then c else c+1
def MM.del (L:MM K V)(a:K):MM K V:=match MM.idx L a with
 | some i=>L.eraseIdx i
 | none=>L
structure MM.wf (L:MM K V)(c:Nat):Prop where
 keys:(MM.keys L).Nodup
 times:(L.map (·.1)).Nodup
 old:∀ x,x∈L→x.1<c
theorem MM.kQ {L:MM K V}{a:K}:MM.idx L a=none↔MM.get L a=none:=by
 unfold MM.idx MM.get
 induction L with
 | nil=>simp
 | cons x L ih=>
  simp only [List.findIdx?_cons,List.find?_cons]
  by_cases h:a=x.2.1
  ·simp [h]
  ·simp only [h,decide_false,Bool.false_eq_true,if_false,Option.map_eq_none_iff] at ih ⊢
   exact ih
theorem MM.eL {L:MM K V}{a:K}:(MM.idx L a).isSome=MM.has L a:=by
 unfold MM.has;rw [Bool.eq_iff_iff,Option.isSome_iff_ne_none,Option.isSome_iff_ne_none,ne_eq,ne_eq,MM.kQ]
theorem MM.tD:∀ {L:MM K V} {a:K} {i:Nat},MM.idx L a=some i→∃ x,L[i]? =some x∧x.2.1=a∧MM.get L a=some x.2.2
 | [],a,i,h=>by simp [MM.idx] at h
 | x ::L,a,i,h=>by
  unfold MM.idx at h;unfold MM.get;simp only [List.findIdx?_cons,List.find?_cons] at h ⊢
  by_cases e:a=x.2.1
  ·simp only [e,decide_true,if_true] at h ⊢
   injection h with h;subst h;exact ⟨x,rfl,rfl,rfl⟩
  ·simp only [e,decide_false,Bool.false_eq_true,if_false,Option.map_eq_some_iff] at h ⊢
   obtain ⟨j,hj,rfl⟩:=h;obtain ⟨y,h1,h2,h3⟩:=MM.tD (L:=L) (a:=a) (i:=j) hj;exact ⟨y,by simpa using h1,h2,by simpa [MM.get] using h3⟩
theorem MM.get_mem:∀ {L:MM K V} {a:K} {v:V},MM.get L a=some v→∃ t,(t,a,v)∈L
 | [],a,v,h=>by simp [MM.get] at h
 | x ::L,a,v,h=>by
  unfold MM.get at h;simp only [List.find?_cons] at h
  by_cases e:a=x.2.1
  ·simp only [e,decide_true,Option.map_some,Option.some.injEq] at h
   refine ⟨x.1,?_⟩;subst h;rw [e];simp
  ·simp only [e,decide_false] at h
   obtain ⟨t,ht⟩:=MM.get_mem (L:=L) (a:=a) (v:=v) h;exact ⟨t,by simp [ht]⟩
theorem MM.iz {L:MM K V}{a:K}:MM.has L a=true↔a∈MM.keys L:=by
 unfold MM.has MM.get MM.keys
 induction L with
 | nil=>simp
 | cons x L ih=>
  simp only [List.find?_cons,List.map_cons,List.mem_cons]
  by_cases e:a=x.2.1
  ·simp [e]
  ·simp only [e,decide_false,false_or];exact ih
theorem MM.get_of_mem:∀ {L:MM K V} (h:(MM.keys L).Nodup) {t:Nat} {a:K} {v:V},(t,a,v)∈L→MM.get L a=some v
 | [],_,t,a,v,h=>by cases h
 | x ::L,hn,t,a,v,h=>by
  unfold MM.get;simp only [MM.keys,List.map_cons,List.nodup_cons] at hn;simp only [List.find?_cons];rcases List.mem_cons.1 h with rfl | h
  ·simp
  ·have:a≠x.2.1:=fun e=>hn.1 (by rw [← e];exact List.mem_map.2 ⟨_,h,rfl⟩)
   simp only [this,decide_false];exact MM.get_of_mem (L:=L) hn.2 h
theorem MM.qX {L:MM K V}{c:Nat}{a:K}{v:V}:MM.keys (MM.put L c a v)=if MM.has L a then MM.keys L else MM.keys L++[a]:=by
 unfold MM.put;rw [← MM.eL]
 split
 ·rename_i i h
  rw [h];simp only [Option.isSome_some,if_true,MM.keys];apply List.ext_getElem?;intro j;simp only [List.getElem?_map,List.getElem?_modify];cases L[j]? with
  | none=>simp
  | some x=>by_cases e:i=j <;> simp [e]
 ·rename_i h
  rw [h];simp [MM.keys]
theorem MM.we {L:MM K V}{c:Nat}{a:K}{v:V}:(MM.put L c a v).map (·.1)=if MM.has L a then L.map (·.1) else L.map (·.1)++[c]:=by
 unfold MM.put;rw [← MM.eL]
 split
 ·rename_i i h
  rw [h];simp only [Option.isSome_some,if_true];apply List.ext_getElem?;intro j;simp only [List.getElem?_map,List.getElem?_modify];cases L[j]? with
  | none=>simp
  | some x=>by_cases e:i=j <;> simp [e]
 ·rename_i h
  rw [h];simp
theorem MM.Br {L:MM K V}{c:Nat}{a b:K}{v:V}:MM.has (MM.put L c a v) b=(decide (b=a) || MM.has L b):=by
 rw [Bool.eq_iff_iff,MM.iz,MM.qX]
 split
 ·rename_i h
  simp only [Bool.or_eq_true,decide_eq_true_eq,MM.iz];refine ⟨.inr,fun h'=> ?_⟩;rcases h' with rfl | h'
  ·exact MM.iz.1 h
  ·exact h'
 ·simp only [List.mem_append,List.mem_singleton,Bool.or_eq_true,decide_eq_true_eq,MM.iz]
  exact Or.comm
theorem MM.dw {L:MM K V}{c:Nat}{a b:K}{v:V}:MM.get (MM.put L c a v) b=if b=a then some v else MM.get L b:=by
 unfold MM.put
 split
 ·rename_i i h
  revert i h
  induction L with
  | nil=>intro i h;simp [MM.idx] at h
  | cons x L ih=>
   intro i h;unfold MM.idx at h;simp only [List.findIdx?_cons] at h
   by_cases e:a=x.2.1
   ·simp only [e,decide_true,if_true] at h
    injection h with h;subst h;simp only [MM.get,List.modify_zero_cons,List.find?_cons]
    by_cases eb:b=x.2.1
    ·simp [eb,e]
    ·simp [eb,e]
   ·simp only [e,decide_false,Bool.false_eq_true,if_false,Option.map_eq_some_iff] at h
    obtain ⟨j,hj,rfl⟩:=h;have:=ih j hj;simp only [MM.get,List.modify_succ_cons,List.find?_cons] at this ⊢
    by_cases eb:b=x.2.1
    ·simp only [eb,decide_true]
     rw [if_neg (fun h=>e h.symm)]
    ·simp only [eb,decide_false]
     exact this
 ·rename_i h
  have hn:=MM.kQ.1 h;unfold MM.get at hn ⊢;rw [List.find?_append]
  by_cases eb:b=a
  ·subst eb
   have:List.find? (fun x=>decide (b=x.2.1)) L=none:=by simpa using hn
   rw [this];simp
  ·simp only [List.find?_cons,eb,decide_false,List.find?_nil,Option.or_none,if_false]
theorem MM.jy {L:MM K V}{c:Nat}(h:MM.wf L c)(a:K)(v:V):MM.wf (MM.put L c a v) (MM.jl L c a):=by
 refine ⟨?_,?_,fun x hx=> ?_⟩
 ·rw [MM.qX]
  split
  ·exact h.keys
  ·rename_i hh
   rw [List.nodup_append];refine ⟨h.keys,by simp,fun x hx y hy=> ?_⟩;simp only [List.mem_singleton] at hy;subst hy;intro e;subst e;exact hh (MM.iz.2 hx)
 ·rw [MM.we]
  split
  ·exact h.times
  ·rw [List.nodup_append]
   refine ⟨h.times,by simp,fun x hx y hy=> ?_⟩;simp only [List.mem_singleton] at hy;obtain ⟨z,hz,rfl⟩:=List.mem_map.1 hx;have:=h.old z hz;omega
 ·have hm:x.1∈(MM.put L c a v).map (·.1):=List.mem_map.2 ⟨x,hx,rfl⟩
  rw [MM.we] at hm;unfold MM.jl
  split at hm
  ·rename_i hh
   obtain ⟨z,hz,e⟩:=List.mem_map.1 hm;rw [if_pos hh,← e];exact h.old z hz
  ·rename_i hh
   rw [if_neg hh];rcases List.mem_append.1 hm with hm | hm
   ·obtain ⟨z,hz,e⟩:=List.mem_map.1 hm
    have:=h.old z hz;omega
   ·simp only [List.mem_singleton] at hm
    omega
theorem MM.kR:MM.wf ([]:MM K V) 0:=⟨by simp [MM.keys],by simp,by simp⟩
theorem MM.su {L:MM K V}(h:(L.map (·.1)).Nodup){x:Nat×K×V}(hx:x∈L):L.find? (fun y=>y.1 == x.1)=some x:=by
 induction L with
 | nil=>cases hx
 | cons y L ih=>
  simp only [List.map_cons,List.nodup_cons] at h;simp only [List.find?_cons];rcases List.mem_cons.1 hx with rfl | hx
  ·simp
  ·have:y.1≠x.1:=fun e=>h.1 (by rw [e];exact List.mem_map.2 ⟨x,hx,rfl⟩)
   rw [show (y.1 == x.1)=false by simpa using this];exact ih h.2 hx
theorem wg {α β:Type}(f:α→β):∀ (l:List α) (i:Nat),(l.map f).eraseIdx i=(l.eraseIdx i).map f
 | [],i=>by simp
 | x::l,0=>by simp
 | x::l,i+1=>by simp [wg f l i]
theorem MM.qY {L:MM K V}(h:(L.map (·.1)).Nodup){x y:Nat×K×V}(hx:x∈L)(hy:y∈L)(e:x.1=y.1):x=y:=by
 have h1:=MM.su h hx;have h2:=MM.su h hy;rw [e,h2] at h1;exact (Option.some.inj h1).symm
def au (kc:K→List SV)(vs:V→SV)(L:MM K V):List (Nat×SV×SV):=L.map fun x=>(x.1,SV.agg (kc x.2.1),vs x.2.2)
variable {kc:K→List SV} {vs:V→SV}
theorem sx {ks:List Bool}(heq:∀ a b,jw ks (kc a) (kc b)=some (decide (a=b)))(a:K):∀ (L:MM K V) (i:Nat),iT ks true (.agg (kc a)) (au kc vs L) i=some ((MM.idx L a).map (· +i))
 | [],i=>by simp [au,iT,MM.idx]
 | x ::L,i=>by
  have ih:=sx heq a L (i+1);have hk:iS ks true (.agg (kc x.2.1))=true:=by simp [iS,kH,SV.cells,heq]
  unfold au at ih ⊢;simp only [List.map_cons,iT,hk,if_true,SV.cells,heq];unfold MM.idx at ih ⊢;simp only [List.findIdx?_cons]
  by_cases e:a=x.2.1
  ·simp [e]
  ·simp only [e,decide_false,Bool.false_eq_true,if_false]
   rw [ih];cases List.findIdx? (fun x=>decide (a=x.2.1)) L with
   | none=>rfl
   | some j=>simp;omega
theorem nh (d:Dt)(vs:V→SV)(L:MM Dt V):iT [true,true] true (.agg d.cells) (au Dt.cells vs L) 0=some (MM.idx L d):=by
 rw [sx Dt.qC d L 0];cases MM.idx L d <;> rfl
theorem ni (d:aB)(vs:V→SV)(L:MM aB V):iT [true,true,true,true,true,true,true,true] true (.agg d.cells) (au aB.cells vs L) 0=some (MM.idx L d):=by
 rw [sx aB.yK d L 0];cases MM.idx L d <;> rfl
theorem iW (z:V)(L:MM K V)(a:K):gB (au kc vs L) (vs z) (MM.idx L a)=vs ((MM.get L a).getD z):=by
 cases h:MM.idx L a with
 | none=>rw [MM.kQ.1 h];rfl
 | some i=>
  obtain ⟨x,h1,h2,h3⟩:=MM.tD h;rw [h3];simp [gB,au,h1]
def iv (n:Int):SV:= .d (.int .i64 n)
theorem jU (L:MM K Int)(a:K):gB (au kc iv L) (.d (.int .i64 0)) (MM.idx L a)= .d (.int .i64 ((MM.get L a).getD 0)):=iW (vs:=iv) 0 L a
theorem jA (L:MM K V)(c:Nat)(a:K)(v:V):j8 (au kc vs L) c (.agg (kc a)) (vs v) (MM.idx L a)= .map (au kc vs (MM.put L c a v)) (MM.jl L c a):=by
 unfold MM.put MM.jl;rw [← MM.eL];cases h:MM.idx L a with
 | none=>simp [j8,au]
 | some i=>
  simp only [j8,Option.isSome_some,if_true,Ob.map.injEq,and_true,au];apply List.ext_getElem?;intro j;simp only [List.getElem?_map,List.getElem?_modify];cases L[j]? with
  | none=>simp
  | some x=>by_cases e:i=j <;> simp [e]
theorem jV (L:MM K Int)(c:Nat)(a:K)(n:Int):j8 (au kc iv L) c (.agg (kc a)) (.d (.int .i64 n)) (MM.idx L a)= .map (au kc iv (MM.put L c a n)) (MM.jl L c a):=jA (vs:=iv) L c a n
def MM.xx (L:MM K V)(c:Nat)(a:K)(z:V):MM K V:=match MM.idx L a with
 | some _=>L
 | none=>L++[(c,a,z)]
def MM.Mk (L:MM K V)(c:Nat)(a:K):Nat:=match MM.idx L a with
 | some i=>((L[i]?).map (·.1)).getD 0
 | none=>c
def MM.pos (L:MM K V)(a:K):Nat:=(MM.idx L a).getD L.length
theorem ox (L:MM K V)(c:Nat)(a:K):yt (au kc vs L) c (MM.idx L a)=MM.Mk L c a:=by
 unfold MM.Mk;cases h:MM.idx L a with
 | none=>rfl
 | some i=>
  simp only [yt,au,List.getElem?_map];cases L[i]? <;> rfl
theorem ur (L:MM K V)(c:Nat)(a:K)(z:V):qI (au kc vs L) c (.agg (kc a)) (vs z) (MM.idx L a)= .map (au kc vs (MM.xx L c a z)) (MM.jl L c a):=by
 unfold MM.xx MM.jl;rw [← MM.eL];cases h:MM.idx L a with
 | none=>simp [qI,au]
 | some i=>simp [qI]
theorem tE {L:MM K V}{c:Nat}(hw:MM.wf L c)(a:K)(z:V):(au kc vs (MM.xx L c a z)).findIdx? (fun e=>(e.1:Int) == ((MM.Mk L c a:Nat):Int))=some (MM.pos L a):=by
 unfold MM.xx MM.Mk MM.pos;have key:∀ (l:MM K V) (i:Nat) (x:Nat×K×V),(l.map (·.1)).Nodup→l[i]? =some x→(au kc vs l).findIdx? (fun e=>(e.1:Int) == ((x.1:Nat):Int))=some i:=by
  intro l
  induction l with
  | nil=>intro i x _ h;simp at h
  | cons y l ih=>
   intro i x hn h;rw [List.map_cons,List.nodup_cons] at hn;simp only [au,List.map_cons,List.findIdx?_cons];cases i with
   | zero=>simp at h;subst h;simp
   | succ i=>
    simp at h;have hne:((y.1:Int) == (x.1:Int))=false:=by
     have:y.1≠x.1:=fun e=>hn.1 (by rw [e];exact List.mem_map.2 ⟨x,List.mem_of_getElem? h,rfl⟩)
     simpa using fun h:(y.1:Int)=x.1=>this (by omega)
    rw [hne];have:=ih i x hn.2 h;simp only [au] at this;simp [this]
 cases h:MM.idx L a with
 | none=>
  refine key (L++[(c,a,z)]) L.length (c,a,z) ?_ (by simp);rw [List.map_append,List.nodup_append];refine ⟨hw.times,by simp,fun x hx y hy e=> ?_⟩;simp at hy;obtain ⟨q,hq,rfl⟩:=List.mem_map.1 hx;have:=hw.old q hq;omega
 | some i=>
  obtain ⟨x,h1,_⟩:=MM.tD h;simp only [h1,Option.map_some,Option.getD_some];exact key L i x hw.times h1
theorem kC (L:MM K V)(c:Nat)(a:K)(z v:V):(au kc vs (MM.xx L c a z)).modify (MM.pos L a) (fun e=>(e.1,e.2.1,vs v))=au kc vs (MM.put L c a v):=by
 unfold MM.xx MM.pos MM.put;have key:∀ (l:MM K V) (i:Nat),(au kc vs l).modify i (fun e=>(e.1,e.2.1,vs v))=au kc vs (l.modify i fun x=>(x.1,x.2.1,v)):=fun l i=>by
  unfold au;apply List.ext_getElem?;intro j;simp only [List.getElem?_map,List.getElem?_modify];cases l[j]? with
  | none=>simp
  | some x=>by_cases e:i=j <;> simp [e]
 cases h:MM.idx L a with
 | none=>
  simp only [Option.getD_none];rw [key]
  congr 1
  apply List.ext_getElem?;intro j;simp only [List.getElem?_modify,List.getElem?_append]
  by_cases h1:j<L.length
  ·simp [h1,show ¬ L.length=j by omega]
  ·simp only [h1,if_false]
   by_cases h2:L.length=j
   ·subst h2;simp
   ·simp [show ¬ j - L.length=0 by omega,show j - L.length≠0 by omega]
 | some i=>exact key L i
theorem jB (L:MM K V)(c:Nat)(a:K):yq (au kc vs L) c (MM.idx L a)= .map (au kc vs (MM.del L a)) c:=by
 unfold MM.del;cases h:MM.idx L a with
 | none=>rfl
 | some i=>simp only [yq,au,wg]
theorem kS (L:MM K V):(au kc vs L).length=L.length:=by simp [au]
theorem fV {L:MM K V}{e:Nat×SV×SV}(h:e∈au kc vs L):∃ x,x∈L∧e=(x.1,SV.agg (kc x.2.1),vs x.2.2):=by
 obtain ⟨x,hx,rfl⟩:=List.mem_map.1 h;exact ⟨x,hx,rfl⟩
theorem mz {L:MM K V}(h:(L.map (·.1)).Nodup){x:Nat×K×V}(hx:x∈L):(au kc vs L).find? (fun e=>e.1 == x.1)=some (x.1,SV.agg (kc x.2.1),vs x.2.2):=by
 unfold au;rw [List.find?_map];have:=MM.su h hx;simp only [Function.comp_def,this,Option.map_some]
theorem kT (ρ:Nat→Nat)(L:MM K V)(hk:∀ a,SV.aT ρ (kc a)=kc a)(hv:∀ v,(vs v).aC ρ=vs v):(au kc vs L).map (fun e=>(e.1,e.2.1.aC ρ,e.2.2.aC ρ))=au kc vs L:=by
 unfold au;rw [List.map_map];refine List.map_congr_left fun x _=> ?_
 simp [SV.aC,hk,hv]
theorem nj (q:Nat→Bool)(L:MM K V)(hk:∀ a,SV.ax q (kc a)=true)(hv:∀ v,(vs v).ok q=true):((au kc vs L).all fun e=>e.2.1.ok q && e.2.2.ok q)=true:=by
 unfold au;simp [SV.ok,hk,hv]
end
theorem Ei (ρ:Nat→Nat)(n:Int):(iv n).aC ρ=iv n:=rfl
theorem JA (q:Nat→Bool)(n:Int):(iv n).ok q=true:=rfl
abbrev j3:=MM Dt Int
theorem cH (ρ:Nat→Nat)(L:j3):(au Dt.cells iv L).map (fun e=>(e.1,e.2.1.aC ρ,e.2.2.aC ρ))=au Dt.cells iv L:=kT ρ L (fun a=>Dt.ay a ρ) (Ei ρ)
theorem bJ (q:Nat→Bool)(L:j3):((au Dt.cells iv L).all fun e=>e.2.1.ok q && e.2.2.ok q)=true:=nj q L (fun a=>Dt.ak a q) (JA q)
theorem uu (ρ:Nat→Nat)(L:MM aB Int):(au aB.cells iv L).map (fun e=>(e.1,e.2.1.aC ρ,e.2.2.aC ρ))=au aB.cells iv L:=kT ρ L (fun a=>aB.ay a ρ) (Ei ρ)
theorem xy (q:Nat→Bool)(L:MM aB Int):((au aB.cells iv L).all fun e=>e.2.1.ok q && e.2.2.ok q)=true:=nj q L (fun a=>aB.ak a q) (JA q)
end
end Go.Sl
namespace Go.Sl
open Go.RowKit
section
structure ag where
 dot:Dt
 dep:aB
 time:Nat
 who:Nat
 aH:Dt
 kind:Nat
 aN:Dt
 to:Nat
 aP:Nat
 depth:Nat
 cap:Nat
 at_:Dt
 lC:Dt
 item:Nat
 Kt:Nat
 yL:Nat
 lines:DV
def ag.ds (o:ag):List DV:=
 .int .u8 o.dot.r:: .int .u32 o.dot.n::(o.dep.ds++(.int .u64 o.time:: .int .u32 o.who:: .int .u8 o.aH.r:: .int .u32 o.aH.n:: .int .u8 o.kind:: .int .u8 o.aN.r:: .int .u32 o.aN.n:: .int .u32 o.to:: .int .u8 o.aP:: .int .u8 o.depth:: .int .u64 o.cap::
  .int .u8 o.at_.r:: .int .u32 o.at_.n:: .int .u8 o.lC.r:: .int .u32 o.lC.n:: .int .u32 o.item:: .int .u32 o.Kt:: .int .u32 o.yL::[o.lines]))
def ag.cells (o:ag):List SV:=o.ds.map .d
@[simp] theorem ag.jx (o:ag):o.ds.length=29:=rfl
@[simp] theorem ag.mu (o:ag):o.cells.length=29:=rfl
@[simp] theorem ag.ak (o:ag) (q:Nat→Bool):SV.ax q o.cells=true:=SV.br _
@[simp] theorem ag.ay (o:ag) (ρ:Nat→Nat):SV.aT ρ o.cells=o.cells:=SV.gD _
theorem ag.cells_one (o:ag):o.cells.all SV.dO=true:=by simp [ag.cells,SV.dO]
@[simp] theorem ag.bk (o:ag):o.cells.take 29=o.cells:=rfl
theorem ag.kU (o:ag):o.cells.take 2=o.dot.cells:=rfl
theorem ag.As (o:ag):(o.cells.drop 2).take 8=o.dep.cells:=rfl
theorem ag.uw (o:ag):o.cells[10]? =some (u64 o.time):=rfl
theorem ag.Au (o:ag):o.cells[11]? =some (u32 o.who):=rfl
theorem ag.kV (o:ag):(o.cells.drop 12).take 2=o.aH.cells:=rfl
theorem ag.ux (o:ag):o.cells[14]? =some (u8 o.kind):=rfl
theorem ag.uy (o:ag):(o.cells.drop 15).take 2=o.aN.cells:=rfl
theorem ag.Ku (o:ag):o.cells[17]? =some (u32 o.to):=rfl
theorem ag.iL (o:ag):o.cells[18]? =some (u8 o.aP):=rfl
theorem ag.iM (o:ag):o.cells[19]? =some (u8 o.depth):=rfl
theorem ag.qn (o:ag):o.cells[20]? =some (u64 o.cap):=rfl
theorem ag.Kv (o:ag):(o.cells.drop 21).take 2=o.at_.cells:=rfl
theorem ag.Av (o:ag):(o.cells.drop 23).take 2=o.lC.cells:=rfl
theorem ag.uz (o:ag):o.cells[25]? =some (u32 o.item):=rfl
theorem ag.Aw (o:ag):o.cells[26]? =some (u32 o.Kt):=rfl
theorem ag.qo (o:ag):o.cells[27]? =some (u32 o.yL):=rfl
theorem ag.qp (o:ag):o.cells[28]? =some (.d o.lines):=rfl
theorem ag.uA (o:ag):o.cells[0]? =some (u8 o.dot.r):=rfl
theorem ag.uB (o:ag):o.cells[1]? =some (u32 o.dot.n):=rfl
theorem ag.bD (c o:ag):cN c.cells 0 o.cells=o.cells:=rfl
def ag.before (a b:ag):Bool:=b.dep.bn a.dot
abbrev G6:List SV:=[.d (.int .u8 0),.d (.int .u32 0),.d (.int .u32 0),.d (.int .u32 0),.d (.int .u32 0),.d (.int .u32 0),.d (.int .u32 0),.d (.int .u32 0),.d (.int .u32 0),.d (.int .u32 0),.d (.int .u64 0),.d (.int .u32 0),.d (.int .u8 0),.d (.int .u32 0),.d (.int .u8 0),
 .d (.int .u8 0),.d (.int .u32 0),.d (.int .u32 0),.d (.int .u8 0),.d (.int .u8 0),.d (.int .u64 0),.d (.int .u8 0),.d (.int .u32 0),.d (.int .u8 0),.d (.int .u32 0),.d (.int .u32 0),.d (.int .u32 0),.d (.int .u32 0),.d .aJ]
def ag.zero:ag:=⟨⟨0,0⟩,aB.zero,0,0,⟨0,0⟩,0,⟨0,0⟩,0,0,0,0,⟨0,0⟩,⟨0,0⟩,0,0,0,.aJ⟩
theorem ag.aI:([.d (.int .u8 0),.d (.int .u32 0),.d (.int .u32 0),.d (.int .u32 0),.d (.int .u32 0),.d (.int .u32 0),.d (.int .u32 0),.d (.int .u32 0),.d (.int .u32 0),.d (.int .u32 0),.d (.int .u64 0),.d (.int .u32 0),.d (.int .u8 0),.d (.int .u32 0),.d (.int .u8 0),
 .d (.int .u8 0),.d (.int .u32 0),.d (.int .u32 0),.d (.int .u8 0),.d (.int .u8 0),.d (.int .u64 0),.d (.int .u8 0),.d (.int .u32 0),.d (.int .u8 0),.d (.int .u32 0),.d (.int .u32 0),.d (.int .u32 0),.d (.int .u32 0),.d .aJ]:List SV)=ag.zero.cells:=rfl
abbrev ops (l:List ag):SV:= .d (.sl l.length (l.flatMap ag.ds))
abbrev jM (l:List ag):List SV:=List.map SV.d (l.flatMap ag.ds)
@[simp] theorem jc (l:List ag):(l.flatMap ag.ds).length=l.length*29:=eC ag.ds 29 (fun _=>rfl) l
theorem wj {l:List ag}{i:Nat}{x:ag}(h:l[i]? =some x):List.take 29 (List.drop (i*29) (List.map SV.d (l.flatMap ag.ds)))=x.cells:=by
 rw [← List.map_drop,← List.map_take,pg ag.ds 29 (fun _=>rfl) l i x h];rfl
theorem Kw {l:List ag}{i:Nat}{x:ag}(h:l[i]? =some x){j:Nat}(hj:j<29):(List.map SV.d (l.flatMap ag.ds))[i*29+j]? =x.cells[j]? :=by
 rw [List.getElem?_map,uf ag.ds 29 (fun _=>rfl) l i j x h hj,ag.cells,List.getElem?_map]
theorem HC {l:List ag}{i:Nat}{x:ag}(h:l[i]? =some x){j n:Nat}(hj:j+n≤29):List.take n (List.drop (i*29+j) (List.map SV.d (l.flatMap ag.ds)))=(x.cells.drop j).take n:=by
 rw [← wj h,List.drop_take,List.drop_drop,List.take_take,Nat.min_eq_left (by omega)]
theorem oy {l:List ag}{i:Nat}{x:ag}(h:l[i]? =some x):(i*29+29≤(List.map SV.d (l.flatMap ag.ds)).length)=True:=eq_true (by
 have:=iV h;rw [List.length_map,jc];omega)
theorem Bs {α:Type}(f:α→List DV)(sz:Nat)(hs:0<sz)(hf:∀ x,(f x).length=sz)(l:List α)(i:Nat)(x:α)(h:i<l.length):cN (List.map SV.d (l.flatMap f)) (i*sz) ((f x).map .d)=List.map SV.d ((l.set i x).flatMap f):=by
 have hl:=eC f sz hf l;have hle:i*sz+sz≤l.length*sz:=by rw [← Nat.succ_mul];exact Nat.mul_le_mul_right sz h
 rw [qf (by rw [List.length_map,List.length_map,hf,hl];exact hle)];rw [List.length_map,hf,← List.map_take,← List.map_drop,← List.map_append,← List.map_append]
 congr 1
 induction l generalizing i with
 | nil=>simp at h
 | cons y l ih=>
  cases i with
  | zero=>
   simp [hf,List.drop_append,List.drop_of_length_le (Nat.le_of_eq (hf y))]
  | succ i=>
   have:=ih i (by simpa using h) (eC f sz hf l) (by
    have h2:i<l.length:=by simpa using h
    rw [← Nat.succ_mul];exact Nat.mul_le_mul_right sz h2)
   rw [Nat.succ_mul];simp only [List.flatMap_cons,List.set_cons_succ];rw [List.take_append,List.drop_append,hf,List.take_of_length_le (by rw [hf];omega),List.drop_of_length_le (by rw [hf];omega)];rw [show i*sz+sz - sz=i*sz by omega,show i*sz+sz+sz - sz=i*sz+sz by omega,← this];simp
theorem Kx {l:List ag}{i:Nat}(x:ag)(h:i<l.length):cN (List.map SV.d (l.flatMap ag.ds)) (i*29) x.cells=List.map SV.d ((l.set i x).flatMap ag.ds):=Bs ag.ds 29 (by omega) (fun _=>rfl) l i x h
structure Cr where
 dot:Dt
 aH:Dt
 par:Dt
 hold:Nat
 aP:Nat
 depth:Nat
 cap:Nat
 level:Int
 deriving DecidableEq
def Cr.ds (o:Cr):List DV:=[.int .u8 o.dot.r,.int .u32 o.dot.n,.int .u8 o.aH.r,.int .u32 o.aH.n,.int .u8 o.par.r,.int .u32 o.par.n,.int .u32 o.hold,.int .u8 o.aP,.int .u8 o.depth,.int .u64 o.cap,.int .i64 o.level]
def Cr.cells (o:Cr):List SV:=o.ds.map .d
@[simp] theorem Cr.jx (o:Cr):o.ds.length=11:=rfl
@[simp] theorem Cr.mu (o:Cr):o.cells.length=11:=rfl
@[simp] theorem Cr.ak (o:Cr) (q:Nat→Bool):SV.ax q o.cells=true:=SV.br _
@[simp] theorem Cr.ay (o:Cr) (ρ:Nat→Nat):SV.aT ρ o.cells=o.cells:=SV.gD _
theorem Cr.cells_one (o:Cr):o.cells.all SV.dO=true:=rfl
@[simp] theorem Cr.bk (o:Cr):o.cells.take 11=o.cells:=rfl
theorem Cr.kU (o:Cr):o.cells.take 2=o.dot.cells:=rfl
theorem Cr.kV (o:Cr):(o.cells.drop 2).take 2=o.aH.cells:=rfl
theorem Cr.Ax (o:Cr):(o.cells.drop 4).take 2=o.par.cells:=rfl
theorem Cr.uC (o:Cr):o.cells[6]? =some (u32 o.hold):=rfl
theorem Cr.iL (o:Cr):o.cells[7]? =some (u8 o.aP):=rfl
theorem Cr.iM (o:Cr):o.cells[8]? =some (u8 o.depth):=rfl
theorem Cr.qn (o:Cr):o.cells[9]? =some (u64 o.cap):=rfl
theorem Cr.qq (o:Cr):o.cells[10]? =some (i64 o.level):=rfl
theorem Cr.bD (c o:Cr):cN c.cells 0 o.cells=o.cells:=rfl
def Cr.zero:Cr:=⟨⟨0,0⟩,⟨0,0⟩,⟨0,0⟩,0,0,0,0,0⟩
theorem Cr.aI:([.d (.int .u8 0),.d (.int .u32 0),.d (.int .u8 0),.d (.int .u32 0),.d (.int .u8 0),.d (.int .u32 0),.d (.int .u32 0),.d (.int .u8 0),.d (.int .u8 0),.d (.int .u64 0),.d (.int .i64 0)]:List SV)=Cr.zero.cells:=rfl
theorem Cr.qC (a b:Cr):jw [true,true,true,true,true,true,true,true,true,true,true] a.cells b.cells=some (decide (a=b)):=by
 have h:jw [true,true,true,true,true,true,true,true,true,true,true] a.cells b.cells=some (((a.dot.r:Int) == b.dot.r) && (((a.dot.n:Int) == b.dot.n) && (((a.aH.r:Int) == b.aH.r) && (((a.aH.n:Int) == b.aH.n) && (((a.par.r:Int) == b.par.r) && (((a.par.n:Int) == b.par.n) &&
   (((a.hold:Int) == b.hold) && (((a.aP:Int) == b.aP) && (((a.depth:Int) == b.depth) && (((a.cap:Int) == b.cap) && ((a.level == b.level) && true))))))))))):=by simp [jw,G3,Cr.cells,Cr.ds]
 rw [h]
 congr 1
 obtain ⟨⟨a0,a1⟩,⟨a2,a3⟩,⟨a4,a5⟩,a6,a7,a8,a9,a10⟩:=a;obtain ⟨⟨b0,b1⟩,⟨b2,b3⟩,⟨b4,b5⟩,b6,b7,b8,b9,b10⟩:=b;rw [Bool.eq_iff_iff];simp;omega
abbrev dL (l:List Cr):SV:= .d (.sl l.length (l.flatMap Cr.ds))
@[simp] theorem Ns (l:List Cr):(l.flatMap Cr.ds).length=l.length*11:=eC Cr.ds 11 (fun _=>rfl) l
def ov (o:ag):SV:= .agg o.cells
def cv (o:Cr):SV:= .agg o.cells
section
variable {K:Type} [DecidableEq K] {kc:K→List SV}
theorem nq (L:MM K ag)(a:K):gB (au kc ov L) (.agg ag.zero.cells) (MM.idx L a)= .agg ((MM.get L a).getD ag.zero).cells:=iW (vs:=ov) ag.zero L a
theorem nr (L:MM K Cr)(a:K):gB (au kc cv L) (.agg Cr.zero.cells) (MM.idx L a)= .agg ((MM.get L a).getD Cr.zero).cells:=iW (vs:=cv) Cr.zero L a
theorem nt (L:MM K ag)(c:Nat)(a:K):qI (au kc ov L) c (.agg (kc a)) (.agg ag.zero.cells) (MM.idx L a)= .map (au kc ov (MM.xx L c a ag.zero)) (MM.jl L c a):=ur (vs:=ov) L c a ag.zero
theorem nu (L:MM K Cr)(c:Nat)(a:K):qI (au kc cv L) c (.agg (kc a)) (.agg Cr.zero.cells) (MM.idx L a)= .map (au kc cv (MM.xx L c a Cr.zero)) (MM.jl L c a):=ur (vs:=cv) L c a Cr.zero
theorem nw (L:MM K Int)(c:Nat)(a:K):qI (au kc iv L) c (.agg (kc a)) (.d (.int .i64 0)) (MM.idx L a)= .map (au kc iv (MM.xx L c a 0)) (MM.jl L c a):=ur (vs:=iv) L c a 0
theorem ny (L:MM K ag)(c:Nat)(a:K)(z v:ag):(au kc ov (MM.xx L c a z)).modify (MM.pos L a) (fun e=>(e.1,e.2.1,.agg v.cells))=au kc ov (MM.put L c a v):=kC (vs:=ov) L c a z v
theorem nA (L:MM K Cr)(c:Nat)(a:K)(z v:Cr):(au kc cv (MM.xx L c a z)).modify (MM.pos L a) (fun e=>(e.1,e.2.1,.agg v.cells))=au kc cv (MM.put L c a v):=kC (vs:=cv) L c a z v
theorem nB (L:MM K Int)(c:Nat)(a:K)(z v:Int):(au kc iv (MM.xx L c a z)).modify (MM.pos L a) (fun e=>(e.1,e.2.1,.d (.int .i64 v)))=au kc iv (MM.put L c a v):=kC (vs:=iv) L c a z v
theorem bK (ρ:Nat→Nat)(L:MM Dt ag):(au Dt.cells ov L).map (fun e=>(e.1,e.2.1.aC ρ,e.2.2.aC ρ))=au Dt.cells ov L:=kT ρ L (fun a=>Dt.ay a ρ) (fun v=>by simp [ov,SV.aC])
theorem bq (q:Nat→Bool)(L:MM Dt ag):((au Dt.cells ov L).all fun e=>e.2.1.ok q && e.2.2.ok q)=true:=nj q L (fun a=>Dt.ak a q) (fun v=>by simp [ov,SV.ok])
theorem dG (ρ:Nat→Nat)(L:MM Dt Cr):(au Dt.cells cv L).map (fun e=>(e.1,e.2.1.aC ρ,e.2.2.aC ρ))=au Dt.cells cv L:=kT ρ L (fun a=>Dt.ay a ρ) (fun v=>by simp [cv,SV.aC])
theorem gT (q:Nat→Bool)(L:MM Dt Cr):((au Dt.cells cv L).all fun e=>e.2.1.ok q && e.2.2.ok q)=true:=nj q L (fun a=>Dt.ak a q) (fun v=>by simp [cv,SV.ok])
end
end
section
def uv (n:Nat):SV:= .d (.int .u64 (n:Int))
section
variable {K:Type} [DecidableEq K] {kc:K→List SV}
theorem nC (L:MM K Nat)(a:K):gB (au kc uv L) (.d (.int .u64 0)) (MM.idx L a)= .d (.int .u64 (((MM.get L a).getD 0:Nat):Int)):=iW (vs:=uv) 0 L a
theorem nD (L:MM K Nat)(c:Nat)(a:K)(n:Nat):j8 (au kc uv L) c (.agg (kc a)) (.d (.int .u64 (n:Int))) (MM.idx L a)= .map (au kc uv (MM.put L c a n)) (MM.jl L c a):=jA (vs:=uv) L c a n
theorem nE (L:MM K Nat)(c:Nat)(a:K):qI (au kc uv L) c (.agg (kc a)) (.d (.int .u64 0)) (MM.idx L a)= .map (au kc uv (MM.xx L c a 0)) (MM.jl L c a):=ur (vs:=uv) L c a 0
theorem nG (L:MM K Nat)(c:Nat)(a:K)(z v:Nat):(au kc uv (MM.xx L c a z)).modify (MM.pos L a) (fun e=>(e.1,e.2.1,.d (.int .u64 (v:Int))))=au kc uv (MM.put L c a v):=kC (vs:=uv) L c a z v
end
structure Sp where
 d:Dt
 n:Nat
 deriving DecidableEq
def Sp.ds (x:Sp):List DV:=[.int .u8 x.d.r,.int .u32 x.d.n,.int .u64 x.n]
def Sp.cells (x:Sp):List SV:=x.ds.map .d
@[simp] theorem Sp.jx (x:Sp):x.ds.length=3:=rfl
@[simp] theorem Sp.mu (x:Sp):x.cells.length=3:=rfl
@[simp] theorem Sp.ak (x:Sp) (q:Nat→Bool):SV.ax q x.cells=true:=SV.br _
@[simp] theorem Sp.ay (x:Sp) (ρ:Nat→Nat):SV.aT ρ x.cells=x.cells:=SV.gD _
theorem Sp.cells_one (x:Sp):x.cells.all SV.dO=true:=rfl
@[simp] theorem Sp.bk (x:Sp):x.cells.take 3=x.cells:=rfl
theorem Sp.kU (x:Sp):x.cells.take 2=x.d.cells:=rfl
theorem Sp.gN (x:Sp):x.cells[2]? =some (u64 x.n):=rfl
theorem Sp.bD (c x:Sp):cN c.cells 0 x.cells=x.cells:=rfl
def Sp.zero:Sp:=⟨⟨0,0⟩,0⟩
theorem Sp.aI:([.d (.int .u8 0),.d (.int .u32 0),.d (.int .u64 0)]:List SV)=Sp.zero.cells:=rfl
theorem Sp.fL (d:Dt)(n:Nat):cN (cN Sp.zero.cells 0 d.cells) 2 [.d (.int .u64 (n:Int))]=(Sp.mk d n).cells:=rfl
theorem Sp.qC (a b:Sp):jw [true,true,true] a.cells b.cells=some (decide (a=b)):=by
 have h:jw [true,true,true] a.cells b.cells=some (((a.d.r:Int) == b.d.r) && (((a.d.n:Int) == b.d.n) && (((a.n:Int) == b.n) && true))):=by simp [jw,G3,Sp.cells,Sp.ds]
 rw [h]
 congr 1
 obtain ⟨⟨a0,a1⟩,a2⟩:=a;obtain ⟨⟨b0,b1⟩,b2⟩:=b;rw [Bool.eq_iff_iff];simp;omega
@[simp] theorem Nt (l:List Sp):(l.flatMap Sp.ds).length=l.length*3:=eC Sp.ds 3 (fun _=>rfl) l
theorem nH (x:Cr):e_ x.cells=some x.ds:=rfl
theorem nI (x:Sp):e_ x.cells=some x.ds:=rfl
end
end Go.Sl
namespace Go.Sl
section
variable {P:Program}
def RW (P:Program)(dz:List SI)(st:St)(K:St→List (Bool×List Nat)→Prop):Prop:=
 ∃ dL st' ob ts,runs P dz st dL=some (st',ob,ts)∧ob∧K st' ts
def gF:SO→Bool
 | .call .. =>true
 | _=>false
def wk:SO→Bool
 | .lB .. =>true
 | _=>false
def seg (P:Program):List SI→St→Option (List SI×St×Prop×List (Bool×List Nat))
  | [],st=>some ([],st,True,[])
  | si :: r,st=>match si.g with
    | none=>match gF si.op with
      | true=>some (si::r,st,True,[])
      | false=>match ff P st si.op [] with
        | some (e,_)=>match seg P r (lN st si e) with
          | some (rest,st',ob,ts)=>some (rest,st',e.ob∧ob,gZ si e::ts)
          | none=>none
        | none=>none
    | some (t,w)=>match st.env.lookup t with
      | some (.d (.bool b))=>match b == w with
        | true=>match gF si.op with
          | true=>some (si::r,st,True,[])
          | false=>match ff P st si.op [] with
            | some (e,_)=>match seg P r (lN st si e) with
              | some (rest,st',ob,ts)=>some (rest,st',e.ob∧ob,gZ si e::ts)
              | none=>none
            | none=>none
        | false=>match seg P r (lN st si ⟨.dm [],[],[],0,True⟩) with
          | some (rest,st',ob,ts)=>some (rest,st',ob,gZ si ⟨.dm [],[],[],0,True⟩::ts)
          | none=>none
      | some (.dm [])=>match seg P r (lN st si ⟨.dm [],[],[],0,True⟩) with
          | some (rest,st',ob,ts)=>some (rest,st',ob,gZ si ⟨.dm [],[],[],0,True⟩::ts)
          | none=>none
      | _=>none
theorem Ci {st:St}{so:SO}{e:l6}{c2:List CR}(hc:gF so=false)(h:ff P st so []=some (e,c2)):c2=[]∧(wk so=false→∀ dL,ff P st so dL=some (e,dL))∧(wk so=true→∀ dL,ff P st so (.iw::dL)=some (e,dL)):=by
 cases so <;> simp only [gF,Bool.true_eq_false] at hc <;> simp only [ff] at h <;> split at h <;> first | (cases h;done) | skip
 all_goals
  rename_i hs;injection h with h;injection h with h h';subst h;subst h';refine ⟨rfl,fun hb dL=> ?_,fun hb dL=> ?_⟩
  all_goals first
   | (simp [wk] at hb;done)
   | simp only [ff,hs]
theorem RW.nil {st:St}{K:St→List (Bool×List Nat)→Prop}(h:K st []):RW P [] st K:=⟨[],st,True,[],rfl,trivial,h⟩
theorem RW.cons {si:SI}{r:List SI}{st:St}{K:St→List (Bool×List Nat)→Prop}{e:l6}(h1:∀ dL,∃ c0,fU P st si c0=some (e,dL))(bz:e.ob)(h:RW P r (lN st si e) fun st' ts=>K st' (gZ si e::ts)):RW P (si::r) st K:=by
 obtain ⟨dL,st',ob,ts,hr,ho,hk⟩:=h;obtain ⟨c0,hc0⟩:=h1 dL;refine ⟨c0,st',e.ob∧ob,gZ si e::ts,?_,⟨bz,ho⟩,hk⟩;simp only [runs,hc0,hr]
theorem yM {st:St}{so:SO}{e:l6}{c2:List CR}(hc:gF so=false)(h:ff P st so []=some (e,c2))(dL:List CR):∃ c0,ff P st so c0=some (e,dL):=by
 obtain ⟨_,h1,h2⟩:=Ci hc h;cases hb:wk so with
 | false=>exact ⟨dL,h1 hb dL⟩
 | true=>exact ⟨.iw::dL,h2 hb dL⟩
theorem RW.call {d:Option Nat}{f:X}{args:List X}{g:Option (Nat×Bool)}{r:List SI}{st:St}{K:St→List (Bool×List Nat)→Prop}{fid:FuncId}{as first cap as':List SV}{F F':Hp}{v:SV}{nk:Nat}
  (hf:ev (fun t=>st.env.lookup t) f=some (.fn (.func fid) first cap)) (ha:pY (fun t=>st.env.lookup t) args=some as) (has:first++as++cap=as') (hc:aF P fid as' F st.k nk v F') (hs:HSub F st.hp)
  (hg:g=none∨∃ t w,g=some (t,w)∧st.env.lookup t=some (.d (.bool w)))
  (h:RW P r (lN st ⟨d,.call f args,g⟩ ⟨v,F,F',nk,True⟩) fun st' ts=>K st' (gZ ⟨d,.call f args,g⟩ ⟨v,F,F',nk,True⟩::ts)):RW P (⟨d,.call f args,g⟩::r) st K:=by
 refine RW.cons (e:=⟨v,F,F',nk,aF P fid (first++as++cap) F st.k nk v F'∧HSub F st.hp⟩) (fun dL=>⟨.call F v F' nk::dL,?_⟩) ⟨by rw [has];exact hc,hs⟩ h;rcases hg with rfl | ⟨t,w,rfl,hl⟩
 ·simp only [fU,ff,hf,ha]
 ·simp [fU,hl,ff,hf,ha]
theorem SW.NM {N k0:Nat}{st:St}{Q:Exit→St→Prop}{dz:List SI}{bs:List Nat}{draw:Bool}(hm:P.follows .mixedOrders=true)(h:RW P dz st fun st' ts=>(!draw || mW bs ts)=true∧Q .normal st'):SW P N k0 (.fm dz bs draw) st Q:=by
 obtain ⟨dL,st',ob,ts,hr,ho,hn,hk⟩:=h;exact SW.fm dL hm hr ho hn hk
theorem fu {st:St}{d:Option Nat}{op:SO}{g:Option (Nat×Bool)}{dL:List CR}{e:l6}{c2:List CR}(hg:g=none∨∃ t w,g=some (t,w)∧st.env.lookup t=some (.d (.bool w)))(h:ff P st op dL=some (e,c2)):fU P st ⟨d,op,g⟩ dL=some (e,c2):=by
 rcases hg with rfl | ⟨t,w,rfl,hl⟩
 ·simp only [fU,h]
 ·simp [fU,hl,h]
theorem RW.Ej {d:Nat}{op:SO}{g:Option (Nat×Bool)}{r:List SI}{K:St→List (Bool×List Nat)→Prop}{env:List (Nat×SV)}{hp F F':Hp}{k:Nat}{v:SV}{nk:Nat}{ob:Prop}
  (hr:dA op=true) (hc:gF op=false) (hb:wk op=false) (hg:g=none∨∃ t w,g=some (t,w)∧env.lookup t=some (.d (.bool w))) (he:ff P ⟨env,hp,k⟩ op []=some (⟨v,F,F',nk,ob⟩,[])) (bz:ob) (hk:nk=0)
  (h:RW P r ⟨(d,v)::env,hp,k⟩ fun st' ts=>K st' ((true,F.map (·.1)++F'.map (·.1))::ts)):RW P (⟨some d,op,g⟩::r) ⟨env,hp,k⟩ K:=by
 subst hk;refine RW.cons (e:=⟨v,F,F',0,ob⟩) (fun dL=> ?_) bz ?_
 ·obtain ⟨c0,h0⟩:=yM hc he dL
  exact ⟨c0,fu hg h0⟩
 ·simpa only [lN,gZ,hr,bS,if_true,Nat.add_zero] using h
def qZ:Option Nat→SV→List (Nat×SV)→List (Nat×SV)
 | some d,v,env=>(d,v)::env
 | none,_,env=>env
theorem g_ {d:Option Nat}{op:SO}{g:Option (Nat×Bool)}{env:List (Nat×SV)}{hp:Hp}{k:Nat}{e:l6}:lN ⟨env,hp,k⟩ ⟨d,op,g⟩ e=⟨qZ d e.v env,bS (dA op) hp e.F e.F',k+e.nk⟩:=by
 cases d <;> rfl
theorem RW.Ek {d:Option Nat}{op:SO}{g:Option (Nat×Bool)}{r:List SI}{K:St→List (Bool×List Nat)→Prop}{env:List (Nat×SV)}{hp oq F F':Hp}{k k':Nat}{v:SV}{nk:Nat}{ob:Prop}
  (hc:gF op=false) (hg:g=none∨∃ t w,g=some (t,w)∧env.lookup t=some (.d (.bool w))) (he:ff P ⟨env,hp,k⟩ op []=some (⟨v,F,F',nk,ob⟩,[])) (bz:ob) (hh:bS (dA op) hp F F'=oq) (hk:k+nk=k')
  (h:RW P r ⟨qZ d v env,oq,k'⟩ fun st' ts=>K st' ((dA op,F.map (·.1)++F'.map (·.1))::ts)):RW P (⟨d,op,g⟩::r) ⟨env,hp,k⟩ K:=by
 refine RW.cons (e:=⟨v,F,F',nk,ob⟩) (fun dL=> ?_) bz ?_
 ·obtain ⟨c0,h0⟩:=yM hc he dL
  exact ⟨c0,fu hg h0⟩
 ·rw [g_,hh,hk];exact h
theorem RW.HD {d:Option Nat}{e sz len:Nat}{z:List SV}{parts:List (Nat×Nat×X)}{g:Option (Nat×Bool)}{r:List SI}{K:St→List (Bool×List Nat)→Prop}{env:List (Nat×SV)}{hp oq F F':Hp}{k k':Nat}{v:SV}{nk:Nat}{ob:Prop}
  (hg:g=none∨∃ t w,g=some (t,w)∧env.lookup t=some (.d (.bool w))) (he:ff P ⟨env,hp,k⟩ (.lB e sz len z parts) [.own]=some (⟨v,F,F',nk,ob⟩,[])) (bz:ob) (hh:bS false hp F F'=oq) (hk:k+nk=k')
  (h:RW P r ⟨qZ d v env,oq,k'⟩ fun st' ts=>K st' ((false,F.map (·.1)++F'.map (·.1))::ts)):RW P (⟨d,.lB e sz len z parts,g⟩::r) ⟨env,hp,k⟩ K:=by
 refine RW.cons (e:=⟨v,F,F',nk,ob⟩) (fun dL=>⟨.own::dL,fu hg ?_⟩) bz ?_
 ·simp only [ff] at he ⊢
  split at he <;> first | (cases he;done) | skip
  rename_i hs;injection he with he;injection he with he _;subst he;rfl
 ·rw [g_]
  show RW P r ⟨qZ d v env,bS false hp F F',k+nk⟩ _;rw [hh,hk];exact h
theorem RW.El {d:Nat}{op:SO}{t:Nat}{w:Bool}{r:List SI}{K:St→List (Bool×List Nat)→Prop}{env:List (Nat×SV)}{hp:Hp}{k:Nat}{s:SV}(hg:env.lookup t=some s)(hs:mq w s=true)
  (h:RW P r ⟨(d,.dm [])::env,hp,k⟩ fun st' ts=>K st' ((dA op,[])::ts)):RW P (⟨some d,op,some (t,w)⟩::r) ⟨env,hp,k⟩ K:=by
 have hh:bS (dA op) hp [] []=hp:=by unfold bS;split <;> rfl
 refine RW.cons (e:=⟨.dm [],[],[],0,True⟩) (fun dL=>⟨dL,?_⟩) trivial ?_
 ·unfold mq at hs
  split at hs
  ·simp only [fU,hg];rw [if_neg (by simpa using hs)]
  ·simp only [fU,hg]
  ·cases hs
 ·rw [g_]
  show RW P r ⟨(d,.dm [])::env,bS (dA op) hp [] [],k+0⟩ _;rw [hh];exact h
theorem RW.Cj {op:SO}{t:Nat}{w:Bool}{r:List SI}{K:St→List (Bool×List Nat)→Prop}{env:List (Nat×SV)}{hp:Hp}{k:Nat}{s:SV}(hg:env.lookup t=some s)(hs:mq w s=true)
  (h:RW P r ⟨env,hp,k⟩ fun st' ts=>K st' ((dA op,[])::ts)):RW P (⟨none,op,some (t,w)⟩::r) ⟨env,hp,k⟩ K:=by
 have hh:bS (dA op) hp [] []=hp:=by unfold bS;split <;> rfl
 refine RW.cons (e:=⟨.dm [],[],[],0,True⟩) (fun dL=>⟨dL,?_⟩) trivial ?_
 ·unfold mq at hs
  split at hs
  ·simp only [fU,hg];rw [if_neg (by simpa using hs)]
  ·simp only [fU,hg]
  ·cases hs
 ·rw [g_]
  show RW P r ⟨env,bS (dA op) hp [] [],k+0⟩ _;rw [hh];exact h
theorem RW.Em {d:Option Nat}{f:X}{args:List X}{g:Option (Nat×Bool)}{r:List SI}{K:St→List (Bool×List Nat)→Prop}{fid:FuncId}{as first cap as':List SV}{env:List (Nat×SV)}{hp F F':Hp}{k:Nat}{v:SV}{nk:Nat}
  (hf:ev (fun t=>env.lookup t) f=some (.fn (.func fid) first cap)) (ha:pY (fun t=>env.lookup t) args=some as) (has:first++as++cap=as') (hc:aF P fid as' F k nk v F') (hs:HSub F hp)
  (hg:g=none∨∃ t w,g=some (t,w)∧env.lookup t=some (.d (.bool w)))
  (h:RW P r ⟨qZ d v env,bS false hp F F',k+nk⟩ fun st' ts=>K st' ((false,F.map (·.1)++F'.map (·.1))::ts)):RW P (⟨d,.call f args,g⟩::r) ⟨env,hp,k⟩ K:=by
 refine RW.call (st:=⟨env,hp,k⟩) hf ha has hc hs hg ?_;rw [g_];exact h
end
section
variable {P:Program}
def nJ (P:Program)(o:Oper)(E:Nat→Option SV)(H:Nat→Option Ob)(k nk:Nat)(F:Hp)(Q:SV→Hp→Prop):Prop:=
 (∀ n ob,lk F n=some ob→H n=some ob)∧
 ∀ (rd:Option Nat) (p:Nat→Prop) (μ:Nat→Nm) (M:Mem) (a:Act) (w:World) (K:Act→World→Prop) (QQ:Exit→Act→World→Prop),(∀ n,(k≤n∧n<k+nk)→ ¬ p n)→ig E o.op.operands p μ M a→bU p μ M (lk F) w→
  (∀ r F' u a_ M' w',Q r F'→Rp (fun n=>p n∨(k≤n∧n<k+nk)) a_ M' r u→bU (fun n=>p n∨(k≤n∧n<k+nk)) a_ M' (lk F') w'→Ev (lk F) (fun n=>k≤n∧n<k+nk) μ M w (lk F') a_ M' w'→K (a.put o.dst u) w')→
  o.wpIn (jP rd) 0 P a w K QQ
theorem Sound.q {o:Oper}{E:Nat→Option SV}{H:Nat→Option Ob}{k:Nat}{e:l6}(h:Sound P o E H k e):nJ P o E H k e.nk e.F (fun r F'=>r=e.v∧F'=e.F'):=
 ⟨h.2,fun rd p μ M a w K QQ h1 h2 h3 h4=>h.1 rd p μ M a w K QQ h1 h2 h3 fun u a_ M' w' a1 a2 a3=>h4 _ _ u a_ M' w' ⟨rfl,rfl⟩ a1 a2 a3⟩
theorem iC.step {N:Nat}{rd:Option Nat}{dg:Nat→Nm}{M0:Mem}{w0:World}{c0:Nat→Option Ob}{k0:Nat}{st:St}{a:Act}{w:World}{o:Oper}{si:SI}{F:Hp}{nk:Nat}{Q:SV→Hp→Prop}(hd:si.dst=o.dst)(hN:∀ d,o.dst=some d→d<N)
  (h:nJ P o (fun t=>st.env.lookup t) (lk st.hp) st.k nk F Q) (hro:∀ r F',Q r F'→dA si.op=true→F'=F) (fP:iC N dg M0 w0 c0 k0 st a w) {K:Act→World→Prop} {QQ:Exit→Act→World→Prop}
  (hK:∀ r F',Q r F'→∀ a' w',iC N dg M0 w0 c0 k0 (lN st si ⟨r,F,F',nk,True⟩) a' w'→K a' w'):o.wpIn (jP rd) 0 P a w K QQ:=by
 obtain ⟨l7,hdf,hsz,μ,M,fc,hS,hE⟩:=fP;have hsub:∀ n ob,lk F n=some ob→lk st.hp n=some ob:=h.1;refine h.2 rd (· <st.k) μ M a w K QQ (fun n hn=>by omega) ⟨fun t _ s hs=>fc t s hs,hS.mem.kF⟩ (hS.sub hsub) fun r F' u a_ M' w' hQ hu rY hE'=>hK r F' hQ _ _ ?_
 have hp:(fun n=>n<st.k∨(st.k≤n∧n<st.k+nk))=(· <st.k+nk):=funext fun n=>propext ⟨fun h=>by rcases h with h | h <;> omega,fun h=>by show n<st.k∨_;omega⟩
 have hfr:=hS.Ad hsub (fun n hn=>by omega) hE' rY fun n h=> .inl h
 rw [hp] at hu hfr;have hnew:∀ n,(k0≤n∧n<st.k)∨(st.k≤n∧n<st.k+nk)↔k0≤n∧n<st.k+nk:=fun n=>by omega
 have hlk:lk (bS (dA si.op) st.hp F F')=zY (lk st.hp) (lk F) (lk F'):=iy hsub (hro r F' hQ);refine ⟨by show k0≤st.k+nk;omega,by rw [lM];exact hdf.ev hS hfr.2,by rw [ot];exact hsz,a_,M',fun t s hs=> ?_,?_,?_⟩
 ·have hold:∀ s,st.env.lookup t=some s→Rp (· <st.k+nk) a_ M' s (a.tmps.getD t undef):=fun s h'=>
   (fc t s h').more (fun n h=>by omega) (fun n h=>hE'.old n fun h'=>by omega) hE'.mem
  simp only [lN,hd] at hs;cases hod:o.dst with
  | none=>rw [hod] at hs;exact hold s hs
  | some d=>
   rw [hod] at hs;simp only at hs;rw [mX] at hs
   by_cases hdt:d=t
   ·subst hdt
    simp at hs;subst hs;rw [t_ (by rw [hsz];exact hN d hod)];exact hu
   ·rw [if_neg hdt] at hs
    rw [o9 (fun e=>hdt e.symm)];exact hold s hs
 ·show bU _ _ _ (lk (bS (dA si.op) st.hp F F')) _
  rw [hlk];exact hfr.1
 ·show Ev _ _ _ _ _ (lk (bS (dA si.op) st.hp F F')) _ _ _
  rw [hlk];exact (hE.trans hfr.2).tw fun n=>hnew n
theorem iC.skip {N:Nat}{dg:Nat→Nm}{M0:Mem}{w0:World}{c0:Nat→Option Ob}{k0:Nat}{st:St}{a:Act}{w:World}{si:SI}{d:Option Nat}(hd:si.dst=d)(hN:∀ x,d=some x→x<N)
  (fP:iC N dg M0 w0 c0 k0 st a w):iC N dg M0 w0 c0 k0 (lN st si ⟨.dm [],[],[],0,True⟩) (a.put d undef) w:=by
 obtain ⟨l7,hdf,hsz,μ,M,fc,hS,hE⟩:=fP;have hh:bS (dA si.op) st.hp [] []=st.hp:=by unfold bS;split <;> rfl
 refine ⟨l7,by rw [lM];exact hdf,by rw [ot];exact hsz,μ,M,fun t s hs=> ?_,by simp only [lN,hh];exact hS,by simp only [lN,hh];exact hE⟩;simp only [lN,hd] at hs;cases d with
 | none=>exact fc t s hs
 | some d=>
  simp only at hs;rw [mX] at hs
  by_cases hdt:d=t
  ·subst hdt
   simp at hs;subst hs;rw [vW];exact Rp.dX.2 ⟨#[],rfl,aU.aR.2 rfl⟩
  ·rw [if_neg hdt] at hs
   rw [o9 (fun e=>hdt e.symm)];exact fc t s hs
def bu (P:Program)(N k0:Nat)(dz:List SI)(st:St)(K:St→Prop):Prop:=
 ∀ (ops:Array Oper) (i:Nat),i+dz.length=ops.size→(∀ j si,dz[j]? =some si→∃ o,ops[i+j]? =some o∧p_ P ops o=some si)→(∀ si∈dz,∀ d,si.dst=some d→d<N)→
  ∀ (rd:Option Nat) (dg:Nat→Nm) (M0:Mem) (w0:World) (c0:Nat→Option Ob) (a:Act) (w:World),iC N dg M0 w0 c0 k0 st a w→∀ Q':Exit→Act→World→Prop,(∀ st' a' w',K st'→iC N dg M0 w0 c0 k0 st' a' w'→Q' .normal a' w')→
   wpOpsIn (jP rd) 0 P ops Q' (List.range' i dz.length) a w
theorem bu.nil {N k0:Nat}{st:St}{K:St→Prop}(h:K st):bu P N k0 [] st K:=fun ops i _ _ _ rd dg M0 w0 c0 a w fP Q' hQ=>hQ st a w h fP
theorem bu.cons {N k0:Nat}{st:St}{K:St→Prop}{si:SI}{r:List SI}
  (h:∀ (ops:Array Oper) (o:Oper),p_ P ops o=some si→(∀ d,si.dst=some d→d<N)→∀ (rd:Option Nat) (dg:Nat→Nm) (M0:Mem) (w0:World) (c0:Nat→Option Ob) (a:Act) (w:World),iC N dg M0 w0 c0 k0 st a w→
   ∀ (i:Nat),ops[i]? =some o→∀ (Q':Exit→Act→World→Prop) (KK:Act→World→Prop),(∀ st' a' w',bu P N k0 r st' K→iC N dg M0 w0 c0 k0 st' a' w'→KK a' w')→wpOpIn (jP rd) 0 P ops Q' i KK a w):bu P N k0 (si::r) st K:=by
 intro ops i hl kK hN rd dg M0 w0 c0 a w fP Q' hQ;obtain ⟨o,ho,hc⟩:=kK 0 si rfl;simp only [Nat.add_zero] at ho;rw [List.length_cons,List.range'_succ,wpOpsIn_cons];refine h ops o hc (fun d hd=>hN si (by simp) d hd) rd dg M0 w0 c0 a w fP i ho Q' _ fun st' a' w' hn hSt'=> ?_
 exact hn ops (i+1) (by simp at hl;omega) (fun j sj hj=>by
  obtain ⟨o',ho',hc'⟩:=kK (j+1) sj (by simpa using hj);exact ⟨o',by rw [show i+1+j=i+(j+1) by omega];exact ho',hc'⟩) (fun s hs d hd=>hN s (by simp [hs]) d hd) rd dg M0 w0 c0 a' w' hSt' Q' hQ
theorem bu.many {N k0:Nat}{st:St}{K:St→Prop}{si:SI}{r:List SI}{F:Hp}{nk:Nat}{Q:SV→Hp→Prop}(hg:si.g=none)(hq:∀ o:Oper,cO P o.op=some si.op→nJ P o (fun t=>st.env.lookup t) (lk st.hp) st.k nk F Q)
  (hro:dA si.op=false) (h:∀ v F',Q v F'→bu P N k0 r (lN st si ⟨v,F,F',nk,True⟩) K):bu P N k0 (si::r) st K:=by
 refine bu.cons fun ops o hc hN rd dg M0 w0 c0 a w fP i ho Q' KK Eo=> ?_
 obtain ⟨g1,g2,g3⟩:=gE hc;have hgn:o.guard=none:=by
  rcases g3 with ⟨h,_⟩ | ⟨j,w,t,h,_,h'⟩
  ·exact h
  ·rw [hg] at h';cases h'
 unfold wpOpIn;simp only [ho,Region.wanted,hgn,if_true];exact (iC.step g2 (fun d hd=>hN d (by rw [g2];exact hd)) (hq o g1) (fun v F' _ hr=>by rw [hro] at hr;cases hr) fP fun v F' hQ a' w' hSt'=>Eo _ a' w' (h v F' hQ) hSt')
theorem bu.JB {N k0:Nat}{K:St→Prop}{rest:List SI}:∀ {dz:List SI} {st st':St} {dL:List CR} {ob:Prop} {ts:List (Bool×List Nat)},Go.Sl.runs P dz st dL=some (st',ob,ts)→ob→bu P N k0 rest st' K→bu P N k0 (dz++rest) st K:=by
 intro dz
 induction dz with
 | nil=>
  intro st st' dL ob ts h _ hk;simp only [Go.Sl.runs] at h;injection h with h;injection h with h1 _;subst h1;exact hk
 | cons si r ih=>
  intro st st' dL ob ts h bz hk;simp only [Go.Sl.runs] at h
  split at h <;> first | (cases h;done) | skip
  rename_i e crs' hop
  split at h <;> first | (cases h;done) | skip
  rename_i st2 He ts2 hr;injection h with h;injection h with h1 h;injection h with h2 h3;subst h1;subst h2;refine bu.cons fun ops o hc hN rd dg M0 w0 c0 a w fP i ho Q' KK Eo=> ?_
  obtain ⟨b1,b2,b3⟩:=qk hc hop bz.1;obtain ⟨g1,g2,g3⟩:=gE hc;have hnext:=ih hr bz.2 hk;have hu:lN st si e=lN st si ⟨e.v,e.F,e.F',e.nk,True⟩:=rfl;unfold wpOpIn;simp only [ho];obtain ⟨l7,hdf,hsz,μ,M,fc,hS,hE⟩:=fP;have fP:iC N dg M0 w0 c0 k0 st a w:=⟨l7,hdf,hsz,μ,M,fc,hS,hE⟩;rcases b1 with ⟨j,want,t,sv,hg,hd,hE',hb,e1,e2,e3,e4⟩ | ⟨hg,hs⟩
  ·have hv:=fc t _ hE'
   have hw:Region.wanted o (yielded ops a.tmps)=false:=by
    simp only [Region.wanted,hg];unfold mq at hb
    split at hb
    ·rw [iA hd (Rp.bG.1 hv)]
     simpa using hb
    ·obtain ⟨vs,e,hvs⟩:=Rp.dX.1 hv
     have hvs0:vs= #[]:=by have:=aU.aR.1 hvs;simpa using this
     rw [qh hd (by rw [e,hvs0];rfl)];rfl
    ·cases hb
   simp only [hw,Bool.false_eq_true,if_false];obtain ⟨v,F,F',nk,eo⟩:=e;simp only at e1 e2 e3 e4;subst e1;subst e2;subst e3;subst e4;exact ⟨fun _ _=>trivial,Eo _ _ _ hnext (iC.skip g2 (fun d hd=>hN d (by rw [g2];exact hd)) fP)⟩
  ·have hw:Region.wanted o (yielded ops a.tmps)=true:=by
    rcases hg with hg | ⟨j,want,t,hg,hd,hE'⟩
    ·simp [Region.wanted,hg]
    ·have hv:=Rp.bG.1 (fc t _ hE')
     simp only [Region.wanted,hg,iA hd hv];simp
   simp only [hw,if_true];exact (iC.step g2 (fun d hd=>hN d (by rw [g2];exact hd)) hs.q (fun v F' hQ hr=>by rw [hQ.2];exact b2 hr) fP fun v F' hQ a' w' hSt'=>Eo _ a' w' (by rw [hQ.1,hQ.2];exact hnext) hSt')
theorem bu.runs {N k0:Nat}{K:St→Prop}{dz:List SI}{st st':St}{dL:List CR}{ob:Prop}{ts:List (Bool×List Nat)}(h:Go.Sl.runs P dz st dL=some (st',ob,ts))(ho:ob)(hk:K st'):bu P N k0 dz st K:=by
 have:=bu.JB (N:=N) (k0:=k0) (rest:=[]) h ho (bu.nil hk)
 rwa [List.append_nil] at this
theorem bu.one {N k0:Nat}{K:St→Prop}{si:SI}{r:List SI}{st:St}{e:l6}{c2 dL:List CR}(h1:fU P st si dL=some (e,c2))(bz:e.ob)(h:bu P N k0 r (lN st si e) K):bu P N k0 (si::r) st K:=
 bu.JB (dz:=[si]) (dL:=dL) (st':=lN st si e) (ob:=e.ob∧True) (ts:=[gZ si e]) (by simp only [Go.Sl.runs,h1]) ⟨bz,trivial⟩ h
theorem Bt {o:Oper}{E:Nat→Option SV}{H:Nat→Option Ob}{k nk:Nat}{f:X}{args:List X}{fid:FuncId}{first cap as:List SV}{F:Hp}{Q:SV→Hp→Prop}(hc:cO P o.op=some (.call f args))
  (h1:ev E f=some (.fn (.func fid) first cap)) (h2:pY E args=some as) (DL:SC P fid (first++as++cap) F k nk Q) (hsub:∀ n ob,lk F n=some ob→H n=some ob):nJ P o E H k nk F Q:=by
 obtain ⟨c,fo,hop,cu,hf,ha⟩:=qS hc;exact ⟨hsub,fun rd p μ M a w K QQ hnew hk hS hK=>xq hop cu hf ha h1 h2 DL hnew hk hS hK⟩
theorem SW.O3 {N k0:Nat}{st:St}{dz:List SI}{K:St→Prop}{st1:St}{ρ:Nat→Nat}(hw:aK k0 st st1 ρ)(h:bu P N k0 dz st1 K):bu P N k0 dz st K:=
 fun ops i h1 h2 h3 rd dg M0 w0 c0 a w fP=>h ops i h1 h2 h3 rd dg M0 w0 c0 a w (fP.weak hw)
theorem SW.vC {N k0:Nat}{st:St}{Q:Exit→St→Prop}{dz:List SI}{bs:List Nat}(h:bu P N k0 dz st (Q .normal)):SW P N k0 (.fm dz bs false) st Q:=by
 intro c hc rd hrf dg M0 w0 c0 a w fP;cases c <;> simp only [cK] at hc <;> first
  | (cases hc;done)
  | (exfalso;split at hc <;> cases hc;done)
  | (exfalso;obtain ⟨_,_,h'⟩:=Option.map_eq_some_iff.1 hc;cases h';done)
  | skip
 rename_i id ops draw
 split at hc <;> first | (cases hc;done) | skip
 rename_i sis' bs' hreg;injection hc with hc;injection hc with h1 h2 h3;subst h1;subst h3;unfold D9 at hreg
 split at hreg <;> first | (cases hreg;done) | skip
 rename_i sis2 hsis
 split at hreg <;> first | (cases hreg;done) | skip
 rename_i hchk;injection hreg with hreg;injection hreg with hr1 hr2;subst hr1;simp only [Bool.and_eq_true] at hchk;obtain ⟨_,hin⟩:=hchk;obtain ⟨hlen,kK⟩:=mY hsis;refine wpIn_region ?_;rw [List.range_eq_range'];have hn:ops.size=sis2.length:=by simpa using hlen
 rw [hn];refine h ops 0 (by omega) (fun j si hj=> ?_) (fun si hs d hd=> ?_) rd dg M0 w0 c0 a w fP _ fun st' a' w' hk hSt'=>⟨st',hk,hSt'⟩
 ·have hj':j<ops.size:=by rw [hn];exact (List.getElem?_eq_some_iff.1 hj).1
  obtain ⟨si',h1,h2⟩:=kK j ops[j] (by simp [hj']);rw [hj] at h1;injection h1 with h1;subst h1;exact ⟨ops[j],by rw [Nat.zero_add];exact Array.getElem?_eq_getElem hj',h2⟩
 ·have:=List.all_eq_true.1 hin si hs
  rw [hd] at this
  simpa using this
end
section
variable {P:Program}
theorem HSub.cons {F h:Hp}{n:Nat}{ob:Ob}(h1:lk h n=some ob)(h2:HSub F h):HSub ((n,ob)::F) h:=fun m kg hm=>by
 rw [aa] at hm
 split at hm
 ·rename_i e;subst e;injection hm with hm;subst hm;exact h1
 ·exact h2 m kg hm
theorem wrap_i64 (n:Int)(h: -9223372036854775808≤n∧n<9223372036854775808):IntKind.i64.wrap n=n:=xw n h.1 h.2
theorem jC (n:Int)(h:0≤n∧n<18446744073709551616):IntKind.u64.wrap n=n:=by
 have:=wrap_u64 n.toNat (by omega)
 rwa [show ((n.toNat:Nat):Int)=n by omega] at this
theorem wrap_u32' (n:Int)(h:0≤n∧n<4294967296):IntKind.u32.wrap n=n:=by
 have:=wrap_u32 n.toNat (by omega)
 rwa [show ((n.toNat:Nat):Int)=n by omega] at this
theorem wrap_u8' (n:Int)(h:0≤n∧n<256):IntKind.u8.wrap n=n:=by
 have:=wrap_u8 n.toNat (by omega)
 rwa [show ((n.toNat:Nat):Int)=n by omega] at this
theorem af:(true == true)=true:=rfl
theorem uD:(false == false)=true:=rfl
theorem Dt.Ay (c:Dt)(a b:Int)(h:0≤a∧0≤b):cN (cN c.cells 0 [.d (.int .u8 a)]) 1 [.d (.int .u32 b)]=(Dt.mk a.toNat b.toNat).cells:=by
 have:=Dt.fL c a.toNat b.toNat
 rwa [show ((a.toNat:Nat):Int)=a by omega,show ((b.toNat:Nat):Int)=b by omega] at this
theorem Dt.Az (c:Dt)(b:Int)(h:0≤b):cN c.cells 1 [.d (.int .u32 b)]=(Dt.mk c.r b.toNat).cells:=by
 rw [show b=((b.toNat:Nat):Int) by omega];rfl
theorem kX (n k:Nat):(n:Int)+(no_index (OfNat.ofNat k):Int)=((n+OfNat.ofNat k:Nat):Int):=rfl
theorem kY (n k:Nat):(n:Int)+(k:Int)=((n+k:Nat):Int):=rfl
def aq (L:List Nat)(st:St)(R:St→Prop):Prop:=R ⟨st.env.filter (fun x=>L.contains x.1),st.hp,st.k⟩
theorem aq.mk {L:List Nat}{env:List (Nat×SV)}{hp:Hp}{k:Nat}{R:St→Prop}{env':List (Nat×SV)}
  (he:env.filter (fun x=>L.contains x.1)=env':=by (simp only [lE,Nat.zero_add,Nat.reduceAdd,List.filter,List.contains_cons,List.contains_nil,Nat.reduceBEq,Bool.or_false,Bool.or_true,Bool.true_or,Bool.false_or,BEq.rfl,beq_self_eq_true] <;> with_reducible rfl)) (h:R ⟨env',hp,k⟩):aq L ⟨env,hp,k⟩ R:=by
 show R ⟨env.filter _,hp,k⟩;rw [he];exact h
theorem oz (L : List Nat):∀ (env:List (Nat×SV)) (t:Nat) (s:SV),(env.filter (fun x=>L.contains x.1)).lookup t=some s→env.lookup t=some s
  | [],t,s,h=>by simp at h
  | (u, x) :: env,t,s,h=>by
    simp only [List.filter] at h
    by_cases hu:L.contains u=true
    · rw [hu] at h
      simp only [List.lookup] at h ⊢
      split at h
      · exact h
      · exact oz L env t s h
    · rw [show L.contains u=false by simpa using hu] at h
      have h2:=oz L env t s h;simp only [List.lookup]
      by_cases e:t=u
      · subst e
        exfalso
        have:∀ (env:List (Nat×SV)),(env.filter (fun x=>L.contains x.1)).lookup t=none:=by
          intro env
          induction env with
          | nil=>rfl
          | cons y env ih=>
            simp only [List.filter]
            by_cases hy:L.contains y.1=true
            · rw [hy]
              simp only [List.lookup];have:(t == y.1)=false:=by
                simp only [beq_eq_false_iff_ne];intro e;rw [← e] at hy;exact hu hy
              rw [this];exact ih
            · rw [show L.contains y.1=false by simpa using hy];exact ih
        rw [this] at h;cases h
      · rw [show (t == u)=false by simpa using e];exact h2
theorem SW.bT {N k0:Nat}{st:St}{Q:Exit→St→Prop}{dz:List SI}{bs:List Nat}{draw:Bool}(L:List Nat)(hm:P.follows .mixedOrders=true)(h:RW P dz st fun st' ts=>(!draw || mW bs ts)=true∧aq L st' (Q .normal)):SW P N k0 (.fm dz bs draw) st Q:=by
 have h':RW P dz st fun st' ts=>(!draw || mW bs ts)=true∧(fun e st'=>∃ st2,Q e st2∧st2=⟨st'.env.filter (fun x=>L.contains x.1),st'.hp,st'.k⟩) Exit.normal st':=by
  obtain ⟨dL,st',ob,ts,hr,ho,hn,hk⟩:=h;exact ⟨dL,st',ob,ts,hr,ho,hn,_,hk,rfl⟩
 have:=SW.NM (N:=N) (k0:=k0) (bs:=bs) (draw:=draw) (Q:=fun e st'=>∃ st2,Q e st2∧st2=⟨st'.env.filter (fun x=>L.contains x.1),st'.hp,st'.k⟩) hm h';intro c hc rd hrf dg M0 w0 c0 a w fP;refine wpIn_mono (this c hc rd hrf dg M0 w0 c0 a w fP) ?_;rintro e a' w' ⟨st',⟨st2,hq,rfl⟩,hst'⟩;obtain ⟨h1,h2,h3,μ,M,h4,h5,h6⟩:=hst';exact ⟨_,hq,h1,h2,h3,μ,M,fun t s hl=>h4 t s (oz L _ t s hl),h5,h6⟩
theorem SW.cut {N k0:Nat}{st:St}{Q:Exit→St→Prop}{x y:bP}(stM:St)(ρ:Nat→Nat)(h1:SW P N k0 x st fun e st'=>match e with | .normal=>aK k0 st' stM ρ | _=>False)(h2:SW P N k0 y stM Q):SW P N k0 (.seq x y) st Q:=by
 refine SW.seq (h1.mono fun e st' h=> ?_);cases e <;> first | exact h.elim | exact SW.weak ρ h h2
section
variable {dz rest r:List SI} {st st':St} {ob:Prop} {ts:List (Bool×List Nat)} {K:St→List (Bool×List Nat)→Prop}
theorem gZ0{p:Prop}(h:p:=by
   intro φ;simp (disch:=omega) only [Go.Sl.seg,lE,gF,ff,dH,ev,pY,vn,lN,List.lookup,Nat.reduceBEq,Nat.reduceAdd,Nat.reduceMul,Nat.zero_add,SV.cells,if_true,if_false,reduceIte,Bool.false_eq_true,dA,bS,bZ,b_,fC,fK,cM,lk,List.filter,Nat.reduceBNe,bne_self_eq_false,eq_self,z7,yh,gq,vu,vv,DT,aB.cells_one,BEq.rfl,beq_self_eq_true,Bool.true_or,Nat.reduceEqDiff,List.map_cons,List.map_nil,List.nil_append,List.cons_append,List.append_nil,Int.toNat_natCast,Nat.mul_one,Nat.add_zero,iT,iS,kH,iD,iE,iF,iI,iJ,iK,kI,Option.isSome_some,Option.isSome_none,Option.isNone_some,Option.isNone_none,Nat.zero_ne_one,Nat.one_ne_zero,Bool.and_false,Bool.and_true,List.drop_zero,aB.aI,aB.bk,aB.bD,Dt.cells_one,Dt.bk,Dt.Ao,Dt.Ap,Dt.bD,Dt.aI,Dt.Ay,Dt.Az,lU,e_,vw,tU,List.all_cons,List.all_nil,SV.dO,Int.cast_ofNat_Int,Int.reduceBNe,Int.reduceBEq,Int.reduceLT,Int.reduceLE,Int.reduceGT,Int.reduceGE,ng,uo,uq,Bool.not_true,Bool.not_false,Bool.or_false,Bool.or_true,Bool.false_or,Bool.or_self,aB.qm,aB.Aq,aB.uk,aB.um,aB.dM,aB.dN,Dt.qm,Dt.Ar,Dt.dM,Dt.dN,List.all_append,aB.yK,Dt.qC,Bool.cond_true,Bool.cond_false,wrap_i64,jC,wrap_u32',wrap_u8',af,uD,kX,kY,Int.reduceToNat,List.length_nil,List.getElem?_cons_zero,List.getElem?_cons_succ,List.take_succ_cons,List.take_zero,List.drop_succ_cons,decide_true,decide_false,Bool.true_and,Bool.and_self,Bool.false_and,nh,ni,jU,jV,jB,MM.eL,kS,ox,nw,nB,nt,ny,nu,nA,nq,nr,ag.cells_one,ag.bk,ag.kU,ag.As,ag.uw,ag.Au,ag.kV,ag.ux,ag.uy,ag.Ku,ag.iL,ag.iM,ag.qn,ag.Kv,ag.Av,ag.uz,ag.Aw,ag.qo,ag.qp,ag.uA,ag.uB,ag.bD,ag.aI,Cr.cells_one,Cr.bk,Cr.kU,Cr.kV,Cr.Ax,Cr.uC,Cr.iL,Cr.iM,Cr.qn,Cr.qq,Cr.bD,Cr.aI,Cr.qC,nC,nD,nE,nG,Sp.cells_one,Sp.bk,Sp.kU,Sp.gN,Sp.bD,Sp.aI,Sp.fL,Sp.qC,nI,nH,φ]
   with_reducible rfl):p:=h
theorem gZ1{p:Prop}(h:p:=by (intro φ;simp only [φ,dA,bS,bZ,b_,fC,fK,cM,lk,List.lookup,Nat.reduceBEq,BEq.rfl,beq_self_eq_true,if_true,if_false,reduceIte,Nat.reduceEqDiff,Bool.false_eq_true,Option.isSome_some,Option.isSome_none] <;> with_reducible rfl)):p:=h
theorem gZ2{p:Prop}(h:p:=by first | trivial | (repeat' (first | exact trivial | omega | apply And.intro | (simp [-List.length_flatMap,-Int.natCast_add];done) | (simp [-List.length_flatMap,-Int.natCast_add] <;> omega)))):p:=h
theorem gZ3{p:Prop}(h:p:=by intro φ;simp [Go.Sl.aK,bp,vZ,Eb,SV.aC,SV.aT,SV.ok,SV.ax,Ob.aC,Ob.ok,lk,List.lookup,aB.ay,Dt.ay,SV.gD,SV.br,SV.jT,SV.kP,aB.ak,cH,bJ,uu,xy,lE,φ]):p:=h
theorem RW.ro {d:Nat}{op:SO}{g:Option (Nat×Bool)}{env:List (Nat×SV)}{hp F F':Hp}{k:Nat}{v:SV}{nk:Nat}{ob:Prop}{Φ:Prop}(φ:Φ)
  (hr:dA op=true:=by rfl) (hc:gF op=false:=by rfl) (hb:wk op=false:=by rfl)
  (hg:g=none∨∃ t w,g=some (t,w)∧env.lookup t=some (.d (.bool w)):=by first | exact .inl rfl | exact .inr ⟨_,_,rfl,rfl⟩)
  (he:Φ→ff P ⟨env,hp,k⟩ op []=some (⟨v,F,F',nk,ob⟩,[]):=by exact gZ0)
  (bz:ob:=by exact gZ2)
  (hk:nk=0:=by rfl)
  (h:RW P r ⟨(d,v)::env,hp,k⟩ fun st' ts=>K st' ((true,F.map (·.1)++F'.map (·.1))::ts)):RW P (⟨some d,op,g⟩::r) ⟨env,hp,k⟩ K:=RW.Ej hr hc hb hg (he φ) bz hk h
theorem RW.op {d:Nat}{op:SO}{g:Option (Nat×Bool)}{env:List (Nat×SV)}{hp oq F F':Hp}{k k':Nat}{v:SV}{nk:Nat}{ob:Prop}{Φ:Prop}(φ:Φ)
  (hc:gF op=false:=by rfl)
  (hg:g=none∨∃ t w,g=some (t,w)∧env.lookup t=some (.d (.bool w)):=by first | exact .inl rfl | exact .inr ⟨_,_,rfl,rfl⟩)
  (he:Φ→ff P ⟨env,hp,k⟩ op []=some (⟨v,F,F',nk,ob⟩,[]):=by exact gZ0)
  (bz:ob:=by exact gZ2)
  (hh:Φ→bS (dA op) hp F F'=oq:=by exact gZ1)
  (hk:k+nk=k':=by first | (simp only [Nat.add_zero,Nat.reduceAdd] <;> rfl) | rfl)
  (h:RW P r ⟨(d,v)::env,oq,k'⟩ fun st' ts=>K st' ((dA op,F.map (·.1)++F'.map (·.1))::ts)):RW P (⟨some d,op,g⟩::r) ⟨env,hp,k⟩ K:=RW.Ek hc hg (he φ) bz (hh φ) hk h
theorem RW.dD {op:SO}{g:Option (Nat×Bool)}{env:List (Nat×SV)}{hp oq F F':Hp}{k k':Nat}{v:SV}{nk:Nat}{ob:Prop}{Φ:Prop}(φ:Φ)
  (hc:gF op=false:=by rfl)
  (hg:g=none∨∃ t w,g=some (t,w)∧env.lookup t=some (.d (.bool w)):=by first | exact .inl rfl | exact .inr ⟨_,_,rfl,rfl⟩)
  (he:Φ→ff P ⟨env,hp,k⟩ op []=some (⟨v,F,F',nk,ob⟩,[]):=by exact gZ0)
  (bz:ob:=by exact gZ2)
  (hh:Φ→bS (dA op) hp F F'=oq:=by exact gZ1)
  (hk:k+nk=k':=by first | (simp only [Nat.add_zero,Nat.reduceAdd] <;> rfl) | rfl)
  (h:RW P r ⟨env,oq,k'⟩ fun st' ts=>K st' ((dA op,F.map (·.1)++F'.map (·.1))::ts)):RW P (⟨none,op,g⟩::r) ⟨env,hp,k⟩ K:=RW.Ek hc hg (he φ) bz (hh φ) hk h
theorem RW.lit {d:Nat}{e sz len:Nat}{z:List SV}{parts:List (Nat×Nat×X)}{g:Option (Nat×Bool)}{env:List (Nat×SV)}{hp oq F F':Hp}{k k':Nat}{v:SV}{nk:Nat}{ob:Prop}{Φ:Prop}(φ:Φ)
  (hg:g=none∨∃ t w,g=some (t,w)∧env.lookup t=some (.d (.bool w)):=by first | exact .inl rfl | exact .inr ⟨_,_,rfl,rfl⟩)
  (he:Φ→ff P ⟨env,hp,k⟩ (.lB e sz len z parts) [.own]=some (⟨v,F,F',nk,ob⟩,[]):=by exact gZ0)
  (bz:ob:=by exact gZ2)
  (hh:Φ→bS false hp F F'=oq:=by exact gZ1)
  (hk:k+nk=k':=by first | (simp only [Nat.add_zero,Nat.reduceAdd] <;> rfl) | rfl)
  (h:RW P r ⟨(d,v)::env,oq,k'⟩ fun st' ts=>K st' ((false,F.map (·.1)++F'.map (·.1))::ts)):RW P (⟨some d,.lB e sz len z parts,g⟩::r) ⟨env,hp,k⟩ K:=RW.HD hg (he φ) bz (hh φ) hk h
theorem RW.skip {d:Nat}{op:SO}{t:Nat}{w:Bool}{env:List (Nat×SV)}{hp:Hp}{k:Nat}{s:SV}
  (hg:env.lookup t=some s:=by rfl) (hs:mq w s=true:=by rfl)
  (h:RW P r ⟨(d,.dm [])::env,hp,k⟩ fun st' ts=>K st' ((dA op,[])::ts)):RW P (⟨some d,op,some (t,w)⟩::r) ⟨env,hp,k⟩ K:=RW.El hg hs h
theorem RW.aY {op:SO}{t:Nat}{w:Bool}{env:List (Nat×SV)}{hp:Hp}{k:Nat}{s:SV}
  (hg:env.lookup t=some s:=by rfl) (hs:mq w s=true:=by rfl)
  (h:RW P r ⟨env,hp,k⟩ fun st' ts=>K st' ((dA op,[])::ts)):RW P (⟨none,op,some (t,w)⟩::r) ⟨env,hp,k⟩ K:=RW.Cj hg hs h
def ai (P:Program)(fid:FuncId)(as':List SV)(d:Option Nat)(r:List SI)(env:List (Nat×SV))(hp:Hp)(k:Nat)(K:St→List (Bool×List Nat)→Prop):Prop:=
 ∃ F F' v nk,aF P fid as' F k nk v F'∧HSub F hp∧RW P r ⟨qZ d v env,bS false hp F F',k+nk⟩ fun st' ts=>K st' ((false,F.map (·.1)++F'.map (·.1))::ts)
theorem RW.aM {d:Option Nat}{f:X}{args:List X}{g:Option (Nat×Bool)}{fid:FuncId}{as first cap as':List SV}{env:List (Nat×SV)}{hp:Hp}{k:Nat}
  (hf:ev (fun t=>env.lookup t) f=some (.fn (.func fid) first cap):=by (simp only [ev,List.lookup,Nat.reduceBEq] <;> rfl))
  (ha:pY (fun t=>env.lookup t) args=some as:=by (simp only [ev,pY,List.lookup,Nat.reduceBEq] <;> rfl))
  (has:first++as++cap=as':=by first | (simp only [List.nil_append,List.cons_append,List.append_nil] <;> rfl) | rfl)
  (hg:g=none∨∃ t w,g=some (t,w)∧env.lookup t=some (.d (.bool w)):=by first | exact .inl rfl | exact .inr ⟨_,_,rfl,rfl⟩)
  (h:ai P fid as' d r env hp k K):RW P (⟨d,.call f args,g⟩::r) ⟨env,hp,k⟩ K:=by
 obtain ⟨F,F',v,nk,hc,hs,h⟩:=h;exact RW.Em hf ha has hc hs hg h
theorem ai.mk {fid:FuncId}{as':List SV}{F F' oq:Hp}{v v':SV}{nk k':Nat}{d:Nat}{env:List (Nat×SV)}{hp:Hp}{k:Nat}{Φ:Prop}(φ:Φ)
  (hs:HSub F hp:=by first | exact HSub.nil _ | (repeat (first | exact HSub.nil _ | refine HSub.cons (by rfl) ?_)))
  (hc:aF P fid as' F k nk v F')
  (hv:Φ→v=v':=by intro φ;first | ((simp only [φ]) <;> with_reducible rfl) | with_reducible rfl)
  (hh:Φ→bS false hp F F'=oq:=by exact gZ1)
  (hk:k+nk=k':=by first | (simp only [Nat.add_zero,Nat.reduceAdd] <;> rfl) | rfl)
  (h:RW P r ⟨(d,v')::env,oq,k'⟩ fun st' ts=>K st' ((false,F.map (·.1)++F'.map (·.1))::ts)):ai P fid as' (some d) r env hp k K:=⟨F,F',v,nk,hc,hs,by rw [hv φ,hh φ,hk];exact h⟩
end
section
variable {N k0:Nat} {r:List SI} {K:St→Prop}
theorem bu.op {d:Nat}{op:SO}{g:Option (Nat×Bool)}{env:List (Nat×SV)}{hp oq F F':Hp}{k k':Nat}{v:SV}{nk:Nat}{ob:Prop}{Φ:Prop}(φ:Φ)
  (hg:g=none∨∃ t w,g=some (t,w)∧env.lookup t=some (.d (.bool w)):=by first | exact .inl rfl | exact .inr ⟨_,_,rfl,rfl⟩)
  (he:Φ→ff P ⟨env,hp,k⟩ op []=some (⟨v,F,F',nk,ob⟩,[]):=by exact gZ0)
  (bz:ob:=by exact gZ2)
  (hh:Φ→bS (dA op) hp F F'=oq:=by exact gZ1)
  (hk:k+nk=k':=by first | (simp only [Nat.add_zero,Nat.reduceAdd] <;> rfl) | rfl)
  (h:bu P N k0 r ⟨(d,v)::env,oq,k'⟩ K):bu P N k0 (⟨some d,op,g⟩::r) ⟨env,hp,k⟩ K:=by
 refine bu.one (fu hg (he φ)) bz ?_;rw [g_,hh φ,hk];exact h
theorem bu.dD {op:SO}{g:Option (Nat×Bool)}{env:List (Nat×SV)}{hp oq F F':Hp}{k k':Nat}{v:SV}{nk:Nat}{ob:Prop}{Φ:Prop}(φ:Φ)
  (hg:g=none∨∃ t w,g=some (t,w)∧env.lookup t=some (.d (.bool w)):=by first | exact .inl rfl | exact .inr ⟨_,_,rfl,rfl⟩)
  (he:Φ→ff P ⟨env,hp,k⟩ op []=some (⟨v,F,F',nk,ob⟩,[]):=by exact gZ0)
  (bz:ob:=by exact gZ2)
  (hh:Φ→bS (dA op) hp F F'=oq:=by exact gZ1)
  (hk:k+nk=k':=by first | (simp only [Nat.add_zero,Nat.reduceAdd] <;> rfl) | rfl)
  (h:bu P N k0 r ⟨env,oq,k'⟩ K):bu P N k0 (⟨none,op,g⟩::r) ⟨env,hp,k⟩ K:=by
 refine bu.one (fu hg (he φ)) bz ?_;rw [g_,hh φ,hk];exact h
theorem bu.skip {d:Nat}{op:SO}{t:Nat}{w:Bool}{env:List (Nat×SV)}{hp:Hp}{k:Nat}{s:SV}
  (hg:env.lookup t=some s:=by rfl) (hs:mq w s=true:=by rfl)
  (h:bu P N k0 r ⟨(d,.dm [])::env,hp,k⟩ K):bu P N k0 (⟨some d,op,some (t,w)⟩::r) ⟨env,hp,k⟩ K:=by
 have hh:bS (dA op) hp [] []=hp:=by unfold bS;split <;> rfl
 refine bu.one (e:=⟨.dm [],[],[],0,True⟩) (dL:=[]) (c2:=[]) ?_ trivial ?_
 ·unfold mq at hs
  split at hs
  ·simp only [fU,hg];rw [if_neg (by simpa using hs)]
  ·simp only [fU,hg]
  ·cases hs
 ·rw [g_]
  show bu P N k0 r ⟨(d,.dm [])::env,bS (dA op) hp [] [],k+0⟩ _;rw [hh];exact h
theorem bu.aM {d:Nat}{f:X}{args:List X}{fid:FuncId}{as first cap as':List SV}{env:List (Nat×SV)}{hp F:Hp}{k nk:Nat}{Q:SV→Hp→Prop}
  (hsc:SC P fid as' F k nk Q) (hs:HSub F hp)
  (hf:ev (fun t=>env.lookup t) f=some (.fn (.func fid) first cap):=by (simp only [ev,List.lookup,Nat.reduceBEq] <;> rfl))
  (ha:pY (fun t=>env.lookup t) args=some as:=by (simp only [ev,pY,List.lookup,Nat.reduceBEq] <;> rfl))
  (has:first++as++cap=as':=by first | (simp only [List.nil_append,List.cons_append,List.append_nil] <;> rfl) | rfl)
  (h:∀ v F',Q v F'→bu P N k0 r ⟨(d,v)::env,bS false hp F F',k+nk⟩ K):bu P N k0 (⟨some d,.call f args,none⟩::r) ⟨env,hp,k⟩ K:=by
 refine bu.many (st:=⟨env,hp,k⟩) rfl (fun o hc=>Bt hc hf ha (by rw [has];exact hsc) hs) rfl fun v F' hq=> ?_
 rw [g_];exact h v F' hq
theorem bu.uE {d:Nat}{f:X}{args:List X}{fid:FuncId}{as first cap as':List SV}{env:List (Nat×SV)}{hp oq F F':Hp}{k k' nk:Nat}{v v':SV}{Φ:Prop}(φ:Φ)
  (hsc:aF P fid as' F k nk v F')
  (hs:HSub F hp:=by first | exact HSub.nil _ | (repeat (first | exact HSub.nil _ | refine HSub.cons (by rfl) ?_)))
  (hf:ev (fun t=>env.lookup t) f=some (.fn (.func fid) first cap):=by (simp only [ev,List.lookup,Nat.reduceBEq] <;> rfl))
  (ha:pY (fun t=>env.lookup t) args=some as:=by (simp only [ev,pY,List.lookup,Nat.reduceBEq] <;> rfl))
  (has:first++as++cap=as':=by first | (simp only [List.nil_append,List.cons_append,List.append_nil] <;> rfl) | rfl)
  (hv:Φ→v=v':=by intro φ;first | ((simp only [φ]) <;> with_reducible rfl) | with_reducible rfl)
  (hh:Φ→bS false hp F F'=oq:=by exact gZ1)
  (hk:k+nk=k':=by first | (simp only [Nat.add_zero,Nat.reduceAdd] <;> rfl) | rfl)
  (h:bu P N k0 r ⟨(d,v')::env,oq,k'⟩ K):bu P N k0 (⟨some d,.call f args,none⟩::r) ⟨env,hp,k⟩ K:=by
 refine bu.many (st:=⟨env,hp,k⟩) rfl (fun o hc=>Bt hc hf ha (by rw [has];exact hsc) hs) rfl fun w G hq=> ?_
 obtain ⟨rfl,rfl⟩:=hq;rw [g_];obtain rfl:=hv φ;obtain rfl:=hh φ;obtain rfl:=hk;exact h
end
theorem SB.mono {f:FuncId}{args:List SV}{F:Hp}{k nk:Nat}{Q Q':SV→Hp→Prop}(h:SB P f args F k nk Q)(hq:∀ r F,Q r F→Q' r F):SB P f args F k nk Q':=
 ⟨h.1,h.2.1,h.2.2.1,fun μ M w vals h1 h2=>(h.2.2.2 μ M w vals h1 h2).mono fun _ _ ⟨r,F',a_,M',u,e,hQ,x⟩=>⟨r,F',a_,M',u,e,hq r F' hQ,x⟩⟩
theorem SB.args {f:FuncId}{args args':List SV}{F:Hp}{k nk:Nat}{Q:SV→Hp→Prop}(h:SB P f args F k nk Q)(hok:SV.ax (fun n=>decide (n<k)) args'=true)
  (ha:∀ (p:Nat→Prop) (μ:Nat→Nm) (M:Mem) (vs:List Value),aU p μ M args' vs→aU p μ M args vs):SB P f args' F k nk Q:=
 ⟨h.1,hok,h.2.2.1,fun μ M w vals h1 h2=>h.2.2.2 μ M w vals (ha _ μ M _ h1) h2⟩
theorem End.mk {k nk:Nat}{qU:List RV}{Q:SV→Hp→Prop}{st:St}{ss:List SV}{ob:Prop}(F':Hp)
  (h1:Cg st qU=some (ss,ob):=by rfl)
  (h2:ob:=by simp [yh])
  (h3:HSub F' st.hp:=by first | exact HSub.nil _ | (repeat (first | exact HSub.nil _ | refine HSub.cons (by rfl) ?_)))
  (h4:Q (eH ss) F')
  (h5:(eH ss).ok (fun n=>decide (n<k+nk))=true:=by first | rfl | simp [eH,SV.ok,SV.ax,aB.ak,SV.br])
  (h6:F'.ok (fun n=>decide (n<k+nk))=true:=by first | rfl | simp [Hp.ok,Ob.ok,SV.ok,SV.ax,aB.ak,SV.br])
  (h7:k+nk≤st.k:=by simp):Go.Sl.Fin k nk qU Q st:=⟨ss,ob,F',h1,h2,h3,h4,h5,h6,h7⟩
theorem SW.aj {N k0:Nat}{st:St}{Q:Exit→St→Prop}{x:X}{y z:bP}(hx:ev (fun t=>st.env.lookup t) x=some (.d (.bool true)))(h1:SW P N k0 y st Q):SW P N k0 (.cond x y z) st Q:=
 SW.cond hx (fun _=>h1) (fun h=>by cases h)
theorem SW.ah {N k0:Nat}{st:St}{Q:Exit→St→Prop}{x:X}{y z:bP}(hx:ev (fun t=>st.env.lookup t) x=some (.d (.bool false)))(h1:SW P N k0 z st Q):SW P N k0 (.cond x y z) st Q:=
 SW.cond hx (fun h=>by cases h) (fun _=>h1)
theorem SW.gY {N k0:Nat}{st:St}{Q:Exit→St→Prop}{α:Type}{x:bP}(I:α→St)(m:α→Nat)(i0:α)(Kr:Nat→Nat){Φ:Prop}(φ:Φ)
  (h0:Φ→aK k0 st (I i0) Kr:=by exact gZ3)
  (round:∀ i,SW P N k0 x (I i) fun e st'=>match e with | .normal=>∃ j ρ,m j<m i∧aK k0 st' (I j) ρ | e=>Q e st'):SW P N k0 (.loop x) st Q:=SW.loop I m i0 Kr (h0 φ) round
theorem aK.mk {k0:Nat}{st st1:St}{ρ:Nat→Nat}{Φ:Prop}(φ:Φ)(h0:Φ→aK k0 st st1 ρ:=by exact gZ3):aK k0 st st1 ρ:=h0 φ
theorem Next.mk {k0:Nat}{st':St}{α:Type}{I:α→St}{m:α→Nat}{i:α}(j:α)(ρ:Nat→Nat){Φ:Prop}(φ:Φ)
  (hm:m j<m i:=by first | omega | (simp;done) | (simp;omega))
  (h0:Φ→aK k0 st' (I j) ρ:=by exact gZ3):∃ j ρ,m j<m i∧aK k0 st' (I j) ρ:=⟨j,ρ,hm,h0 φ⟩
end
end Go.Sl
