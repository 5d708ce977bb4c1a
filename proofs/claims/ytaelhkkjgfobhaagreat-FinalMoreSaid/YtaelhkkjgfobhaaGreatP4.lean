/-
 Small lemmas for walks.
-/
import Derived.Test.YtaelhkkjgfobhaaGreatP3
import Derived.ProofKit
import Derived.OpenShut
import Derived.Carry
import Derived.ShutString
import Derived.Maps.RangeRun
set_option linter.unusedSimpArgs false
set_option linter.unusedSectionVars false
set_option linter.unusedVariables false
namespace Go.Sl
open Go.RowKit
abbrev u32 (n:Nat):SV:= .d (.int .u32 (n:Int))
abbrev u64 (n:Nat):SV:= .d (.int .u64 (n:Int))
abbrev u8 (n:Nat):SV:= .d (.int .u8 (n:Int))
abbrev i64 (n:Int):SV:= .d (.int .i64 n)
abbrev bl (b:Bool):SV:= .d (.bool b)
mutual
theorem SV.mW:∀ s:SV,s.aB id=s
 | .d _ | .ptr _ _ | .gs _ _ | .bs _ _ _ | .vp _ _ | .mp _ | .it _ | .yl _ | .any=>rfl
 | .fn f a c=>by simp only [SV.aB,SV.bK a,SV.bK c]
 | .agg cs=>by simp only [SV.aB,SV.bK cs]
 | .dU cs=>by simp only [SV.aB,SV.bK cs]
theorem SV.bK:∀ s:List SV,SV.aK id s=s
 | []=>rfl
 | c::cs=>by simp only [SV.aK,SV.mW c,SV.bK cs]
end
theorem Ob.mW (o:Ob):o.aB id=o:=by
 cases o <;> simp [Ob.aB,SV.bK,SV.mW]
section
variable {P:Program} {N k0:Nat} {st:St} {Q:Exit→St→Prop}
end
theorem pY {α β:Type}(f:α→List β)(sz:Nat)(hf:∀ x,(f x).length=sz):∀ (l:List α) (i j:Nat) (x:α),l[i]? =some x→j<sz→(l.flatMap f)[i*sz+j]? =(f x)[j]?
 | [],i,j,x,h,_=>by simp at h
 | y::l,0,j,x,h,hj=>by
  simp at h;subst h;rw [List.flatMap_cons,List.getElem?_append_left (by rw [hf];omega)]
  simp
 | y::l,i+1,j,x,h,hj=>by
  simp at h;rw [List.flatMap_cons,List.getElem?_append_right (by rw [hf,Nat.add_mul];omega),hf]
  rw [show (i+1)*sz+j - sz=i*sz+j by rw [Nat.add_mul];omega]
  exact pY f sz hf l i j x h hj
theorem nE {α β:Type}(f:α→List β)(sz:Nat)(hf:∀ x,(f x).length=sz):∀ (l:List α) (i:Nat) (x:α),l[i]? =some x→((l.flatMap f).drop (i*sz)).take sz=f x
 | [],i,x,h=>by simp at h
 | y::l,0,x,h=>by
  simp at h;subst h;simp [List.flatMap_cons,List.take_left' (hf y)]
 | y::l,i+1,x,h=>by
  simp at h;rw [List.flatMap_cons,Nat.add_mul,Nat.one_mul,Nat.add_comm,← List.drop_drop,List.drop_left' (hf y)];exact nE f sz hf l i x h
theorem dP {α β:Type}(f:α→List β)(sz:Nat)(hf:∀ x,(f x).length=sz)(l:List α):(l.flatMap f).length=l.length*sz:=by
 induction l with
 | nil=>simp
 | cons x l ih=>simp [List.flatMap_cons,hf,ih,Nat.add_mul,Nat.add_comm]
theorem CK (n:Int)(h: -9223372036854775808≤n)(h':n<9223372036854775808):IntKind.i64.wrap n=n:=by
 simp [IntKind.wrap,IntKind.bits,IntKind.signed];omega
theorem HSub.nil (h:Hp):HSub [] h:=fun n ob hn=>by simp [bC] at hn
def Pure (P:Program)(f:FuncId)(args:List SV)(v:SV):Prop:=SB P f args [] 0 0 fun r F=>r=v∧F=[]
theorem SV.uD {ρ:Nat→Nat}(s:SV):s.ok (fun n=>decide (n<0))=true→s.aB ρ=s:=
 SV.rec (motive_1:=fun s=>s.ok (fun n=>decide (n<0))=true→s.aB ρ=s) (motive_2:=fun l=>SV.aA (fun n=>decide (n<0)) l=true→SV.aK ρ l=l)
  (fun _ _=>rfl) (fun _ _ h=>by simp [SV.ok] at h) (fun _ _ h=>by simp [SV.ok] at h) (fun _ _ _ h=>by simp [SV.ok] at h) (fun _ _ _=>rfl) (fun _ h=>by simp [SV.ok] at h) (fun _ h=>by simp [SV.ok] at h) (fun _ h=>by simp [SV.ok] at h)
  (fun f a c h1 h2 h=>by simp only [SV.ok,Bool.and_eq_true] at h;simp only [SV.aB,h1 h.1,h2 h.2])
  (fun cs h1 h=>by simp only [SV.ok] at h;simp only [SV.aB,h1 h]) (fun cs h1 h=>by simp only [SV.ok] at h;simp only [SV.aB,h1 h]) (fun _=>rfl)
  (fun _=>rfl) (fun c cs h1 h2 h=>by simp only [SV.aA,Bool.and_eq_true] at h;simp only [SV.aK,h1 h.1,h2 h.2]) s
theorem Pure.sc {P:Program}{f:FuncId}{args:List SV}{v:SV}(h:Pure P f args v)(hv:v.ok (fun n=>decide (n<0))=true)(k:Nat):aF P f args [] k 0 v []:=by
 have:=SB.at h id k (fun n m hn=>absurd hn (Nat.not_lt_zero n)) (fun n hn=>absurd hn (Nat.not_lt_zero n)) (fun i hi=>absurd hi (Nat.not_lt_zero i))
 rw [SV.bK] at this;refine this.mono ?_;rintro r F' ⟨r0,F0,⟨rfl,rfl⟩,rfl,rfl⟩;exact ⟨SV.uD _ hv,rfl⟩
structure av where
 (a0 a1 a2 a3 a4 a5 a6 a7:Nat)
 deriving DecidableEq
def av.get (v:av):Nat→Nat
 | 0=>v.a0 | 1=>v.a1 | 2=>v.a2 | 3=>v.a3 | 4=>v.a4 | 5=>v.a5 | 6=>v.a6 | 7=>v.a7 | _=>0
def av.of (f:Nat→Nat):av:=⟨f 0,f 1,f 2,f 3,f 4,f 5,f 6,f 7⟩
theorem av.qI (f:Nat→Nat){r:Nat}(h:r<8):(av.of f).get r=f r:=by
 match r,h with
 | 0,_ | 1,_ | 2,_ | 3,_ | 4,_ | 5,_ | 6,_ | 7,_=>rfl
theorem av.ext' {a b:av}(h:∀ r,r<8→a.get r=b.get r):a=b:=by
 obtain ⟨a0,a1,a2,a3,a4,a5,a6,a7⟩:=a;obtain ⟨b0,b1,b2,b3,b4,b5,b6,b7⟩:=b;have h0:a0=b0:=h 0 (by omega)
 have h1:a1=b1:=h 1 (by omega)
 have h2:a2=b2:=h 2 (by omega)
 have h3:a3=b3:=h 3 (by omega)
 have h4:a4=b4:=h 4 (by omega)
 have h5:a5=b5:=h 5 (by omega)
 have h6:a6=b6:=h 6 (by omega)
 have h7:a7=b7:=h 7 (by omega)
 subst h0 h1 h2 h3 h4 h5 h6 h7;rfl
def av.ds (v:av):List DV:=[.int .u32 v.a0,.int .u32 v.a1,.int .u32 v.a2,.int .u32 v.a3,.int .u32 v.a4,.int .u32 v.a5,.int .u32 v.a6,.int .u32 v.a7]
def av.cells (v:av):List SV:=[u32 v.a0,u32 v.a1,u32 v.a2,u32 v.a3,u32 v.a4,u32 v.a5,u32 v.a6,u32 v.a7]
theorem av.oZ (v:av):v.ds.map .d=v.cells:=rfl
theorem av.jP (v:av):v.ds.length=8:=rfl
theorem av.iF (v:av){r:Nat}(h:r<8):v.cells[r]? =some (u32 (v.get r)):=by
 match r,h with
 | 0,_ | 1,_ | 2,_ | 3,_ | 4,_ | 5,_ | 6,_ | 7,_=>rfl
theorem av.II (v:av){r:Nat}(h:r<8):v.ds[r]? =some (.int .u32 (v.get r)):=by
 match r,h with
 | 0,_ | 1,_ | 2,_ | 3,_ | 4,_ | 5,_ | 6,_ | 7,_=>rfl
theorem av.cells_one (v:av):v.cells.all SV.dG=true:=rfl
theorem av.kX (v:av):v.cells.length=8:=rfl
theorem av.an (v:av)(q:Nat→Bool):SV.aA q v.cells=true:=rfl
def av.set (v:av)(i x:Nat):av:=av.of fun r=>if r=i then x else v.get r
theorem av.uE (v:av){i:Nat}(h:i<8)(x:Nat):v.cells.set i (u32 x)=(v.set i x).cells:=by
 match i,h with
 | 0,_ | 1,_ | 2,_ | 3,_ | 4,_ | 5,_ | 6,_ | 7,_=>rfl
def av.wf (v:av):Prop:=∀ r,r<8→v.get r<4294967296
theorem av.qv (a b:av):iE (rep 8 [true]) a.cells b.cells=some (decide (a=b)):=by
 have h:iE (rep 8 [true]) a.cells b.cells=some (((a.a0:Int) == b.a0) && (((a.a1:Int) == b.a1) && (((a.a2:Int) == b.a2) && (((a.a3:Int) == b.a3) && (((a.a4:Int) == b.a4) && (((a.a5:Int) == b.a5) && (((a.a6:Int) == b.a6) && (((a.a7:Int) == b.a7) && true)))))))):=by
  simp [iE,Fq,rep,av.cells]
 rw [h]
 congr 1
 obtain ⟨a0,a1,a2,a3,a4,a5,a6,a7⟩:=a;obtain ⟨b0,b1,b2,b3,b4,b5,b6,b7⟩:=b;rw [Bool.eq_iff_iff];simp;omega
end Go.Sl
namespace Go.Sl
open Go.RowKit Go.ChangeShapes Go.WideShapes
def xl (P:Program):Nat→List Field→Option Nat
 | o,[]=>some o
 | o,f::fs=>if f.offset=o then xl P (o+P.cellsOf f.type) fs else none
def Fit (P:Program):Nat→TypeId→List DV→Prop
 | 0,_,_=>False
 | d+1,t,ds=>match P.underlying t with
  | some .bool=>∃ b,ds=[.bool b]
  | some (.int k)=>∃ n,ds=[.int k n]∧(Lit.int k n).wf=true
  | some (.struct fs)=>ds.length=P.cellsOf t∧∀ f∈fs.toList,Fit P d f.type ((ds.drop f.offset).take (P.cellsOf f.type))
  | some (.array n e)=>ds.length=P.cellsOf t∧∀ i,i<n→Fit P d e ((ds.drop (i*P.cellsOf e)).take (P.cellsOf e))
  | some (.slice e)=>ds=[.aP]∨∃ n cs,ds=[.sl n cs]∧n≤9223372036854775807∧cs.length=n*P.cellsOf e∧∀ i,i<n→Fit P d e ((cs.drop (i*P.cellsOf e)).take (P.cellsOf e))
  | _=>False
def iA (P:Program):Nat→TypeId→Bool
 | 0,_=>false
 | d+1,t=>match P.underlying t with
  | some .bool=>P.cellsOf t == 1
  | some (.int _)=>P.cellsOf t == 1
  | some (.struct fs)=>(xl P 0 fs.toList == some (P.cellsOf t)) && fs.toList.all fun f=>iA P d f.type
  | some (.array n e)=>(P.cellsOf t == n*P.cellsOf e) && iA P d e
  | some (.slice e)=>(P.cellsOf t == 1) && iA P d e && decide (0<P.cellsOf e) && decide (0<P.bytesOf e)
  | _=>false
def jQ (w:World):Mem:=fun b o=>w.cell? ⟨b,o,none⟩
def Cells (M:Mem):List Value→List DV→Prop
 | [],[]=>True
 | v::vs,d::ds=>bQ M d v∧Cells M vs ds
 | _,_=>False
theorem Cells.length {M:Mem}:∀ {vs:List Value} {ds:List DV},Cells M vs ds→vs.length=ds.length
 | [],[],_=>rfl
 | v::vs,d::ds,h=>by simp only [Cells] at h;simp [h.2.length]
 | [],d::ds,h=>by simp [Cells] at h
 | v::vs,[],h=>by simp [Cells] at h
theorem Cells.append {M:Mem}:∀ {vs us:List Value} {ds es:List DV},Cells M vs ds→Cells M us es→Cells M (vs++us) (ds++es)
 | [],us,[],es,_,h=>by simpa using h
 | v::vs,us,d::ds,es,h,k=>by simp only [Cells] at h;simp only [List.cons_append,Cells];exact ⟨h.1,h.2.append k⟩
 | [],us,d::ds,es,h,_=>by simp [Cells] at h
 | v::vs,us,[],es,h,_=>by simp [Cells] at h
theorem Cells.Mz {M:Mem}{p:Nat→Prop}{μ:Nat→Nm}:∀ {vs:List Value} {ds:List DV},Cells M vs ds→aN p μ M (ds.map .d) vs
 | [],[],_=>aN.aJ.2 rfl
 | v::vs,d::ds,h=>by simp only [Cells] at h;exact aN.aC.2 ⟨v,vs,rfl,Rp.cH.2 h.1,h.2.Mz⟩
 | [],d::ds,h=>by simp [Cells] at h
 | v::vs,[],h=>by simp [Cells] at h
theorem Cells.Kl {w:World}{b:Nat}:∀ {vs:List Value} {ds:List DV} (q:Nat),Cells (jQ w) vs ds→(∀ (i:Nat) (v:Value),vs[i]? =some v→w.cell? ⟨b,q+i,none⟩=some v)→c_ (jQ w) b q ds
 | [],[],q,_,_=>by simp [c_]
 | v::vs,d::ds,q,h,hc=>by
  simp only [Cells] at h;simp only [c_];refine ⟨⟨v,by simpa [jQ] using hc 0 v rfl,h.1⟩,Cells.Kl (q+1) h.2 fun i u hi=> ?_⟩
  have:=hc (i+1) u (by simpa using hi)
  rwa [show q+(i+1)=q+1+i by omega] at this
 | [],d::ds,q,h,_=>by simp [Cells] at h
 | v::vs,[],q,h,_=>by simp [Cells] at h
section
variable {H:Type} {enc:TypeId×Value→H} {P:Program} {w:World} {sp:Nat→Bool} {held:Bool}
theorem uF:∀ {d:Nat} {t:TypeId} {ds:List DV},iA P d t=true→Fit P d t ds→ds.length=P.cellsOf t
 | 0,t,ds,h,_=>by simp [iA] at h
 | d +1,t,ds,h,hf=>by
  simp only [iA] at h;simp only [Fit] at hf
  split at h
  ·rename_i hu;rw [hu] at hf;obtain ⟨b,rfl⟩:=hf;simp at h;simp [h]
  ·rename_i hu;rw [hu] at hf;obtain ⟨b,rfl,_⟩:=hf;simp at h;simp [h]
  ·rename_i hu;rw [hu] at hf;exact hf.1
  ·rename_i hu;rw [hu] at hf;exact hf.1
  ·rename_i hu;rw [hu] at hf
   simp at h;rcases hf with rfl | ⟨n,cs,rfl,_⟩ <;> simp [h.1.1.1]
  ·cases h
theorem z7:∀ {fs:List Field} {o n:Nat},xl P o fs=some n→o≤n
 | [],o,n,h=>by simp [xl] at h;omega
 | f::fs,o,n,h=>by
  simp only [xl] at h
  split at h
  ·have:=z7 h;omega
  ·cases h
mutual
def DV.small (B:Nat):DV→Prop
 | .sl n cs=>n≤B∧eu B cs
 | _=>True
def eu (B:Nat):List DV→Prop
 | []=>True
 | c::cs=>c.small B∧eu B cs
end
theorem eu.append {B:Nat}:∀ {cs ds:List DV},eu B cs→eu B ds→eu B (cs++ds)
 | [],_,_,h=>h
 | _::_,_,h,k=>by
  simp only [List.cons_append,eu] at h ⊢;exact ⟨h.1,h.2.append k⟩
theorem sP {B:Nat}:∀ {cs:List DV},eu B cs↔∀ c,c∈cs→c.small B
 | []=>by simp [eu]
 | c::cs=>by simp [eu,sP (cs:=cs)]
def yU (P:Program)(B:Nat)(t:TypeId)(y:DataW H):Prop:=∀ n,n∈y.weights P t→n≤B
def Sm (P:Program)(t:TypeId)(ds:List DV)(y:DataW H):Prop:=∀ (B:Nat),yU P B t y→eu B ds
theorem jR {P:Program}{e:TypeId}{n:Nat}:∀ {xs:List (DataW H)} {x:DataW H},x∈xs→n∈x.weights P e→n∈DataW.weightsAll P e xs
 | [],_,h,_=>by cases h
 | y::ys,x,h,hn=>by
  simp only [DataW.weightsAll,List.mem_append];rcases List.mem_cons.1 h with rfl | h
  ·exact .inl hn
  ·exact .inr (jR h hn)
theorem mG {P:Program}{n:Nat}:∀ {ts:List TypeId} {xs:List (DataW H)} {j:Nat} {t:TypeId} {x:DataW H},ts[j]? =some t→xs[j]? =some x→n∈x.weights P t→n∈DataW.weightsEach P ts xs
 | t0::ts,x0::xs,0,t,x,ht,hx,hn=>by
  simp at ht hx;subst ht;subst hx;simp only [DataW.weightsEach,List.mem_append];exact .inl hn
 | t0::ts,x0::xs,j+1,t,x,ht,hx,hn=>by
  simp at ht hx;simp only [DataW.weightsEach,List.mem_append];exact .inr (mG ht hx hn)
 | [],_,_,_,_,ht,_,_=>by simp at ht
 | _::_,[],_,_,_,_,hx,_=>by simp at hx
theorem yU.slice {P:Program}{B:Nat}{t e:TypeId}{es sp:List (DataW H)}(hu:P.underlying t=some (.slice e))(h:yU P B t (.slice es sp)):(0<P.bytesOf e→es.length≤B)∧∀ x,x∈es→yU P B e x:=by
 constructor
 ·intro hp
  have:=h ((es.length+sp.length)*P.bytesOf e) (by simp [DataW.weights,hu])
  have h2:es.length*1≤(es.length+sp.length)*P.bytesOf e:=Nat.mul_le_mul (by omega) hp
  omega
 ·intro x hx n hn
  exact h n (by simp only [DataW.weights,hu,List.mem_cons,List.mem_append];exact .inr (.inl (jR hx hn)))
theorem yU.struct {P:Program}{B:Nat}{t:TypeId}{fs:Array Field}{xs:List (DataW H)}(hu:P.underlying t=some (.struct fs))(h:yU P B t (.agg xs)){i:Nat}{f:Field}{x:DataW H}(hf:fs.toList[i]? =some f)(hx:xs[i]? =some x):yU P B f.type x:=fun n hn=>
 h n (by simp only [DataW.weights,hu];exact mG (j:=i) (by rw [List.getElem?_map,hf];rfl) hx hn)
theorem yU.array {P:Program}{B:Nat}{t e:TypeId}{k:Nat}{xs:List (DataW H)}(hu:P.underlying t=some (.array k e))(h:yU P B t (.agg xs)){x:DataW H}(hx:x∈xs):yU P B e x:=fun n hn=>
 h n (by simp only [DataW.weights,hu];exact jR hx hn)
theorem sQ (d fuel:Nat)(cs:List Value)(Q:Field→DataW H→Prop)(part:∀ f:Field,iA P d f.type=true→∀ x,DataW.trod enc P w 0 sp held fuel f.type ((cs.drop f.offset).take (P.cellsOf f.type))=some x→
   ∃ ds,Fit P d f.type ds∧Cells (jQ w) ((cs.drop f.offset).take (P.cellsOf f.type)) ds∧Sm P f.type ds x.1):
  ∀ (fs:List Field) (o n:Nat),xl P o fs=some n→n≤cs.length→(∀ f∈fs,iA P d f.type=true∧∃ x,DataW.trod enc P w 0 sp held fuel f.type ((cs.drop f.offset).take (P.cellsOf f.type))=some x∧Q f x.1)→
   ∃ ds,ds.length=n - o∧Cells (jQ w) ((cs.drop o).take (n - o)) ds∧(∀ f∈fs,o≤f.offset∧Fit P d f.type ((ds.drop (f.offset - o)).take (P.cellsOf f.type)))∧∀ (B:Nat),(∀ f x,Q f x→yU P B f.type x)→eu B ds
 | [],o,n,h,_,_=>by
  simp [xl] at h;subst h;exact ⟨[],by simp,by simp [Cells],by simp,fun _ _=>trivial⟩
 | f ::fs,o,n,h,hn,hf=>by
  simp only [xl] at h
  split at h <;> first | (cases h;done) | skip
  rename_i ho;have hle:=z7 h;obtain ⟨ds2,l2,c2,f2,s2⟩:=sQ d fuel cs Q part fs _ n h hn fun g hg=>hf g (by simp [hg])
  obtain ⟨x1,hx1,hq1⟩:=(hf f (by simp)).2
  obtain ⟨ds1,f1,c1,s1⟩:=part f (hf f (by simp)).1 x1 hx1
  have l1:=uF (hf f (by simp)).1 f1
  refine ⟨ds1++ds2,by simp [l1,l2];omega,?_,?_,fun B hq=>(s1 B (hq _ _ hq1)).append (s2 B hq)⟩
  ·have:=c1.append c2
   rw [ho] at this;have e:(cs.drop o).take (n - o)=(cs.drop o).take (P.cellsOf f.type)++(cs.drop (o+P.cellsOf f.type)).take (n - (o+P.cellsOf f.type)):=by
    rw [← List.drop_drop,show n - o=P.cellsOf f.type+(n - (o+P.cellsOf f.type)) by omega,List.take_add]
   rw [e];exact this
  ·intro g hg
   rcases List.mem_cons.1 hg with rfl | hg
   ·refine ⟨by omega,?_⟩
    rw [show g.offset - o=0 by omega,List.drop_zero,List.take_left' l1]
    exact f1
   ·obtain ⟨q1,q2⟩:=f2 g hg
    refine ⟨by omega,?_⟩
    rw [List.drop_append,List.drop_eq_nil_of_le (by omega),List.nil_append,l1,show g.offset - o - P.cellsOf f.type=g.offset - (o+P.cellsOf f.type) by omega]
    exact q2
theorem qJ (d:Nat)(e:TypeId)(he:iA P d e=true)(cell:Nat→List Value)(Q:DataW H→Prop):∀ (n k:Nat),(∀ i,i<n→∃ ds,Fit P d e ds∧Cells (jQ w) (cell (k+i)) ds∧∃ x,Q x∧Sm P e ds x)→
  ∃ ds,ds.length=n*P.cellsOf e∧Cells (jQ w) ((List.range' k n).flatMap cell) ds∧(∀ i,i<n→Fit P d e ((ds.drop (i*P.cellsOf e)).take (P.cellsOf e)))∧∀ (B:Nat),(∀ x,Q x→yU P B e x)→eu B ds
 | 0,k,_=>⟨[],by simp,by simp [Cells],by omega,fun _ _=>trivial⟩
 | n + 1,k,h=>by
  obtain ⟨ds1,f1,c1,x1,hq1,s1⟩:=h 0 (by omega)
  have l1:=uF he f1;obtain ⟨ds2,l2,c2,f2,s2⟩:=qJ d e he cell Q n (k+1) fun i hi=>by
   have:=h (i+1) (by omega)
   rwa [show k+(i+1)=k+1+i by omega] at this
  refine ⟨ds1++ds2,by simp [l1,l2,Nat.add_mul];omega,?_,fun i hi=> ?_,fun B hq=>(s1 B (hq _ hq1)).append (s2 B hq)⟩
  ·rw [List.range'_succ,List.flatMap_cons]
   exact c1.append c2
  ·cases i with
   | zero=>simp [List.take_left' l1];exact f1
   | succ i=>
    rw [Nat.add_mul,Nat.one_mul,Nat.add_comm,← List.drop_drop,List.drop_left' l1];exact f2 i (by omega)
theorem iF {b o n:Nat}{base:Nat}{cs:List Value}(h:w.cells? base ⟨b,o,none⟩ n=some cs):cs.length=n∧∀ (i:Nat) (v:Value),cs[i]? =some v→w.cell? ⟨b,o+i,none⟩=some v:=by
 obtain ⟨_,h1,h2⟩:=World.cells?_some h;refine ⟨h1,fun i v hi=> ?_⟩
 have hlt:i<n:=by
  have:=(List.getElem?_eq_some_iff.1 hi).1;omega
 have:=h2 i hlt;rw [dK] at this;rw [this];exact hi
theorem CL : ∀ (d fuel:Nat) (t:TypeId) (cs:List Value) (x:DataW H×List MemPlace),iA P d t=true→DataW.trod enc P w 0 sp held fuel t cs=some x→∃ ds,Fit P d t ds∧Cells (jQ w) cs ds∧Sm P t ds x.1:=by
  intro d
  induction d with
  | zero=>intro fuel t cs x h;simp [iA] at h
  | succ d ih =>
    intro fuel t cs x h hx;simp only [iA] at h;simp only [Fit]
    split at h
    · rename_i hu
      (try rw [hu])
      obtain ⟨b,rfl,_⟩:=DataW.trod_bool hu hx;exact ⟨[.bool b],⟨b,rfl⟩,by simp [Cells,bQ],fun _ _=>by simp [eu,DV.small]⟩
    · rename_i k hu
      (try rw [hu])
      obtain ⟨n,rfl,_,hw⟩:=DataW.trod_int hu hx;exact ⟨[.int k n],⟨n,rfl,hw⟩,by simp [Cells,bQ],fun _ _=>by simp [eu,DV.small]⟩
    · rename_i fs hu
      (try rw [hu])
      simp only [Bool.and_eq_true,beq_iff_eq,List.all_eq_true] at h;obtain ⟨xs,n,hn,hxe,hl,hxl,hf⟩:=DataW.trod_struct hu hx;obtain ⟨ds,l1,c1,f1,s1⟩:=sQ d n cs (fun f x=>∃ i,fs.toList[i]? =some f∧(xs.map (·.1))[i]? =some x) (fun f hft y hy=>ih n f.type _ y hft hy) fs.toList 0 (P.cellsOf t) h.1 (by omega) fun f hf'=>by
        refine ⟨h.2 f hf',?_⟩;obtain ⟨i,hi,e⟩:=List.getElem_of_mem hf';have hfi:fs[i]? =some f:=by
          have hi':i<fs.size:=by simpa using hi
          rw [Array.getElem?_eq_getElem hi'];simpa using e
        have:=hf i f hfi;have hix:i<xs.length:=by rw [hxl];simpa using hi
        exact ⟨_,this.trans (List.getElem?_eq_getElem hix),i,by rw [Array.getElem?_toList];exact hfi,by rw [List.getElem?_map,List.getElem?_eq_getElem hix];rfl⟩
      refine ⟨ds,⟨by simpa using l1,fun f hf'=>by simpa using (f1 f hf').2⟩,?_,fun B hq=>s1 B fun f x ⟨i,h1,h2⟩=>yU.struct hu (by rw [hxe] at hq;exact hq) h1 h2⟩
      rw [List.drop_zero,Nat.sub_zero,List.take_of_length_le (by omega)] at c1
      exact c1
    · rename_i n e hu
      (try rw [hu])
      simp only [Bool.and_eq_true,beq_iff_eq] at h;obtain ⟨xs,m,hm,hxe,hl,hxl,hf⟩:=DataW.trod_array hu hx;obtain ⟨ds,l1,c1,f1,s1⟩:=qJ d e h.2 (fun i=>(cs.drop (i*P.cellsOf e)).take (P.cellsOf e)) (fun x=>x∈xs.map (·.1)) n 0 fun i hi=>by
        have:=hf i hi;have hix:i<xs.length:=by omega
        rw [Nat.zero_add];obtain ⟨ds,a1,a2,a3⟩:=ih m e _ _ h.2 (this.trans (List.getElem?_eq_getElem hix));exact ⟨ds,a1,a2,_,List.mem_map.2 ⟨_,List.getElem_mem hix,rfl⟩,a3⟩
      have hfl:∀ (n k:Nat) (cs:List Value),(k+n)*P.cellsOf e≤cs.length→(List.range' k n).flatMap (fun i=>(cs.drop (i*P.cellsOf e)).take (P.cellsOf e))=(cs.drop (k*P.cellsOf e)).take (n*P.cellsOf e):=by
        intro n
        induction n with
        | zero=>intro k cs _;simp
        | succ n ihn=>
          intro k cs hk;rw [List.range'_succ,List.flatMap_cons,ihn (k+1) cs (by rwa [show k+1+n=k+(n+1) by omega])]
          rw [show (n+1)*P.cellsOf e=P.cellsOf e+n*P.cellsOf e by rw [Nat.add_mul];omega,List.take_add,List.drop_drop]
          rw [show k*P.cellsOf e+P.cellsOf e=(k+1)*P.cellsOf e by rw [Nat.add_mul];omega]
      refine ⟨ds,⟨by rw [l1,h.1],f1⟩,?_,fun B hq=>s1 B fun x hx'=>yU.array hu (by rw [hxe] at hq;exact hq) hx'⟩
      rw [hfl n 0 cs (by rw [hl,h.1];simp)] at c1
      rw [Nat.zero_mul,List.drop_zero,List.take_of_length_le (by rw [hl,h.1];exact Nat.le_refl _)] at c1
      exact c1
    · rename_i e hu
      (try rw [hu])
      simp only [Bool.and_eq_true,beq_iff_eq,decide_eq_true_eq] at h;rcases DataW.trod_slice hu hx with ⟨rfl,_⟩ | ⟨a,len,cap,elems,rest,n,hn,rfl,hxe,_,hlc,Ly,hel,hf,_⟩
      · exact ⟨[.aP],.inl rfl,by simp [Cells,bQ],fun _ _=>by simp [eu,DV.small]⟩
      · have hspot:0<len→a.spot=none:=by
          intro hpos;have:=hf 0 hpos;rw [show elems[0]? =some (elems[0]'(by omega)) from List.getElem?_eq_getElem (by omega)] at this
          obtain ⟨c0,h0,_⟩:=Option.bind_eq_some_iff.1 this;obtain ⟨_,h1,h2⟩:=World.cells?_some h0;have h3:=h2 0 h.1.2;simp only [Nat.zero_mul] at h3;have e0:(a.add 0).add 0=a:=by simp [Addr.add]
          rw [e0] at h3;have hsome:c0[0]? =some (c0[0]'(by omega)):=List.getElem?_eq_getElem (by omega)
          rw [hsome] at h3;unfold World.cell? at h3
          split at h3
          · split at h3
            · cases h3
            · rename_i hs;simpa using hs
          · cases h3
        have hA:0<len→a=⟨a.block,a.off,none⟩:=fun hpos=>by
          have:=hspot hpos;obtain ⟨b,o,s⟩:=a;simp at this;subst this;rfl
        have hcell:∀ i,i<len→∃ c,w.cells? 0 (a.add (i*P.cellsOf e)) (P.cellsOf e)=some c∧∃ ds,Fit P d e ds∧Cells (jQ w) c ds∧∃ x,x∈elems.map (·.1)∧Sm P e ds x:=by
          intro i hi;have:=hf i hi;rw [List.getElem?_eq_getElem (show i<elems.length by omega)] at this
          obtain ⟨c,h0,h1⟩:=Option.bind_eq_some_iff.1 this;obtain ⟨ds,a1,a2,a3⟩:=ih n e c _ h.1.1.2 h1;exact ⟨c,h0,ds,a1,a2,_,List.mem_map.2 ⟨_,List.getElem_mem (by omega),rfl⟩,a3⟩
        let cell:Nat→List Value:=fun i=>((w.cells? 0 (a.add (i*P.cellsOf e)) (P.cellsOf e)).getD [])
        have kU:∀ i,i<len→w.cells? 0 (a.add (i*P.cellsOf e)) (P.cellsOf e)=some (cell i):=fun i hi=>by
          obtain ⟨c,h0,_⟩:=hcell i hi;simp only [cell];rw [h0];rfl
        obtain ⟨ds,l1,c1,f1,s1⟩:=qJ d e h.1.1.2 cell (fun x=>x∈elems.map (·.1)) len 0 fun i hi=>by
          obtain ⟨c,h0,h1⟩:=hcell i hi;rw [Nat.zero_add];simp only [cell];rw [h0];exact h1
        refine ⟨[.sl len ds],.inr ⟨len,ds,rfl,by unfold maxLen at Ly;omega,l1,f1⟩,?_,fun B hq=> ?_⟩
        rotate_left
        · rw [hxe] at hq
          simp only [eu,DV.small,and_true];obtain ⟨g1,g2⟩:=yU.slice hu hq;have:=g1 h.2;rw [List.length_map,hel] at this;exact ⟨this,s1 B fun x hx'=>g2 x hx'⟩
        simp only [Cells,bQ,and_true];refine ⟨some a,cap,rfl,hlc,fun h0=> ?_,fun hpos=>⟨a.block,a.off,by rw [← hA hpos],?_⟩⟩
        · subst h0;simp at l1;exact l1
        · refine Cells.Kl a.off c1 fun i v hi=> ?_
          have key:∀ (n k i:Nat) (v:Value),k+n≤len→((List.range' k n).flatMap cell)[i]? =some v→w.cell? ⟨a.block,a.off+k*P.cellsOf e+i,none⟩=some v:=by
            intro n
            induction n with
            | zero=>intro k i v _ h;simp at h
            | succ n ihn=>
              intro k i v hk hv;rw [List.range'_succ,List.flatMap_cons] at hv;have hck:=kU k (by omega)
              rw [hA (by omega),dK] at hck
              obtain ⟨g1,g2⟩:=iF hck
              by_cases hlt:i<(cell k).length
              · rw [List.getElem?_append_left hlt] at hv
                exact g2 i v hv
              · rw [List.getElem?_append_right (by omega),g1] at hv
                have:=ihn (k+1) (i - P.cellsOf e) v (by omega) hv
                rwa [show a.off+(k+1)*P.cellsOf e+(i - P.cellsOf e)=a.off+k*P.cellsOf e+i by rw [Nat.add_mul];omega] at this
          have:=key len 0 i v (by omega) hi
          simpa using this
    · cases h
def kY (P:Program)(t:TypeId)(ds:List DV):SV:=
 match dD P t with
 | some (some _)=> .agg (ds.map .d)
 | _=> .d (ds.headD .jr)
def qK (P:Program)(d:Nat):List TypeId→List (List DV)→Prop
 | [],[]=>True
 | t::ts,x::xs=>Fit P d t x∧qK P d ts xs
 | _,_=>False
def sR (P:Program):List TypeId→List (List DV)→List SV
 | t::ts,x::xs=>kY P t x::sR P ts xs
 | _,_=>[]
def o6 (P:Program)(d:Nat)(ts:List TypeId):Bool:=ts.all fun t=>iA P d t && (P.readableRec t && decide (t<P.types.size))
theorem FV {t:TypeId}{v:Value}{d:Nat}{x:DataW H}{ps:List MemPlace}{r:Reach}{b0:Nat}(hf:iA P d t=true)(hv:Value.okWide P w r b0 t v)(h:DataW.Trod enc P w 0 sp held t v x ps)(p:Nat→Prop)(μ:Nat→Nm):
  ∃ ds,Fit P d t ds∧Rp p μ (jQ w) (kY P t ds) v∧Sm P t ds x:=by
 obtain ⟨fuel,hx⟩:=h;obtain ⟨ds,h1,h2,h3⟩:=CL d fuel t _ _ hf hx;refine ⟨ds,h1,?_,h3⟩;have hinfo:∃ i,P.info? t=some i:=by
  cases hi:P.info? t with
  | some i=>exact ⟨i,rfl⟩
  | none=>
   exfalso
   cases d with
   | zero=>simp [iA] at hf
   | succ d=>simp [iA,Program.underlying,hi] at hf
 obtain ⟨i,hi⟩:=hinfo;have one:∀ (hs:dD P t=some none) (Km:v.cells.toList=[v]),Rp p μ (jQ w) (kY P t ds) v:=by
  intro hs Km;rw [Km] at h2
  match ds,h2 with
  | [y],h2=>
   simp only [Cells] at h2;simp only [kY,hs,List.headD_cons];exact Rp.cH.2 h2.1
  | [],h2=>simp [Cells] at h2
  | y::z::r,h2=>simp [Cells] at h2
 have agg:∀ (n:Nat) (hs:dD P t=some (some n)) (cs:Array Value) (Km:v= .agg cs),Rp p μ (jQ w) (kY P t ds) v:=by
  intro n hs cs Km;subst Km;simp only [kY,hs];exact Rp.eF.2 ⟨cs,rfl,Cells.Mz h2⟩
 cases d with
 | zero=>simp [iA] at hf
 | succ d=>
  simp only [iA] at hf
  split at hf
  ·rename_i hu
   obtain ⟨b,rfl⟩:=okWide_bool hu hv;exact one (by simp [dD,hu,hi]) rfl
  ·rename_i hu
   obtain ⟨b,rfl⟩:=okWide_int hu hv;exact one (by simp [dD,hu,hi]) rfl
  ·rename_i fs hu
   obtain ⟨cs,rfl,_⟩:=okWide_struct hu hv;exact agg i.size (by simp [dD,hu,hi]) cs rfl
  ·rename_i n e hu
   unfold Value.okWide at hv;rw [hu] at hv;obtain ⟨cs,rfl,_⟩:=hv;exact agg i.size (by simp [dD,hu,hi]) cs rfl
  ·rename_i e hu
   obtain ⟨a,len,cap,rfl⟩:=okWide_slice hu hv;exact one (by simp [dD,hu,hi]) rfl
  ·cases hf
theorem xm {d:Nat}{r:Reach}{b0:Nat}(p:Nat→Prop)(μ:Nat→Nm):∀ (ts:List TypeId) (vs:List Value) (xs:List (DataW H)) (ps:List MemPlace),o6 P d ts=true→DataW.TrodAll enc P w 0 sp held ts vs xs ps→
  (∀ (j:Nat) t v,ts[j]? =some t→vs[j]? =some v→Value.okWide P w r b0 t v)→∃ tO,qK P d ts tO∧aN p μ (jQ w) (sR P ts tO) vs∧xs.length=ts.length∧∀ (B:Nat),(∀ n,n∈DataW.weightsEach P ts xs→n≤B)→∀ ds,ds∈tO→eu B ds
 | [],vs,xs,ps,_,h,_=>by
  obtain ⟨rfl,rfl,_⟩:=trodAll_nil h;exact ⟨[],trivial,aN.aJ.2 rfl,rfl,fun _ _ _ h=>by cases h⟩
 | t::ts,vs,xs,ps,hf,h,hv=>by
  obtain ⟨v,vs',x,xs',p1,p2,rfl,rfl,rfl,h1,h2⟩:=trodAll_cons h;simp only [o6,List.all_cons,Bool.and_eq_true] at hf;obtain ⟨ds,a1,a2,a3⟩:=FV (P:=P) hf.1.1 (hv 0 t v rfl rfl) h1 p μ;obtain ⟨tO,b1,b2,b3,b4⟩:=xm p μ ts vs' xs' p2 (by simpa [o6] using hf.2) h2 fun j t' v' ht hv'=>hv (j+1) t' v' (by simpa using ht) (by simpa using hv')
  refine ⟨ds::tO,⟨a1,b1⟩,aN.aC.2 ⟨v,vs',rfl,a2,b2⟩,by simp [b3],fun B hq ds' hd=> ?_⟩
  rcases List.mem_cons.1 hd with rfl | hd
  ·exact a3 B fun n hn=>hq n (by simp only [DataW.weightsEach,List.mem_append];exact .inl hn)
  ·exact b4 B (fun n hn=>hq n (by simp only [DataW.weightsEach,List.mem_append];exact .inr hn)) ds' hd
theorem oK {d:Nat}(hl:laidOutB P=true){W W':World}{sp':Nat→Bool}:∀ (ts:List TypeId) (vs:List Value) (xs:List (DataW H)) (ps:List MemPlace),o6 P d ts=true→DataW.TrodAll enc P W 0 (fun _=>true) true ts vs xs ps→
  (∀ x∈ps,W.sameAt W' x)→(∀ x∈ps,sp' x.block=true)→DataW.TrodAll enc P W' 0 sp' true ts vs xs ps
 | [],vs,xs,ps,_,h,_,_=>by
  obtain ⟨rfl,rfl,rfl⟩:=trodAll_nil h;exact trodAll_mk0
 | t ::ts,vs,xs,ps,hf,h,hs,hp=>by
  obtain ⟨v,vs',x,xs',p1,p2,rfl,rfl,rfl,h1,h2⟩:=trodAll_cons h;simp only [o6,List.all_cons,Bool.and_eq_true,decide_eq_true_eq] at hf;exact trodAll_cons_mk (WideElems.Trod_stays hl hf.1.2.1 hf.1.2.2 h1 (fun q hq=>hs q (by simp [hq])) (fun q hq=>hp q (by simp [hq])))
   (oK hl ts vs' xs' p2 (by simpa [o6] using hf.2) h2 (fun q hq=>hs q (by simp [hq])) (fun q hq=>hp q (by simp [hq])))
theorem tU {f:Func}{s:ChangeSpec}{apart fresh handsOn again:Bool}{W W':World}{args:Array Value}{v:Value}{ds gs:List (DataW H)}{before pa pv:List MemPlace}
  (hW:DataW.Whole enc P f.params.toList s.vars apart W args.toList ds gs before)
  (hres:∀ (b:Nat) (sp:Nat→Bool) (hd:Bool),DataW.TrodAll enc P W' b sp hd f.resultTypes.toList (v.resultList f.resultTypes.size) (s.fn H (ds++gs)).results [])
  (hargs:∀ sp:Nat→Bool,(∀ p∈before,sp p.block=true)→DataW.TrodAll enc P W' 0 sp true f.params.toList args.toList (s.fn H (ds++gs)).args pa)
  (hvars:∀ sp:Nat→Bool,(∀ p∈before,sp p.block=true)→DataW.TrodVars enc P W' sp s.vars (s.fn H (ds++gs)).vars pv)
  (hps:before=pa++pv) (hb:Below W.heap.size W W')
  (hok:∀ (j:Nat) (t:TypeId) (r:Value),f.resultTypes[j]? =some t→(v.resultList f.resultTypes.size)[j]? =some r→Value.okWide P W' .any 0 t r):
  s.post enc P f apart fresh handsOn again W args v W':=by
 have hlt:∀ p∈before,p.block<W.heap.size:=fun p hp=>hW.lt p hp
 have hold:∀ p∈before,(fun b=>decide (b<W.heap.size)) p.block=true:=fun p hp=>by simpa using hlt p hp
 refine ⟨ds,gs,before,[],pa,pv,hW,hres _ _ _,hargs _ hold,hvars _ hold,World.keptBut_mono (fun p hp=>⟨hp,?_⟩) (hb.frame (· ∈before)),fun _=> ?_⟩
 ·rw [hps,List.mem_append] at hp
  exact Or.inr hp
 ·obtain ⟨_,_,_,_,_,hz,hn⟩:=hW
  refine ⟨hok,_,_,([]++pa)++pv,⟨[]++pa,pv,trodAll_append (hargs _ (fun _ _=>rfl)) (hres _ _ _),hvars _ (fun _ _=>rfl),rfl,?_,?_⟩,?_⟩
  ·intro b off hp
   have hin:MemPlace.cell b off∈before:=by rw [hps];simpa using hp
   rw [hb.frozen (hlt _ hin)];exact hz b off hin
  ·intro ha
   have:=hn ha;rw [hps] at this
   simpa using this
  ·intro p hp _
   rw [hps]
   simpa using hp
theorem AZ {f:FuncId}{fn:Func}{spec:ChangeSpec}{tb:TypeId}(d:Nat)(hl:laidOutB P=true)(hts:o6 P d fn.params.toList=true)(hres:fn.resultTypes= #[tb])(htb:P.underlying tb=some .bool)(hvars:spec.vars=[])
  (Kn:∀ ds:List (DataW H),ds.length=fn.params.toList.length→(spec.fn H ds).results=[.lit (.bool true)]∧(spec.fn H ds).args=ds∧(spec.fn H ds).vars=[])
  (B:Nat)
  (LR:∀ tO,qK P d fn.params.toList tO→(∀ ds,ds∈tO→eu B ds)→SB P f (sR P fn.params.toList tO) [] 0 0 fun r F=>r=bl true)
  (W:World) (base:Nat) (args:Array Value) (ds gs:List (DataW H)) (before:List MemPlace)
  (hval:∀ (j:Nat) t v,fn.params[j]? =some t→args[j]? =some v→Value.okWide P W .any base t v)
  (hW:DataW.Whole enc P fn.params.toList spec.vars false W args.toList ds gs before) (hG:oP (jQ W)) (hB:∀ n,n∈DataW.weightsEach P fn.params.toList ds→n≤B):
  Calls P f args W fun e W'=>∃ v,e= .returned v∧spec.post enc P fn false true false false W args v W':=by
 have hW':=hW;obtain ⟨p,q,hA,hV,rfl,hfz,mN⟩:=hW;rw [hvars] at hV;obtain ⟨rfl,rfl⟩:=trodVars_none hV;obtain ⟨tO,h1,h2,h3,h4⟩:=xm (P:=P) (d:=d) (fun n=>n<0) (fun _=>⟨0,0,true⟩) fn.params.toList args.toList ds p hts hA fun j t v ht hv=>hval j t v (by simpa using ht) (by simpa using hv)
 refine ((LR tO h1 (h4 B hB)).2.2.2 (fun _=>⟨0,0,true⟩) (jQ W) W args h2 ⟨⟨fun b o v h=>h,hG⟩,fun n ob h=>by simp [bC] at h,fun n m h=>by simp [bC] at h⟩).mono ?_
 rintro e W' ⟨r,F',aV,M',u,rfl,rfl,_,_,hr,_,hE⟩;have hu:u= .bool true:=by simpa [cZ,bQ] using hr
 subst hu;have hb:Below W.heap.size W W':=⟨hE.os,hE.tape.1,hE.output,hE.size,fun b hb=>(hE.frame b hb fun n hn=>by simp [bC] at hn).1⟩
 obtain ⟨s1,s2,s3⟩:=Kn (ds++[]) (by simpa using h3)
 refine ⟨_,rfl,tU (pa:=p) (pv:=[]) hW' (fun b sp hd=> ?_) (fun sp hsp=> ?_) (fun sp hsp=> ?_) rfl hb ?_⟩
 ·rw [s1,hres]
  exact trodAll_cons_mk (shut_bool htb _) trodAll_mk0
 ·rw [s2]
  simp only [List.append_nil] at hsp ⊢;exact oK hl _ _ _ _ hts hA (fun x hx=>hb.same (hW'.lt x (by simpa using hx))) hsp
 ·rw [hvars,s3]
  rfl
 ·exact ok_one hres rfl (okWide_bool_mk htb _)
end
end Go.Sl
namespace Go.Sl
open Go.RowKit
mutual
def SV.jq (n len:Nat)(ds:List DV):SV→SV
 | .gs m l=>if m=n then (if l=len then .d (.sl len ds) else .any) else .gs m l
 | .agg cs=> .agg (SV.tV n len ds cs)
 | .dU cs=> .dU (SV.tV n len ds cs)
 | s=>s
def SV.tV (n len:Nat)(ds:List DV):List SV→List SV
 | []=>[]
 | c::cs=>c.jq n len ds::SV.tV n len ds cs
end
def kZ (n len:Nat)(ds:List DV)(env:List (Nat×SV)):List (Nat×SV):=env.map fun x=>(x.1,x.2.jq n len ds)
theorem jS (n len:Nat)(ds:List DV):∀ (env:List (Nat×SV)) (t:Nat),(kZ n len ds env).lookup t=(env.lookup t).map (SV.jq n len ds)
 | [],t=>rfl
 | (q,s)::env,t=>by
  simp only [kZ,List.map_cons,List.lookup];cases t == q
  ·exact jS n len ds env t
  ·rfl
mutual
theorem SV.nG {p:Nat→Prop}{μ:Nat→Nm}{M:Mem}{n len:Nat}{ds:List DV}(hg:∀ v,Rp p μ M (.gs n len) v→Rp p μ M (.d (.sl len ds)) v):∀ (s:SV) (v:Value),Rp p μ M s v→Rp p μ M (s.jq n len ds) v
 | .gs m l,v,h=>by
  simp only [SV.jq]
  split
  ·rename_i e;subst e
   split
   ·rename_i e;subst e
    exact hg v h
   ·exact Rp.any
  ·exact h
 | .agg cs,v,h=>by
  obtain ⟨vs,e,h1⟩:=Rp.eF.1 h;simp only [SV.jq];exact Rp.eF.2 ⟨vs,e,SV.pZ hg cs _ h1⟩
 | .dU cs,v,h=>by
  obtain ⟨vs,e,h1⟩:=Rp.dF.1 h;simp only [SV.jq];exact Rp.dF.2 ⟨vs,e,SV.pZ hg cs _ h1⟩
 | .d _,v,h=>h
 | .ptr _ _,v,h=>h
 | .vp _ _,v,h=>h
 | .bs _ _ _,v,h=>h
 | .mp _,v,h=>h
 | .it _,v,h=>h
 | .yl _,v,h=>h
 | .fn _ _ _,v,h=>h
 | .any,v,h=>h
theorem SV.pZ {p:Nat→Prop}{μ:Nat→Nm}{M:Mem}{n len:Nat}{ds:List DV}(hg:∀ v,Rp p μ M (.gs n len) v→Rp p μ M (.d (.sl len ds)) v):∀ (s:List SV) (v:List Value),aN p μ M s v→aN p μ M (SV.tV n len ds s) v
 | [],v,h=>h
 | c::cs,v,h=>by
  obtain ⟨u,us,e,h1,h2⟩:=aN.aC.1 h;simp only [SV.tV];exact aN.aC.2 ⟨u,us,e,SV.nG hg c u h1,SV.pZ hg cs us h2⟩
end
theorem aN.HF {p:Nat→Prop}{μ:Nat→Nm}{M:Mem}{ds:List DV}{vs:List Value}(h:aN p μ M (ds.map .d) vs){i:Nat}{x:DV}(hi:ds[i]? =some x):∃ u,vs[i]? =some u∧bQ M x u:=by
 obtain ⟨u,hu,hr⟩:=h.get (i:=i) (c:= .d x) (by simp [hi])
 exact ⟨u,hu,Rp.cH.1 hr⟩
section
variable {P:Program} {N k0:Nat} {st:St} {Q:Exit→St→Prop}
theorem gG.freeze {cL:Nat→Nm}{M0:Mem}{w0:World}{c0:Nat→Option Ob}{a:Act}{w:World}(n:Nat){e sz len:Nat}{cs:List SV}{ds:List DV}(hn:lk st.hp n=some (.arr e sz len cs))(hcs:cs=ds.map .d)
    (h:gG N cL M0 w0 c0 k0 st a w):gG N cL M0 w0 c0 k0 ⟨kZ n len ds st.env,dh st.hp n,st.k⟩ a w:=by
  subst hcs;obtain ⟨mR,hdf,hsz,μ,M,fZ,hS,hE⟩:=h;obtain ⟨hpn,bk,hMn⟩:=hS.obs n _ hn;rcases bk with ⟨hdead,hl0,hds⟩ | ⟨hlive,vs,hb,hl1,hl2,JS,hl4,hr⟩
  · have hd0:ds=[]:=by simpa using hds
    subst hd0;subst hl0;have hg:∀ v,Rp (· <st.k) μ M (.gs n 0) v→Rp (· <st.k) μ M (.d (.sl 0 [])) v:=fun v hv=>by
      refine Rp.cH.2 ?_;simp only [bQ];obtain ⟨h,_⟩ | ⟨_,_,A,e1⟩:=hv.kg
      · rw [hdead] at h;cases h
      · exact ⟨A,0,e1,Nat.le_refl _,fun _=>trivial,fun h=>absurd h (Nat.lt_irrefl _)⟩
    have hsub:∀ m ob,lk (dh st.hp n) m=some ob→lk st.hp m=some ob:=fun m ob hm=>by
      rw [dH] at hm
      split at hm
      · cases hm
      · exact hm
    refine ⟨mR,hdf,hsz,μ,M,fun t s hs=> ?_,hS.sub hsub,hE.wP fun m hm=> ?_⟩
    · rw [jS] at hs
      obtain ⟨s',hs',rfl⟩:=Option.map_eq_some_iff.1 hs;exact SV.nG hg s' _ (fZ t s' hs')
    · obtain ⟨o1,ho1⟩:=Option.ne_none_iff_exists'.1 hm
      rw [hsub m o1 ho1];simp
  have hMn:=hMn hlive;have hlen:ds.length=len*sz:=by simpa using hl1
  let M':Mem:=fun b o=>if b=(μ n).blk then (if o<len*sz then vs[o]? else none) else M b o
  have hne:∀ b,b≠(μ n).blk→∀ o,M' b o=M b o:=fun b hb o=>by simp [M',hb]
  have hle:Mem.le M M':=fun b o v hv=>by
    have:b≠(μ n).blk:=fun e=>by rw [e,hMn] at hv;cases hv
    rw [hne b this];exact hv
  have hoth:∀ m,lk st.hp m≠none→m≠n→(μ m).live=true→(μ m).blk≠(μ n).blk:=fun m hm hmn lm e=>hmn (hS.inj m n hm (by rw [hn];simp) lm hlive e)
  have hsub:∀ m ob,lk (dh st.hp n) m=some ob→lk st.hp m=some ob∧m≠n:=fun m ob hm=>by
    rw [dH] at hm
    split at hm
    · cases hm
    · rename_i e;exact ⟨hm,e⟩
  have hg:∀ v,Rp (· <st.k) μ M' (.gs n len) v→Rp (· <st.k) μ M' (.d (.sl len ds)) v:=fun v hv=>by
    obtain ⟨_,e1⟩ | ⟨h,_⟩:=hv.kg
    rotate_left
    · rw [hlive] at h;cases h
    refine Rp.cH.2 ?_;simp only [bQ];refine ⟨_,_,e1,hl2,fun h0=> ?_,fun _=>⟨_,_,rfl,c_.mk fun i c hi=> ?_⟩⟩
    · subst h0
      simp at hlen;exact hlen
    · obtain ⟨u,hu,hru⟩:=hr.HF hi
      have hil:i<len*sz:=by rw [← hlen];exact (List.getElem?_eq_some_iff.1 hi).1
      refine ⟨u,?_,bQ.mono hle _ _ hru⟩;rw [List.getElem?_take_of_lt hil] at hu;simp only [M',if_true,Nat.zero_add,hil]
      simpa using hu
  refine ⟨mR,hdf,hsz,μ,M',fun t s hs=> ?_,⟨⟨fun b o v hv=> ?_,hS.mem.kE.le hle⟩,fun m ob hm=> ?_,fun m m' hm hm' lm lm' e=> ?_⟩,⟨hE.old,Mem.le_trans hE.mem hle,fun b hb0 hf=> ?_,hE.size,fun m hm=> ?_,hE.os,hE.tape,hE.output⟩⟩
  · rw [jS] at hs
    obtain ⟨s',hs',rfl⟩:=Option.map_eq_some_iff.1 hs;exact SV.nG hg s' _ ((fZ t s' hs').more (fun _ h=>h) (fun _ _=>rfl) hle)
  · by_cases hbn:b=(μ n).blk
    · subst hbn
      simp only [M',if_true] at hv
      split at hv
      · rw [cell_of hb];exact hv
      · cases hv
    · rw [hne b hbn] at hv
      exact hS.mem b o v hv
  · obtain ⟨hm1,hmn⟩:=hsub m ob hm
    obtain ⟨a1,a2,a3⟩:=hS.obs m ob hm1;refine ⟨a1,a2.more (fun _ h=>h) (fun _ _=>rfl) hle fun _=>rfl,fun lm o=> ?_⟩
    rw [hne _ (hoth m (by rw [hm1];simp) hmn lm)]
    exact a3 lm o
  · obtain ⟨o1,ho1⟩:=Option.ne_none_iff_exists'.1 hm
    obtain ⟨o2,ho2⟩:=Option.ne_none_iff_exists'.1 hm';exact hS.inj m m' (by rw [(hsub m o1 ho1).1];simp) (by rw [(hsub m' o2 ho2).1];simp) lm lm' e
  · have hbn:b≠(μ n).blk:=fun e=>by
      rcases hE.names n (by rw [hn];simp) with ⟨_,hh⟩ | ⟨h,h'⟩
      · rcases hh hlive with h | ⟨m,hm,lm,e'⟩
        · omega
        · exact hf m hm lm (e'.trans e.symm)
      · rw [hE.old n h] at e hlive
        exact hf n h' hlive e.symm
    obtain ⟨f1,f2⟩:=hE.frame b hb0 hf;exact ⟨f1,fun o=>by rw [hne b hbn];exact f2 o⟩
  · obtain ⟨o1,ho1⟩:=Option.ne_none_iff_exists'.1 hm
    exact hE.names m (by rw [(hsub m o1 ho1).1];simp)
theorem SW.freeze {s:bY}(n:Nat){e sz len:Nat}{cs:List SV}(ds:List DV)(hn:lk st.hp n=some (.arr e sz len cs))(hcs:cs=ds.map .d)(h:SW P N k0 s ⟨kZ n len ds st.env,dh st.hp n,st.k⟩ Q):SW P N k0 s st Q:=
 fun c hc rd hrf cL M0 w0 c0 a w eV=>h c hc rd hrf cL M0 w0 c0 a w (eV.freeze n hn hcs)
theorem gG.qL {cL:Nat→Nm}{M0:Mem}{w0:World}{c0:Nat→Option Ob}{a:Act}{w:World}(t:Nat)(e sz:Nat)(ht:st.env.lookup t=some (.d .aP))(h:gG N cL M0 w0 c0 k0 st a w):
    gG N cL M0 w0 c0 k0 ⟨(t,.gs st.k 0)::st.env,(st.k,.arr e sz 0 [])::st.hp,st.k+1⟩ a w:=by
  obtain ⟨mR,hdf,hsz,μ,M,fZ,hS,hE⟩:=h;have hmu:=uk (μ:=μ) (m:=⟨0,0,false⟩) (p:=(· <st.k)) (k:=st.k) (Nat.lt_irrefl _)
  have hup:∀ n,n<st.k→n<st.k+1:=fun n h=>by omega
  have hlt:∀ n ob,lk st.hp n=some ob→n<st.k:=fun n ob h=>(hS.obs n ob h).1
  refine ⟨by show k0≤st.k+1;omega,hdf,hsz,yL μ st.k ⟨0,0,false⟩,M,fun u s hs=> ?_,⟨hS.mem,fun n ob hn=> ?_,fun n m hn hm ln lm e=> ?_⟩,⟨fun n hn=> ?_,hE.mem,hE.frame,hE.size,fun n hn=> ?_,hE.os,hE.tape,hE.output⟩⟩
  · rw [l9] at hs
    split at hs
    · rename_i e1
      subst e1;injection hs with hs;subst hs;have h1:=(fZ t _ ht).rep;simp only [cZ,bQ] at h1;intro ν gw;simp only [cZ];rw [gw st.k (Nat.lt_succ_self _),bG];exact .inr ⟨rfl,trivial,none,h1⟩
    · exact (fZ u s hs).more hup hmu (Mem.le_refl M)
  · rw [aa] at hn
    split at hn
    · rename_i e1
      subst e1;injection hn with hn;subst hn;rw [bG];exact ⟨Nat.lt_succ_self _,.inl ⟨rfl,rfl,rfl⟩,fun h=>by cases h⟩
    · obtain ⟨a1,a2,a3⟩:=hS.obs n ob hn
      rw [hmu n a1];exact ⟨hup n a1,a2.more hup hmu (Mem.le_refl M) fun _=>rfl,a3⟩
  · rw [aa] at hn hm
    by_cases e1:n=st.k
    · subst e1;rw [bG] at ln;cases ln
    · by_cases e2:m=st.k
      · subst e2;rw [bG] at lm;cases lm
      · rw [if_neg e1] at hn
        rw [if_neg e2] at hm;obtain ⟨o1,ho1⟩:=Option.ne_none_iff_exists'.1 hn;obtain ⟨o2,ho2⟩:=Option.ne_none_iff_exists'.1 hm;rw [hmu n (hlt n o1 ho1)] at e ln;rw [hmu m (hlt m o2 ho2)] at e lm;exact hS.inj n m hn hm ln lm e
  · simp only at hn
    by_cases e1:n=st.k
    · subst e1;omega
    · rw [eG _ _ _ e1];exact hE.old n (by omega)
  · rw [aa] at hn
    by_cases e1:n=st.k
    · subst e1
      rw [bG];exact .inl ⟨⟨by omega,Nat.lt_succ_self _⟩,fun h=>by cases h⟩
    · rw [if_neg e1] at hn
      obtain ⟨o1,ho1⟩:=Option.ne_none_iff_exists'.1 hn;rw [hmu n (hlt n o1 ho1)];rcases hE.names n hn with ⟨b1,b2⟩ | ⟨b1,b2⟩
      · exact .inl ⟨⟨b1.1,by have:=b1.2;show n<st.k+1;omega⟩,b2⟩
      · refine .inr ⟨fun h=> ?_,b2⟩
        have:n<st.k:=hlt n o1 ho1;exact b1 ⟨h.1,this⟩
theorem SW.qL {s:bY}(t:Nat)(e sz:Nat)(ht:st.env.lookup t=some (.d .aP))(h:SW P N k0 s ⟨(t,.gs st.k 0)::st.env,(st.k,.arr e sz 0 [])::st.hp,st.k+1⟩ Q):SW P N k0 s st Q:=
 fun c hc rd hrf cL M0 w0 c0 a w eV=>h c hc rd hrf cL M0 w0 c0 a w (eV.qL t e sz ht)
theorem bQ.nH {M:Mem}{v:Value}(h:bQ M .aP v):bQ M (.sl 0 []) v:=by
 simp only [bQ] at h ⊢;exact ⟨none,0,h,Nat.le_refl _,fun _=>trivial,fun h=>absurd h (Nat.lt_irrefl _)⟩
end
theorem SV.uG {ρ:Nat→Nat}:∀ {l:List SV},SV.aA (fun n=>decide (n<0)) l=true→SV.aK ρ l=l
 | [],_=>rfl
 | c::cs,h=>by
  simp only [SV.aA,Bool.and_eq_true] at h;simp only [SV.aK,SV.uD c h.1,SV.uG h.2]
def eN (ns:List Nat)(k:Nat)(i:Nat):Nat:=match ns[i]? with
 | some n=>n
 | none=>i - ns.length+k
theorem CM:∀ {h:Hp} {n:Nat} {ob:Ob},(n,ob)∈h→∃ jD,lk h n=some jD
 | [],n,ob,h=>by simp at h
 | (m,o)::h,n,ob,hm=>by
  rw [aa]
  by_cases e:n=m
  ·exact ⟨o,by simp [e]⟩
  ·rw [if_neg e]
   rcases List.mem_cons.1 hm with h1 | h1
   ·injection h1 with h1 _;exact absurd h1 e
   ·exact CM h1
theorem SB.nI {P:Program}{f:FuncId}{args:List SV}{F F':Hp}{nk:Nat}{r:SV}(ns:List Nat)(h:SB P f args F ns.length nk fun r' F1=>r'=r∧F1=F')(hd:ns.Nodup)(hF:∀ i,i<ns.length→lk F i≠none)(k:Nat):
  aF P f (SV.aK (eN ns k) args) (F.aB (eN ns k)) k nk (r.aB (eN ns k)) (F'.aB (eN ns k)):=by
 have hlt:∀ i,i<ns.length→ns[i]? =some (eN ns k i):=fun i hi=>by simp [eN,hi]
 have:=SB.at h (eN ns k) k (fun n m hn hm e=> ?_) (fun n hn p μ M w vals _ hS=> ?_) (fun i hi=> ?_)
 ·refine this.mono ?_
  rintro r' F1 ⟨r0,F0,⟨rfl,rfl⟩,rfl,rfl⟩;exact ⟨rfl,rfl⟩
 ·have h1:=hlt n hn
  have h2:=hlt m hm;rw [e] at h1;exact (List.getElem?_inj hn hd).1 (h1.trans h2.symm)
 ·obtain ⟨ob,ho⟩:=Option.ne_none_iff_exists'.1 (hF n hn)
  have hm:(eN ns k n,ob.aB (eN ns k))∈F.aB (eN ns k):=List.mem_map.2 ⟨(n,ob),mc ho,rfl⟩;obtain ⟨jD,ho'⟩:=CM hm;exact (hS.obs _ _ ho').1
 ·simp [eN];omega
theorem SB.new {P:Program}{f:FuncId}{args:List SV}{F':Hp}{nk:Nat}{r:SV}(h:SB P f args [] 0 nk fun r' F1=>r'=r∧F1=F')(k:Nat):
  aF P f args [] k nk (r.aB (eN [] k)) (F'.aB (eN [] k)):=by
 have:=SB.nI [] h (by simp) (fun i hi=>absurd hi (Nat.not_lt_zero i)) k
 rwa [SV.uG h.2.1] at this
@[simp] theorem Ko (h:Hp):HSub [] h↔True:=⟨fun _=>trivial,fun _=>HSub.nil h⟩
@[simp] theorem Kp (h:Hp) (n:Nat) (ob:Ob):HSub [(n,ob)] h↔lk h n=some ob:=by
 refine ⟨fun hs=>hs n ob (by simp [cg]),fun hs m jD hm=> ?_⟩
 rw [cg] at hm
 split at hm
 ·rename_i e;subst e;simp at hm;subst hm;exact hs
 ·cases hm
def av.zero:av:=⟨0,0,0,0,0,0,0,0⟩
theorem av.aH:[SV.d (.int .u32 0),.d (.int .u32 0),.d (.int .u32 0),.d (.int .u32 0),.d (.int .u32 0),.d (.int .u32 0),.d (.int .u32 0),.d (.int .u32 0)]=av.zero.cells:=rfl
@[simp] theorem av.aX (v:av):v.cells.take 8=v.cells:=rfl
theorem av.bE (u v:av):bW u.cells 0 v.cells=v.cells:=rfl
theorem av.FW (v:av){i:Nat}(h:i<8)(x:Nat):bW v.cells i [.d (.int .u32 (x:Int))]=(v.set i x).cells:=av.uE v h x
attribute [simp] av.kX av.jP av.an av.oZ
theorem av.ax (v:av)(ρ:Nat→Nat):SV.aK ρ v.cells=v.cells:=rfl
theorem av.CN (r:Nat):av.zero.get r=0:=by
 match r with
 | 0 | 1 | 2 | 3 | 4 | 5 | 6 | 7 | _+8=>rfl
def av.zip (f:Nat→Nat→Nat)(a b:av):av:=av.of fun r=>f (a.get r) (b.get r)
def av.upto (i:Nat)(a b:av):av:=av.of fun r=>if r<i then a.get r else b.get r
theorem av.A1 (a b:av):av.upto 0 a b=b:=av.ext' fun r hr=>by simp [av.upto,av.qI _ hr]
theorem av.CO (a b:av):av.upto 8 a b=a:=av.ext' fun r hr=>by simp [av.upto,av.qI _ hr,hr]
theorem av.A2 (a b:av){i:Nat}(h:i<8):(av.upto i a b).set i (a.get i)=av.upto (i+1) a b:=av.ext' fun r hr=>by
 simp only [av.set,av.upto,av.qI _ hr]
 by_cases e:r=i
 ·subst e;simp
 ·by_cases e2:r<i
  ·simp [e,e2,show r<i+1 by omega]
  ·simp [e,e2,show ¬ r<i+1 by omega]
@[simp] theorem Kq (l:List av):(l.flatMap av.ds).length=l.length*8:=dP av.ds 8 (fun _=>rfl) l
def av.all (op:Nat→Nat→Nat):List av→av
 | []=>av.zero
 | x::r=>r.foldl (av.zip op) x
theorem fu {α:Type}{l:List α}{i:Nat}{x:α}(h:l[i]? =some x):l.take (i+1)=l.take i++[x]:=by
 rw [List.take_add_one,h];rfl
theorem k9 {α:Type}{l:List α}{i:Nat}{x:α}(h:l[i]? =some x):i<l.length:=(List.getElem?_eq_some_iff.1 h).1
theorem bF {α:Type}{l:List α}{i:Nat}(h:i<l.length):∃ x,l[i]? =some x:=⟨_,List.getElem?_eq_getElem h⟩
abbrev FX (l:List av):SV:= .d (.sl l.length (l.flatMap av.ds))
theorem av.yV (a b:av):iE [true,true,true,true,true,true,true,true] a.cells b.cells=some (decide (a=b)):=av.qv a b
structure Dt where
 (r n:Nat)
 deriving DecidableEq
def Dt.ds (d:Dt):List DV:=[.int .u8 d.r,.int .u32 d.n]
def Dt.cells (d:Dt):List SV:=[u8 d.r,u32 d.n]
theorem Dt.oZ (d:Dt):d.ds.map .d=d.cells:=rfl
@[simp] theorem Dt.jP (d:Dt):d.ds.length=2:=rfl
@[simp] theorem Dt.kX (d:Dt):d.cells.length=2:=rfl
@[simp] theorem Dt.an (d:Dt) (q:Nat→Bool):SV.aA q d.cells=true:=rfl
theorem Dt.ax (d:Dt)(ρ:Nat→Nat):SV.aK ρ d.cells=d.cells:=rfl
@[simp] theorem Dt.aX (d:Dt):d.cells.take 2=d.cells:=rfl
theorem Dt.A3 (d:Dt):d.cells[0]? =some (u8 d.r):=rfl
theorem Dt.A4 (d:Dt):d.cells[1]? =some (u32 d.n):=rfl
theorem Dt.bE (c d:Dt):bW c.cells 0 d.cells=d.cells:=rfl
theorem Dt.aH:[SV.d (.int .u8 0),.d (.int .u32 0)]=(Dt.mk 0 0).cells:=rfl
theorem Dt.fI (c:Dt)(a b:Nat):bW (bW c.cells 0 [.d (.int .u8 (a:Int))]) 1 [.d (.int .u32 (b:Int))]=(Dt.mk a b).cells:=rfl
@[simp] theorem HG (cs:List SV) (o:Nat) (c:SV):(bW cs o [c]).length=cs.length:=by simp [bW]
theorem FY (cs:List SV)(o:Nat)(c:SV):bW cs o [c]=cs.set o c:=rfl
theorem Dt.cells_one (d:Dt):d.cells.all SV.dG=true:=rfl
theorem Dt.qv (a b:Dt):iE [true,true] a.cells b.cells=some (decide (a=b)):=by
 have h:iE [true,true] a.cells b.cells=some (((a.r:Int) == b.r) && (((a.n:Int) == b.n) && true)):=by simp [iE,Fq,Dt.cells]
 rw [h]
 congr 1
 obtain ⟨a0,a1⟩:=a;obtain ⟨b0,b1⟩:=b;rw [Bool.eq_iff_iff];simp;omega
def Dt.may (d:Dt):Bool:=decide (d.r<8) && decide (0<d.n)
def Dt.wf (d:Dt):Prop:=d.r<256∧d.n<4294967296
abbrev aY (l:List Dt):SV:= .d (.sl l.length (l.flatMap Dt.ds))
@[simp] theorem k_ (l:List Dt):(l.flatMap Dt.ds).length=l.length*2:=dP Dt.ds 2 (fun _=>rfl) l
theorem fS {l:List Dt}{i:Nat}{x:Dt}(h:l[i]? =some x):List.take 2 (List.drop (i*2) (List.map SV.d (l.flatMap Dt.ds)))=x.cells:=by
 rw [← List.map_drop,← List.map_take,nE Dt.ds 2 (fun _=>rfl) l i x h]
 rfl
section
variable {P:Program} {N k0:Nat} {st:St} {Q:Exit→St→Prop}
theorem SW.slot {c:bY}(t:Nat){s:SV}(s':SV)(hl:st.env.lookup t=some s)(hs:∀ (p:Nat→Prop) μ M v,Rp p μ M s v→Rp p μ M s' v)(h:SW P N k0 c ⟨(t,s')::st.env,st.hp,st.k⟩ Q):SW P N k0 c st Q:=by
 refine fun cc hc rd hrf cL M0 w0 c0 a w eV=>h cc hc rd hrf cL M0 w0 c0 a w ?_
 obtain ⟨mR,hdf,hsz,μ,M,fZ,hS,hE⟩:=eV;refine ⟨mR,hdf,hsz,μ,M,fun q x hq=> ?_,hS,hE⟩
 simp only [List.lookup] at hq
 split at hq
 ·rename_i e
  have e:q=t:=by simpa using e
  injection hq with hq;subst e;subst hq;exact hs _ _ _ _ (fZ q s hl)
 ·exact fZ q x hq
theorem nH (p:Nat→Prop)(μ:Nat→Nm)(M:Mem)(v:Value)(h:Rp p μ M (.d .aP) v):Rp p μ M (.d (.sl 0 [])) v:=Rp.cH.2 (Rp.cH.1 h).nH
theorem SW.aP {c:bY}(t:Nat)(hl:st.env.lookup t=some (.d .aP))(h:SW P N k0 c ⟨(t,.d (.sl 0 []))::st.env,st.hp,st.k⟩ Q):SW P N k0 c st Q:=SW.slot t _ hl nH h
end
end Go.Sl
namespace Go.Sl
section
namespace Co
def M (d s:Nat):SI:=⟨some d,.mv (.t s),none⟩
def G (d s g:Nat)(b:Bool):SI:=⟨some d,.mv (.t s),some (g,b)⟩
def J (d:Nat)(o:SO):SI:=⟨some d,o,none⟩
def H (d:Nat)(o:SO)(g:Nat)(b:Bool):SI:=⟨some d,o,some (g,b)⟩
def N (o:SO):SI:=⟨none,o,none⟩
def F (l:List SI)(n:Nat):bY:= .eM l (mF n) false
def C (f:FuncId):X:= .k (.fn (.func f) [] [])
def Z (n:Int):X:= .k (.d (.int .i64 n))
def B (b:Bool):X:= .k (.d (.bool b))
def b8 (n:Int):SV:= .d (.int .u8 n)
def ay (n:Int):SV:= .d (.int .u32 n)
def bU (n:Int):SV:= .d (.int .u64 n)
def i6 (n:Int):SV:= .d (.int .i64 n)
def z8:List SV:=[.d (.int .u32 0),.d (.int .u32 0),.d (.int .u32 0),.d (.int .u32 0),.d (.int .u32 0),.d (.int .u32 0),.d (.int .u32 0),.d (.int .u32 0)]
def cq:List SV:=[.d (.int .u8 0),.d (.int .u32 0),.d (.int .u32 0),.d (.int .u32 0),.d (.int .u32 0),.d (.int .u32 0),.d (.int .u32 0),.d (.int .u32 0),.d (.int .u32 0),.d (.int .u32 0),.d (.int .u64 0),.d (.int .u32 0),.d (.int .u8 0),.d (.int .u32 0),.d (.int .u8 0),.d (.int .u8 0),.d (.int .u32 0),.d (.int .u32 0),.d (.int .u8 0),.d (.int .u8 0),.d (.int .u64 0),.d (.int .u8 0),.d (.int .u32 0),.d (.int .u8 0),.d (.int .u32 0),.d (.int .u32 0),.d (.int .u32 0),.d (.int .u32 0),.d .aP]
end Co
def En (P:Program)(f:FuncId)(N:Nat)(s:bY)(rv:List RV):Prop:=
 ∀ {args:List SV} {F:Hp} {k nk:Nat} {Q:SV→Hp→Prop} (_:SV.aA (fun n=>decide (n<k)) args=true) (_:F.ok (fun n=>decide (n<k))=true) (_:args.length≤N)
  (_:SW P N k s ⟨kK 0 args,F,k⟩ fun e st'=>match e with | .normal=>Fin k nk rv Q st' | .ret=>Fin k nk rv Q st' | _=>False),SB P f args F k nk Q
theorem En.mk {P:Program}{f N:Nat}{fn:Func}{c:Code}{s:bY}{rv:List RV}(hf:P.funcs[f]? =some fn)(hN:fn.ntmps=N)(hb:fn.body=some c)(hc:cK P fn.ntmps c=some s)(hr:FT P fn.results.toList=some rv)(ha:jh P f=true):En P f N s rv:=by
 subst hN;intro args F k nk Q h1 h2 h3 h;exact SB.FU hf hb hc hr ha h1 h2 h3 h
end
section
def av.aU (v:av)(d:Dt):Bool:=d.may && decide (d.n≤v.get d.r)
theorem av.r7 (f:Nat→Nat→Nat)(a b:av){r:Nat}(h:r<8):(av.zip f a b).get r=f (a.get r) (b.get r):=by simp [av.zip,av.qI _ h]
def av.count (v:av):Nat:=v.a0+v.a1+v.a2+v.a3+v.a4+v.a5+v.a6+v.a7
theorem av.vG (a:av)(i x:Nat){r:Nat}(h:r<8):(a.set i x).get r=if r=i then x else a.get r:=by simp [av.set,av.qI _ h]
theorem wrap_u32 (n:Nat)(h:n<4294967296):IntKind.u32.wrap (n:Int)=n:=by
 simp [IntKind.wrap,IntKind.bits,IntKind.signed];omega
theorem wrap_u64 (n:Nat)(h:n<18446744073709551616):IntKind.u64.wrap (n:Int)=n:=by
 simp [IntKind.wrap,IntKind.bits,IntKind.signed];omega
theorem wrap_u8 (n:Nat)(h:n<256):IntKind.u8.wrap (n:Int)=n:=by
 simp [IntKind.wrap,IntKind.bits,IntKind.signed];omega
theorem av.qM (a b c d e f g h:SV)(r:List SV)(v:av):bW (a::b::c::d::e::f::g::h::r) 0 v.cells=v.cells++r:=rfl
theorem av.A5 (u v:av)(r:List SV):bW (u.cells++r) 8 v.cells=u.cells++bW r 0 v.cells:=rfl
theorem av.uH (u v:av)(r:List SV):bW (u.cells++r) 16 v.cells=u.cells++bW r 8 v.cells:=rfl
theorem av.uI (u v:av)(r:List SV):bW (u.cells++r) 24 v.cells=u.cells++bW r 16 v.cells:=rfl
theorem av.dQ (u:av)(r:List SV):eH (u.cells++r)=match eH r with | some x=>some (u.ds++x) | none=>none:=by
 cases h:eH r <;> simp [av.cells,eH,h,av.ds]
theorem av.dR (u:av):eH u.cells=some u.ds:=rfl
theorem Dt.qM (a b:SV)(r:List SV)(v:Dt):bW (a::b::r) 0 v.cells=v.cells++r:=rfl
theorem Dt.A6 (u v:Dt)(r:List SV):bW (u.cells++r) 2 v.cells=u.cells++bW r 0 v.cells:=rfl
theorem Dt.dQ (u:Dt)(r:List SV):eH (u.cells++r)=match eH r with | some x=>some (u.ds++x) | none=>none:=by
 cases h:eH r <;> simp [Dt.cells,eH,h,Dt.ds]
theorem Dt.dR (u:Dt):eH u.cells=some u.ds:=rfl
theorem nJ (l:List DV):(l.map SV.d).all SV.dG=true:=by simp [SV.dG]
def CP (r a c:Nat):List Dt:=(List.range c).map fun i=>⟨r,a+i⟩
@[simp] theorem IJ (r a c:Nat):(CP r a c).length=c:=by simp [CP]
theorem SV.jj (ρ:Nat→Nat):∀ (a b:List SV),SV.aK ρ (a++b)=SV.aK ρ a++SV.aK ρ b
 | [],b=>rfl
 | x::a,b=>by simp [SV.aK,SV.jj ρ a b]
theorem SV.jT (q:Nat→Bool):∀ (a b:List SV),SV.aA q (a++b)=(SV.aA q a && SV.aA q b)
 | [],b=>rfl
 | x::a,b=>by simp [SV.aA,SV.jT q a b,Bool.and_assoc]
theorem CQ {l:List av}{i r:Nat}{x:av}(h:l[i]? =some x)(hr:r<8):(List.map SV.d (l.flatMap av.ds))[i*8+r]? =some (u32 (x.get r)):=by
 rw [List.getElem?_map,pY av.ds 8 (fun _=>rfl) l i r x h hr,x.II hr]
 rfl
theorem CS {α:Type}{l m:List α}(hl:l.length=m.length)(h:∀ j,j<l.length→l[j]? =m[j]?):l=m:=by
 apply List.ext_getElem?;intro j
 by_cases hj:j<l.length
 ·exact h j hj
 ·rw [List.getElem?_eq_none (by omega),List.getElem?_eq_none (by omega)]
theorem av.vH (x:av):av.zip max av.zero x=x:=av.ext' fun r hr=>by rw [av.r7 _ _ _ hr,av.CN];omega
theorem av.z_ (l:List av):av.all max l=l.foldl (av.zip max) av.zero:=by
 cases l with
 | nil=>rfl
 | cons x l=>simp [av.all,av.vH]
theorem yW {α β:Type}(f:α→β→α)(z:α)(l:List β)(x:β):(l++[x]).foldl f z=f (l.foldl f z) x:=by simp
theorem av.tW (f:Nat→Nat→Nat)(a x:av){i:Nat}(h:i<8):(av.upto i (av.zip f a x) a).set i (f (a.get i) (x.get i))=av.upto (i+1) (av.zip f a x) a:=by
 rw [← av.A2 _ _ h,av.r7 _ _ _ h]
theorem av.CT (a b:av)(i:Nat){r:Nat}(h:r<8):(av.upto i a b).get r=if r<i then a.get r else b.get r:=by simp [av.upto,av.qI _ h]
theorem av.A7 (a b:av){i:Nat}(h:i<8):(av.upto i a b).get i=b.get i:=by simp [av.CT _ _ _ h]
theorem uJ:(false == true)=false:=rfl
theorem uK:(true == false)=false:=rfl
end
section
theorem iI (es:List (Nat×SV×SV))(c:Nat)(k v:SV):jA es c k v none= .map (es++[(c,k,v)]) (c+1):=rfl
theorem iJ (es:List (Nat×SV×SV))(c:Nat)(k v:SV)(i:Nat):jA es c k v (some i)= .map (es.modify i fun e=>(e.1,e.2.1,v)) c:=rfl
theorem iK (es:List (Nat×SV×SV))(c:Nat):wS es c none= .map es c:=rfl
theorem iL (es:List (Nat×SV×SV))(c i:Nat):wS es c (some i)= .map (es.eraseIdx i) c:=rfl
theorem iM (es:List (Nat×SV×SV))(z:SV):fO es z none=z:=rfl
theorem iN (es:List (Nat×SV×SV))(z:SV)(i:Nat):fO es z (some i)=match es[i]? with
 | some e=>e.2.2
 | none=>z:=rfl
section
variable {K V:Type} [DecidableEq K]
abbrev MM (K V:Type):=List (Nat×K×V)
def MM.idx (L:MM K V)(a:K):Option Nat:=L.findIdx? fun x=>decide (a=x.2.1)
def MM.get (L:MM K V)(a:K):Option V:=(L.find? fun x=>decide (a=x.2.1)).map (·.2.2)
def MM.has (L:MM K V)(a:K):Bool:=(MM.get L a).isSome
def MM.keys (L:MM K V):List K:=L.map (·.2.1)
def MM.put (L:MM K V)(c:Nat)(a:K)(v:V):MM K V:=match MM.idx L a with
 | some i=>L.modify i fun x=>(x.1,x.2.1,v)
 | none=>L++[(c,a,v)]
def MM.iw (L:MM K V)(c:Nat)(a:K):Nat:=if MM.has L a then c else c+1
def MM.del (L:MM K V)(a:K):MM K V:=match MM.idx L a with
 | some i=>L.eraseIdx i
 | none=>L
structure MM.wf (L:MM K V)(c:Nat):Prop where
 keys:(MM.keys L).Nodup
 times:(L.map (·.1)).Nodup
 old:∀ x,x∈L→x.1<c
theorem MM.jU {L:MM K V}{a:K}:MM.idx L a=none↔MM.get L a=none:=by
 unfold MM.idx MM.get
 induction L with
 | nil=>simp
 | cons x L ih=>
  simp only [List.findIdx?_cons,List.find?_cons]
  by_cases h:a=x.2.1
  ·simp [h]
  ·simp only [h,decide_false,Bool.false_eq_true,if_false,Option.map_eq_none_iff] at ih ⊢
   exact ih
theorem MM.eD {L:MM K V}{a:K}:(MM.idx L a).isSome=MM.has L a:=by
 unfold MM.has;rw [Bool.eq_iff_iff,Option.isSome_iff_ne_none,Option.isSome_iff_ne_none,ne_eq,ne_eq,MM.jU]
theorem MM.r8:∀ {L:MM K V} {a:K} {i:Nat},MM.idx L a=some i→∃ x,L[i]? =some x∧x.2.1=a∧MM.get L a=some x.2.2
 | [],a,i,h=>by simp [MM.idx] at h
 | x ::L,a,i,h=>by
  unfold MM.idx at h;unfold MM.get;simp only [List.findIdx?_cons,List.find?_cons] at h ⊢
  by_cases e:a=x.2.1
  ·simp only [e,decide_true,if_true] at h ⊢
   injection h with h;subst h;exact ⟨x,rfl,rfl,rfl⟩
  ·simp only [e,decide_false,Bool.false_eq_true,if_false,Option.map_eq_some_iff] at h ⊢
   obtain ⟨j,hj,rfl⟩:=h;obtain ⟨y,h1,h2,h3⟩:=MM.r8 (L:=L) (a:=a) (i:=j) hj;exact ⟨y,by simpa using h1,h2,by simpa [MM.get] using h3⟩
theorem MM.get_mem:∀ {L:MM K V} {a:K} {v:V},MM.get L a=some v→∃ t,(t,a,v)∈L
 | [],a,v,h=>by simp [MM.get] at h
 | x ::L,a,v,h=>by
  unfold MM.get at h;simp only [List.find?_cons] at h
  by_cases e:a=x.2.1
  ·simp only [e,decide_true,Option.map_some,Option.some.injEq] at h
   refine ⟨x.1,?_⟩;subst h;rw [e];simp
  ·simp only [e,decide_false] at h
   obtain ⟨t,ht⟩:=MM.get_mem (L:=L) (a:=a) (v:=v) h;exact ⟨t,by simp [ht]⟩
theorem MM.gD {L:MM K V}{a:K}:MM.has L a=true↔a∈MM.keys L:=by
 unfold MM.has MM.get MM.keys
 induction L with
 | nil=>simp
 | cons x L ih=>
  simp only [List.find?_cons,List.map_cons,List.mem_cons]
  by_cases e:a=x.2.1
  ·simp [e]
  ·simp only [e,decide_false,false_or];exact ih
theorem MM.get_of_mem:∀ {L:MM K V} (h:(MM.keys L).Nodup) {t:Nat} {a:K} {v:V},(t,a,v)∈L→MM.get L a=some v
 | [],_,t,a,v,h=>by cases h
 | x ::L,hn,t,a,v,h=>by
  unfold MM.get;simp only [MM.keys,List.map_cons,List.nodup_cons] at hn;simp only [List.find?_cons];rcases List.mem_cons.1 h with rfl | h
  ·simp
  ·have:a≠x.2.1:=fun e=>hn.1 (by rw [← e];exact List.mem_map.2 ⟨_,h,rfl⟩)
   simp only [this,decide_false];exact MM.get_of_mem (L:=L) hn.2 h
theorem MM.p0 {L:MM K V}{c:Nat}{a:K}{v:V}:MM.keys (MM.put L c a v)=if MM.has L a then MM.keys L else MM.keys L++[a]:=by
 unfold MM.put;rw [← MM.eD]
 split
 ·rename_i i h
  rw [h];simp only [Option.isSome_some,if_true,MM.keys];apply List.ext_getElem?;intro j;simp only [List.getElem?_map,List.getElem?_modify];cases L[j]? with
  | none=>simp
  | some x=>by_cases e:i=j <;> simp [e]
 ·rename_i h
  rw [h];simp [MM.keys]
theorem MM.uL {L:MM K V}{c:Nat}{a:K}{v:V}:(MM.put L c a v).map (·.1)=if MM.has L a then L.map (·.1) else L.map (·.1)++[c]:=by
 unfold MM.put;rw [← MM.eD]
 split
 ·rename_i i h
  rw [h];simp only [Option.isSome_some,if_true];apply List.ext_getElem?;intro j;simp only [List.getElem?_map,List.getElem?_modify];cases L[j]? with
  | none=>simp
  | some x=>by_cases e:i=j <;> simp [e]
 ·rename_i h
  rw [h];simp
theorem MM.Aa {L:MM K V}{c:Nat}{a b:K}{v:V}:MM.has (MM.put L c a v) b=(decide (b=a) || MM.has L b):=by
 rw [Bool.eq_iff_iff,MM.gD,MM.p0]
 split
 ·rename_i h
  simp only [Bool.or_eq_true,decide_eq_true_eq,MM.gD];refine ⟨.inr,fun h'=> ?_⟩
  rcases h' with rfl | h'
  ·exact MM.gD.1 h
  ·exact h'
 ·simp only [List.mem_append,List.mem_singleton,Bool.or_eq_true,decide_eq_true_eq,MM.gD]
  exact Or.comm
theorem MM.cQ {L:MM K V}{c:Nat}{a b:K}{v:V}:MM.get (MM.put L c a v) b=if b=a then some v else MM.get L b:=by
 unfold MM.put
 split
 ·rename_i i h
  revert i h
  induction L with
  | nil=>intro i h;simp [MM.idx] at h
  | cons x L ih=>
   intro i h;unfold MM.idx at h;simp only [List.findIdx?_cons] at h
   by_cases e:a=x.2.1
   ·simp only [e,decide_true,if_true] at h
    injection h with h;subst h;simp only [MM.get,List.modify_zero_cons,List.find?_cons]
    by_cases eb:b=x.2.1
    ·simp [eb,e]
    ·simp [eb,e]
   ·simp only [e,decide_false,Bool.false_eq_true,if_false,Option.map_eq_some_iff] at h
    obtain ⟨j,hj,rfl⟩:=h;have:=ih j hj;simp only [MM.get,List.modify_succ_cons,List.find?_cons] at this ⊢
    by_cases eb:b=x.2.1
    ·simp only [eb,decide_true]
     rw [if_neg (fun h=>e h.symm)]
    ·simp only [eb,decide_false]
     exact this
 ·rename_i h
  have hn:=MM.jU.1 h;unfold MM.get at hn ⊢;rw [List.find?_append]
  by_cases eb:b=a
  ·subst eb
   have:List.find? (fun x=>decide (b=x.2.1)) L=none:=by simpa using hn
   rw [this];simp
  ·simp only [List.find?_cons,eb,decide_false,List.find?_nil,Option.or_none,if_false]
theorem MM.iO {L:MM K V}{c:Nat}(h:MM.wf L c)(a:K)(v:V):MM.wf (MM.put L c a v) (MM.iw L c a):=by
 refine ⟨?_,?_,fun x hx=> ?_⟩
 ·rw [MM.p0]
  split
  ·exact h.keys
  ·rename_i hh
   rw [List.nodup_append];refine ⟨h.keys,by simp,fun x hx y hy=> ?_⟩
   simp only [List.mem_singleton] at hy;subst hy;intro e;subst e;exact hh (MM.gD.2 hx)
 ·rw [MM.uL]
  split
  ·exact h.times
  ·rw [List.nodup_append]
   refine ⟨h.times,by simp,fun x hx y hy=> ?_⟩
   simp only [List.mem_singleton] at hy;obtain ⟨z,hz,rfl⟩:=List.mem_map.1 hx;have:=h.old z hz;omega
 ·have hm:x.1∈(MM.put L c a v).map (·.1):=List.mem_map.2 ⟨x,hx,rfl⟩
  rw [MM.uL] at hm;unfold MM.iw
  split at hm
  ·rename_i hh
   obtain ⟨z,hz,e⟩:=List.mem_map.1 hm;rw [if_pos hh,← e];exact h.old z hz
  ·rename_i hh
   rw [if_neg hh];rcases List.mem_append.1 hm with hm | hm
   ·obtain ⟨z,hz,e⟩:=List.mem_map.1 hm
    have:=h.old z hz;omega
   ·simp only [List.mem_singleton] at hm
    omega
theorem MM.jV:MM.wf ([]:MM K V) 0:=⟨by simp [MM.keys],by simp,by simp⟩
theorem MM.qN {L:MM K V}(h:(L.map (·.1)).Nodup){x:Nat×K×V}(hx:x∈L):L.find? (fun y=>y.1 == x.1)=some x:=by
 induction L with
 | nil=>cases hx
 | cons y L ih=>
  simp only [List.map_cons,List.nodup_cons] at h;simp only [List.find?_cons];rcases List.mem_cons.1 hx with rfl | hx
  ·simp
  ·have:y.1≠x.1:=fun e=>h.1 (by rw [e];exact List.mem_map.2 ⟨x,hx,rfl⟩)
   rw [show (y.1 == x.1)=false by simpa using this]
   exact ih h.2 hx
theorem uM {α β:Type}(f:α→β):∀ (l:List α) (i:Nat),(l.map f).eraseIdx i=(l.eraseIdx i).map f
 | [],i=>by simp
 | x::l,0=>by simp
 | x::l,i+1=>by simp [uM f l i]
theorem MM.p_ {L:MM K V}(h:(L.map (·.1)).Nodup){x y:Nat×K×V}(hx:x∈L)(hy:y∈L)(e:x.1=y.1):x=y:=by
 have h1:=MM.qN h hx;have h2:=MM.qN h hy;rw [e,h2] at h1;exact (Option.some.inj h1).symm
def ai (kc:K→List SV)(vs:V→SV)(L:MM K V):List (Nat×SV×SV):=L.map fun x=>(x.1,SV.agg (kc x.2.1),vs x.2.2)
variable {kc:K→List SV} {vs:V→SV}
theorem qO {ks:List Bool}(heq:∀ a b,iE ks (kc a) (kc b)=some (decide (a=b)))(a:K):∀ (L:MM K V) (i:Nat),gX ks true (.agg (kc a)) (ai kc vs L) i=some ((MM.idx L a).map (· +i))
 | [],i=>by simp [ai,gX,MM.idx]
 | x ::L,i=>by
  have ih:=qO heq a L (i+1);have hk:gW ks true (.agg (kc x.2.1))=true:=by simp [gW,kF,SV.cells,heq]
  unfold ai at ih ⊢;simp only [List.map_cons,gX,hk,if_true,SV.cells,heq];unfold MM.idx at ih ⊢;simp only [List.findIdx?_cons]
  by_cases e:a=x.2.1
  ·simp [e]
  ·simp only [e,decide_false,Bool.false_eq_true,if_false]
   rw [ih];cases List.findIdx? (fun x=>decide (a=x.2.1)) L with
   | none=>rfl
   | some j=>simp;omega
theorem nL (d:Dt)(vs:V→SV)(L:MM Dt V):gX [true,true] true (.agg d.cells) (ai Dt.cells vs L) 0=some (MM.idx L d):=by
 rw [qO Dt.qv d L 0];cases MM.idx L d <;> rfl
theorem nM (d:av)(vs:V→SV)(L:MM av V):gX [true,true,true,true,true,true,true,true] true (.agg d.cells) (ai av.cells vs L) 0=some (MM.idx L d):=by
 rw [qO av.yV d L 0];cases MM.idx L d <;> rfl
theorem gQ (z:V)(L:MM K V)(a:K):fO (ai kc vs L) (vs z) (MM.idx L a)=vs ((MM.get L a).getD z):=by
 cases h:MM.idx L a with
 | none=>rw [MM.jU.1 h];rfl
 | some i=>
  obtain ⟨x,h1,h2,h3⟩:=MM.r8 h;rw [h3];simp [fO,ai,h1]
def iv (n:Int):SV:= .d (.int .i64 n)
theorem jW (L:MM K Int)(a:K):fO (ai kc iv L) (.d (.int .i64 0)) (MM.idx L a)= .d (.int .i64 ((MM.get L a).getD 0)):=gQ (vs:=iv) 0 L a
theorem iP (L:MM K V)(c:Nat)(a:K)(v:V):jA (ai kc vs L) c (.agg (kc a)) (vs v) (MM.idx L a)= .map (ai kc vs (MM.put L c a v)) (MM.iw L c a):=by
 unfold MM.put MM.iw;rw [← MM.eD];cases h:MM.idx L a with
 | none=>simp [jA,ai]
 | some i=>
  simp only [jA,Option.isSome_some,if_true,Ob.map.injEq,and_true,ai];apply List.ext_getElem?;intro j;simp only [List.getElem?_map,List.getElem?_modify];cases L[j]? with
  | none=>simp
  | some x=>by_cases e:i=j <;> simp [e]
theorem jX (L:MM K Int)(c:Nat)(a:K)(n:Int):jA (ai kc iv L) c (.agg (kc a)) (.d (.int .i64 n)) (MM.idx L a)= .map (ai kc iv (MM.put L c a n)) (MM.iw L c a):=iP (vs:=iv) L c a n
def MM.vI (L:MM K V)(c:Nat)(a:K)(z:V):MM K V:=match MM.idx L a with
 | some _=>L
 | none=>L++[(c,a,z)]
def MM.Kr (L:MM K V)(c:Nat)(a:K):Nat:=match MM.idx L a with
 | some i=>((L[i]?).map (·.1)).getD 0
 | none=>c
def MM.pos (L:MM K V)(a:K):Nat:=(MM.idx L a).getD L.length
theorem o7 (L:MM K V)(c:Nat)(a:K):wT (ai kc vs L) c (MM.idx L a)=MM.Kr L c a:=by
 unfold MM.Kr;cases h:MM.idx L a with
 | none=>rfl
 | some i=>
  simp only [wT,ai,List.getElem?_map];cases L[i]? <;> rfl
theorem sS (L:MM K V)(c:Nat)(a:K)(z:V):pJ (ai kc vs L) c (.agg (kc a)) (vs z) (MM.idx L a)= .map (ai kc vs (MM.vI L c a z)) (MM.iw L c a):=by
 unfold MM.vI MM.iw;rw [← MM.eD];cases h:MM.idx L a with
 | none=>simp [pJ,ai]
 | some i=>simp [pJ]
theorem r9 {L:MM K V}{c:Nat}(hw:MM.wf L c)(a:K)(z:V):(ai kc vs (MM.vI L c a z)).findIdx? (fun e=>(e.1:Int) == ((MM.Kr L c a:Nat):Int))=some (MM.pos L a):=by
 unfold MM.vI MM.Kr MM.pos;have key:∀ (l:MM K V) (i:Nat) (x:Nat×K×V),(l.map (·.1)).Nodup→l[i]? =some x→(ai kc vs l).findIdx? (fun e=>(e.1:Int) == ((x.1:Nat):Int))=some i:=by
  intro l
  induction l with
  | nil=>intro i x _ h;simp at h
  | cons y l ih=>
   intro i x hn h;rw [List.map_cons,List.nodup_cons] at hn;simp only [ai,List.map_cons,List.findIdx?_cons];cases i with
   | zero=>simp at h;subst h;simp
   | succ i=>
    simp at h;have hne:((y.1:Int) == (x.1:Int))=false:=by
     have:y.1≠x.1:=fun e=>hn.1 (by rw [e];exact List.mem_map.2 ⟨x,List.mem_of_getElem? h,rfl⟩)
     simpa using fun h:(y.1:Int)=x.1=>this (by omega)
    rw [hne];have:=ih i x hn.2 h;simp only [ai] at this;simp [this]
 cases h:MM.idx L a with
 | none=>
  refine key (L++[(c,a,z)]) L.length (c,a,z) ?_ (by simp)
  rw [List.map_append,List.nodup_append];refine ⟨hw.times,by simp,fun x hx y hy e=> ?_⟩
  simp at hy;obtain ⟨q,hq,rfl⟩:=List.mem_map.1 hx;have:=hw.old q hq;omega
 | some i=>
  obtain ⟨x,h1,_⟩:=MM.r8 h;simp only [h1,Option.map_some,Option.getD_some];exact key L i x hw.times h1
theorem jH (L:MM K V)(c:Nat)(a:K)(z v:V):(ai kc vs (MM.vI L c a z)).modify (MM.pos L a) (fun e=>(e.1,e.2.1,vs v))=ai kc vs (MM.put L c a v):=by
 unfold MM.vI MM.pos MM.put;have key:∀ (l:MM K V) (i:Nat),(ai kc vs l).modify i (fun e=>(e.1,e.2.1,vs v))=ai kc vs (l.modify i fun x=>(x.1,x.2.1,v)):=fun l i=>by
  unfold ai;apply List.ext_getElem?;intro j;simp only [List.getElem?_map,List.getElem?_modify];cases l[j]? with
  | none=>simp
  | some x=>by_cases e:i=j <;> simp [e]
 cases h:MM.idx L a with
 | none=>
  simp only [Option.getD_none];rw [key]
  congr 1
  apply List.ext_getElem?;intro j;simp only [List.getElem?_modify,List.getElem?_append]
  by_cases h1:j<L.length
  ·simp [h1,show ¬ L.length=j by omega]
  ·simp only [h1,if_false]
   by_cases h2:L.length=j
   ·subst h2;simp
   ·simp [show ¬ j - L.length=0 by omega,show j - L.length≠0 by omega]
 | some i=>exact key L i
theorem jI (L:MM K V)(c:Nat)(a:K):wS (ai kc vs L) c (MM.idx L a)= .map (ai kc vs (MM.del L a)) c:=by
 unfold MM.del;cases h:MM.idx L a with
 | none=>rfl
 | some i=>simp only [wS,ai,uM]
theorem lg (L:MM K V):(ai kc vs L).length=L.length:=by simp [ai]
theorem fc {L:MM K V}{e:Nat×SV×SV}(h:e∈ai kc vs L):∃ x,x∈L∧e=(x.1,SV.agg (kc x.2.1),vs x.2.2):=by
 obtain ⟨x,hx,rfl⟩:=List.mem_map.1 h;exact ⟨x,hx,rfl⟩
theorem lp {L:MM K V}(h:(L.map (·.1)).Nodup){x:Nat×K×V}(hx:x∈L):(ai kc vs L).find? (fun e=>e.1 == x.1)=some (x.1,SV.agg (kc x.2.1),vs x.2.2):=by
 unfold ai;rw [List.find?_map];have:=MM.qN h hx;simp only [Function.comp_def,this,Option.map_some]
theorem jY (ρ:Nat→Nat)(L:MM K V)(hk:∀ a,SV.aK ρ (kc a)=kc a)(hv:∀ v,(vs v).aB ρ=vs v):(ai kc vs L).map (fun e=>(e.1,e.2.1.aB ρ,e.2.2.aB ρ))=ai kc vs L:=by
 unfold ai;rw [List.map_map];refine List.map_congr_left fun x _=> ?_
 simp [SV.aB,hk,hv]
theorem me (q:Nat→Bool)(L:MM K V)(hk:∀ a,SV.aA q (kc a)=true)(hv:∀ v,(vs v).ok q=true):((ai kc vs L).all fun e=>e.2.1.ok q && e.2.2.ok q)=true:=by
 unfold ai;simp [SV.ok,hk,hv]
end
theorem CU (ρ:Nat→Nat)(n:Int):(iv n).aB ρ=iv n:=rfl
theorem HH (q:Nat→Bool)(n:Int):(iv n).ok q=true:=rfl
abbrev js:=MM Dt Int
theorem bV (ρ:Nat→Nat)(L:js):(ai Dt.cells iv L).map (fun e=>(e.1,e.2.1.aB ρ,e.2.2.aB ρ))=ai Dt.cells iv L:=jY ρ L (fun a=>Dt.ax a ρ) (CU ρ)
theorem bw (q:Nat→Bool)(L:js):((ai Dt.cells iv L).all fun e=>e.2.1.ok q && e.2.2.ok q)=true:=me q L (fun a=>Dt.an a q) (HH q)
theorem sU (ρ:Nat→Nat)(L:MM av Int):(ai av.cells iv L).map (fun e=>(e.1,e.2.1.aB ρ,e.2.2.aB ρ))=ai av.cells iv L:=jY ρ L (fun a=>av.ax a ρ) (CU ρ)
theorem vJ (q:Nat→Bool)(L:MM av Int):((ai av.cells iv L).all fun e=>e.2.1.ok q && e.2.2.ok q)=true:=me q L (fun a=>av.an a q) (HH q)
end
end Go.Sl
namespace Go.Sl
open Go.RowKit
section
structure ag where
 dot:Dt
 dep:av
 time:Nat
 who:Nat
 aR:Dt
 kind:Nat
 br:Dt
 to:Nat
 bn:Nat
 depth:Nat
 cap:Nat
 at_:Dt
 nN:Dt
 item:Nat
 IK:Nat
 xo:Nat
 lines:DV
def ag.ds (o:ag):List DV:=
 .int .u8 o.dot.r:: .int .u32 o.dot.n::(o.dep.ds++(.int .u64 o.time:: .int .u32 o.who:: .int .u8 o.aR.r:: .int .u32 o.aR.n:: .int .u8 o.kind:: .int .u8 o.br.r:: .int .u32 o.br.n:: .int .u32 o.to:: .int .u8 o.bn:: .int .u8 o.depth:: .int .u64 o.cap::
  .int .u8 o.at_.r:: .int .u32 o.at_.n:: .int .u8 o.nN.r:: .int .u32 o.nN.n:: .int .u32 o.item:: .int .u32 o.IK:: .int .u32 o.xo::[o.lines]))
def ag.cells (o:ag):List SV:=o.ds.map .d
@[simp] theorem ag.jP (o:ag):o.ds.length=29:=rfl
@[simp] theorem ag.kX (o:ag):o.cells.length=29:=rfl
@[simp] theorem ag.an (o:ag) (q:Nat→Bool):SV.aA q o.cells=true:=SV.aT _
@[simp] theorem ag.ax (o:ag) (ρ:Nat→Nat):SV.aK ρ o.cells=o.cells:=SV.fP _
theorem ag.cells_one (o:ag):o.cells.all SV.dG=true:=by simp [ag.cells,SV.dG]
@[simp] theorem ag.aX (o:ag):o.cells.take 29=o.cells:=rfl
theorem ag.lu (o:ag):o.cells.take 2=o.dot.cells:=rfl
theorem ag.A8 (o:ag):(o.cells.drop 2).take 8=o.dep.cells:=rfl
theorem ag.uN (o:ag):o.cells[10]? =some (u64 o.time):=rfl
theorem ag.A9 (o:ag):o.cells[11]? =some (u32 o.who):=rfl
theorem ag.lz (o:ag):(o.cells.drop 12).take 2=o.aR.cells:=rfl
theorem ag.uO (o:ag):o.cells[14]? =some (u8 o.kind):=rfl
theorem ag.uP (o:ag):(o.cells.drop 15).take 2=o.br.cells:=rfl
theorem ag.JU (o:ag):o.cells[17]? =some (u32 o.to):=rfl
theorem ag.iQ (o:ag):o.cells[18]? =some (u8 o.bn):=rfl
theorem ag.iR (o:ag):o.cells[19]? =some (u8 o.depth):=rfl
theorem ag.qP (o:ag):o.cells[20]? =some (u64 o.cap):=rfl
theorem ag.JV (o:ag):(o.cells.drop 21).take 2=o.at_.cells:=rfl
theorem ag.A_ (o:ag):(o.cells.drop 23).take 2=o.nN.cells:=rfl
theorem ag.uQ (o:ag):o.cells[25]? =some (u32 o.item):=rfl
theorem ag.Ba (o:ag):o.cells[26]? =some (u32 o.IK):=rfl
theorem ag.qQ (o:ag):o.cells[27]? =some (u32 o.xo):=rfl
theorem ag.qR (o:ag):o.cells[28]? =some (.d o.lines):=rfl
theorem ag.uR (o:ag):o.cells[0]? =some (u8 o.dot.r):=rfl
theorem ag.uS (o:ag):o.cells[1]? =some (u32 o.dot.n):=rfl
theorem ag.bE (c o:ag):bW c.cells 0 o.cells=o.cells:=rfl
def ag.before (a b:ag):Bool:=b.dep.aU a.dot
abbrev Fw:List SV:=[.d (.int .u8 0),.d (.int .u32 0),.d (.int .u32 0),.d (.int .u32 0),.d (.int .u32 0),.d (.int .u32 0),.d (.int .u32 0),.d (.int .u32 0),.d (.int .u32 0),.d (.int .u32 0),.d (.int .u64 0),.d (.int .u32 0),.d (.int .u8 0),.d (.int .u32 0),.d (.int .u8 0),
 .d (.int .u8 0),.d (.int .u32 0),.d (.int .u32 0),.d (.int .u8 0),.d (.int .u8 0),.d (.int .u64 0),.d (.int .u8 0),.d (.int .u32 0),.d (.int .u8 0),.d (.int .u32 0),.d (.int .u32 0),.d (.int .u32 0),.d (.int .u32 0),.d .aP]
def ag.zero:ag:=⟨⟨0,0⟩,av.zero,0,0,⟨0,0⟩,0,⟨0,0⟩,0,0,0,0,⟨0,0⟩,⟨0,0⟩,0,0,0,.aP⟩
theorem ag.aH:([.d (.int .u8 0),.d (.int .u32 0),.d (.int .u32 0),.d (.int .u32 0),.d (.int .u32 0),.d (.int .u32 0),.d (.int .u32 0),.d (.int .u32 0),.d (.int .u32 0),.d (.int .u32 0),.d (.int .u64 0),.d (.int .u32 0),.d (.int .u8 0),.d (.int .u32 0),.d (.int .u8 0),
 .d (.int .u8 0),.d (.int .u32 0),.d (.int .u32 0),.d (.int .u8 0),.d (.int .u8 0),.d (.int .u64 0),.d (.int .u8 0),.d (.int .u32 0),.d (.int .u8 0),.d (.int .u32 0),.d (.int .u32 0),.d (.int .u32 0),.d (.int .u32 0),.d .aP]:List SV)=ag.zero.cells:=rfl
abbrev ops (l:List ag):SV:= .d (.sl l.length (l.flatMap ag.ds))
abbrev jb (l:List ag):List SV:=List.map SV.d (l.flatMap ag.ds)
@[simp] theorem gY (l:List ag):(l.flatMap ag.ds).length=l.length*29:=dP ag.ds 29 (fun _=>rfl) l
theorem xq {l:List ag}{i:Nat}{x:ag}(h:l[i]? =some x):List.take 29 (List.drop (i*29) (List.map SV.d (l.flatMap ag.ds)))=x.cells:=by
 rw [← List.map_drop,← List.map_take,nE ag.ds 29 (fun _=>rfl) l i x h]
 rfl
theorem yX {l:List ag}{i:Nat}{x:ag}(h:l[i]? =some x){j:Nat}(hj:j<29):(List.map SV.d (l.flatMap ag.ds))[i*29+j]? =x.cells[j]? :=by
 rw [List.getElem?_map,pY ag.ds 29 (fun _=>rfl) l i j x h hj,ag.cells,List.getElem?_map]
theorem FZ {l:List ag}{i:Nat}{x:ag}(h:l[i]? =some x){j n:Nat}(hj:j+n≤29):List.take n (List.drop (i*29+j) (List.map SV.d (l.flatMap ag.ds)))=(x.cells.drop j).take n:=by
 rw [← xq h,List.drop_take,List.drop_drop,List.take_take,Nat.min_eq_left (by omega)]
theorem qa {l:List ag}{i:Nat}{x:ag}(h:l[i]? =some x):(i*29+29≤(List.map SV.d (l.flatMap ag.ds)).length)=True:=eq_true (by
 have:=k9 h;rw [List.length_map,gY];omega)
theorem Ab {α:Type}(f:α→List DV)(sz:Nat)(hs:0<sz)(hf:∀ x,(f x).length=sz)(l:List α)(i:Nat)(x:α)(h:i<l.length):bW (List.map SV.d (l.flatMap f)) (i*sz) ((f x).map .d)=List.map SV.d ((l.set i x).flatMap f):=by
 have hl:=dP f sz hf l;have hle:i*sz+sz≤l.length*sz:=by rw [← Nat.succ_mul];exact Nat.mul_le_mul_right sz h
 rw [oR (by rw [List.length_map,List.length_map,hf,hl];exact hle)]
 rw [List.length_map,hf,← List.map_take,← List.map_drop,← List.map_append,← List.map_append]
 congr 1
 induction l generalizing i with
 | nil=>simp at h
 | cons y l ih=>
  cases i with
  | zero=>
   simp [hf,List.drop_append,List.drop_of_length_le (Nat.le_of_eq (hf y))]
  | succ i=>
   have:=ih i (by simpa using h) (dP f sz hf l) (by
    have h2:i<l.length:=by simpa using h
    rw [← Nat.succ_mul];exact Nat.mul_le_mul_right sz h2)
   rw [Nat.succ_mul];simp only [List.flatMap_cons,List.set_cons_succ];rw [List.take_append,List.drop_append,hf,List.take_of_length_le (by rw [hf];omega),List.drop_of_length_le (by rw [hf];omega)]
   rw [show i*sz+sz - sz=i*sz by omega,show i*sz+sz+sz - sz=i*sz+sz by omega,← this]
   simp
theorem IL {l:List ag}{i:Nat}(x:ag)(h:i<l.length):bW (List.map SV.d (l.flatMap ag.ds)) (i*29) x.cells=List.map SV.d ((l.set i x).flatMap ag.ds):=Ab ag.ds 29 (by omega) (fun _=>rfl) l i x h
structure Cr where
 dot:Dt
 aR:Dt
 par:Dt
 hold:Nat
 bn:Nat
 depth:Nat
 cap:Nat
 level:Int
 deriving DecidableEq
def Cr.ds (o:Cr):List DV:=[.int .u8 o.dot.r,.int .u32 o.dot.n,.int .u8 o.aR.r,.int .u32 o.aR.n,.int .u8 o.par.r,.int .u32 o.par.n,.int .u32 o.hold,.int .u8 o.bn,.int .u8 o.depth,.int .u64 o.cap,.int .i64 o.level]
def Cr.cells (o:Cr):List SV:=o.ds.map .d
@[simp] theorem Cr.jP (o:Cr):o.ds.length=11:=rfl
@[simp] theorem Cr.kX (o:Cr):o.cells.length=11:=rfl
@[simp] theorem Cr.an (o:Cr) (q:Nat→Bool):SV.aA q o.cells=true:=SV.aT _
@[simp] theorem Cr.ax (o:Cr) (ρ:Nat→Nat):SV.aK ρ o.cells=o.cells:=SV.fP _
theorem Cr.cells_one (o:Cr):o.cells.all SV.dG=true:=rfl
@[simp] theorem Cr.aX (o:Cr):o.cells.take 11=o.cells:=rfl
theorem Cr.lu (o:Cr):o.cells.take 2=o.dot.cells:=rfl
theorem Cr.lz (o:Cr):(o.cells.drop 2).take 2=o.aR.cells:=rfl
theorem Cr.Bb (o:Cr):(o.cells.drop 4).take 2=o.par.cells:=rfl
theorem Cr.uT (o:Cr):o.cells[6]? =some (u32 o.hold):=rfl
theorem Cr.iQ (o:Cr):o.cells[7]? =some (u8 o.bn):=rfl
theorem Cr.iR (o:Cr):o.cells[8]? =some (u8 o.depth):=rfl
theorem Cr.qP (o:Cr):o.cells[9]? =some (u64 o.cap):=rfl
theorem Cr.qS (o:Cr):o.cells[10]? =some (i64 o.level):=rfl
theorem Cr.bE (c o:Cr):bW c.cells 0 o.cells=o.cells:=rfl
def Cr.zero:Cr:=⟨⟨0,0⟩,⟨0,0⟩,⟨0,0⟩,0,0,0,0,0⟩
theorem Cr.aH:([.d (.int .u8 0),.d (.int .u32 0),.d (.int .u8 0),.d (.int .u32 0),.d (.int .u8 0),.d (.int .u32 0),.d (.int .u32 0),.d (.int .u8 0),.d (.int .u8 0),.d (.int .u64 0),.d (.int .i64 0)]:List SV)=Cr.zero.cells:=rfl
theorem Cr.qv (a b:Cr):iE [true,true,true,true,true,true,true,true,true,true,true] a.cells b.cells=some (decide (a=b)):=by
 have h:iE [true,true,true,true,true,true,true,true,true,true,true] a.cells b.cells=some (((a.dot.r:Int) == b.dot.r) && (((a.dot.n:Int) == b.dot.n) && (((a.aR.r:Int) == b.aR.r) && (((a.aR.n:Int) == b.aR.n) && (((a.par.r:Int) == b.par.r) && (((a.par.n:Int) == b.par.n) &&
   (((a.hold:Int) == b.hold) && (((a.bn:Int) == b.bn) && (((a.depth:Int) == b.depth) && (((a.cap:Int) == b.cap) && ((a.level == b.level) && true))))))))))):=by simp [iE,Fq,Cr.cells,Cr.ds]
 rw [h]
 congr 1
 obtain ⟨⟨a0,a1⟩,⟨a2,a3⟩,⟨a4,a5⟩,a6,a7,a8,a9,a10⟩:=a;obtain ⟨⟨b0,b1⟩,⟨b2,b3⟩,⟨b4,b5⟩,b6,b7,b8,b9,b10⟩:=b;rw [Bool.eq_iff_iff];simp;omega
abbrev dx (l:List Cr):SV:= .d (.sl l.length (l.flatMap Cr.ds))
@[simp] theorem Lz (l:List Cr):(l.flatMap Cr.ds).length=l.length*11:=dP Cr.ds 11 (fun _=>rfl) l
def ov (o:ag):SV:= .agg o.cells
def cv (o:Cr):SV:= .agg o.cells
section
variable {K:Type} [DecidableEq K] {kc:K→List SV}
theorem nO (L:MM K ag)(a:K):fO (ai kc ov L) (.agg ag.zero.cells) (MM.idx L a)= .agg ((MM.get L a).getD ag.zero).cells:=gQ (vs:=ov) ag.zero L a
theorem nP (L:MM K Cr)(a:K):fO (ai kc cv L) (.agg Cr.zero.cells) (MM.idx L a)= .agg ((MM.get L a).getD Cr.zero).cells:=gQ (vs:=cv) Cr.zero L a
theorem nQ (L:MM K ag)(c:Nat)(a:K):pJ (ai kc ov L) c (.agg (kc a)) (.agg ag.zero.cells) (MM.idx L a)= .map (ai kc ov (MM.vI L c a ag.zero)) (MM.iw L c a):=sS (vs:=ov) L c a ag.zero
theorem nR (L:MM K Cr)(c:Nat)(a:K):pJ (ai kc cv L) c (.agg (kc a)) (.agg Cr.zero.cells) (MM.idx L a)= .map (ai kc cv (MM.vI L c a Cr.zero)) (MM.iw L c a):=sS (vs:=cv) L c a Cr.zero
theorem nS (L:MM K Int)(c:Nat)(a:K):pJ (ai kc iv L) c (.agg (kc a)) (.d (.int .i64 0)) (MM.idx L a)= .map (ai kc iv (MM.vI L c a 0)) (MM.iw L c a):=sS (vs:=iv) L c a 0
theorem nT (L:MM K ag)(c:Nat)(a:K)(z v:ag):(ai kc ov (MM.vI L c a z)).modify (MM.pos L a) (fun e=>(e.1,e.2.1,.agg v.cells))=ai kc ov (MM.put L c a v):=jH (vs:=ov) L c a z v
theorem nU (L:MM K Cr)(c:Nat)(a:K)(z v:Cr):(ai kc cv (MM.vI L c a z)).modify (MM.pos L a) (fun e=>(e.1,e.2.1,.agg v.cells))=ai kc cv (MM.put L c a v):=jH (vs:=cv) L c a z v
theorem nV (L:MM K Int)(c:Nat)(a:K)(z v:Int):(ai kc iv (MM.vI L c a z)).modify (MM.pos L a) (fun e=>(e.1,e.2.1,.d (.int .i64 v)))=ai kc iv (MM.put L c a v):=jH (vs:=iv) L c a z v
theorem bz (ρ:Nat→Nat)(L:MM Dt ag):(ai Dt.cells ov L).map (fun e=>(e.1,e.2.1.aB ρ,e.2.2.aB ρ))=ai Dt.cells ov L:=jY ρ L (fun a=>Dt.ax a ρ) (fun v=>by simp [ov,SV.aB])
theorem aS (q:Nat→Bool)(L:MM Dt ag):((ai Dt.cells ov L).all fun e=>e.2.1.ok q && e.2.2.ok q)=true:=me q L (fun a=>Dt.an a q) (fun v=>by simp [ov,SV.ok])
theorem dg (ρ:Nat→Nat)(L:MM Dt Cr):(ai Dt.cells cv L).map (fun e=>(e.1,e.2.1.aB ρ,e.2.2.aB ρ))=ai Dt.cells cv L:=jY ρ L (fun a=>Dt.ax a ρ) (fun v=>by simp [cv,SV.aB])
theorem gj (q:Nat→Bool)(L:MM Dt Cr):((ai Dt.cells cv L).all fun e=>e.2.1.ok q && e.2.2.ok q)=true:=me q L (fun a=>Dt.an a q) (fun v=>by simp [cv,SV.ok])
end
end
section
def uv (n:Nat):SV:= .d (.int .u64 (n:Int))
section
variable {K:Type} [DecidableEq K] {kc:K→List SV}
theorem nW (L:MM K Nat)(a:K):fO (ai kc uv L) (.d (.int .u64 0)) (MM.idx L a)= .d (.int .u64 (((MM.get L a).getD 0:Nat):Int)):=gQ (vs:=uv) 0 L a
theorem nX (L:MM K Nat)(c:Nat)(a:K)(n:Nat):jA (ai kc uv L) c (.agg (kc a)) (.d (.int .u64 (n:Int))) (MM.idx L a)= .map (ai kc uv (MM.put L c a n)) (MM.iw L c a):=iP (vs:=uv) L c a n
theorem nY (L:MM K Nat)(c:Nat)(a:K):pJ (ai kc uv L) c (.agg (kc a)) (.d (.int .u64 0)) (MM.idx L a)= .map (ai kc uv (MM.vI L c a 0)) (MM.iw L c a):=sS (vs:=uv) L c a 0
theorem nZ (L:MM K Nat)(c:Nat)(a:K)(z v:Nat):(ai kc uv (MM.vI L c a z)).modify (MM.pos L a) (fun e=>(e.1,e.2.1,.d (.int .u64 (v:Int))))=ai kc uv (MM.put L c a v):=jH (vs:=uv) L c a z v
end
structure Sp where
 d:Dt
 n:Nat
 deriving DecidableEq
def Sp.ds (x:Sp):List DV:=[.int .u8 x.d.r,.int .u32 x.d.n,.int .u64 x.n]
def Sp.cells (x:Sp):List SV:=x.ds.map .d
@[simp] theorem Sp.jP (x:Sp):x.ds.length=3:=rfl
@[simp] theorem Sp.kX (x:Sp):x.cells.length=3:=rfl
@[simp] theorem Sp.an (x:Sp) (q:Nat→Bool):SV.aA q x.cells=true:=SV.aT _
@[simp] theorem Sp.ax (x:Sp) (ρ:Nat→Nat):SV.aK ρ x.cells=x.cells:=SV.fP _
theorem Sp.cells_one (x:Sp):x.cells.all SV.dG=true:=rfl
@[simp] theorem Sp.aX (x:Sp):x.cells.take 3=x.cells:=rfl
theorem Sp.lu (x:Sp):x.cells.take 2=x.d.cells:=rfl
theorem Sp.gN (x:Sp):x.cells[2]? =some (u64 x.n):=rfl
theorem Sp.bE (c x:Sp):bW c.cells 0 x.cells=x.cells:=rfl
def Sp.zero:Sp:=⟨⟨0,0⟩,0⟩
theorem Sp.aH:([.d (.int .u8 0),.d (.int .u32 0),.d (.int .u64 0)]:List SV)=Sp.zero.cells:=rfl
theorem Sp.fI (d:Dt)(n:Nat):bW (bW Sp.zero.cells 0 d.cells) 2 [.d (.int .u64 (n:Int))]=(Sp.mk d n).cells:=rfl
theorem Sp.qv (a b:Sp):iE [true,true,true] a.cells b.cells=some (decide (a=b)):=by
 have h:iE [true,true,true] a.cells b.cells=some (((a.d.r:Int) == b.d.r) && (((a.d.n:Int) == b.d.n) && (((a.n:Int) == b.n) && true))):=by simp [iE,Fq,Sp.cells,Sp.ds]
 rw [h]
 congr 1
 obtain ⟨⟨a0,a1⟩,a2⟩:=a;obtain ⟨⟨b0,b1⟩,b2⟩:=b;rw [Bool.eq_iff_iff];simp;omega
@[simp] theorem LA (l:List Sp):(l.flatMap Sp.ds).length=l.length*3:=dP Sp.ds 3 (fun _=>rfl) l
theorem n9 (x:Cr):eH x.cells=some x.ds:=rfl
theorem n_ (x:Sp):eH x.cells=some x.ds:=rfl
end
end Go.Sl
namespace Go.Sl
section
variable {P:Program}
def RW (P:Program)(cR:List SI)(st:St)(K:St→List (Bool×List Nat)→Prop):Prop:=
 ∃ dx st' ob ts,runs P cR st dx=some (st',ob,ts)∧ob∧K st' ts
def gr:SO→Bool
 | .call .. =>true
 | _=>false
def uU:SO→Bool
 | .pz .. =>true
 | _=>false
def seg (P:Program):List SI→St→Option (List SI×St×Prop×List (Bool×List Nat))
  | [],st=>some ([],st,True,[])
  | si :: r,st=>match si.g with
    | none=>match gr si.op with
      | true=>some (si::r,st,True,[])
      | false=>match eU P st si.op [] with
        | some (e,_)=>match seg P r (kJ st si e) with
          | some (rest,st',ob,ts)=>some (rest,st',e.ob∧ob,gq si e::ts)
          | none=>none
        | none=>none
    | some (t,w)=>match st.env.lookup t with
      | some (.d (.bool b))=>match b == w with
        | true=>match gr si.op with
          | true=>some (si::r,st,True,[])
          | false=>match eU P st si.op [] with
            | some (e,_)=>match seg P r (kJ st si e) with
              | some (rest,st',ob,ts)=>some (rest,st',e.ob∧ob,gq si e::ts)
              | none=>none
            | none=>none
        | false=>match seg P r (kJ st si ⟨.dU [],[],[],0,True⟩) with
          | some (rest,st',ob,ts)=>some (rest,st',ob,gq si ⟨.dU [],[],[],0,True⟩::ts)
          | none=>none
      | some (.dU [])=>match seg P r (kJ st si ⟨.dU [],[],[],0,True⟩) with
          | some (rest,st',ob,ts)=>some (rest,st',ob,gq si ⟨.dU [],[],[],0,True⟩::ts)
          | none=>none
      | _=>none
theorem Bc {st:St}{so:SO}{e:kN}{c2:List CR}(hc:gr so=false)(h:eU P st so []=some (e,c2)):c2=[]∧(uU so=false→∀ dx,eU P st so dx=some (e,dx))∧(uU so=true→∀ dx,eU P st so (.jq::dx)=some (e,dx)):=by
 cases so <;> simp only [gr,Bool.true_eq_false] at hc <;> simp only [eU] at h <;> split at h <;> first | (cases h;done) | skip
 all_goals
  rename_i hs;injection h with h;injection h with h h';subst h;subst h';refine ⟨rfl,fun hb dx=> ?_,fun hb dx=> ?_⟩
  all_goals first
   | (simp [uU] at hb;done)
   | simp only [eU,hs]
theorem RW.nil {st:St}{K:St→List (Bool×List Nat)→Prop}(h:K st []):RW P [] st K:=⟨[],st,True,[],rfl,trivial,h⟩
theorem RW.cons {si:SI}{r:List SI}{st:St}{K:St→List (Bool×List Nat)→Prop}{e:kN}(h1:∀ dx,∃ c0,eY P st si c0=some (e,dx))(bk:e.ob)(h:RW P r (kJ st si e) fun st' ts=>K st' (gq si e::ts)):RW P (si::r) st K:=by
 obtain ⟨dx,st',ob,ts,hr,ho,hk⟩:=h;obtain ⟨c0,hc0⟩:=h1 dx;refine ⟨c0,st',e.ob∧ob,gq si e::ts,?_,⟨bk,ho⟩,hk⟩;simp only [runs,hc0,hr]
theorem xu {st:St}{so:SO}{e:kN}{c2:List CR}(hc:gr so=false)(h:eU P st so []=some (e,c2))(dx:List CR):∃ c0,eU P st so c0=some (e,dx):=by
 obtain ⟨_,h1,h2⟩:=Bc hc h;cases hb:uU so with
 | false=>exact ⟨dx,h1 hb dx⟩
 | true=>exact ⟨.jq::dx,h2 hb dx⟩
theorem RW.call {d:Option Nat}{f:X}{args:List X}{g:Option (Nat×Bool)}{r:List SI}{st:St}{K:St→List (Bool×List Nat)→Prop}{fid:FuncId}{as first cap as':List SV}{F F':Hp}{v:SV}{nk:Nat}
  (hf:ev (fun t=>st.env.lookup t) f=some (.fn (.func fid) first cap)) (ha:oQ (fun t=>st.env.lookup t) args=some as) (has:first++as++cap=as') (hc:aF P fid as' F st.k nk v F') (hs:HSub F st.hp)
  (hg:g=none∨∃ t w,g=some (t,w)∧st.env.lookup t=some (.d (.bool w)))
  (h:RW P r (kJ st ⟨d,.call f args,g⟩ ⟨v,F,F',nk,True⟩) fun st' ts=>K st' (gq ⟨d,.call f args,g⟩ ⟨v,F,F',nk,True⟩::ts)):RW P (⟨d,.call f args,g⟩::r) st K:=by
 refine RW.cons (e:=⟨v,F,F',nk,aF P fid (first++as++cap) F st.k nk v F'∧HSub F st.hp⟩) (fun dx=>⟨.call F v F' nk::dx,?_⟩) ⟨by rw [has];exact hc,hs⟩ h
 rcases hg with rfl | ⟨t,w,rfl,hl⟩
 ·simp only [eY,eU,hf,ha]
 ·simp [eY,hl,eU,hf,ha]
theorem SW.LS {N k0:Nat}{st:St}{Q:Exit→St→Prop}{cR:List SI}{bs:List Nat}{draw:Bool}(hm:P.follows .mixedOrders=true)(h:RW P cR st fun st' ts=>(!draw || l8 bs ts)=true∧Q .normal st'):SW P N k0 (.eM cR bs draw) st Q:=by
 obtain ⟨dx,st',ob,ts,hr,ho,hn,hk⟩:=h;exact SW.eM dx hm hr ho hn hk
theorem fU {st:St}{d:Option Nat}{op:SO}{g:Option (Nat×Bool)}{dx:List CR}{e:kN}{c2:List CR}(hg:g=none∨∃ t w,g=some (t,w)∧st.env.lookup t=some (.d (.bool w)))(h:eU P st op dx=some (e,c2)):eY P st ⟨d,op,g⟩ dx=some (e,c2):=by
 rcases hg with rfl | ⟨t,w,rfl,hl⟩
 ·simp only [eY,h]
 ·simp [eY,hl,h]
theorem RW.CV {d:Nat}{op:SO}{g:Option (Nat×Bool)}{r:List SI}{K:St→List (Bool×List Nat)→Prop}{env:List (Nat×SV)}{hp F F':Hp}{k:Nat}{v:SV}{nk:Nat}{ob:Prop}
  (hr:cB op=true) (hc:gr op=false) (hb:uU op=false) (hg:g=none∨∃ t w,g=some (t,w)∧env.lookup t=some (.d (.bool w))) (he:eU P ⟨env,hp,k⟩ op []=some (⟨v,F,F',nk,ob⟩,[])) (bk:ob) (hk:nk=0)
  (h:RW P r ⟨(d,v)::env,hp,k⟩ fun st' ts=>K st' ((true,F.map (·.1)++F'.map (·.1))::ts)):RW P (⟨some d,op,g⟩::r) ⟨env,hp,k⟩ K:=by
 subst hk;refine RW.cons (e:=⟨v,F,F',0,ob⟩) (fun dx=> ?_) bk ?_
 ·obtain ⟨c0,h0⟩:=xu hc he dx
  exact ⟨c0,fU hg h0⟩
 ·simpa only [kJ,gq,hr,bM,if_true,Nat.add_zero] using h
def sV:Option Nat→SV→List (Nat×SV)→List (Nat×SV)
 | some d,v,env=>(d,v)::env
 | none,_,env=>env
theorem gZ {d:Option Nat}{op:SO}{g:Option (Nat×Bool)}{env:List (Nat×SV)}{hp:Hp}{k:Nat}{e:kN}:kJ ⟨env,hp,k⟩ ⟨d,op,g⟩ e=⟨sV d e.v env,bM (cB op) hp e.F e.F',k+e.nk⟩:=by
 cases d <;> rfl
theorem RW.CW {d:Option Nat}{op:SO}{g:Option (Nat×Bool)}{r:List SI}{K:St→List (Bool×List Nat)→Prop}{env:List (Nat×SV)}{hp pO F F':Hp}{k k':Nat}{v:SV}{nk:Nat}{ob:Prop}
  (hc:gr op=false) (hg:g=none∨∃ t w,g=some (t,w)∧env.lookup t=some (.d (.bool w))) (he:eU P ⟨env,hp,k⟩ op []=some (⟨v,F,F',nk,ob⟩,[])) (bk:ob) (hh:bM (cB op) hp F F'=pO) (hk:k+nk=k')
  (h:RW P r ⟨sV d v env,pO,k'⟩ fun st' ts=>K st' ((cB op,F.map (·.1)++F'.map (·.1))::ts)):RW P (⟨d,op,g⟩::r) ⟨env,hp,k⟩ K:=by
 refine RW.cons (e:=⟨v,F,F',nk,ob⟩) (fun dx=> ?_) bk ?_
 ·obtain ⟨c0,h0⟩:=xu hc he dx
  exact ⟨c0,fU hg h0⟩
 ·rw [gZ,hh,hk];exact h
theorem RW.CX {d:Nat}{op:SO}{t:Nat}{w:Bool}{r:List SI}{K:St→List (Bool×List Nat)→Prop}{env:List (Nat×SV)}{hp:Hp}{k:Nat}{s:SV}(hg:env.lookup t=some s)(hs:kV w s=true)
  (h:RW P r ⟨(d,.dU [])::env,hp,k⟩ fun st' ts=>K st' ((cB op,[])::ts)):RW P (⟨some d,op,some (t,w)⟩::r) ⟨env,hp,k⟩ K:=by
 have hh:bM (cB op) hp [] []=hp:=by unfold bM;split <;> rfl
 refine RW.cons (e:=⟨.dU [],[],[],0,True⟩) (fun dx=>⟨dx,?_⟩) trivial ?_
 ·unfold kV at hs
  split at hs
  ·simp only [eY,hg];rw [if_neg (by simpa using hs)]
  ·simp only [eY,hg]
  ·cases hs
 ·rw [gZ]
  show RW P r ⟨(d,.dU [])::env,bM (cB op) hp [] [],k+0⟩ _;rw [hh];exact h
theorem RW.Bd {op:SO}{t:Nat}{w:Bool}{r:List SI}{K:St→List (Bool×List Nat)→Prop}{env:List (Nat×SV)}{hp:Hp}{k:Nat}{s:SV}(hg:env.lookup t=some s)(hs:kV w s=true)
  (h:RW P r ⟨env,hp,k⟩ fun st' ts=>K st' ((cB op,[])::ts)):RW P (⟨none,op,some (t,w)⟩::r) ⟨env,hp,k⟩ K:=by
 have hh:bM (cB op) hp [] []=hp:=by unfold bM;split <;> rfl
 refine RW.cons (e:=⟨.dU [],[],[],0,True⟩) (fun dx=>⟨dx,?_⟩) trivial ?_
 ·unfold kV at hs
  split at hs
  ·simp only [eY,hg];rw [if_neg (by simpa using hs)]
  ·simp only [eY,hg]
  ·cases hs
 ·rw [gZ]
  show RW P r ⟨env,bM (cB op) hp [] [],k+0⟩ _;rw [hh];exact h
theorem RW.CY {d:Option Nat}{f:X}{args:List X}{g:Option (Nat×Bool)}{r:List SI}{K:St→List (Bool×List Nat)→Prop}{fid:FuncId}{as first cap as':List SV}{env:List (Nat×SV)}{hp F F':Hp}{k:Nat}{v:SV}{nk:Nat}
  (hf:ev (fun t=>env.lookup t) f=some (.fn (.func fid) first cap)) (ha:oQ (fun t=>env.lookup t) args=some as) (has:first++as++cap=as') (hc:aF P fid as' F k nk v F') (hs:HSub F hp)
  (hg:g=none∨∃ t w,g=some (t,w)∧env.lookup t=some (.d (.bool w)))
  (h:RW P r ⟨sV d v env,bM false hp F F',k+nk⟩ fun st' ts=>K st' ((false,F.map (·.1)++F'.map (·.1))::ts)):RW P (⟨d,.call f args,g⟩::r) ⟨env,hp,k⟩ K:=by
 refine RW.call (st:=⟨env,hp,k⟩) hf ha has hc hs hg ?_;rw [gZ];exact h
end
section
variable {P:Program}
def mg (P:Program)(o:Oper)(E:Nat→Option SV)(H:Nat→Option Ob)(k nk:Nat)(F:Hp)(Q:SV→Hp→Prop):Prop:=
 (∀ n ob,lk F n=some ob→H n=some ob)∧
 ∀ (rd:Option Nat) (p:Nat→Prop) (μ:Nat→Nm) (M:Mem) (a:Act) (w:World) (K:Act→World→Prop) (QQ:Exit→Act→World→Prop),(∀ n,(k≤n∧n<k+nk)→ ¬ p n)→gx E o.op.operands p μ M a→bL p μ M (lk F) w→
  (∀ r F' u aV M' w',Q r F'→Rp (fun n=>p n∨(k≤n∧n<k+nk)) aV M' r u→bL (fun n=>p n∨(k≤n∧n<k+nk)) aV M' (lk F') w'→Ev (lk F) (fun n=>k≤n∧n<k+nk) μ M w (lk F') aV M' w'→K (a.put o.dst u) w')→
  o.wpIn (jf rd) 0 P a w K QQ
theorem Sound.q {o:Oper}{E:Nat→Option SV}{H:Nat→Option Ob}{k:Nat}{e:kN}(h:Sound P o E H k e):mg P o E H k e.nk e.F (fun r F'=>r=e.v∧F'=e.F'):=
 ⟨h.2,fun rd p μ M a w K QQ h1 h2 h3 h4=>h.1 rd p μ M a w K QQ h1 h2 h3 fun u aV M' w' a1 a2 a3=>h4 _ _ u aV M' w' ⟨rfl,rfl⟩ a1 a2 a3⟩
theorem gG.step {N:Nat}{rd:Option Nat}{cL:Nat→Nm}{M0:Mem}{w0:World}{c0:Nat→Option Ob}{k0:Nat}{st:St}{a:Act}{w:World}{o:Oper}{si:SI}{F:Hp}{nk:Nat}{Q:SV→Hp→Prop}(hd:si.dst=o.dst)(hN:∀ d,o.dst=some d→d<N)
  (h:mg P o (fun t=>st.env.lookup t) (lk st.hp) st.k nk F Q) (hro:∀ r F',Q r F'→cB si.op=true→F'=F) (eV:gG N cL M0 w0 c0 k0 st a w) {K:Act→World→Prop} {QQ:Exit→Act→World→Prop}
  (hK:∀ r F',Q r F'→∀ a' w',gG N cL M0 w0 c0 k0 (kJ st si ⟨r,F,F',nk,True⟩) a' w'→K a' w'):o.wpIn (jf rd) 0 P a w K QQ:=by
 obtain ⟨mR,hdf,hsz,μ,M,fZ,hS,hE⟩:=eV;have hsub:∀ n ob,lk F n=some ob→lk st.hp n=some ob:=h.1;refine h.2 rd (· <st.k) μ M a w K QQ (fun n hn=>by omega) ⟨fun t _ s hs=>fZ t s hs,hS.mem.kE⟩ (hS.sub hsub) fun r F' u aV M' w' hQ hu rP hE'=>hK r F' hQ _ _ ?_
 have hp:(fun n=>n<st.k∨(st.k≤n∧n<st.k+nk))=(· <st.k+nk):=funext fun n=>propext ⟨fun h=>by rcases h with h | h <;> omega,fun h=>by show n<st.k∨_;omega⟩
 have hfr:=hS.yK hsub (fun n hn=>by omega) hE' rP fun n h=> .inl h
 rw [hp] at hu hfr;have hnew:∀ n,(k0≤n∧n<st.k)∨(st.k≤n∧n<st.k+nk)↔k0≤n∧n<st.k+nk:=fun n=>by omega
 have hlk:lk (bM (cB si.op) st.hp F F')=yF (lk st.hp) (lk F) (lk F'):=gC hsub (hro r F' hQ);refine ⟨by show k0≤st.k+nk;omega,by rw [kr];exact hdf.ev hS hfr.2,by rw [mU];exact hsz,aV,M',fun t s hs=> ?_,?_,?_⟩
 ·have hold:∀ s,st.env.lookup t=some s→Rp (· <st.k+nk) aV M' s (a.tmps.getD t undef):=fun s h'=>
   (fZ t s h').more (fun n h=>by omega) (fun n h=>hE'.old n fun h'=>by omega) hE'.mem
  simp only [kJ,hd] at hs;cases hod:o.dst with
  | none=>rw [hod] at hs;exact hold s hs
  | some d=>
   rw [hod] at hs;simp only at hs;rw [l9] at hs
   by_cases hdt:d=t
   ·subst hdt
    simp at hs;subst hs;rw [sK (by rw [hsz];exact hN d hod)]
    exact hu
   ·rw [if_neg hdt] at hs
    rw [nC (fun e=>hdt e.symm)]
    exact hold s hs
 ·show bL _ _ _ (lk (bM (cB si.op) st.hp F F')) _
  rw [hlk];exact hfr.1
 ·show Ev _ _ _ _ _ (lk (bM (cB si.op) st.hp F F')) _ _ _
  rw [hlk];exact (hE.trans hfr.2).rX fun n=>hnew n
theorem gG.skip {N:Nat}{cL:Nat→Nm}{M0:Mem}{w0:World}{c0:Nat→Option Ob}{k0:Nat}{st:St}{a:Act}{w:World}{si:SI}{d:Option Nat}(hd:si.dst=d)(hN:∀ x,d=some x→x<N)
  (eV:gG N cL M0 w0 c0 k0 st a w):gG N cL M0 w0 c0 k0 (kJ st si ⟨.dU [],[],[],0,True⟩) (a.put d undef) w:=by
 obtain ⟨mR,hdf,hsz,μ,M,fZ,hS,hE⟩:=eV;have hh:bM (cB si.op) st.hp [] []=st.hp:=by unfold bM;split <;> rfl
 refine ⟨mR,by rw [kr];exact hdf,by rw [mU];exact hsz,μ,M,fun t s hs=> ?_,by simp only [kJ,hh];exact hS,by simp only [kJ,hh];exact hE⟩
 simp only [kJ,hd] at hs;cases d with
 | none=>exact fZ t s hs
 | some d=>
  simp only at hs;rw [l9] at hs
  by_cases hdt:d=t
  ·subst hdt
   simp at hs;subst hs;rw [uz];exact Rp.dF.2 ⟨#[],rfl,aN.aJ.2 rfl⟩
  ·rw [if_neg hdt] at hs
   rw [nC (fun e=>hdt e.symm)]
   exact fZ t s hs
def aW (P:Program)(N k0:Nat)(cR:List SI)(st:St)(K:St→Prop):Prop:=
 ∀ (ops:Array Oper) (i:Nat),i+cR.length=ops.size→(∀ j si,cR[j]? =some si→∃ o,ops[i+j]? =some o∧oJ P ops o=some si)→(∀ si∈cR,∀ d,si.dst=some d→d<N)→
  ∀ (rd:Option Nat) (cL:Nat→Nm) (M0:Mem) (w0:World) (c0:Nat→Option Ob) (a:Act) (w:World),gG N cL M0 w0 c0 k0 st a w→∀ Q':Exit→Act→World→Prop,(∀ st' a' w',K st'→gG N cL M0 w0 c0 k0 st' a' w'→Q' .normal a' w')→
   wpOpsIn (jf rd) 0 P ops Q' (List.range' i cR.length) a w
theorem aW.nil {N k0:Nat}{st:St}{K:St→Prop}(h:K st):aW P N k0 [] st K:=fun ops i _ _ _ rd cL M0 w0 c0 a w eV Q' hQ=>hQ st a w h eV
theorem aW.cons {N k0:Nat}{st:St}{K:St→Prop}{si:SI}{r:List SI}
  (h:∀ (ops:Array Oper) (o:Oper),oJ P ops o=some si→(∀ d,si.dst=some d→d<N)→∀ (rd:Option Nat) (cL:Nat→Nm) (M0:Mem) (w0:World) (c0:Nat→Option Ob) (a:Act) (w:World),gG N cL M0 w0 c0 k0 st a w→
   ∀ (i:Nat),ops[i]? =some o→∀ (Q':Exit→Act→World→Prop) (KK:Act→World→Prop),(∀ st' a' w',aW P N k0 r st' K→gG N cL M0 w0 c0 k0 st' a' w'→KK a' w')→wpOpIn (jf rd) 0 P ops Q' i KK a w):aW P N k0 (si::r) st K:=by
 intro ops i hl jO hN rd cL M0 w0 c0 a w eV Q' hQ;obtain ⟨o,ho,hc⟩:=jO 0 si rfl;simp only [Nat.add_zero] at ho;rw [List.length_cons,List.range'_succ,wpOpsIn_cons];refine h ops o hc (fun d hd=>hN si (by simp) d hd) rd cL M0 w0 c0 a w eV i ho Q' _ fun st' a' w' hn hSt'=> ?_
 exact hn ops (i+1) (by simp at hl;omega) (fun j sj hj=>by
  obtain ⟨o',ho',hc'⟩:=jO (j+1) sj (by simpa using hj)
  exact ⟨o',by rw [show i+1+j=i+(j+1) by omega];exact ho',hc'⟩) (fun s hs d hd=>hN s (by simp [hs]) d hd) rd cL M0 w0 c0 a' w' hSt' Q' hQ
theorem aW.many {N k0:Nat}{st:St}{K:St→Prop}{si:SI}{r:List SI}{F:Hp}{nk:Nat}{Q:SV→Hp→Prop}(hg:si.g=none)(hq:∀ o:Oper,cO P o.op=some si.op→mg P o (fun t=>st.env.lookup t) (lk st.hp) st.k nk F Q)
  (hro:cB si.op=false) (h:∀ v F',Q v F'→aW P N k0 r (kJ st si ⟨v,F,F',nk,True⟩) K):aW P N k0 (si::r) st K:=by
 refine aW.cons fun ops o hc hN rd cL M0 w0 c0 a w eV i ho Q' KK CZ=> ?_
 obtain ⟨g1,g2,g3⟩:=fQ hc;have hgn:o.guard=none:=by
  rcases g3 with ⟨h,_⟩ | ⟨j,w,t,h,_,h'⟩
  ·exact h
  ·rw [hg] at h';cases h'
 unfold wpOpIn;simp only [ho,Region.wanted,hgn,if_true];exact (gG.step g2 (fun d hd=>hN d (by rw [g2];exact hd)) (hq o g1) (fun v F' _ hr=>by rw [hro] at hr;cases hr) eV fun v F' hQ a' w' hSt'=>CZ _ a' w' (h v F' hQ) hSt')
theorem aW.HI {N k0:Nat}{K:St→Prop}{rest:List SI}:∀ {cR:List SI} {st st':St} {dx:List CR} {ob:Prop} {ts:List (Bool×List Nat)},Go.Sl.runs P cR st dx=some (st',ob,ts)→ob→aW P N k0 rest st' K→aW P N k0 (cR++rest) st K:=by
 intro cR
 induction cR with
 | nil=>
  intro st st' dx ob ts h _ hk;simp only [Go.Sl.runs] at h;injection h with h;injection h with h1 _;subst h1;exact hk
 | cons si r ih=>
  intro st st' dx ob ts h bk hk;simp only [Go.Sl.runs] at h
  split at h <;> first | (cases h;done) | skip
  rename_i e crs' hop
  split at h <;> first | (cases h;done) | skip
  rename_i st2 FB ts2 hr;injection h with h;injection h with h1 h;injection h with h2 h3;subst h1;subst h2;refine aW.cons fun ops o hc hN rd cL M0 w0 c0 a w eV i ho Q' KK CZ=> ?_
  obtain ⟨b1,b2,b3⟩:=oW hc hop bk.1;obtain ⟨g1,g2,g3⟩:=fQ hc;have hnext:=ih hr bk.2 hk;have hu:kJ st si e=kJ st si ⟨e.v,e.F,e.F',e.nk,True⟩:=rfl;unfold wpOpIn;simp only [ho];obtain ⟨mR,hdf,hsz,μ,M,fZ,hS,hE⟩:=eV;have eV:gG N cL M0 w0 c0 k0 st a w:=⟨mR,hdf,hsz,μ,M,fZ,hS,hE⟩;rcases b1 with ⟨j,want,t,sv,hg,hd,hE',hb,e1,e2,e3,e4⟩ | ⟨hg,hs⟩
  ·have hv:=fZ t _ hE'
   have hw:Region.wanted o (yielded ops a.tmps)=false:=by
    simp only [Region.wanted,hg];unfold kV at hb
    split at hb
    ·rw [gE hd (Rp.bq.1 hv)]
     simpa using hb
    ·obtain ⟨vs,e,hvs⟩:=Rp.dF.1 hv
     have hvs0:vs= #[]:=by have:=aN.aJ.1 hvs;simpa using this
     rw [oT hd (by rw [e,hvs0];rfl)]
     rfl
    ·cases hb
   simp only [hw,Bool.false_eq_true,if_false];obtain ⟨v,F,F',nk,eo⟩:=e;simp only at e1 e2 e3 e4;subst e1;subst e2;subst e3;subst e4;exact ⟨fun _ _=>trivial,CZ _ _ _ hnext (gG.skip g2 (fun d hd=>hN d (by rw [g2];exact hd)) eV)⟩
  ·have hw:Region.wanted o (yielded ops a.tmps)=true:=by
    rcases hg with hg | ⟨j,want,t,hg,hd,hE'⟩
    ·simp [Region.wanted,hg]
    ·have hv:=Rp.bq.1 (fZ t _ hE')
     simp only [Region.wanted,hg,gE hd hv];simp
   simp only [hw,if_true];exact (gG.step g2 (fun d hd=>hN d (by rw [g2];exact hd)) hs.q (fun v F' hQ hr=>by rw [hQ.2];exact b2 hr) eV fun v F' hQ a' w' hSt'=>CZ _ a' w' (by rw [hQ.1,hQ.2];exact hnext) hSt')
theorem aW.runs {N k0:Nat}{K:St→Prop}{cR:List SI}{st st':St}{dx:List CR}{ob:Prop}{ts:List (Bool×List Nat)}(h:Go.Sl.runs P cR st dx=some (st',ob,ts))(ho:ob)(hk:K st'):aW P N k0 cR st K:=by
 have:=aW.HI (N:=N) (k0:=k0) (rest:=[]) h ho (aW.nil hk)
 rwa [List.append_nil] at this
theorem aW.one {N k0:Nat}{K:St→Prop}{si:SI}{r:List SI}{st:St}{e:kN}{c2 dx:List CR}(h1:eY P st si dx=some (e,c2))(bk:e.ob)(h:aW P N k0 r (kJ st si e) K):aW P N k0 (si::r) st K:=
 aW.HI (cR:=[si]) (dx:=dx) (st':=kJ st si e) (ob:=e.ob∧True) (ts:=[gq si e]) (by simp only [Go.Sl.runs,h1]) ⟨bk,trivial⟩ h
theorem Ac {o:Oper}{E:Nat→Option SV}{H:Nat→Option Ob}{k nk:Nat}{f:X}{args:List X}{fid:FuncId}{first cap as:List SV}{F:Hp}{Q:SV→Hp→Prop}(hc:cO P o.op=some (.call f args))
  (h1:ev E f=some (.fn (.func fid) first cap)) (h2:oQ E args=some as) (Cf:SC P fid (first++as++cap) F k nk Q) (hsub:∀ n ob,lk F n=some ob→H n=some ob):mg P o E H k nk F Q:=by
 obtain ⟨c,fo,hop,bR,hf,ha⟩:=pU hc;exact ⟨hsub,fun rd p μ M a w K QQ hnew hk hS hK=>vE hop bR hf ha h1 h2 Cf hnew hk hS hK⟩
theorem SW.MX {N k0:Nat}{st:St}{cR:List SI}{K:St→Prop}{st1:St}{ρ:Nat→Nat}(hw:aM k0 st st1 ρ)(h:aW P N k0 cR st1 K):aW P N k0 cR st K:=
 fun ops i h1 h2 h3 rd cL M0 w0 c0 a w eV=>h ops i h1 h2 h3 rd cL M0 w0 c0 a w (eV.weak hw)
theorem SW.tX {N k0:Nat}{st:St}{Q:Exit→St→Prop}{cR:List SI}{bs:List Nat}(h:aW P N k0 cR st (Q .normal)):SW P N k0 (.eM cR bs false) st Q:=by
 intro c hc rd hrf cL M0 w0 c0 a w eV;cases c <;> simp only [cK] at hc <;> first
  | (cases hc;done)
  | (exfalso;split at hc <;> cases hc;done)
  | (exfalso;obtain ⟨_,_,h'⟩:=Option.map_eq_some_iff.1 hc;cases h';done)
  | skip
 rename_i id ops draw
 split at hc <;> first | (cases hc;done) | skip
 rename_i sis' bs' hreg;injection hc with hc;injection hc with h1 h2 h3;subst h1;subst h3;unfold CF at hreg
 split at hreg <;> first | (cases hreg;done) | skip
 rename_i sis2 hsis
 split at hreg <;> first | (cases hreg;done) | skip
 rename_i hchk;injection hreg with hreg;injection hreg with hr1 hr2;subst hr1;simp only [Bool.and_eq_true] at hchk;obtain ⟨_,hin⟩:=hchk;obtain ⟨hlen,jO⟩:=l_ hsis;refine wpIn_region ?_;rw [List.range_eq_range'];have hn:ops.size=sis2.length:=by simpa using hlen
 rw [hn];refine h ops 0 (by omega) (fun j si hj=> ?_) (fun si hs d hd=> ?_) rd cL M0 w0 c0 a w eV _ fun st' a' w' hk hSt'=>⟨st',hk,hSt'⟩
 ·have hj':j<ops.size:=by rw [hn];exact (List.getElem?_eq_some_iff.1 hj).1
  obtain ⟨si',h1,h2⟩:=jO j ops[j] (by simp [hj'])
  rw [hj] at h1;injection h1 with h1;subst h1;exact ⟨ops[j],by rw [Nat.zero_add];exact Array.getElem?_eq_getElem hj',h2⟩
 ·have:=List.all_eq_true.1 hin si hs
  rw [hd] at this
  simpa using this
end
section
variable {P:Program}
theorem HSub.cons {F h:Hp}{n:Nat}{ob:Ob}(h1:lk h n=some ob)(h2:HSub F h):HSub ((n,ob)::F) h:=fun m jD hm=>by
 rw [aa] at hm
 split at hm
 ·rename_i e;subst e;injection hm with hm;subst hm;exact h1
 ·exact h2 m jD hm
theorem wrap_i64 (n:Int)(h: -9223372036854775808≤n∧n<9223372036854775808):IntKind.i64.wrap n=n:=CK n h.1 h.2
theorem jJ (n:Int)(h:0≤n∧n<18446744073709551616):IntKind.u64.wrap n=n:=by
 have:=wrap_u64 n.toNat (by omega)
 rwa [show ((n.toNat:Nat):Int)=n by omega] at this
theorem wrap_u32' (n:Int)(h:0≤n∧n<4294967296):IntKind.u32.wrap n=n:=by
 have:=wrap_u32 n.toNat (by omega)
 rwa [show ((n.toNat:Nat):Int)=n by omega] at this
theorem wrap_u8' (n:Int)(h:0≤n∧n<256):IntKind.u8.wrap n=n:=by
 have:=wrap_u8 n.toNat (by omega)
 rwa [show ((n.toNat:Nat):Int)=n by omega] at this
theorem af:(true == true)=true:=rfl
theorem uV:(false == false)=true:=rfl
theorem Dt.Be (c:Dt)(a b:Int)(h:0≤a∧0≤b):bW (bW c.cells 0 [.d (.int .u8 a)]) 1 [.d (.int .u32 b)]=(Dt.mk a.toNat b.toNat).cells:=by
 have:=Dt.fI c a.toNat b.toNat
 rwa [show ((a.toNat:Nat):Int)=a by omega,show ((b.toNat:Nat):Int)=b by omega] at this
theorem Dt.Bf (c:Dt)(b:Int)(h:0≤b):bW c.cells 1 [.d (.int .u32 b)]=(Dt.mk c.r b.toNat).cells:=by
 rw [show b=((b.toNat:Nat):Int) by omega];rfl
theorem lB (n k:Nat):(n:Int)+(no_index (OfNat.ofNat k):Int)=((n+OfNat.ofNat k:Nat):Int):=rfl
theorem lC (n k:Nat):(n:Int)+(k:Int)=((n+k:Nat):Int):=rfl
def ak (L:List Nat)(st:St)(R:St→Prop):Prop:=R ⟨st.env.filter (fun x=>L.contains x.1),st.hp,st.k⟩
theorem ak.mk {L:List Nat}{env:List (Nat×SV)}{hp:Hp}{k:Nat}{R:St→Prop}{env':List (Nat×SV)}
  (he:env.filter (fun x=>L.contains x.1)=env':=by (simp only [kK,Nat.zero_add,Nat.reduceAdd,List.filter,List.contains_cons,List.contains_nil,Nat.reduceBEq,Bool.or_false,Bool.or_true,Bool.true_or,Bool.false_or,BEq.rfl,beq_self_eq_true] <;> with_reducible rfl)) (h:R ⟨env',hp,k⟩):ak L ⟨env,hp,k⟩ R:=by
 show R ⟨env.filter _,hp,k⟩;rw [he];exact h
theorem mX (L : List Nat):∀ (env:List (Nat×SV)) (t:Nat) (s:SV),(env.filter (fun x=>L.contains x.1)).lookup t=some s→env.lookup t=some s
  | [],t,s,h=>by simp at h
  | (u, x) :: env,t,s,h=>by
    simp only [List.filter] at h
    by_cases hu:L.contains u=true
    · rw [hu] at h
      simp only [List.lookup] at h ⊢
      split at h
      · exact h
      · exact mX L env t s h
    · rw [show L.contains u=false by simpa using hu] at h
      have h2:=mX L env t s h;simp only [List.lookup]
      by_cases e:t=u
      · subst e
        exfalso
        have:∀ (env:List (Nat×SV)),(env.filter (fun x=>L.contains x.1)).lookup t=none:=by
          intro env
          induction env with
          | nil=>rfl
          | cons y env ih=>
            simp only [List.filter]
            by_cases hy:L.contains y.1=true
            · rw [hy]
              simp only [List.lookup];have:(t == y.1)=false:=by
                simp only [beq_eq_false_iff_ne];intro e;rw [← e] at hy;exact hu hy
              rw [this];exact ih
            · rw [show L.contains y.1=false by simpa using hy];exact ih
        rw [this] at h;cases h
      · rw [show (t == u)=false by simpa using e];exact h2
theorem SW.dL {N k0:Nat}{st:St}{Q:Exit→St→Prop}{cR:List SI}{bs:List Nat}{draw:Bool}(L:List Nat)(hm:P.follows .mixedOrders=true)(h:RW P cR st fun st' ts=>(!draw || l8 bs ts)=true∧ak L st' (Q .normal)):SW P N k0 (.eM cR bs draw) st Q:=by
 have h':RW P cR st fun st' ts=>(!draw || l8 bs ts)=true∧(fun e st'=>∃ st2,Q e st2∧st2=⟨st'.env.filter (fun x=>L.contains x.1),st'.hp,st'.k⟩) Exit.normal st':=by
  obtain ⟨dx,st',ob,ts,hr,ho,hn,hk⟩:=h;exact ⟨dx,st',ob,ts,hr,ho,hn,_,hk,rfl⟩
 have:=SW.LS (N:=N) (k0:=k0) (bs:=bs) (draw:=draw) (Q:=fun e st'=>∃ st2,Q e st2∧st2=⟨st'.env.filter (fun x=>L.contains x.1),st'.hp,st'.k⟩) hm h'
 intro c hc rd hrf cL M0 w0 c0 a w eV;refine wpIn_mono (this c hc rd hrf cL M0 w0 c0 a w eV) ?_;rintro e a' w' ⟨st',⟨st2,hq,rfl⟩,hst'⟩;obtain ⟨h1,h2,h3,μ,M,h4,h5,h6⟩:=hst';exact ⟨_,hq,h1,h2,h3,μ,M,fun t s hl=>h4 t s (mX L _ t s hl),h5,h6⟩
theorem SW.cut {N k0:Nat}{st:St}{Q:Exit→St→Prop}{x y:bY}(stM:St)(ρ:Nat→Nat)(h1:SW P N k0 x st fun e st'=>match e with | .normal=>aM k0 st' stM ρ | _=>False)(h2:SW P N k0 y stM Q):SW P N k0 (.seq x y) st Q:=by
 refine SW.seq (h1.mono fun e st' h=> ?_)
 cases e <;> first | exact h.elim | exact SW.weak ρ h h2
section
variable {cR rest r:List SI} {st st':St} {ob:Prop} {ts:List (Bool×List Nat)} {K:St→List (Bool×List Nat)→Prop}
theorem RW.ro {d:Nat}{op:SO}{g:Option (Nat×Bool)}{env:List (Nat×SV)}{hp F F':Hp}{k:Nat}{v:SV}{nk:Nat}{ob:Prop}{Φ:Prop}(φ:Φ)
  (hr:cB op=true:=by rfl) (hc:gr op=false:=by rfl) (hb:uU op=false:=by rfl)
  (hg:g=none∨∃ t w,g=some (t,w)∧env.lookup t=some (.d (.bool w)):=by first | exact .inl rfl | exact .inr ⟨_,_,rfl,rfl⟩)
  (he:Φ→eU P ⟨env,hp,k⟩ op []=some (⟨v,F,F',nk,ob⟩,[]):=by
   intro φ;simp (disch:=omega) only [Go.Sl.seg,kK,gr,eU,dm,ev,oQ,vA,kJ,List.lookup,Nat.reduceBEq,Nat.reduceAdd,Nat.reduceMul,Nat.zero_add,SV.cells,if_true,if_false,reduceIte,Bool.false_eq_true,cB,bM,bS,bT,e_,eZ,dh,lk,List.filter,Nat.reduceBNe,bne_self_eq_false,eq_self,zQ,wR,gf,vw,vz,Fs,av.cells_one,BEq.rfl,beq_self_eq_true,Bool.true_or,Nat.reduceEqDiff,List.map_cons,List.map_nil,List.nil_append,List.cons_append,List.append_nil,Int.toNat_natCast,Nat.mul_one,Nat.add_zero,gX,gW,kF,iI,iJ,iK,iL,iM,iN,kG,Option.isSome_some,Option.isSome_none,Option.isNone_some,Option.isNone_none,Nat.zero_ne_one,Nat.one_ne_zero,Bool.and_false,Bool.and_true,List.drop_zero,av.aH,av.aX,av.bE,Dt.cells_one,Dt.aX,Dt.A3,Dt.A4,Dt.bE,Dt.aH,Dt.Be,Dt.Bf,lX,eH,vB,tT,List.all_cons,List.all_nil,SV.dG,Int.cast_ofNat_Int,Int.reduceBNe,Int.reduceBEq,Int.reduceLT,Int.reduceLE,Int.reduceGT,Int.reduceGE,nJ,uJ,uK,Bool.not_true,Bool.not_false,Bool.or_false,Bool.or_true,Bool.false_or,Bool.or_self,av.qM,av.A5,av.uH,av.uI,av.dQ,av.dR,Dt.qM,Dt.A6,Dt.dQ,Dt.dR,List.all_append,av.yV,Dt.qv,Bool.cond_true,Bool.cond_false,wrap_i64,jJ,wrap_u32',wrap_u8',af,uV,lB,lC,Int.reduceToNat,List.length_nil,List.getElem?_cons_zero,List.getElem?_cons_succ,List.take_succ_cons,List.take_zero,List.drop_succ_cons,decide_true,decide_false,Bool.true_and,Bool.and_self,Bool.false_and,nL,nM,jW,jX,jI,MM.eD,lg,o7,nS,nV,nQ,nT,nR,nU,nO,nP,ag.cells_one,ag.aX,ag.lu,ag.A8,ag.uN,ag.A9,ag.lz,ag.uO,ag.uP,ag.JU,ag.iQ,ag.iR,ag.qP,ag.JV,ag.A_,ag.uQ,ag.Ba,ag.qQ,ag.qR,ag.uR,ag.uS,ag.bE,ag.aH,Cr.cells_one,Cr.aX,Cr.lu,Cr.lz,Cr.Bb,Cr.uT,Cr.iQ,Cr.iR,Cr.qP,Cr.qS,Cr.bE,Cr.aH,Cr.qv,nW,nX,nY,nZ,Sp.cells_one,Sp.aX,Sp.lu,Sp.gN,Sp.bE,Sp.aH,Sp.fI,Sp.qv,n_,n9,φ]
   with_reducible rfl)
  (bk:ob:=by first | trivial | (repeat' (first | exact trivial | omega | apply And.intro | (simp [-List.length_flatMap,-Int.natCast_add];done) | (simp [-List.length_flatMap,-Int.natCast_add] <;> omega))))
  (hk:nk=0:=by rfl)
  (h:RW P r ⟨(d,v)::env,hp,k⟩ fun st' ts=>K st' ((true,F.map (·.1)++F'.map (·.1))::ts)):RW P (⟨some d,op,g⟩::r) ⟨env,hp,k⟩ K:=RW.CV hr hc hb hg (he φ) bk hk h
theorem RW.op {d:Nat}{op:SO}{g:Option (Nat×Bool)}{env:List (Nat×SV)}{hp pO F F':Hp}{k k':Nat}{v:SV}{nk:Nat}{ob:Prop}{Φ:Prop}(φ:Φ)
  (hc:gr op=false:=by rfl)
  (hg:g=none∨∃ t w,g=some (t,w)∧env.lookup t=some (.d (.bool w)):=by first | exact .inl rfl | exact .inr ⟨_,_,rfl,rfl⟩)
  (he:Φ→eU P ⟨env,hp,k⟩ op []=some (⟨v,F,F',nk,ob⟩,[]):=by
   intro φ;simp (disch:=omega) only [Go.Sl.seg,kK,gr,eU,dm,ev,oQ,vA,kJ,List.lookup,Nat.reduceBEq,Nat.reduceAdd,Nat.reduceMul,Nat.zero_add,SV.cells,if_true,if_false,reduceIte,Bool.false_eq_true,cB,bM,bS,bT,e_,eZ,dh,lk,List.filter,Nat.reduceBNe,bne_self_eq_false,eq_self,zQ,wR,gf,vw,vz,Fs,av.cells_one,BEq.rfl,beq_self_eq_true,Bool.true_or,Nat.reduceEqDiff,List.map_cons,List.map_nil,List.nil_append,List.cons_append,List.append_nil,Int.toNat_natCast,Nat.mul_one,Nat.add_zero,gX,gW,kF,iI,iJ,iK,iL,iM,iN,kG,Option.isSome_some,Option.isSome_none,Option.isNone_some,Option.isNone_none,Nat.zero_ne_one,Nat.one_ne_zero,Bool.and_false,Bool.and_true,List.drop_zero,av.aH,av.aX,av.bE,Dt.cells_one,Dt.aX,Dt.A3,Dt.A4,Dt.bE,Dt.aH,Dt.Be,Dt.Bf,lX,eH,vB,tT,List.all_cons,List.all_nil,SV.dG,Int.cast_ofNat_Int,Int.reduceBNe,Int.reduceBEq,Int.reduceLT,Int.reduceLE,Int.reduceGT,Int.reduceGE,nJ,uJ,uK,Bool.not_true,Bool.not_false,Bool.or_false,Bool.or_true,Bool.false_or,Bool.or_self,av.qM,av.A5,av.uH,av.uI,av.dQ,av.dR,Dt.qM,Dt.A6,Dt.dQ,Dt.dR,List.all_append,av.yV,Dt.qv,Bool.cond_true,Bool.cond_false,wrap_i64,jJ,wrap_u32',wrap_u8',af,uV,lB,lC,Int.reduceToNat,List.length_nil,List.getElem?_cons_zero,List.getElem?_cons_succ,List.take_succ_cons,List.take_zero,List.drop_succ_cons,decide_true,decide_false,Bool.true_and,Bool.and_self,Bool.false_and,nL,nM,jW,jX,jI,MM.eD,lg,o7,nS,nV,nQ,nT,nR,nU,nO,nP,ag.cells_one,ag.aX,ag.lu,ag.A8,ag.uN,ag.A9,ag.lz,ag.uO,ag.uP,ag.JU,ag.iQ,ag.iR,ag.qP,ag.JV,ag.A_,ag.uQ,ag.Ba,ag.qQ,ag.qR,ag.uR,ag.uS,ag.bE,ag.aH,Cr.cells_one,Cr.aX,Cr.lu,Cr.lz,Cr.Bb,Cr.uT,Cr.iQ,Cr.iR,Cr.qP,Cr.qS,Cr.bE,Cr.aH,Cr.qv,nW,nX,nY,nZ,Sp.cells_one,Sp.aX,Sp.lu,Sp.gN,Sp.bE,Sp.aH,Sp.fI,Sp.qv,n_,n9,φ]
   with_reducible rfl)
  (bk:ob:=by first | trivial | (repeat' (first | exact trivial | omega | apply And.intro | (simp [-List.length_flatMap,-Int.natCast_add];done) | (simp [-List.length_flatMap,-Int.natCast_add] <;> omega))))
  (hh:Φ→bM (cB op) hp F F'=pO:=by (intro φ;simp only [φ,cB,bM,bS,bT,e_,eZ,dh,lk,List.lookup,Nat.reduceBEq,BEq.rfl,beq_self_eq_true,if_true,if_false,reduceIte,Nat.reduceEqDiff,Bool.false_eq_true,Option.isSome_some,Option.isSome_none] <;> with_reducible rfl))
  (hk:k+nk=k':=by first | (simp only [Nat.add_zero,Nat.reduceAdd] <;> rfl) | rfl)
  (h:RW P r ⟨(d,v)::env,pO,k'⟩ fun st' ts=>K st' ((cB op,F.map (·.1)++F'.map (·.1))::ts)):RW P (⟨some d,op,g⟩::r) ⟨env,hp,k⟩ K:=RW.CW hc hg (he φ) bk (hh φ) hk h
theorem RW.d_ {op:SO}{g:Option (Nat×Bool)}{env:List (Nat×SV)}{hp pO F F':Hp}{k k':Nat}{v:SV}{nk:Nat}{ob:Prop}{Φ:Prop}(φ:Φ)
  (hc:gr op=false:=by rfl)
  (hg:g=none∨∃ t w,g=some (t,w)∧env.lookup t=some (.d (.bool w)):=by first | exact .inl rfl | exact .inr ⟨_,_,rfl,rfl⟩)
  (he:Φ→eU P ⟨env,hp,k⟩ op []=some (⟨v,F,F',nk,ob⟩,[]):=by
   intro φ;simp (disch:=omega) only [Go.Sl.seg,kK,gr,eU,dm,ev,oQ,vA,kJ,List.lookup,Nat.reduceBEq,Nat.reduceAdd,Nat.reduceMul,Nat.zero_add,SV.cells,if_true,if_false,reduceIte,Bool.false_eq_true,cB,bM,bS,bT,e_,eZ,dh,lk,List.filter,Nat.reduceBNe,bne_self_eq_false,eq_self,zQ,wR,gf,vw,vz,Fs,av.cells_one,BEq.rfl,beq_self_eq_true,Bool.true_or,Nat.reduceEqDiff,List.map_cons,List.map_nil,List.nil_append,List.cons_append,List.append_nil,Int.toNat_natCast,Nat.mul_one,Nat.add_zero,gX,gW,kF,iI,iJ,iK,iL,iM,iN,kG,Option.isSome_some,Option.isSome_none,Option.isNone_some,Option.isNone_none,Nat.zero_ne_one,Nat.one_ne_zero,Bool.and_false,Bool.and_true,List.drop_zero,av.aH,av.aX,av.bE,Dt.cells_one,Dt.aX,Dt.A3,Dt.A4,Dt.bE,Dt.aH,Dt.Be,Dt.Bf,lX,eH,vB,tT,List.all_cons,List.all_nil,SV.dG,Int.cast_ofNat_Int,Int.reduceBNe,Int.reduceBEq,Int.reduceLT,Int.reduceLE,Int.reduceGT,Int.reduceGE,nJ,uJ,uK,Bool.not_true,Bool.not_false,Bool.or_false,Bool.or_true,Bool.false_or,Bool.or_self,av.qM,av.A5,av.uH,av.uI,av.dQ,av.dR,Dt.qM,Dt.A6,Dt.dQ,Dt.dR,List.all_append,av.yV,Dt.qv,Bool.cond_true,Bool.cond_false,wrap_i64,jJ,wrap_u32',wrap_u8',af,uV,lB,lC,Int.reduceToNat,List.length_nil,List.getElem?_cons_zero,List.getElem?_cons_succ,List.take_succ_cons,List.take_zero,List.drop_succ_cons,decide_true,decide_false,Bool.true_and,Bool.and_self,Bool.false_and,nL,nM,jW,jX,jI,MM.eD,lg,o7,nS,nV,nQ,nT,nR,nU,nO,nP,ag.cells_one,ag.aX,ag.lu,ag.A8,ag.uN,ag.A9,ag.lz,ag.uO,ag.uP,ag.JU,ag.iQ,ag.iR,ag.qP,ag.JV,ag.A_,ag.uQ,ag.Ba,ag.qQ,ag.qR,ag.uR,ag.uS,ag.bE,ag.aH,Cr.cells_one,Cr.aX,Cr.lu,Cr.lz,Cr.Bb,Cr.uT,Cr.iQ,Cr.iR,Cr.qP,Cr.qS,Cr.bE,Cr.aH,Cr.qv,nW,nX,nY,nZ,Sp.cells_one,Sp.aX,Sp.lu,Sp.gN,Sp.bE,Sp.aH,Sp.fI,Sp.qv,n_,n9,φ]
   with_reducible rfl)
  (bk:ob:=by first | trivial | (repeat' (first | exact trivial | omega | apply And.intro | (simp [-List.length_flatMap,-Int.natCast_add];done) | (simp [-List.length_flatMap,-Int.natCast_add] <;> omega))))
  (hh:Φ→bM (cB op) hp F F'=pO:=by (intro φ;simp only [φ,cB,bM,bS,bT,e_,eZ,dh,lk,List.lookup,Nat.reduceBEq,BEq.rfl,beq_self_eq_true,if_true,if_false,reduceIte,Nat.reduceEqDiff,Bool.false_eq_true,Option.isSome_some,Option.isSome_none] <;> with_reducible rfl))
  (hk:k+nk=k':=by first | (simp only [Nat.add_zero,Nat.reduceAdd] <;> rfl) | rfl)
  (h:RW P r ⟨env,pO,k'⟩ fun st' ts=>K st' ((cB op,F.map (·.1)++F'.map (·.1))::ts)):RW P (⟨none,op,g⟩::r) ⟨env,hp,k⟩ K:=RW.CW hc hg (he φ) bk (hh φ) hk h
theorem RW.skip {d:Nat}{op:SO}{t:Nat}{w:Bool}{env:List (Nat×SV)}{hp:Hp}{k:Nat}{s:SV}
  (hg:env.lookup t=some s:=by rfl) (hs:kV w s=true:=by rfl)
  (h:RW P r ⟨(d,.dU [])::env,hp,k⟩ fun st' ts=>K st' ((cB op,[])::ts)):RW P (⟨some d,op,some (t,w)⟩::r) ⟨env,hp,k⟩ K:=RW.CX hg hs h
theorem RW.bJ {op:SO}{t:Nat}{w:Bool}{env:List (Nat×SV)}{hp:Hp}{k:Nat}{s:SV}
  (hg:env.lookup t=some s:=by rfl) (hs:kV w s=true:=by rfl)
  (h:RW P r ⟨env,hp,k⟩ fun st' ts=>K st' ((cB op,[])::ts)):RW P (⟨none,op,some (t,w)⟩::r) ⟨env,hp,k⟩ K:=RW.Bd hg hs h
def aj (P:Program)(fid:FuncId)(as':List SV)(d:Option Nat)(r:List SI)(env:List (Nat×SV))(hp:Hp)(k:Nat)(K:St→List (Bool×List Nat)→Prop):Prop:=
 ∃ F F' v nk,aF P fid as' F k nk v F'∧HSub F hp∧RW P r ⟨sV d v env,bM false hp F F',k+nk⟩ fun st' ts=>K st' ((false,F.map (·.1)++F'.map (·.1))::ts)
theorem RW.bu {d:Option Nat}{f:X}{args:List X}{g:Option (Nat×Bool)}{fid:FuncId}{as first cap as':List SV}{env:List (Nat×SV)}{hp:Hp}{k:Nat}
  (hf:ev (fun t=>env.lookup t) f=some (.fn (.func fid) first cap):=by (simp only [ev,List.lookup,Nat.reduceBEq] <;> rfl))
  (ha:oQ (fun t=>env.lookup t) args=some as:=by (simp only [ev,oQ,List.lookup,Nat.reduceBEq] <;> rfl))
  (has:first++as++cap=as':=by first | (simp only [List.nil_append,List.cons_append,List.append_nil] <;> rfl) | rfl)
  (hg:g=none∨∃ t w,g=some (t,w)∧env.lookup t=some (.d (.bool w)):=by first | exact .inl rfl | exact .inr ⟨_,_,rfl,rfl⟩)
  (h:aj P fid as' d r env hp k K):RW P (⟨d,.call f args,g⟩::r) ⟨env,hp,k⟩ K:=by
 obtain ⟨F,F',v,nk,hc,hs,h⟩:=h;exact RW.CY hf ha has hc hs hg h
theorem aj.mk {fid:FuncId}{as':List SV}{F F' pO:Hp}{v v':SV}{nk k':Nat}{d:Nat}{env:List (Nat×SV)}{hp:Hp}{k:Nat}{Φ:Prop}(φ:Φ)
  (hs:HSub F hp:=by first | exact HSub.nil _ | (repeat (first | exact HSub.nil _ | refine HSub.cons (by rfl) ?_)))
  (hc:aF P fid as' F k nk v F')
  (hv:Φ→v=v':=by intro φ;first | ((simp only [φ]) <;> with_reducible rfl) | with_reducible rfl)
  (hh:Φ→bM false hp F F'=pO:=by (intro φ;simp only [φ,cB,bM,bS,bT,e_,eZ,dh,lk,List.lookup,Nat.reduceBEq,BEq.rfl,beq_self_eq_true,if_true,if_false,reduceIte,Nat.reduceEqDiff,Bool.false_eq_true,Option.isSome_some,Option.isSome_none] <;> with_reducible rfl))
  (hk:k+nk=k':=by first | (simp only [Nat.add_zero,Nat.reduceAdd] <;> rfl) | rfl)
  (h:RW P r ⟨(d,v')::env,pO,k'⟩ fun st' ts=>K st' ((false,F.map (·.1)++F'.map (·.1))::ts)):aj P fid as' (some d) r env hp k K:=⟨F,F',v,nk,hc,hs,by rw [hv φ,hh φ,hk];exact h⟩
end
section
variable {N k0:Nat} {r:List SI} {K:St→Prop}
theorem aW.op {d:Nat}{op:SO}{g:Option (Nat×Bool)}{env:List (Nat×SV)}{hp pO F F':Hp}{k k':Nat}{v:SV}{nk:Nat}{ob:Prop}{Φ:Prop}(φ:Φ)
  (hg:g=none∨∃ t w,g=some (t,w)∧env.lookup t=some (.d (.bool w)):=by first | exact .inl rfl | exact .inr ⟨_,_,rfl,rfl⟩)
  (he:Φ→eU P ⟨env,hp,k⟩ op []=some (⟨v,F,F',nk,ob⟩,[]):=by
   intro φ;simp (disch:=omega) only [Go.Sl.seg,kK,gr,eU,dm,ev,oQ,vA,kJ,List.lookup,Nat.reduceBEq,Nat.reduceAdd,Nat.reduceMul,Nat.zero_add,SV.cells,if_true,if_false,reduceIte,Bool.false_eq_true,cB,bM,bS,bT,e_,eZ,dh,lk,List.filter,Nat.reduceBNe,bne_self_eq_false,eq_self,zQ,wR,gf,vw,vz,Fs,av.cells_one,BEq.rfl,beq_self_eq_true,Bool.true_or,Nat.reduceEqDiff,List.map_cons,List.map_nil,List.nil_append,List.cons_append,List.append_nil,Int.toNat_natCast,Nat.mul_one,Nat.add_zero,gX,gW,kF,iI,iJ,iK,iL,iM,iN,kG,Option.isSome_some,Option.isSome_none,Option.isNone_some,Option.isNone_none,Nat.zero_ne_one,Nat.one_ne_zero,Bool.and_false,Bool.and_true,List.drop_zero,av.aH,av.aX,av.bE,Dt.cells_one,Dt.aX,Dt.A3,Dt.A4,Dt.bE,Dt.aH,Dt.Be,Dt.Bf,lX,eH,vB,tT,List.all_cons,List.all_nil,SV.dG,Int.cast_ofNat_Int,Int.reduceBNe,Int.reduceBEq,Int.reduceLT,Int.reduceLE,Int.reduceGT,Int.reduceGE,nJ,uJ,uK,Bool.not_true,Bool.not_false,Bool.or_false,Bool.or_true,Bool.false_or,Bool.or_self,av.qM,av.A5,av.uH,av.uI,av.dQ,av.dR,Dt.qM,Dt.A6,Dt.dQ,Dt.dR,List.all_append,av.yV,Dt.qv,Bool.cond_true,Bool.cond_false,wrap_i64,jJ,wrap_u32',wrap_u8',af,uV,lB,lC,Int.reduceToNat,List.length_nil,List.getElem?_cons_zero,List.getElem?_cons_succ,List.take_succ_cons,List.take_zero,List.drop_succ_cons,decide_true,decide_false,Bool.true_and,Bool.and_self,Bool.false_and,nL,nM,jW,jX,jI,MM.eD,lg,o7,nS,nV,nQ,nT,nR,nU,nO,nP,ag.cells_one,ag.aX,ag.lu,ag.A8,ag.uN,ag.A9,ag.lz,ag.uO,ag.uP,ag.JU,ag.iQ,ag.iR,ag.qP,ag.JV,ag.A_,ag.uQ,ag.Ba,ag.qQ,ag.qR,ag.uR,ag.uS,ag.bE,ag.aH,Cr.cells_one,Cr.aX,Cr.lu,Cr.lz,Cr.Bb,Cr.uT,Cr.iQ,Cr.iR,Cr.qP,Cr.qS,Cr.bE,Cr.aH,Cr.qv,nW,nX,nY,nZ,Sp.cells_one,Sp.aX,Sp.lu,Sp.gN,Sp.bE,Sp.aH,Sp.fI,Sp.qv,n_,n9,φ]
   with_reducible rfl)
  (bk:ob:=by first | trivial | (repeat' (first | exact trivial | omega | apply And.intro | (simp [-List.length_flatMap,-Int.natCast_add];done) | (simp [-List.length_flatMap,-Int.natCast_add] <;> omega))))
  (hh:Φ→bM (cB op) hp F F'=pO:=by (intro φ;simp only [φ,cB,bM,bS,bT,e_,eZ,dh,lk,List.lookup,Nat.reduceBEq,BEq.rfl,beq_self_eq_true,if_true,if_false,reduceIte,Nat.reduceEqDiff,Bool.false_eq_true,Option.isSome_some,Option.isSome_none] <;> with_reducible rfl))
  (hk:k+nk=k':=by first | (simp only [Nat.add_zero,Nat.reduceAdd] <;> rfl) | rfl)
  (h:aW P N k0 r ⟨(d,v)::env,pO,k'⟩ K):aW P N k0 (⟨some d,op,g⟩::r) ⟨env,hp,k⟩ K:=by
 refine aW.one (fU hg (he φ)) bk ?_;rw [gZ,hh φ,hk];exact h
theorem aW.d_ {op:SO}{g:Option (Nat×Bool)}{env:List (Nat×SV)}{hp pO F F':Hp}{k k':Nat}{v:SV}{nk:Nat}{ob:Prop}{Φ:Prop}(φ:Φ)
  (hg:g=none∨∃ t w,g=some (t,w)∧env.lookup t=some (.d (.bool w)):=by first | exact .inl rfl | exact .inr ⟨_,_,rfl,rfl⟩)
  (he:Φ→eU P ⟨env,hp,k⟩ op []=some (⟨v,F,F',nk,ob⟩,[]):=by
   intro φ;simp (disch:=omega) only [Go.Sl.seg,kK,gr,eU,dm,ev,oQ,vA,kJ,List.lookup,Nat.reduceBEq,Nat.reduceAdd,Nat.reduceMul,Nat.zero_add,SV.cells,if_true,if_false,reduceIte,Bool.false_eq_true,cB,bM,bS,bT,e_,eZ,dh,lk,List.filter,Nat.reduceBNe,bne_self_eq_false,eq_self,zQ,wR,gf,vw,vz,Fs,av.cells_one,BEq.rfl,beq_self_eq_true,Bool.true_or,Nat.reduceEqDiff,List.map_cons,List.map_nil,List.nil_append,List.cons_append,List.append_nil,Int.toNat_natCast,Nat.mul_one,Nat.add_zero,gX,gW,kF,iI,iJ,iK,iL,iM,iN,kG,Option.isSome_some,Option.isSome_none,Option.isNone_some,Option.isNone_none,Nat.zero_ne_one,Nat.one_ne_zero,Bool.and_false,Bool.and_true,List.drop_zero,av.aH,av.aX,av.bE,Dt.cells_one,Dt.aX,Dt.A3,Dt.A4,Dt.bE,Dt.aH,Dt.Be,Dt.Bf,lX,eH,vB,tT,List.all_cons,List.all_nil,SV.dG,Int.cast_ofNat_Int,Int.reduceBNe,Int.reduceBEq,Int.reduceLT,Int.reduceLE,Int.reduceGT,Int.reduceGE,nJ,uJ,uK,Bool.not_true,Bool.not_false,Bool.or_false,Bool.or_true,Bool.false_or,Bool.or_self,av.qM,av.A5,av.uH,av.uI,av.dQ,av.dR,Dt.qM,Dt.A6,Dt.dQ,Dt.dR,List.all_append,av.yV,Dt.qv,Bool.cond_true,Bool.cond_false,wrap_i64,jJ,wrap_u32',wrap_u8',af,uV,lB,lC,Int.reduceToNat,List.length_nil,List.getElem?_cons_zero,List.getElem?_cons_succ,List.take_succ_cons,List.take_zero,List.drop_succ_cons,decide_true,decide_false,Bool.true_and,Bool.and_self,Bool.false_and,nL,nM,jW,jX,jI,MM.eD,lg,o7,nS,nV,nQ,nT,nR,nU,nO,nP,ag.cells_one,ag.aX,ag.lu,ag.A8,ag.uN,ag.A9,ag.lz,ag.uO,ag.uP,ag.JU,ag.iQ,ag.iR,ag.qP,ag.JV,ag.A_,ag.uQ,ag.Ba,ag.qQ,ag.qR,ag.uR,ag.uS,ag.bE,ag.aH,Cr.cells_one,Cr.aX,Cr.lu,Cr.lz,Cr.Bb,Cr.uT,Cr.iQ,Cr.iR,Cr.qP,Cr.qS,Cr.bE,Cr.aH,Cr.qv,nW,nX,nY,nZ,Sp.cells_one,Sp.aX,Sp.lu,Sp.gN,Sp.bE,Sp.aH,Sp.fI,Sp.qv,n_,n9,φ]
   with_reducible rfl)
  (bk:ob:=by first | trivial | (repeat' (first | exact trivial | omega | apply And.intro | (simp [-List.length_flatMap,-Int.natCast_add];done) | (simp [-List.length_flatMap,-Int.natCast_add] <;> omega))))
  (hh:Φ→bM (cB op) hp F F'=pO:=by (intro φ;simp only [φ,cB,bM,bS,bT,e_,eZ,dh,lk,List.lookup,Nat.reduceBEq,BEq.rfl,beq_self_eq_true,if_true,if_false,reduceIte,Nat.reduceEqDiff,Bool.false_eq_true,Option.isSome_some,Option.isSome_none] <;> with_reducible rfl))
  (hk:k+nk=k':=by first | (simp only [Nat.add_zero,Nat.reduceAdd] <;> rfl) | rfl)
  (h:aW P N k0 r ⟨env,pO,k'⟩ K):aW P N k0 (⟨none,op,g⟩::r) ⟨env,hp,k⟩ K:=by
 refine aW.one (fU hg (he φ)) bk ?_;rw [gZ,hh φ,hk];exact h
theorem aW.skip {d:Nat}{op:SO}{t:Nat}{w:Bool}{env:List (Nat×SV)}{hp:Hp}{k:Nat}{s:SV}
  (hg:env.lookup t=some s:=by rfl) (hs:kV w s=true:=by rfl)
  (h:aW P N k0 r ⟨(d,.dU [])::env,hp,k⟩ K):aW P N k0 (⟨some d,op,some (t,w)⟩::r) ⟨env,hp,k⟩ K:=by
 have hh:bM (cB op) hp [] []=hp:=by unfold bM;split <;> rfl
 refine aW.one (e:=⟨.dU [],[],[],0,True⟩) (dx:=[]) (c2:=[]) ?_ trivial ?_
 ·unfold kV at hs
  split at hs
  ·simp only [eY,hg];rw [if_neg (by simpa using hs)]
  ·simp only [eY,hg]
  ·cases hs
 ·rw [gZ]
  show aW P N k0 r ⟨(d,.dU [])::env,bM (cB op) hp [] [],k+0⟩ _;rw [hh];exact h
theorem aW.bu {d:Nat}{f:X}{args:List X}{fid:FuncId}{as first cap as':List SV}{env:List (Nat×SV)}{hp F:Hp}{k nk:Nat}{Q:SV→Hp→Prop}
  (hsc:SC P fid as' F k nk Q) (hs:HSub F hp)
  (hf:ev (fun t=>env.lookup t) f=some (.fn (.func fid) first cap):=by (simp only [ev,List.lookup,Nat.reduceBEq] <;> rfl))
  (ha:oQ (fun t=>env.lookup t) args=some as:=by (simp only [ev,oQ,List.lookup,Nat.reduceBEq] <;> rfl))
  (has:first++as++cap=as':=by first | (simp only [List.nil_append,List.cons_append,List.append_nil] <;> rfl) | rfl)
  (h:∀ v F',Q v F'→aW P N k0 r ⟨(d,v)::env,bM false hp F F',k+nk⟩ K):aW P N k0 (⟨some d,.call f args,none⟩::r) ⟨env,hp,k⟩ K:=by
 refine aW.many (st:=⟨env,hp,k⟩) rfl (fun o hc=>Ac hc hf ha (by rw [has];exact hsc) hs) rfl fun v F' hq=> ?_
 rw [gZ];exact h v F' hq
theorem aW.sW {d:Nat}{f:X}{args:List X}{fid:FuncId}{as first cap as':List SV}{env:List (Nat×SV)}{hp pO F F':Hp}{k k' nk:Nat}{v v':SV}{Φ:Prop}(φ:Φ)
  (hsc:aF P fid as' F k nk v F')
  (hs:HSub F hp:=by first | exact HSub.nil _ | (repeat (first | exact HSub.nil _ | refine HSub.cons (by rfl) ?_)))
  (hf:ev (fun t=>env.lookup t) f=some (.fn (.func fid) first cap):=by (simp only [ev,List.lookup,Nat.reduceBEq] <;> rfl))
  (ha:oQ (fun t=>env.lookup t) args=some as:=by (simp only [ev,oQ,List.lookup,Nat.reduceBEq] <;> rfl))
  (has:first++as++cap=as':=by first | (simp only [List.nil_append,List.cons_append,List.append_nil] <;> rfl) | rfl)
  (hv:Φ→v=v':=by intro φ;first | ((simp only [φ]) <;> with_reducible rfl) | with_reducible rfl)
  (hh:Φ→bM false hp F F'=pO:=by (intro φ;simp only [φ,cB,bM,bS,bT,e_,eZ,dh,lk,List.lookup,Nat.reduceBEq,BEq.rfl,beq_self_eq_true,if_true,if_false,reduceIte,Nat.reduceEqDiff,Bool.false_eq_true,Option.isSome_some,Option.isSome_none] <;> with_reducible rfl))
  (hk:k+nk=k':=by first | (simp only [Nat.add_zero,Nat.reduceAdd] <;> rfl) | rfl)
  (h:aW P N k0 r ⟨(d,v')::env,pO,k'⟩ K):aW P N k0 (⟨some d,.call f args,none⟩::r) ⟨env,hp,k⟩ K:=by
 refine aW.many (st:=⟨env,hp,k⟩) rfl (fun o hc=>Ac hc hf ha (by rw [has];exact hsc) hs) rfl fun w G hq=> ?_
 obtain ⟨rfl,rfl⟩:=hq;rw [gZ];obtain rfl:=hv φ;obtain rfl:=hh φ;obtain rfl:=hk;exact h
end
theorem SB.mono {f:FuncId}{args:List SV}{F:Hp}{k nk:Nat}{Q Q':SV→Hp→Prop}(h:SB P f args F k nk Q)(hq:∀ r F,Q r F→Q' r F):SB P f args F k nk Q':=
 ⟨h.1,h.2.1,h.2.2.1,fun μ M w vals h1 h2=>(h.2.2.2 μ M w vals h1 h2).mono fun _ _ ⟨r,F',aV,M',u,e,hQ,x⟩=>⟨r,F',aV,M',u,e,hq r F' hQ,x⟩⟩
theorem SB.args {f:FuncId}{args args':List SV}{F:Hp}{k nk:Nat}{Q:SV→Hp→Prop}(h:SB P f args F k nk Q)(hok:SV.aA (fun n=>decide (n<k)) args'=true)
  (ha:∀ (p:Nat→Prop) (μ:Nat→Nm) (M:Mem) (vs:List Value),aN p μ M args' vs→aN p μ M args vs):SB P f args' F k nk Q:=
 ⟨h.1,hok,h.2.2.1,fun μ M w vals h1 h2=>h.2.2.2 μ M w vals (ha _ μ M _ h1) h2⟩
theorem End.mk {k nk:Nat}{pW:List RV}{Q:SV→Hp→Prop}{st:St}{ss:List SV}{ob:Prop}(F':Hp)
  (h1:Ci st pW=some (ss,ob):=by rfl)
  (h2:ob:=by simp [wR])
  (h3:HSub F' st.hp:=by first | exact HSub.nil _ | (repeat (first | exact HSub.nil _ | refine HSub.cons (by rfl) ?_)))
  (h4:Q (eE ss) F')
  (h5:(eE ss).ok (fun n=>decide (n<k+nk))=true:=by first | rfl | simp [eE,SV.ok,SV.aA,av.an,SV.aT])
  (h6:F'.ok (fun n=>decide (n<k+nk))=true:=by first | rfl | simp [Hp.ok,Ob.ok,SV.ok,SV.aA,av.an,SV.aT])
  (h7:k+nk≤st.k:=by simp):Go.Sl.Fin k nk pW Q st:=⟨ss,ob,F',h1,h2,h3,h4,h5,h6,h7⟩
theorem SW.au {N k0:Nat}{st:St}{Q:Exit→St→Prop}{x:X}{y z:bY}(hx:ev (fun t=>st.env.lookup t) x=some (.d (.bool true)))(h1:SW P N k0 y st Q):SW P N k0 (.cond x y z) st Q:=
 SW.cond hx (fun _=>h1) (fun h=>by cases h)
theorem SW.aq {N k0:Nat}{st:St}{Q:Exit→St→Prop}{x:X}{y z:bY}(hx:ev (fun t=>st.env.lookup t) x=some (.d (.bool false)))(h1:SW P N k0 z st Q):SW P N k0 (.cond x y z) st Q:=
 SW.cond hx (fun h=>by cases h) (fun _=>h1)
theorem SW.lD {N k0:Nat}{st:St}{Q:Exit→St→Prop}{α:Type}{x:bY}(I:α→St)(m:α→Nat)(i0:α)(IG:Nat→Nat){Φ:Prop}(φ:Φ)
  (h0:Φ→aM k0 st (I i0) IG:=by intro φ;simp [Go.Sl.aM,aQ,uC,CI,SV.aB,SV.aK,SV.ok,SV.aA,Ob.aB,Ob.ok,lk,List.lookup,av.ax,Dt.ax,SV.fP,SV.aT,SV.jj,SV.jT,av.an,bV,bw,sU,vJ,kK,φ])
  (round:∀ i,SW P N k0 x (I i) fun e st'=>match e with | .normal=>∃ j ρ,m j<m i∧aM k0 st' (I j) ρ | e=>Q e st'):SW P N k0 (.loop x) st Q:=SW.loop I m i0 IG (h0 φ) round
theorem aM.mk {k0:Nat}{st st1:St}{ρ:Nat→Nat}{Φ:Prop}(φ:Φ)(h0:Φ→aM k0 st st1 ρ:=by intro φ;simp [Go.Sl.aM,aQ,uC,CI,SV.aB,SV.aK,SV.ok,SV.aA,Ob.aB,Ob.ok,lk,List.lookup,av.ax,Dt.ax,SV.fP,SV.aT,SV.jj,SV.jT,av.an,bV,bw,sU,vJ,kK,φ]):aM k0 st st1 ρ:=h0 φ
theorem Next.mk {k0:Nat}{st':St}{α:Type}{I:α→St}{m:α→Nat}{i:α}(j:α)(ρ:Nat→Nat){Φ:Prop}(φ:Φ)
  (hm:m j<m i:=by first | omega | (simp;done) | (simp;omega))
  (h0:Φ→aM k0 st' (I j) ρ:=by intro φ;simp [Go.Sl.aM,aQ,uC,CI,SV.aB,SV.aK,SV.ok,SV.aA,Ob.aB,Ob.ok,lk,List.lookup,av.ax,Dt.ax,SV.fP,SV.aT,SV.jj,SV.jT,av.an,bV,bw,sU,vJ,kK,φ]):∃ j ρ,m j<m i∧aM k0 st' (I j) ρ:=⟨j,ρ,hm,h0 φ⟩
end
end Go.Sl
