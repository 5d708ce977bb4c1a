/-
 Small lemmas for walks.
-/
import Derived.Test.YtaelhkkjgfobhaaGreatK3
import Derived.ProofKit
import Derived.OpenShut
import Derived.Carry
import Derived.ShutString
import Derived.Maps.RangeRun
set_option linter.unusedSimpArgs false
set_option linter.unusedSectionVars false
set_option linter.unusedVariables false
namespace Go.Sl
open Go.RowKit
abbrev u32 (n:Nat):SV:= .d (.int .u32 (n:Int))
abbrev u64 (n:Nat):SV:= .d (.int .u64 (n:Int))
abbrev u8 (n:Nat):SV:= .d (.int .u8 (n:Int))
abbrev i64 (n:Int):SV:= .d (.int .i64 n)
abbrev bl (b:Bool):SV:= .d (.bool b)
mutual
theorem SV.mM:∀ s:SV,s.aC id=s
 | .d _ | .ptr _ _ | .gs _ _ | .bs _ _ _ | .vp _ _ | .mp _ | .it _ | .yl _ | .any=>rfl
 | .fn f a c=>by simp only [SV.aC,SV.b_ a,SV.b_ c]
 | .agg cs=>by simp only [SV.aC,SV.b_ cs]
 | .dM cs=>by simp only [SV.aC,SV.b_ cs]
theorem SV.b_:∀ s:List SV,SV.aW id s=s
 | []=>rfl
 | c::cs=>by simp only [SV.aW,SV.mM c,SV.b_ cs]
end
theorem Ob.mM (o:Ob):o.aC id=o:=by
 cases o <;> simp [Ob.aC,SV.b_,SV.mM]
section
variable {P:Program} {N k0:Nat} {st:St} {Q:Exit→St→Prop}
end
theorem sR {α β:Type}(f:α→List β)(sz:Nat)(hf:∀ x,(f x).length=sz):∀ (l:List α) (i j:Nat) (x:α),l[i]? =some x→j<sz→(l.flatMap f)[i*sz+j]? =(f x)[j]?
 | [],i,j,x,h,_=>by simp at h
 | y::l,0,j,x,h,hj=>by
  simp at h;subst h
  rw [List.flatMap_cons,List.getElem?_append_left (by rw [hf];omega)]
  simp
 | y::l,i+1,j,x,h,hj=>by
  simp at h
  rw [List.flatMap_cons,List.getElem?_append_right (by rw [hf,Nat.add_mul];omega),hf]
  rw [show (i+1)*sz+j - sz=i*sz+j by rw [Nat.add_mul];omega]
  exact sR f sz hf l i j x h hj
theorem kO {α β:Type}(f:α→List β)(sz:Nat)(hf:∀ x,(f x).length=sz):∀ (l:List α) (i:Nat) (x:α),l[i]? =some x→((l.flatMap f).drop (i*sz)).take sz=f x
 | [],i,x,h=>by simp at h
 | y::l,0,x,h=>by
  simp at h;subst h
  simp [List.flatMap_cons,List.take_left' (hf y)]
 | y::l,i+1,x,h=>by
  simp at h
  rw [List.flatMap_cons,Nat.add_mul,Nat.one_mul,Nat.add_comm,← List.drop_drop,List.drop_left' (hf y)]
  exact kO f sz hf l i x h
theorem dw {α β:Type}(f:α→List β)(sz:Nat)(hf:∀ x,(f x).length=sz)(l:List α):(l.flatMap f).length=l.length*sz:=by
 induction l with
 | nil=>simp
 | cons x l ih=>simp [List.flatMap_cons,hf,ih,Nat.add_mul,Nat.add_comm]
theorem vP (n:Int)(h: -9223372036854775808≤n)(h':n<9223372036854775808):IntKind.i64.wrap n=n:=by
 simp [IntKind.wrap,IntKind.bits,IntKind.signed];omega
theorem HSub.nil (h:Hp):HSub [] h:=fun n ob hn=>by simp [bt] at hn
def Pure (P:Program)(f:FuncId)(args:List SV)(v:SV):Prop:=SB P f args [] 0 0 fun r F=>r=v∧F=[]
theorem SV.uN {ρ:Nat→Nat}(s:SV):s.ok (fun n=>decide (n<0))=true→s.aC ρ=s:=
 SV.rec (motive_1:=fun s=>s.ok (fun n=>decide (n<0))=true→s.aC ρ=s) (motive_2:=fun l=>SV.ay (fun n=>decide (n<0)) l=true→SV.aW ρ l=l)
  (fun _ _=>rfl) (fun _ _ h=>by simp [SV.ok] at h) (fun _ _ h=>by simp [SV.ok] at h) (fun _ _ _ h=>by simp [SV.ok] at h) (fun _ _ _=>rfl) (fun _ h=>by simp [SV.ok] at h) (fun _ h=>by simp [SV.ok] at h) (fun _ h=>by simp [SV.ok] at h)
  (fun f a c h1 h2 h=>by simp only [SV.ok,Bool.and_eq_true] at h;simp only [SV.aC,h1 h.1,h2 h.2])
  (fun cs h1 h=>by simp only [SV.ok] at h;simp only [SV.aC,h1 h]) (fun cs h1 h=>by simp only [SV.ok] at h;simp only [SV.aC,h1 h]) (fun _=>rfl)
  (fun _=>rfl) (fun c cs h1 h2 h=>by simp only [SV.ay,Bool.and_eq_true] at h;simp only [SV.aW,h1 h.1,h2 h.2]) s
theorem Pure.sc {P:Program}{f:FuncId}{args:List SV}{v:SV}(h:Pure P f args v)(hv:v.ok (fun n=>decide (n<0))=true)(k:Nat):aM P f args [] k 0 v []:=by
 have:=SB.at h id k (fun n m hn=>absurd hn (Nat.not_lt_zero n)) (fun n hn=>absurd hn (Nat.not_lt_zero n)) (fun i hi=>absurd hi (Nat.not_lt_zero i))
 rw [SV.b_] at this
 refine this.mono ?_
 rintro r F' ⟨r0,F0,⟨rfl,rfl⟩,rfl,rfl⟩
 exact ⟨SV.uN _ hv,rfl⟩
structure aL where
 (a0 a1 a2 a3 a4 a5 a6 a7:Nat)
 deriving DecidableEq
def aL.get (v:aL):Nat→Nat
 | 0=>v.a0 | 1=>v.a1 | 2=>v.a2 | 3=>v.a3 | 4=>v.a4 | 5=>v.a5 | 6=>v.a6 | 7=>v.a7 | _=>0
def aL.of (f:Nat→Nat):aL:=⟨f 0,f 1,f 2,f 3,f 4,f 5,f 6,f 7⟩
theorem aL.KH (f:Nat→Nat){r:Nat}(h:r<8):(aL.of f).get r=f r:=by
 match r,h with
 | 0,_ | 1,_ | 2,_ | 3,_ | 4,_ | 5,_ | 6,_ | 7,_=>rfl
def aL.ds (v:aL):List DV:=[.int .u32 v.a0,.int .u32 v.a1,.int .u32 v.a2,.int .u32 v.a3,.int .u32 v.a4,.int .u32 v.a5,.int .u32 v.a6,.int .u32 v.a7]
def aL.cells (v:aL):List SV:=[u32 v.a0,u32 v.a1,u32 v.a2,u32 v.a3,u32 v.a4,u32 v.a5,u32 v.a6,u32 v.a7]
theorem aL.qx (v:aL):v.ds.map .d=v.cells:=rfl
theorem aL.lV (v:aL):v.ds.length=8:=rfl
theorem aL.gQ (v:aL){r:Nat}(h:r<8):v.cells[r]? =some (u32 (v.get r)):=by
 match r,h with
 | 0,_ | 1,_ | 2,_ | 3,_ | 4,_ | 5,_ | 6,_ | 7,_=>rfl
theorem aL.cells_one (v:aL):v.cells.all SV.dG=true:=rfl
theorem aL.kP (v:aL):v.cells.length=8:=rfl
theorem aL.ai (v:aL)(q:Nat→Bool):SV.ay q v.cells=true:=rfl
def aL.set (v:aL)(i x:Nat):aL:=aL.of fun r=>if r=i then x else v.get r
def aL.wf (v:aL):Prop:=∀ r,r<8→v.get r<4294967296
theorem aL.qh (a b:aL):iA (rep 8 [true]) a.cells b.cells=some (decide (a=b)):=by
 have h:iA (rep 8 [true]) a.cells b.cells=some (((a.a0:Int) == b.a0) && (((a.a1:Int) == b.a1) && (((a.a2:Int) == b.a2) && (((a.a3:Int) == b.a3) && (((a.a4:Int) == b.a4) && (((a.a5:Int) == b.a5) && (((a.a6:Int) == b.a6) && (((a.a7:Int) == b.a7) && true)))))))):=by
  simp [iA,EC,rep,aL.cells]
 rw [h]
 congr 1
 obtain ⟨a0,a1,a2,a3,a4,a5,a6,a7⟩:=a
 obtain ⟨b0,b1,b2,b3,b4,b5,b6,b7⟩:=b
 rw [Bool.eq_iff_iff]
 simp
 omega
end Go.Sl
namespace Go.Sl
open Go.RowKit Go.ChangeShapes Go.WideShapes
def xk (P:Program):Nat→List Field→Option Nat
 | o,[]=>some o
 | o,f::fs=>if f.offset=o then xk P (o+P.cellsOf f.type) fs else none
def Fit (P:Program):Nat→TypeId→List DV→Prop
 | 0,_,_=>False
 | d+1,t,ds=>match P.underlying t with
  | some .bool=>∃ b,ds=[.bool b]
  | some (.int k)=>∃ n,ds=[.int k n]∧(Lit.int k n).wf=true
  | some (.struct fs)=>ds.length=P.cellsOf t∧∀ f∈fs.toList,Fit P d f.type ((ds.drop f.offset).take (P.cellsOf f.type))
  | some (.array n e)=>ds.length=P.cellsOf t∧∀ i,i<n→Fit P d e ((ds.drop (i*P.cellsOf e)).take (P.cellsOf e))
  | some (.slice e)=>ds=[.aU]∨∃ n cs,ds=[.sl n cs]∧n≤9223372036854775807∧cs.length=n*P.cellsOf e∧∀ i,i<n→Fit P d e ((cs.drop (i*P.cellsOf e)).take (P.cellsOf e))
  | _=>False
def iw (P:Program):Nat→TypeId→Bool
 | 0,_=>false
 | d+1,t=>match P.underlying t with
  | some .bool=>P.cellsOf t == 1
  | some (.int _)=>P.cellsOf t == 1
  | some (.struct fs)=>(xk P 0 fs.toList == some (P.cellsOf t)) && fs.toList.all fun f=>iw P d f.type
  | some (.array n e)=>(P.cellsOf t == n*P.cellsOf e) && iw P d e
  | some (.slice e)=>(P.cellsOf t == 1) && iw P d e && decide (0<P.cellsOf e) && decide (0<P.bytesOf e)
  | _=>false
def jM (w:World):Mem:=fun b o=>w.cell? ⟨b,o,none⟩
def Cells (M:Mem):List Value→List DV→Prop
 | [],[]=>True
 | v::vs,d::ds=>bQ M d v∧Cells M vs ds
 | _,_=>False
theorem Cells.length {M:Mem}:∀ {vs:List Value} {ds:List DV},Cells M vs ds→vs.length=ds.length
 | [],[],_=>rfl
 | v::vs,d::ds,h=>by simp only [Cells] at h;simp [h.2.length]
 | [],d::ds,h=>by simp [Cells] at h
 | v::vs,[],h=>by simp [Cells] at h
theorem Cells.append {M:Mem}:∀ {vs us:List Value} {ds es:List DV},Cells M vs ds→Cells M us es→Cells M (vs++us) (ds++es)
 | [],us,[],es,_,h=>by simpa using h
 | v::vs,us,d::ds,es,h,k=>by simp only [Cells] at h;simp only [List.cons_append,Cells];exact ⟨h.1,h.2.append k⟩
 | [],us,d::ds,es,h,_=>by simp [Cells] at h
 | v::vs,us,[],es,h,_=>by simp [Cells] at h
theorem Cells.Lc {M:Mem}{p:Nat→Prop}{μ:Nat→Nm}:∀ {vs:List Value} {ds:List DV},Cells M vs ds→aR p μ M (ds.map .d) vs
 | [],[],_=>aR.aP.2 rfl
 | v::vs,d::ds,h=>by simp only [Cells] at h;exact aR.aF.2 ⟨v,vs,rfl,Rp.cu.2 h.1,h.2.Lc⟩
 | [],d::ds,h=>by simp [Cells] at h
 | v::vs,[],h=>by simp [Cells] at h
theorem Cells.I_ {w:World}{b:Nat}:∀ {vs:List Value} {ds:List DV} (q:Nat),Cells (jM w) vs ds→(∀ (i:Nat) (v:Value),vs[i]? =some v→w.cell? ⟨b,q+i,none⟩=some v)→cQ (jM w) b q ds
 | [],[],q,_,_=>by simp [cQ]
 | v::vs,d::ds,q,h,hc=>by
  simp only [Cells] at h
  simp only [cQ]
  refine ⟨⟨v,by simpa [jM] using hc 0 v rfl,h.1⟩,Cells.I_ (q+1) h.2 fun i u hi=> ?_⟩
  have:=hc (i+1) u (by simpa using hi)
  rwa [show q+(i+1)=q+1+i by omega] at this
 | [],d::ds,q,h,_=>by simp [Cells] at h
 | v::vs,[],q,h,_=>by simp [Cells] at h
section
variable {H:Type} {enc:TypeId×Value→H} {P:Program} {w:World} {sp:Nat→Bool} {held:Bool}
theorem uO:∀ {d:Nat} {t:TypeId} {ds:List DV},iw P d t=true→Fit P d t ds→ds.length=P.cellsOf t
 | 0,t,ds,h,_=>by simp [iw] at h
 | d +1,t,ds,h,hf=>by
  simp only [iw] at h
  simp only [Fit] at hf
  split at h
  ·rename_i hu;rw [hu] at hf;obtain ⟨b,rfl⟩:=hf;simp at h;simp [h]
  ·rename_i hu;rw [hu] at hf;obtain ⟨b,rfl,_⟩:=hf;simp at h;simp [h]
  ·rename_i hu;rw [hu] at hf;exact hf.1
  ·rename_i hu;rw [hu] at hf;exact hf.1
  ·rename_i hu;rw [hu] at hf
   simp at h
   rcases hf with rfl | ⟨n,cs,rfl,_⟩ <;> simp [h.1.1.1]
  ·cases h
theorem zA:∀ {fs:List Field} {o n:Nat},xk P o fs=some n→o≤n
 | [],o,n,h=>by simp [xk] at h;omega
 | f::fs,o,n,h=>by
  simp only [xk] at h
  split at h
  ·have:=zA h;omega
  ·cases h
mutual
def DV.small (B:Nat):DV→Prop
 | .sl n cs=>n≤B∧dR B cs
 | _=>True
def dR (B:Nat):List DV→Prop
 | []=>True
 | c::cs=>c.small B∧dR B cs
end
theorem dR.append {B:Nat}:∀ {cs ds:List DV},dR B cs→dR B ds→dR B (cs++ds)
 | [],_,_,h=>h
 | _::_,_,h,k=>by
  simp only [List.cons_append,dR] at h ⊢
  exact ⟨h.1,h.2.append k⟩
theorem sS {B:Nat}:∀ {cs:List DV},dR B cs↔∀ c,c∈cs→c.small B
 | []=>by simp [dR]
 | c::cs=>by simp [dR,sS (cs:=cs)]
def yq (P:Program)(B:Nat)(t:TypeId)(y:DataW H):Prop:=∀ n,n∈y.weights P t→n≤B
def Sm (P:Program)(t:TypeId)(ds:List DV)(y:DataW H):Prop:=∀ (B:Nat),yq P B t y→dR B ds
theorem jN {P:Program}{e:TypeId}{n:Nat}:∀ {xs:List (DataW H)} {x:DataW H},x∈xs→n∈x.weights P e→n∈DataW.weightsAll P e xs
 | [],_,h,_=>by cases h
 | y::ys,x,h,hn=>by
  simp only [DataW.weightsAll,List.mem_append]
  rcases List.mem_cons.1 h with rfl | h
  ·exact .inl hn
  ·exact .inr (jN h hn)
theorem mw {P:Program}{n:Nat}:∀ {ts:List TypeId} {xs:List (DataW H)} {j:Nat} {t:TypeId} {x:DataW H},ts[j]? =some t→xs[j]? =some x→n∈x.weights P t→n∈DataW.weightsEach P ts xs
 | t0::ts,x0::xs,0,t,x,ht,hx,hn=>by
  simp at ht hx;subst ht;subst hx
  simp only [DataW.weightsEach,List.mem_append];exact .inl hn
 | t0::ts,x0::xs,j+1,t,x,ht,hx,hn=>by
  simp at ht hx
  simp only [DataW.weightsEach,List.mem_append];exact .inr (mw ht hx hn)
 | [],_,_,_,_,ht,_,_=>by simp at ht
 | _::_,[],_,_,_,_,hx,_=>by simp at hx
theorem yq.slice {P:Program}{B:Nat}{t e:TypeId}{es sp:List (DataW H)}(hu:P.underlying t=some (.slice e))(h:yq P B t (.slice es sp)):(0<P.bytesOf e→es.length≤B)∧∀ x,x∈es→yq P B e x:=by
 constructor
 ·intro hp
  have:=h ((es.length+sp.length)*P.bytesOf e) (by simp [DataW.weights,hu])
  have h2:es.length*1≤(es.length+sp.length)*P.bytesOf e:=Nat.mul_le_mul (by omega) hp
  omega
 ·intro x hx n hn
  exact h n (by simp only [DataW.weights,hu,List.mem_cons,List.mem_append];exact .inr (.inl (jN hx hn)))
theorem yq.struct {P:Program}{B:Nat}{t:TypeId}{fs:Array Field}{xs:List (DataW H)}(hu:P.underlying t=some (.struct fs))(h:yq P B t (.agg xs)){i:Nat}{f:Field}{x:DataW H}(hf:fs.toList[i]? =some f)(hx:xs[i]? =some x):yq P B f.type x:=fun n hn=>
 h n (by simp only [DataW.weights,hu];exact mw (j:=i) (by rw [List.getElem?_map,hf];rfl) hx hn)
theorem yq.array {P:Program}{B:Nat}{t e:TypeId}{k:Nat}{xs:List (DataW H)}(hu:P.underlying t=some (.array k e))(h:yq P B t (.agg xs)){x:DataW H}(hx:x∈xs):yq P B e x:=fun n hn=>
 h n (by simp only [DataW.weights,hu];exact jN hx hn)
theorem sU (d fuel:Nat)(cs:List Value)(Q:Field→DataW H→Prop)(part:∀ f:Field,iw P d f.type=true→∀ x,DataW.trod enc P w 0 sp held fuel f.type ((cs.drop f.offset).take (P.cellsOf f.type))=some x→
   ∃ ds,Fit P d f.type ds∧Cells (jM w) ((cs.drop f.offset).take (P.cellsOf f.type)) ds∧Sm P f.type ds x.1):
  ∀ (fs:List Field) (o n:Nat),xk P o fs=some n→n≤cs.length→(∀ f∈fs,iw P d f.type=true∧∃ x,DataW.trod enc P w 0 sp held fuel f.type ((cs.drop f.offset).take (P.cellsOf f.type))=some x∧Q f x.1)→
   ∃ ds,ds.length=n - o∧Cells (jM w) ((cs.drop o).take (n - o)) ds∧(∀ f∈fs,o≤f.offset∧Fit P d f.type ((ds.drop (f.offset - o)).take (P.cellsOf f.type)))∧∀ (B:Nat),(∀ f x,Q f x→yq P B f.type x)→dR B ds
 | [],o,n,h,_,_=>by
  simp [xk] at h
  subst h
  exact ⟨[],by simp,by simp [Cells],by simp,fun _ _=>trivial⟩
 | f ::fs,o,n,h,hn,hf=>by
  simp only [xk] at h
  split at h <;> first | (cases h;done) | skip
  rename_i ho
  have hle:=zA h
  obtain ⟨ds2,l2,c2,f2,s2⟩:=sU d fuel cs Q part fs _ n h hn fun g hg=>hf g (by simp [hg])
  obtain ⟨x1,hx1,hq1⟩:=(hf f (by simp)).2
  obtain ⟨ds1,f1,c1,s1⟩:=part f (hf f (by simp)).1 x1 hx1
  have l1:=uO (hf f (by simp)).1 f1
  refine ⟨ds1++ds2,by simp [l1,l2];omega,?_,?_,fun B hq=>(s1 B (hq _ _ hq1)).append (s2 B hq)⟩
  ·have:=c1.append c2
   rw [ho] at this
   have e:(cs.drop o).take (n - o)=(cs.drop o).take (P.cellsOf f.type)++(cs.drop (o+P.cellsOf f.type)).take (n - (o+P.cellsOf f.type)):=by
    rw [← List.drop_drop,show n - o=P.cellsOf f.type+(n - (o+P.cellsOf f.type)) by omega,List.take_add]
   rw [e];exact this
  ·intro g hg
   rcases List.mem_cons.1 hg with rfl | hg
   ·refine ⟨by omega,?_⟩
    rw [show g.offset - o=0 by omega,List.drop_zero,List.take_left' l1]
    exact f1
   ·obtain ⟨q1,q2⟩:=f2 g hg
    refine ⟨by omega,?_⟩
    rw [List.drop_append,List.drop_eq_nil_of_le (by omega),List.nil_append,l1,show g.offset - o - P.cellsOf f.type=g.offset - (o+P.cellsOf f.type) by omega]
    exact q2
theorem qy (d:Nat)(e:TypeId)(he:iw P d e=true)(cell:Nat→List Value)(Q:DataW H→Prop):∀ (n k:Nat),(∀ i,i<n→∃ ds,Fit P d e ds∧Cells (jM w) (cell (k+i)) ds∧∃ x,Q x∧Sm P e ds x)→
  ∃ ds,ds.length=n*P.cellsOf e∧Cells (jM w) ((List.range' k n).flatMap cell) ds∧(∀ i,i<n→Fit P d e ((ds.drop (i*P.cellsOf e)).take (P.cellsOf e)))∧∀ (B:Nat),(∀ x,Q x→yq P B e x)→dR B ds
 | 0,k,_=>⟨[],by simp,by simp [Cells],by omega,fun _ _=>trivial⟩
 | n + 1,k,h=>by
  obtain ⟨ds1,f1,c1,x1,hq1,s1⟩:=h 0 (by omega)
  have l1:=uO he f1
  obtain ⟨ds2,l2,c2,f2,s2⟩:=qy d e he cell Q n (k+1) fun i hi=>by
   have:=h (i+1) (by omega)
   rwa [show k+(i+1)=k+1+i by omega] at this
  refine ⟨ds1++ds2,by simp [l1,l2,Nat.add_mul];omega,?_,fun i hi=> ?_,fun B hq=>(s1 B (hq _ hq1)).append (s2 B hq)⟩
  ·rw [List.range'_succ,List.flatMap_cons]
   exact c1.append c2
  ·cases i with
   | zero=>simp [List.take_left' l1];exact f1
   | succ i=>
    rw [Nat.add_mul,Nat.one_mul,Nat.add_comm,← List.drop_drop,List.drop_left' l1]
    exact f2 i (by omega)
theorem gQ {b o n:Nat}{base:Nat}{cs:List Value}(h:w.cells? base ⟨b,o,none⟩ n=some cs):cs.length=n∧∀ (i:Nat) (v:Value),cs[i]? =some v→w.cell? ⟨b,o+i,none⟩=some v:=by
 obtain ⟨_,h1,h2⟩:=World.cells?_some h
 refine ⟨h1,fun i v hi=> ?_⟩
 have hlt:i<n:=by
  have:=(List.getElem?_eq_some_iff.1 hi).1;omega
 have:=h2 i hlt
 rw [dz] at this
 rw [this];exact hi
theorem BX : ∀ (d fuel:Nat) (t:TypeId) (cs:List Value) (x:DataW H×List MemPlace),iw P d t=true→DataW.trod enc P w 0 sp held fuel t cs=some x→∃ ds,Fit P d t ds∧Cells (jM w) cs ds∧Sm P t ds x.1:=by
  intro d
  induction d with
  | zero=>intro fuel t cs x h;simp [iw] at h
  | succ d ih =>
    intro fuel t cs x h hx
    simp only [iw] at h
    simp only [Fit]
    split at h
    · rename_i hu
      (try rw [hu])
      obtain ⟨b,rfl,_⟩:=DataW.trod_bool hu hx
      exact ⟨[.bool b],⟨b,rfl⟩,by simp [Cells,bQ],fun _ _=>by simp [dR,DV.small]⟩
    · rename_i k hu
      (try rw [hu])
      obtain ⟨n,rfl,_,hw⟩:=DataW.trod_int hu hx
      exact ⟨[.int k n],⟨n,rfl,hw⟩,by simp [Cells,bQ],fun _ _=>by simp [dR,DV.small]⟩
    · rename_i fs hu
      (try rw [hu])
      simp only [Bool.and_eq_true,beq_iff_eq,List.all_eq_true] at h
      obtain ⟨xs,n,hn,hxe,hl,hxl,hf⟩:=DataW.trod_struct hu hx
      obtain ⟨ds,l1,c1,f1,s1⟩:=sU d n cs (fun f x=>∃ i,fs.toList[i]? =some f∧(xs.map (·.1))[i]? =some x) (fun f hft y hy=>ih n f.type _ y hft hy) fs.toList 0 (P.cellsOf t) h.1 (by omega) fun f hf'=>by
        refine ⟨h.2 f hf',?_⟩
        obtain ⟨i,hi,e⟩:=List.getElem_of_mem hf'
        have hfi:fs[i]? =some f:=by
          have hi':i<fs.size:=by simpa using hi
          rw [Array.getElem?_eq_getElem hi'];simpa using e
        have:=hf i f hfi
        have hix:i<xs.length:=by rw [hxl];simpa using hi
        exact ⟨_,this.trans (List.getElem?_eq_getElem hix),i,by rw [Array.getElem?_toList];exact hfi,by rw [List.getElem?_map,List.getElem?_eq_getElem hix];rfl⟩
      refine ⟨ds,⟨by simpa using l1,fun f hf'=>by simpa using (f1 f hf').2⟩,?_,fun B hq=>s1 B fun f x ⟨i,h1,h2⟩=>yq.struct hu (by rw [hxe] at hq;exact hq) h1 h2⟩
      rw [List.drop_zero,Nat.sub_zero,List.take_of_length_le (by omega)] at c1
      exact c1
    · rename_i n e hu
      (try rw [hu])
      simp only [Bool.and_eq_true,beq_iff_eq] at h
      obtain ⟨xs,m,hm,hxe,hl,hxl,hf⟩:=DataW.trod_array hu hx
      obtain ⟨ds,l1,c1,f1,s1⟩:=qy d e h.2 (fun i=>(cs.drop (i*P.cellsOf e)).take (P.cellsOf e)) (fun x=>x∈xs.map (·.1)) n 0 fun i hi=>by
        have:=hf i hi
        have hix:i<xs.length:=by omega
        rw [Nat.zero_add]
        obtain ⟨ds,a1,a2,a3⟩:=ih m e _ _ h.2 (this.trans (List.getElem?_eq_getElem hix))
        exact ⟨ds,a1,a2,_,List.mem_map.2 ⟨_,List.getElem_mem hix,rfl⟩,a3⟩
      have hfl:∀ (n k:Nat) (cs:List Value),(k+n)*P.cellsOf e≤cs.length→(List.range' k n).flatMap (fun i=>(cs.drop (i*P.cellsOf e)).take (P.cellsOf e))=(cs.drop (k*P.cellsOf e)).take (n*P.cellsOf e):=by
        intro n
        induction n with
        | zero=>intro k cs _;simp
        | succ n ihn=>
          intro k cs hk
          rw [List.range'_succ,List.flatMap_cons,ihn (k+1) cs (by rwa [show k+1+n=k+(n+1) by omega])]
          rw [show (n+1)*P.cellsOf e=P.cellsOf e+n*P.cellsOf e by rw [Nat.add_mul];omega,List.take_add,List.drop_drop]
          rw [show k*P.cellsOf e+P.cellsOf e=(k+1)*P.cellsOf e by rw [Nat.add_mul];omega]
      refine ⟨ds,⟨by rw [l1,h.1],f1⟩,?_,fun B hq=>s1 B fun x hx'=>yq.array hu (by rw [hxe] at hq;exact hq) hx'⟩
      rw [hfl n 0 cs (by rw [hl,h.1];simp)] at c1
      rw [Nat.zero_mul,List.drop_zero,List.take_of_length_le (by rw [hl,h.1];exact Nat.le_refl _)] at c1
      exact c1
    · rename_i e hu
      (try rw [hu])
      simp only [Bool.and_eq_true,beq_iff_eq,decide_eq_true_eq] at h
      rcases DataW.trod_slice hu hx with ⟨rfl,_⟩ | ⟨a,len,cap,elems,rest,n,hn,rfl,hxe,_,hlc,Kn,hel,hf,_⟩
      · exact ⟨[.aU],.inl rfl,by simp [Cells,bQ],fun _ _=>by simp [dR,DV.small]⟩
      · have hspot:0<len→a.spot=none:=by
          intro hpos
          have:=hf 0 hpos
          rw [show elems[0]? =some (elems[0]'(by omega)) from List.getElem?_eq_getElem (by omega)] at this
          obtain ⟨c0,h0,_⟩:=Option.bind_eq_some_iff.1 this
          obtain ⟨_,h1,h2⟩:=World.cells?_some h0
          have h3:=h2 0 h.1.2
          simp only [Nat.zero_mul] at h3
          have e0:(a.add 0).add 0=a:=by simp [Addr.add]
          rw [e0] at h3
          have hsome:c0[0]? =some (c0[0]'(by omega)):=List.getElem?_eq_getElem (by omega)
          rw [hsome] at h3
          unfold World.cell? at h3
          split at h3
          · split at h3
            · cases h3
            · rename_i hs;simpa using hs
          · cases h3
        have hA:0<len→a=⟨a.block,a.off,none⟩:=fun hpos=>by
          have:=hspot hpos
          obtain ⟨b,o,s⟩:=a
          simp at this
          subst this;rfl
        have hcell:∀ i,i<len→∃ c,w.cells? 0 (a.add (i*P.cellsOf e)) (P.cellsOf e)=some c∧∃ ds,Fit P d e ds∧Cells (jM w) c ds∧∃ x,x∈elems.map (·.1)∧Sm P e ds x:=by
          intro i hi
          have:=hf i hi
          rw [List.getElem?_eq_getElem (show i<elems.length by omega)] at this
          obtain ⟨c,h0,h1⟩:=Option.bind_eq_some_iff.1 this
          obtain ⟨ds,a1,a2,a3⟩:=ih n e c _ h.1.1.2 h1
          exact ⟨c,h0,ds,a1,a2,_,List.mem_map.2 ⟨_,List.getElem_mem (by omega),rfl⟩,a3⟩
        let cell:Nat→List Value:=fun i=>((w.cells? 0 (a.add (i*P.cellsOf e)) (P.cellsOf e)).getD [])
        have lP:∀ i,i<len→w.cells? 0 (a.add (i*P.cellsOf e)) (P.cellsOf e)=some (cell i):=fun i hi=>by
          obtain ⟨c,h0,_⟩:=hcell i hi
          simp only [cell];rw [h0];rfl
        obtain ⟨ds,l1,c1,f1,s1⟩:=qy d e h.1.1.2 cell (fun x=>x∈elems.map (·.1)) len 0 fun i hi=>by
          obtain ⟨c,h0,h1⟩:=hcell i hi
          rw [Nat.zero_add]
          simp only [cell];rw [h0];exact h1
        refine ⟨[.sl len ds],.inr ⟨len,ds,rfl,by unfold maxLen at Kn;omega,l1,f1⟩,?_,fun B hq=> ?_⟩
        rotate_left
        · rw [hxe] at hq
          simp only [dR,DV.small,and_true]
          obtain ⟨g1,g2⟩:=yq.slice hu hq
          have:=g1 h.2
          rw [List.length_map,hel] at this
          exact ⟨this,s1 B fun x hx'=>g2 x hx'⟩
        simp only [Cells,bQ,and_true]
        refine ⟨some a,cap,rfl,hlc,fun h0=> ?_,fun hpos=>⟨a.block,a.off,by rw [← hA hpos],?_⟩⟩
        · subst h0;simp at l1;exact l1
        · refine Cells.I_ a.off c1 fun i v hi=> ?_
          have key:∀ (n k i:Nat) (v:Value),k+n≤len→((List.range' k n).flatMap cell)[i]? =some v→w.cell? ⟨a.block,a.off+k*P.cellsOf e+i,none⟩=some v:=by
            intro n
            induction n with
            | zero=>intro k i v _ h;simp at h
            | succ n ihn=>
              intro k i v hk hv
              rw [List.range'_succ,List.flatMap_cons] at hv
              have hck:=lP k (by omega)
              rw [hA (by omega),dz] at hck
              obtain ⟨g1,g2⟩:=gQ hck
              by_cases hlt:i<(cell k).length
              · rw [List.getElem?_append_left hlt] at hv
                exact g2 i v hv
              · rw [List.getElem?_append_right (by omega),g1] at hv
                have:=ihn (k+1) (i - P.cellsOf e) v (by omega) hv
                rwa [show a.off+(k+1)*P.cellsOf e+(i - P.cellsOf e)=a.off+k*P.cellsOf e+i by rw [Nat.add_mul];omega] at this
          have:=key len 0 i v (by omega) hi
          simpa using this
    · cases h
def oA (P:Program)(t:TypeId)(ds:List DV):SV:=
 match dx P t with
 | some (some _)=> .agg (ds.map .d)
 | _=> .d (ds.headD .jt)
def qz (P:Program)(d:Nat):List TypeId→List (List DV)→Prop
 | [],[]=>True
 | t::ts,x::xs=>Fit P d t x∧qz P d ts xs
 | _,_=>False
def sV (P:Program):List TypeId→List (List DV)→List SV
 | t::ts,x::xs=>oA P t x::sV P ts xs
 | _,_=>[]
def oN (P:Program)(d:Nat)(ts:List TypeId):Bool:=ts.all fun t=>iw P d t && (P.readableRec t && decide (t<P.types.size))
theorem E8 {t:TypeId}{v:Value}{d:Nat}{x:DataW H}{ps:List MemPlace}{r:Reach}{b0:Nat}(hf:iw P d t=true)(hv:Value.okWide P w r b0 t v)(h:DataW.Trod enc P w 0 sp held t v x ps)(p:Nat→Prop)(μ:Nat→Nm):
  ∃ ds,Fit P d t ds∧Rp p μ (jM w) (oA P t ds) v∧Sm P t ds x:=by
 obtain ⟨fuel,hx⟩:=h
 obtain ⟨ds,h1,h2,h3⟩:=BX d fuel t _ _ hf hx
 refine ⟨ds,h1,?_,h3⟩
 have hinfo:∃ i,P.info? t=some i:=by
  cases hi:P.info? t with
  | some i=>exact ⟨i,rfl⟩
  | none=>
   exfalso
   cases d with
   | zero=>simp [iw] at hf
   | succ d=>simp [iw,Program.underlying,hi] at hf
 obtain ⟨i,hi⟩:=hinfo
 have one:∀ (hs:dx P t=some none) (Ja:v.cells.toList=[v]),Rp p μ (jM w) (oA P t ds) v:=by
  intro hs Ja
  rw [Ja] at h2
  match ds,h2 with
  | [y],h2=>
   simp only [Cells] at h2
   simp only [oA,hs,List.headD_cons]
   exact Rp.cu.2 h2.1
  | [],h2=>simp [Cells] at h2
  | y::z::r,h2=>simp [Cells] at h2
 have agg:∀ (n:Nat) (hs:dx P t=some (some n)) (cs:Array Value) (Ja:v= .agg cs),Rp p μ (jM w) (oA P t ds) v:=by
  intro n hs cs Ja
  subst Ja
  simp only [oA,hs]
  exact Rp.ez.2 ⟨cs,rfl,Cells.Lc h2⟩
 cases d with
 | zero=>simp [iw] at hf
 | succ d=>
  simp only [iw] at hf
  split at hf
  ·rename_i hu
   obtain ⟨b,rfl⟩:=okWide_bool hu hv
   exact one (by simp [dx,hu,hi]) rfl
  ·rename_i hu
   obtain ⟨b,rfl⟩:=okWide_int hu hv
   exact one (by simp [dx,hu,hi]) rfl
  ·rename_i fs hu
   obtain ⟨cs,rfl,_⟩:=okWide_struct hu hv
   exact agg i.size (by simp [dx,hu,hi]) cs rfl
  ·rename_i n e hu
   unfold Value.okWide at hv
   rw [hu] at hv
   obtain ⟨cs,rfl,_⟩:=hv
   exact agg i.size (by simp [dx,hu,hi]) cs rfl
  ·rename_i e hu
   obtain ⟨a,len,cap,rfl⟩:=okWide_slice hu hv
   exact one (by simp [dx,hu,hi]) rfl
  ·cases hf
theorem xl {d:Nat}{r:Reach}{b0:Nat}(p:Nat→Prop)(μ:Nat→Nm):∀ (ts:List TypeId) (vs:List Value) (xs:List (DataW H)) (ps:List MemPlace),oN P d ts=true→DataW.TrodAll enc P w 0 sp held ts vs xs ps→
  (∀ (j:Nat) t v,ts[j]? =some t→vs[j]? =some v→Value.okWide P w r b0 t v)→∃ ud,qz P d ts ud∧aR p μ (jM w) (sV P ts ud) vs∧xs.length=ts.length∧∀ (B:Nat),(∀ n,n∈DataW.weightsEach P ts xs→n≤B)→∀ ds,ds∈ud→dR B ds
 | [],vs,xs,ps,_,h,_=>by
  obtain ⟨rfl,rfl,_⟩:=trodAll_nil h
  exact ⟨[],trivial,aR.aP.2 rfl,rfl,fun _ _ _ h=>by cases h⟩
 | t::ts,vs,xs,ps,hf,h,hv=>by
  obtain ⟨v,vs',x,xs',p1,p2,rfl,rfl,rfl,h1,h2⟩:=trodAll_cons h
  simp only [oN,List.all_cons,Bool.and_eq_true] at hf
  obtain ⟨ds,a1,a2,a3⟩:=E8 (P:=P) hf.1.1 (hv 0 t v rfl rfl) h1 p μ
  obtain ⟨ud,b1,b2,b3,b4⟩:=xl p μ ts vs' xs' p2 (by simpa [oN] using hf.2) h2 fun j t' v' ht hv'=>hv (j+1) t' v' (by simpa using ht) (by simpa using hv')
  refine ⟨ds::ud,⟨a1,b1⟩,aR.aF.2 ⟨v,vs',rfl,a2,b2⟩,by simp [b3],fun B hq ds' hd=> ?_⟩
  rcases List.mem_cons.1 hd with rfl | hd
  ·exact a3 B fun n hn=>hq n (by simp only [DataW.weightsEach,List.mem_append];exact .inl hn)
  ·exact b4 B (fun n hn=>hq n (by simp only [DataW.weightsEach,List.mem_append];exact .inr hn)) ds' hd
theorem oB {d:Nat}(hl:laidOutB P=true){W W':World}{sp':Nat→Bool}:∀ (ts:List TypeId) (vs:List Value) (xs:List (DataW H)) (ps:List MemPlace),oN P d ts=true→DataW.TrodAll enc P W 0 (fun _=>true) true ts vs xs ps→
  (∀ x∈ps,W.sameAt W' x)→(∀ x∈ps,sp' x.block=true)→DataW.TrodAll enc P W' 0 sp' true ts vs xs ps
 | [],vs,xs,ps,_,h,_,_=>by
  obtain ⟨rfl,rfl,rfl⟩:=trodAll_nil h
  exact trodAll_mk0
 | t ::ts,vs,xs,ps,hf,h,hs,hp=>by
  obtain ⟨v,vs',x,xs',p1,p2,rfl,rfl,rfl,h1,h2⟩:=trodAll_cons h
  simp only [oN,List.all_cons,Bool.and_eq_true,decide_eq_true_eq] at hf
  exact trodAll_cons_mk (WideElems.Trod_stays hl hf.1.2.1 hf.1.2.2 h1 (fun q hq=>hs q (by simp [hq])) (fun q hq=>hp q (by simp [hq])))
   (oB hl ts vs' xs' p2 (by simpa [oN] using hf.2) h2 (fun q hq=>hs q (by simp [hq])) (fun q hq=>hp q (by simp [hq])))
theorem um {f:Func}{s:ChangeSpec}{apart fresh handsOn again:Bool}{W W':World}{args:Array Value}{v:Value}{ds gs:List (DataW H)}{before pa pv:List MemPlace}
  (hW:DataW.Whole enc P f.params.toList s.vars apart W args.toList ds gs before)
  (hres:∀ (b:Nat) (sp:Nat→Bool) (hd:Bool),DataW.TrodAll enc P W' b sp hd f.resultTypes.toList (v.resultList f.resultTypes.size) (s.fn H (ds++gs)).results [])
  (hargs:∀ sp:Nat→Bool,(∀ p∈before,sp p.block=true)→DataW.TrodAll enc P W' 0 sp true f.params.toList args.toList (s.fn H (ds++gs)).args pa)
  (hvars:∀ sp:Nat→Bool,(∀ p∈before,sp p.block=true)→DataW.TrodVars enc P W' sp s.vars (s.fn H (ds++gs)).vars pv)
  (hps:before=pa++pv) (hb:Below W.heap.size W W')
  (hok:∀ (j:Nat) (t:TypeId) (r:Value),f.resultTypes[j]? =some t→(v.resultList f.resultTypes.size)[j]? =some r→Value.okWide P W' .any 0 t r):
  s.post enc P f apart fresh handsOn again W args v W':=by
 have hlt:∀ p∈before,p.block<W.heap.size:=fun p hp=>hW.lt p hp
 have hold:∀ p∈before,(fun b=>decide (b<W.heap.size)) p.block=true:=fun p hp=>by simpa using hlt p hp
 refine ⟨ds,gs,before,[],pa,pv,hW,hres _ _ _,hargs _ hold,hvars _ hold,World.keptBut_mono (fun p hp=>⟨hp,?_⟩) (hb.frame (· ∈before)),fun _=> ?_⟩
 ·rw [hps,List.mem_append] at hp
  exact Or.inr hp
 ·obtain ⟨_,_,_,_,_,hz,hn⟩:=hW
  refine ⟨hok,_,_,([]++pa)++pv,⟨[]++pa,pv,trodAll_append (hargs _ (fun _ _=>rfl)) (hres _ _ _),hvars _ (fun _ _=>rfl),rfl,?_,?_⟩,?_⟩
  ·intro b off hp
   have hin:MemPlace.cell b off∈before:=by rw [hps];simpa using hp
   rw [hb.frozen (hlt _ hin)]
   exact hz b off hin
  ·intro ha
   have:=hn ha
   rw [hps] at this
   simpa using this
  ·intro p hp _
   rw [hps]
   simpa using hp
theorem Ar {f:FuncId}{fn:Func}{spec:ChangeSpec}{tb:TypeId}(d:Nat)(hl:laidOutB P=true)(hts:oN P d fn.params.toList=true)(hres:fn.resultTypes= #[tb])(htb:P.underlying tb=some .bool)(hvars:spec.vars=[])
  (Jb:∀ ds:List (DataW H),ds.length=fn.params.toList.length→(spec.fn H ds).results=[.lit (.bool true)]∧(spec.fn H ds).args=ds∧(spec.fn H ds).vars=[])
  (B:Nat)
  (KI:∀ ud,qz P d fn.params.toList ud→(∀ ds,ds∈ud→dR B ds)→SB P f (sV P fn.params.toList ud) [] 0 0 fun r F=>r=bl true)
  (W:World) (base:Nat) (args:Array Value) (ds gs:List (DataW H)) (before:List MemPlace)
  (hval:∀ (j:Nat) t v,fn.params[j]? =some t→args[j]? =some v→Value.okWide P W .any base t v)
  (hW:DataW.Whole enc P fn.params.toList spec.vars false W args.toList ds gs before) (hG:oF (jM W)) (hB:∀ n,n∈DataW.weightsEach P fn.params.toList ds→n≤B):
  Calls P f args W fun e W'=>∃ v,e= .returned v∧spec.post enc P fn false true false false W args v W':=by
 have hW':=hW
 obtain ⟨p,q,hA,hV,rfl,hfz,nq⟩:=hW
 rw [hvars] at hV
 obtain ⟨rfl,rfl⟩:=trodVars_none hV
 obtain ⟨ud,h1,h2,h3,h4⟩:=xl (P:=P) (d:=d) (fun n=>n<0) (fun _=>⟨0,0,true⟩) fn.params.toList args.toList ds p hts hA fun j t v ht hv=>hval j t v (by simpa using ht) (by simpa using hv)
 refine ((KI ud h1 (h4 B hB)).2.2.2 (fun _=>⟨0,0,true⟩) (jM W) W args h2 ⟨⟨fun b o v h=>h,hG⟩,fun n ob h=>by simp [bt] at h,fun n m h=>by simp [bt] at h⟩).mono ?_
 rintro e W' ⟨r,F',aZ,M',u,rfl,rfl,_,_,hr,_,hE⟩
 have hu:u= .bool true:=by simpa [cI,bQ] using hr
 subst hu
 have hb:Below W.heap.size W W':=⟨hE.os,hE.tape.1,hE.output,hE.size,fun b hb=>(hE.frame b hb fun n hn=>by simp [bt] at hn).1⟩
 obtain ⟨s1,s2,s3⟩:=Jb (ds++[]) (by simpa using h3)
 refine ⟨_,rfl,um (pa:=p) (pv:=[]) hW' (fun b sp hd=> ?_) (fun sp hsp=> ?_) (fun sp hsp=> ?_) rfl hb ?_⟩
 ·rw [s1,hres]
  exact trodAll_cons_mk (shut_bool htb _) trodAll_mk0
 ·rw [s2]
  simp only [List.append_nil] at hsp ⊢
  exact oB hl _ _ _ _ hts hA (fun x hx=>hb.same (hW'.lt x (by simpa using hx))) hsp
 ·rw [hvars,s3]
  rfl
 ·exact ok_one hres rfl (okWide_bool_mk htb _)
end
end Go.Sl
namespace Go.Sl
open Go.RowKit
mutual
def SV.iB (n len:Nat)(ds:List DV):SV→SV
 | .gs m l=>if m=n then (if l=len then .d (.sl len ds) else .any) else .gs m l
 | .agg cs=> .agg (SV.rP n len ds cs)
 | .dM cs=> .dM (SV.rP n len ds cs)
 | s=>s
def SV.rP (n len:Nat)(ds:List DV):List SV→List SV
 | []=>[]
 | c::cs=>c.iB n len ds::SV.rP n len ds cs
end
def kQ (n len:Nat)(ds:List DV)(env:List (Nat×SV)):List (Nat×SV):=env.map fun x=>(x.1,x.2.iB n len ds)
theorem jO (n len:Nat)(ds:List DV):∀ (env:List (Nat×SV)) (t:Nat),(kQ n len ds env).lookup t=(env.lookup t).map (SV.iB n len ds)
 | [],t=>rfl
 | (q,s)::env,t=>by
  simp only [kQ,List.map_cons,List.lookup]
  cases t == q
  ·exact jO n len ds env t
  ·rfl
mutual
theorem SV.nr {p:Nat→Prop}{μ:Nat→Nm}{M:Mem}{n len:Nat}{ds:List DV}(hg:∀ v,Rp p μ M (.gs n len) v→Rp p μ M (.d (.sl len ds)) v):∀ (s:SV) (v:Value),Rp p μ M s v→Rp p μ M (s.iB n len ds) v
 | .gs m l,v,h=>by
  simp only [SV.iB]
  split
  ·rename_i e;subst e
   split
   ·rename_i e;subst e
    exact hg v h
   ·exact Rp.any
  ·exact h
 | .agg cs,v,h=>by
  obtain ⟨vs,e,h1⟩:=Rp.ez.1 h
  simp only [SV.iB]
  exact Rp.ez.2 ⟨vs,e,SV.pI hg cs _ h1⟩
 | .dM cs,v,h=>by
  obtain ⟨vs,e,h1⟩:=Rp.dP.1 h
  simp only [SV.iB]
  exact Rp.dP.2 ⟨vs,e,SV.pI hg cs _ h1⟩
 | .d _,v,h=>h
 | .ptr _ _,v,h=>h
 | .vp _ _,v,h=>h
 | .bs _ _ _,v,h=>h
 | .mp _,v,h=>h
 | .it _,v,h=>h
 | .yl _,v,h=>h
 | .fn _ _ _,v,h=>h
 | .any,v,h=>h
theorem SV.pI {p:Nat→Prop}{μ:Nat→Nm}{M:Mem}{n len:Nat}{ds:List DV}(hg:∀ v,Rp p μ M (.gs n len) v→Rp p μ M (.d (.sl len ds)) v):∀ (s:List SV) (v:List Value),aR p μ M s v→aR p μ M (SV.rP n len ds s) v
 | [],v,h=>h
 | c::cs,v,h=>by
  obtain ⟨u,us,e,h1,h2⟩:=aR.aF.1 h
  simp only [SV.rP]
  exact aR.aF.2 ⟨u,us,e,SV.nr hg c u h1,SV.pI hg cs us h2⟩
end
theorem aR.Gx {p:Nat→Prop}{μ:Nat→Nm}{M:Mem}{ds:List DV}{vs:List Value}(h:aR p μ M (ds.map .d) vs){i:Nat}{x:DV}(hi:ds[i]? =some x):∃ u,vs[i]? =some u∧bQ M x u:=by
 obtain ⟨u,hu,hr⟩:=h.get (i:=i) (c:= .d x) (by simp [hi])
 exact ⟨u,hu,Rp.cu.1 hr⟩
section
variable {P:Program} {N k0:Nat} {st:St} {Q:Exit→St→Prop}
theorem gH.freeze {cE:Nat→Nm}{M0:Mem}{w0:World}{c0:Nat→Option Ob}{a:Act}{w:World}(n:Nat){e sz len:Nat}{cs:List SV}{ds:List DV}(hn:lk st.hp n=some (.arr e sz len cs))(hcs:cs=ds.map .d)
    (h:gH N cE M0 w0 c0 k0 st a w):gH N cE M0 w0 c0 k0 ⟨kQ n len ds st.env,di st.hp n,st.k⟩ a w:=by
  subst hcs
  obtain ⟨mH,hdf,hsz,μ,M,fQ,hS,hE⟩:=h
  obtain ⟨hpn,bn,hMn⟩:=hS.obs n _ hn
  rcases bn with ⟨hdead,hl0,hds⟩ | ⟨hlive,vs,hb,hl1,hl2,ID,hl4,hr⟩
  · have hd0:ds=[]:=by simpa using hds
    subst hd0;subst hl0
    have hg:∀ v,Rp (· <st.k) μ M (.gs n 0) v→Rp (· <st.k) μ M (.d (.sl 0 [])) v:=fun v hv=>by
      refine Rp.cu.2 ?_
      simp only [bQ]
      obtain ⟨h,_⟩ | ⟨_,_,A,e1⟩:=hv.jZ
      · rw [hdead] at h;cases h
      · exact ⟨A,0,e1,Nat.le_refl _,fun _=>trivial,fun h=>absurd h (Nat.lt_irrefl _)⟩
    have hsub:∀ m ob,lk (di st.hp n) m=some ob→lk st.hp m=some ob:=fun m ob hm=>by
      rw [cR] at hm
      split at hm
      · cases hm
      · exact hm
    refine ⟨mH,hdf,hsz,μ,M,fun t s hs=> ?_,hS.sub hsub,hE.wN fun m hm=> ?_⟩
    · rw [jO] at hs
      obtain ⟨s',hs',rfl⟩:=Option.map_eq_some_iff.1 hs
      exact SV.nr hg s' _ (fQ t s' hs')
    · obtain ⟨o1,ho1⟩:=Option.ne_none_iff_exists'.1 hm
      rw [hsub m o1 ho1];simp
  have hMn:=hMn hlive
  have hlen:ds.length=len*sz:=by simpa using hl1
  let M':Mem:=fun b o=>if b=(μ n).blk then (if o<len*sz then vs[o]? else none) else M b o
  have hne:∀ b,b≠(μ n).blk→∀ o,M' b o=M b o:=fun b hb o=>by simp [M',hb]
  have hle:Mem.le M M':=fun b o v hv=>by
    have:b≠(μ n).blk:=fun e=>by rw [e,hMn] at hv;cases hv
    rw [hne b this];exact hv
  have hoth:∀ m,lk st.hp m≠none→m≠n→(μ m).live=true→(μ m).blk≠(μ n).blk:=fun m hm hmn lm e=>hmn (hS.inj m n hm (by rw [hn];simp) lm hlive e)
  have hsub:∀ m ob,lk (di st.hp n) m=some ob→lk st.hp m=some ob∧m≠n:=fun m ob hm=>by
    rw [cR] at hm
    split at hm
    · cases hm
    · rename_i e;exact ⟨hm,e⟩
  have hg:∀ v,Rp (· <st.k) μ M' (.gs n len) v→Rp (· <st.k) μ M' (.d (.sl len ds)) v:=fun v hv=>by
    obtain ⟨_,e1⟩ | ⟨h,_⟩:=hv.jZ
    rotate_left
    · rw [hlive] at h;cases h
    refine Rp.cu.2 ?_
    simp only [bQ]
    refine ⟨_,_,e1,hl2,fun h0=> ?_,fun _=>⟨_,_,rfl,cQ.mk fun i c hi=> ?_⟩⟩
    · subst h0
      simp at hlen
      exact hlen
    · obtain ⟨u,hu,hru⟩:=hr.Gx hi
      have hil:i<len*sz:=by rw [← hlen];exact (List.getElem?_eq_some_iff.1 hi).1
      refine ⟨u,?_,bQ.mono hle _ _ hru⟩
      rw [List.getElem?_take_of_lt hil] at hu
      simp only [M',if_true,Nat.zero_add,hil]
      simpa using hu
  refine ⟨mH,hdf,hsz,μ,M',fun t s hs=> ?_,⟨⟨fun b o v hv=> ?_,hS.mem.j9.le hle⟩,fun m ob hm=> ?_,fun m m' hm hm' lm lm' e=> ?_⟩,⟨hE.old,Mem.le_trans hE.mem hle,fun b hb0 hf=> ?_,hE.size,fun m hm=> ?_,hE.os,hE.tape,hE.output⟩⟩
  · rw [jO] at hs
    obtain ⟨s',hs',rfl⟩:=Option.map_eq_some_iff.1 hs
    exact SV.nr hg s' _ ((fQ t s' hs').more (fun _ h=>h) (fun _ _=>rfl) hle)
  · by_cases hbn:b=(μ n).blk
    · subst hbn
      simp only [M',if_true] at hv
      split at hv
      · rw [cell_of hb];exact hv
      · cases hv
    · rw [hne b hbn] at hv
      exact hS.mem b o v hv
  · obtain ⟨hm1,hmn⟩:=hsub m ob hm
    obtain ⟨a1,a2,a3⟩:=hS.obs m ob hm1
    refine ⟨a1,a2.more (fun _ h=>h) (fun _ _=>rfl) hle fun _=>rfl,fun lm o=> ?_⟩
    rw [hne _ (hoth m (by rw [hm1];simp) hmn lm)]
    exact a3 lm o
  · obtain ⟨o1,ho1⟩:=Option.ne_none_iff_exists'.1 hm
    obtain ⟨o2,ho2⟩:=Option.ne_none_iff_exists'.1 hm'
    exact hS.inj m m' (by rw [(hsub m o1 ho1).1];simp) (by rw [(hsub m' o2 ho2).1];simp) lm lm' e
  · have hbn:b≠(μ n).blk:=fun e=>by
      rcases hE.names n (by rw [hn];simp) with ⟨_,hh⟩ | ⟨h,h'⟩
      · rcases hh hlive with h | ⟨m,hm,lm,e'⟩
        · omega
        · exact hf m hm lm (e'.trans e.symm)
      · rw [hE.old n h] at e hlive
        exact hf n h' hlive e.symm
    obtain ⟨f1,f2⟩:=hE.frame b hb0 hf
    exact ⟨f1,fun o=>by rw [hne b hbn];exact f2 o⟩
  · obtain ⟨o1,ho1⟩:=Option.ne_none_iff_exists'.1 hm
    exact hE.names m (by rw [(hsub m o1 ho1).1];simp)
theorem SW.freeze {s:bX}(n:Nat){e sz len:Nat}{cs:List SV}(ds:List DV)(hn:lk st.hp n=some (.arr e sz len cs))(hcs:cs=ds.map .d)(h:SW P N k0 s ⟨kQ n len ds st.env,di st.hp n,st.k⟩ Q):SW P N k0 s st Q:=
 fun c hc rd hrf cE M0 w0 c0 a w eO=>h c hc rd hrf cE M0 w0 c0 a w (eO.freeze n hn hcs)
theorem gH.sW {cE:Nat→Nm}{M0:Mem}{w0:World}{c0:Nat→Option Ob}{a:Act}{w:World}(t:Nat)(e sz:Nat)(ht:st.env.lookup t=some (.d .aU))(h:gH N cE M0 w0 c0 k0 st a w):
    gH N cE M0 w0 c0 k0 ⟨(t,.gs st.k 0)::st.env,(st.k,.arr e sz 0 [])::st.hp,st.k+1⟩ a w:=by
  obtain ⟨mH,hdf,hsz,μ,M,fQ,hS,hE⟩:=h
  have hmu:=uB (μ:=μ) (m:=⟨0,0,false⟩) (p:=(· <st.k)) (k:=st.k) (Nat.lt_irrefl _)
  have hup:∀ n,n<st.k→n<st.k+1:=fun n h=>by omega
  have hlt:∀ n ob,lk st.hp n=some ob→n<st.k:=fun n ob h=>(hS.obs n ob h).1
  refine ⟨by show k0≤st.k+1;omega,hdf,hsz,yd μ st.k ⟨0,0,false⟩,M,fun u s hs=> ?_,⟨hS.mem,fun n ob hn=> ?_,fun n m hn hm ln lm e=> ?_⟩,⟨fun n hn=> ?_,hE.mem,hE.frame,hE.size,fun n hn=> ?_,hE.os,hE.tape,hE.output⟩⟩
  · rw [lT] at hs
    split at hs
    · rename_i e1
      subst e1
      injection hs with hs
      subst hs
      have h1:=(fQ t _ ht).rep
      simp only [cI,bQ] at h1
      intro ν gp
      simp only [cI]
      rw [gp st.k (Nat.lt_succ_self _),bF]
      exact .inr ⟨rfl,trivial,none,h1⟩
    · exact (fQ u s hs).more hup hmu (Mem.le_refl M)
  · rw [aa] at hn
    split at hn
    · rename_i e1
      subst e1
      injection hn with hn
      subst hn
      rw [bF]
      exact ⟨Nat.lt_succ_self _,.inl ⟨rfl,rfl,rfl⟩,fun h=>by cases h⟩
    · obtain ⟨a1,a2,a3⟩:=hS.obs n ob hn
      rw [hmu n a1]
      exact ⟨hup n a1,a2.more hup hmu (Mem.le_refl M) fun _=>rfl,a3⟩
  · rw [aa] at hn hm
    by_cases e1:n=st.k
    · subst e1;rw [bF] at ln;cases ln
    · by_cases e2:m=st.k
      · subst e2;rw [bF] at lm;cases lm
      · rw [if_neg e1] at hn
        rw [if_neg e2] at hm
        obtain ⟨o1,ho1⟩:=Option.ne_none_iff_exists'.1 hn
        obtain ⟨o2,ho2⟩:=Option.ne_none_iff_exists'.1 hm
        rw [hmu n (hlt n o1 ho1)] at e ln
        rw [hmu m (hlt m o2 ho2)] at e lm
        exact hS.inj n m hn hm ln lm e
  · simp only at hn
    by_cases e1:n=st.k
    · subst e1;omega
    · rw [eA _ _ _ e1];exact hE.old n (by omega)
  · rw [aa] at hn
    by_cases e1:n=st.k
    · subst e1
      rw [bF]
      exact .inl ⟨⟨by omega,Nat.lt_succ_self _⟩,fun h=>by cases h⟩
    · rw [if_neg e1] at hn
      obtain ⟨o1,ho1⟩:=Option.ne_none_iff_exists'.1 hn
      rw [hmu n (hlt n o1 ho1)]
      rcases hE.names n hn with ⟨b1,b2⟩ | ⟨b1,b2⟩
      · exact .inl ⟨⟨b1.1,by have:=b1.2;show n<st.k+1;omega⟩,b2⟩
      · refine .inr ⟨fun h=> ?_,b2⟩
        have:n<st.k:=hlt n o1 ho1
        exact b1 ⟨h.1,this⟩
theorem SW.sW {s:bX}(t:Nat)(e sz:Nat)(ht:st.env.lookup t=some (.d .aU))(h:SW P N k0 s ⟨(t,.gs st.k 0)::st.env,(st.k,.arr e sz 0 [])::st.hp,st.k+1⟩ Q):SW P N k0 s st Q:=
 fun c hc rd hrf cE M0 w0 c0 a w eO=>h c hc rd hrf cE M0 w0 c0 a w (eO.sW t e sz ht)
theorem bQ.nt {M:Mem}{v:Value}(h:bQ M .aU v):bQ M (.sl 0 []) v:=by
 simp only [bQ] at h ⊢
 exact ⟨none,0,h,Nat.le_refl _,fun _=>trivial,fun h=>absurd h (Nat.lt_irrefl _)⟩
theorem SC.args {f:FuncId}{args args':List SV}{F:Hp}{k nk:Nat}{Q:SV→Hp→Prop}(ha:∀ (p:Nat→Prop) μ M vs,aR p μ M args' vs→aR p μ M args vs)(h:SC P f args F k nk Q):SC P f args' F k nk Q:=
 ⟨h.1,fun p μ M w vals h1 h2 h3=>h.2 p μ M w vals h1 (ha p μ M _ h2) h3⟩
end
theorem SV.uP {ρ:Nat→Nat}:∀ {l:List SV},SV.ay (fun n=>decide (n<0)) l=true→SV.aW ρ l=l
 | [],_=>rfl
 | c::cs,h=>by
  simp only [SV.ay,Bool.and_eq_true] at h
  simp only [SV.aW,SV.uN c h.1,SV.uP h.2]
def gx (ns:List Nat)(k:Nat)(i:Nat):Nat:=match ns[i]? with
 | some n=>n
 | none=>i - ns.length+k
theorem BY:∀ {h:Hp} {n:Nat} {ob:Ob},(n,ob)∈h→∃ jw,lk h n=some jw
 | [],n,ob,h=>by simp at h
 | (m,o)::h,n,ob,hm=>by
  rw [aa]
  by_cases e:n=m
  ·exact ⟨o,by simp [e]⟩
  ·rw [if_neg e]
   rcases List.mem_cons.1 hm with h1 | h1
   ·injection h1 with h1 _;exact absurd h1 e
   ·exact BY h1
theorem SB.qA {P:Program}{f:FuncId}{args:List SV}{F F':Hp}{nk:Nat}{r:SV}(ns:List Nat)(h:SB P f args F ns.length nk fun r' F1=>r'=r∧F1=F')(hd:ns.Nodup)(hF:∀ i,i<ns.length→lk F i≠none)(k:Nat):
  aM P f (SV.aW (gx ns k) args) (F.aC (gx ns k)) k nk (r.aC (gx ns k)) (F'.aC (gx ns k)):=by
 have hlt:∀ i,i<ns.length→ns[i]? =some (gx ns k i):=fun i hi=>by simp [gx,hi]
 have:=SB.at h (gx ns k) k (fun n m hn hm e=> ?_) (fun n hn p μ M w vals _ hS=> ?_) (fun i hi=> ?_)
 ·refine this.mono ?_
  rintro r' F1 ⟨r0,F0,⟨rfl,rfl⟩,rfl,rfl⟩
  exact ⟨rfl,rfl⟩
 ·have h1:=hlt n hn
  have h2:=hlt m hm
  rw [e] at h1
  exact (List.getElem?_inj hn hd).1 (h1.trans h2.symm)
 ·obtain ⟨ob,ho⟩:=Option.ne_none_iff_exists'.1 (hF n hn)
  have hm:(gx ns k n,ob.aC (gx ns k))∈F.aC (gx ns k):=List.mem_map.2 ⟨(n,ob),iC ho,rfl⟩
  obtain ⟨jw,ho'⟩:=BY hm
  exact (hS.obs _ _ ho').1
 ·simp [gx];omega
theorem SB.new {P:Program}{f:FuncId}{args:List SV}{F':Hp}{nk:Nat}{r:SV}(h:SB P f args [] 0 nk fun r' F1=>r'=r∧F1=F')(k:Nat):
  aM P f args [] k nk (r.aC (gx [] k)) (F'.aC (gx [] k)):=by
 have:=SB.qA [] h (by simp) (fun i hi=>absurd hi (Nat.not_lt_zero i)) k
 rwa [SV.uP h.2.1] at this
@[simp] theorem Jc (h:Hp):HSub [] h↔True:=⟨fun _=>trivial,fun _=>HSub.nil h⟩
@[simp] theorem Jd (h:Hp) (n:Nat) (ob:Ob):HSub [(n,ob)] h↔lk h n=some ob:=by
 refine ⟨fun hs=>hs n ob (by simp [bZ]),fun hs m jw hm=> ?_⟩
 rw [bZ] at hm
 split at hm
 ·rename_i e;subst e;simp at hm;subst hm;exact hs
 ·cases hm
def aL.zero:aL:=⟨0,0,0,0,0,0,0,0⟩
theorem aL.aI:[SV.d (.int .u32 0),.d (.int .u32 0),.d (.int .u32 0),.d (.int .u32 0),.d (.int .u32 0),.d (.int .u32 0),.d (.int .u32 0),.d (.int .u32 0)]=aL.zero.cells:=rfl
@[simp] theorem aL.bg (v:aL):v.cells.take 8=v.cells:=rfl
theorem aL.bD (u v:aL):cU u.cells 0 v.cells=v.cells:=rfl
attribute [simp] aL.kP aL.lV aL.ai aL.qx
theorem aL.ax (v:aL)(ρ:Nat→Nat):SV.aW ρ v.cells=v.cells:=rfl
@[simp] theorem Je (l:List aL):(l.flatMap aL.ds).length=l.length*8:=dw aL.ds 8 (fun _=>rfl) l
theorem f_ {α:Type}{l:List α}{i:Nat}{x:α}(h:l[i]? =some x):l.take (i+1)=l.take i++[x]:=by
 rw [List.take_add_one,h];rfl
theorem bu {α:Type}{l:List α}{i:Nat}{x:α}(h:l[i]? =some x):i<l.length:=(List.getElem?_eq_some_iff.1 h).1
theorem br {α:Type}{l:List α}{i:Nat}(h:i<l.length):∃ x,l[i]? =some x:=⟨_,List.getElem?_eq_getElem h⟩
theorem aL.yt (a b:aL):iA [true,true,true,true,true,true,true,true] a.cells b.cells=some (decide (a=b)):=aL.qh a b
structure Dt where
 (r n:Nat)
 deriving DecidableEq
def Dt.ds (d:Dt):List DV:=[.int .u8 d.r,.int .u32 d.n]
def Dt.cells (d:Dt):List SV:=[u8 d.r,u32 d.n]
theorem Dt.qx (d:Dt):d.ds.map .d=d.cells:=rfl
@[simp] theorem Dt.lV (d:Dt):d.ds.length=2:=rfl
@[simp] theorem Dt.kP (d:Dt):d.cells.length=2:=rfl
@[simp] theorem Dt.ai (d:Dt) (q:Nat→Bool):SV.ay q d.cells=true:=rfl
theorem Dt.ax (d:Dt)(ρ:Nat→Nat):SV.aW ρ d.cells=d.cells:=rfl
@[simp] theorem Dt.bg (d:Dt):d.cells.take 2=d.cells:=rfl
theorem Dt.As (d:Dt):d.cells[0]? =some (u8 d.r):=rfl
theorem Dt.Au (d:Dt):d.cells[1]? =some (u32 d.n):=rfl
theorem Dt.bD (c d:Dt):cU c.cells 0 d.cells=d.cells:=rfl
theorem Dt.aI:[SV.d (.int .u8 0),.d (.int .u32 0)]=(Dt.mk 0 0).cells:=rfl
theorem Dt.fE (c:Dt)(a b:Nat):cU (cU c.cells 0 [.d (.int .u8 (a:Int))]) 1 [.d (.int .u32 (b:Int))]=(Dt.mk a b).cells:=rfl
@[simp] theorem Gy (cs:List SV) (o:Nat) (c:SV):(cU cs o [c]).length=cs.length:=by simp [cU]
theorem Dt.cells_one (d:Dt):d.cells.all SV.dG=true:=rfl
theorem Dt.qh (a b:Dt):iA [true,true] a.cells b.cells=some (decide (a=b)):=by
 have h:iA [true,true] a.cells b.cells=some (((a.r:Int) == b.r) && (((a.n:Int) == b.n) && true)):=by simp [iA,EC,Dt.cells]
 rw [h]
 congr 1
 obtain ⟨a0,a1⟩:=a
 obtain ⟨b0,b1⟩:=b
 rw [Bool.eq_iff_iff]
 simp
 omega
def Dt.may (d:Dt):Bool:=decide (d.r<8) && decide (0<d.n)
def Dt.wf (d:Dt):Prop:=d.r<256∧d.n<4294967296
abbrev bS (l:List Dt):SV:= .d (.sl l.length (l.flatMap Dt.ds))
@[simp] theorem Jf (l:List Dt):(l.flatMap Dt.ds).length=l.length*2:=dw Dt.ds 2 (fun _=>rfl) l
theorem gI {l:List Dt}{i:Nat}{x:Dt}(h:l[i]? =some x):List.take 2 (List.drop (i*2) (List.map SV.d (l.flatMap Dt.ds)))=x.cells:=by
 rw [← List.map_drop,← List.map_take,kO Dt.ds 2 (fun _=>rfl) l i x h]
 rfl
section
variable {P:Program} {N k0:Nat} {st:St} {Q:Exit→St→Prop}
theorem SW.slot {c:bX}(t:Nat){s:SV}(s':SV)(hl:st.env.lookup t=some s)(hs:∀ (p:Nat→Prop) μ M v,Rp p μ M s v→Rp p μ M s' v)(h:SW P N k0 c ⟨(t,s')::st.env,st.hp,st.k⟩ Q):SW P N k0 c st Q:=by
 refine fun cc hc rd hrf cE M0 w0 c0 a w eO=>h cc hc rd hrf cE M0 w0 c0 a w ?_
 obtain ⟨mH,hdf,hsz,μ,M,fQ,hS,hE⟩:=eO
 refine ⟨mH,hdf,hsz,μ,M,fun q x hq=> ?_,hS,hE⟩
 simp only [List.lookup] at hq
 split at hq
 ·rename_i e
  have e:q=t:=by simpa using e
  injection hq with hq
  subst e;subst hq
  exact hs _ _ _ _ (fQ q s hl)
 ·exact fQ q x hq
theorem nt (p:Nat→Prop)(μ:Nat→Nm)(M:Mem)(v:Value)(h:Rp p μ M (.d .aU) v):Rp p μ M (.d (.sl 0 [])) v:=Rp.cu.2 (Rp.cu.1 h).nt
theorem SW.aU {c:bX}(t:Nat)(hl:st.env.lookup t=some (.d .aU))(h:SW P N k0 c ⟨(t,.d (.sl 0 []))::st.env,st.hp,st.k⟩ Q):SW P N k0 c st Q:=SW.slot t _ hl nt h
end
end Go.Sl
namespace Go.Sl
section
namespace Co
def M (d s:Nat):SI:=⟨some d,.mv (.t s),none⟩
def G (d s g:Nat)(b:Bool):SI:=⟨some d,.mv (.t s),some (g,b)⟩
def J (d:Nat)(o:SO):SI:=⟨some d,o,none⟩
def H (d:Nat)(o:SO)(g:Nat)(b:Bool):SI:=⟨some d,o,some (g,b)⟩
def N (o:SO):SI:=⟨none,o,none⟩
def F (l:List SI)(n:Nat):bX:= .ey l (jK n) false
def C (f:FuncId):X:= .k (.fn (.func f) [] [])
def Z (n:Int):X:= .k (.d (.int .i64 n))
def B (b:Bool):X:= .k (.d (.bool b))
def b8 (n:Int):SV:= .d (.int .u8 n)
def aB (n:Int):SV:= .d (.int .u32 n)
def bL (n:Int):SV:= .d (.int .u64 n)
def i6 (n:Int):SV:= .d (.int .i64 n)
def z8:List SV:=[.d (.int .u32 0),.d (.int .u32 0),.d (.int .u32 0),.d (.int .u32 0),.d (.int .u32 0),.d (.int .u32 0),.d (.int .u32 0),.d (.int .u32 0)]
def bU:List SV:=[.d (.int .u8 0),.d (.int .u32 0),.d (.int .u32 0),.d (.int .u32 0),.d (.int .u32 0),.d (.int .u32 0),.d (.int .u32 0),.d (.int .u32 0),.d (.int .u32 0),.d (.int .u32 0),.d (.int .u64 0),.d (.int .u32 0),.d (.int .u8 0),.d (.int .u32 0),.d (.int .u8 0),.d (.int .u8 0),.d (.int .u32 0),.d (.int .u32 0),.d (.int .u8 0),.d (.int .u8 0),.d (.int .u64 0),.d (.int .u8 0),.d (.int .u32 0),.d (.int .u8 0),.d (.int .u32 0),.d (.int .u32 0),.d (.int .u32 0),.d (.int .u32 0),.d .aU]
end Co
def En (P:Program)(f:FuncId)(N:Nat)(s:bX)(rv:List RV):Prop:=
 ∀ {args:List SV} {F:Hp} {k nk:Nat} {Q:SV→Hp→Prop} (_:SV.ay (fun n=>decide (n<k)) args=true) (_:F.ok (fun n=>decide (n<k))=true) (_:args.length≤N)
  (_:SW P N k s ⟨kA 0 args,F,k⟩ fun e st'=>match e with | .normal=>Fin k nk rv Q st' | .ret=>Fin k nk rv Q st' | _=>False),SB P f args F k nk Q
theorem En.mk {P:Program}{f N:Nat}{fn:Func}{c:Code}{s:bX}{rv:List RV}(hf:P.funcs[f]? =some fn)(hN:fn.ntmps=N)(hb:fn.body=some c)(hc:cK P fn.ntmps c=some s)(hr:E6 P fn.results.toList=some rv)(ha:je P f=true):En P f N s rv:=by
 subst hN
 intro args F k nk Q h1 h2 h3 h
 exact SB.E7 hf hb hc hr ha h1 h2 h3 h
end
section
def aL.bB (v:aL)(d:Dt):Bool:=d.may && decide (d.n≤v.get d.r)
def aL.above (a b:aL):Bool:=(List.range 8).all fun r=>decide (b.get r≤a.get r)
theorem aL.uQ {a b:aL}:a.above b=true↔∀ r,r<8→b.get r≤a.get r:=by simp [aL.above]
def aL.count (v:aL):Nat:=v.a0+v.a1+v.a2+v.a3+v.a4+v.a5+v.a6+v.a7
theorem wrap_u32 (n:Nat)(h:n<4294967296):IntKind.u32.wrap (n:Int)=n:=by
 simp [IntKind.wrap,IntKind.bits,IntKind.signed];omega
theorem wrap_u64 (n:Nat)(h:n<18446744073709551616):IntKind.u64.wrap (n:Int)=n:=by
 simp [IntKind.wrap,IntKind.bits,IntKind.signed];omega
theorem wrap_u8 (n:Nat)(h:n<256):IntKind.u8.wrap (n:Int)=n:=by
 simp [IntKind.wrap,IntKind.bits,IntKind.signed];omega
theorem aL.qB (a b c d e f g h:SV)(r:List SV)(v:aL):cU (a::b::c::d::e::f::g::h::r) 0 v.cells=v.cells++r:=rfl
theorem aL.Av (u v:aL)(r:List SV):cU (u.cells++r) 8 v.cells=u.cells++cU r 0 v.cells:=rfl
theorem aL.uR (u v:aL)(r:List SV):cU (u.cells++r) 16 v.cells=u.cells++cU r 8 v.cells:=rfl
theorem aL.uS (u v:aL)(r:List SV):cU (u.cells++r) 24 v.cells=u.cells++cU r 16 v.cells:=rfl
theorem aL.dJ (u:aL)(r:List SV):eH (u.cells++r)=match eH r with | some x=>some (u.ds++x) | none=>none:=by
 cases h:eH r <;> simp [aL.cells,eH,h,aL.ds]
theorem aL.dK (u:aL):eH u.cells=some u.ds:=rfl
theorem Dt.qB (a b:SV)(r:List SV)(v:Dt):cU (a::b::r) 0 v.cells=v.cells++r:=rfl
theorem Dt.Aw (u v:Dt)(r:List SV):cU (u.cells++r) 2 v.cells=u.cells++cU r 0 v.cells:=rfl
theorem Dt.dJ (u:Dt)(r:List SV):eH (u.cells++r)=match eH r with | some x=>some (u.ds++x) | none=>none:=by
 cases h:eH r <;> simp [Dt.cells,eH,h,Dt.ds]
theorem Dt.dK (u:Dt):eH u.cells=some u.ds:=rfl
theorem nu (l:List DV):(l.map SV.d).all SV.dG=true:=by simp [SV.dG]
def BZ (r a c:Nat):List Dt:=(List.range c).map fun i=>⟨r,a+i⟩
@[simp] theorem Hv (r a c:Nat):(BZ r a c).length=c:=by simp [BZ]
theorem SV.j4 (ρ:Nat→Nat):∀ (a b:List SV),SV.aW ρ (a++b)=SV.aW ρ a++SV.aW ρ b
 | [],b=>rfl
 | x::a,b=>by simp [SV.aW,SV.j4 ρ a b]
theorem SV.lW (q:Nat→Bool):∀ (a b:List SV),SV.ay q (a++b)=(SV.ay q a && SV.ay q b)
 | [],b=>rfl
 | x::a,b=>by simp [SV.ay,SV.lW q a b,Bool.and_assoc]
theorem B0 {α:Type}{l m:List α}(hl:l.length=m.length)(h:∀ j,j<l.length→l[j]? =m[j]?):l=m:=by
 apply List.ext_getElem?
 intro j
 by_cases hj:j<l.length
 ·exact h j hj
 ·rw [List.getElem?_eq_none (by omega),List.getElem?_eq_none (by omega)]
theorem uT:(false == true)=false:=rfl
theorem uU:(true == false)=false:=rfl
end
section
theorem iD (es:List (Nat×SV×SV))(c:Nat)(k v:SV):mq es c k v none= .map (es++[(c,k,v)]) (c+1):=rfl
theorem iE (es:List (Nat×SV×SV))(c:Nat)(k v:SV)(i:Nat):mq es c k v (some i)= .map (es.modify i fun e=>(e.1,e.2.1,v)) c:=rfl
theorem iF (es:List (Nat×SV×SV))(c:Nat):wR es c none= .map es c:=rfl
theorem iG (es:List (Nat×SV×SV))(c i:Nat):wR es c (some i)= .map (es.eraseIdx i) c:=rfl
theorem iH (es:List (Nat×SV×SV))(z:SV):fH es z none=z:=rfl
theorem iI (es:List (Nat×SV×SV))(z:SV)(i:Nat):fH es z (some i)=match es[i]? with
 | some e=>e.2.2
 | none=>z:=rfl
section
variable {K V:Type} [DecidableEq K]
abbrev MM (K V:Type):=List (Nat×K×V)
def MM.idx (L:MM K V)(a:K):Option Nat:=L.findIdx? fun x=>decide (a=x.2.1)
def MM.get (L:MM K V)(a:K):Option V:=(L.find? fun x=>decide (a=x.2.1)).map (·.2.2)
def MM.has (L:MM K V)(a:K):Bool:=(MM.get L a).isSome
def MM.keys (L:MM K V):List K:=L.map (·.2.1)
def MM.put (L:MM K V)(c:Nat)(a:K)(v:V):MM K V:=match MM.idx L a with
 | some i=>L.modify i fun x=>(x.1,x.2.1,v)
 | none=>L++[(c,a,v)]
def MM.iU (L:MM K V)(c:Nat)(a:K):Nat:=if MM.has L a then c else c+1
def MM.del (L:MM K V)(a:K):MM K V:=match MM.idx L a with
 | some i=>L.eraseIdx i
 | none=>L
structure MM.wf (L:MM K V)(c:Nat):Prop where
 keys:(MM.keys L).Nodup
 times:(L.map (·.1)).Nodup
 old:∀ x,x∈L→x.1<c
theorem MM.jP {L:MM K V}{a:K}:MM.idx L a=none↔MM.get L a=none:=by
 unfold MM.idx MM.get
 induction L with
 | nil=>simp
 | cons x L ih=>
  simp only [List.findIdx?_cons,List.find?_cons]
  by_cases h:a=x.2.1
  ·simp [h]
  ·simp only [h,decide_false,Bool.false_eq_true,if_false,Option.map_eq_none_iff] at ih ⊢
   exact ih
theorem MM.ej {L:MM K V}{a:K}:(MM.idx L a).isSome=MM.has L a:=by
 unfold MM.has
 rw [Bool.eq_iff_iff,Option.isSome_iff_ne_none,Option.isSome_iff_ne_none,ne_eq,ne_eq,MM.jP]
theorem MM.rZ:∀ {L:MM K V} {a:K} {i:Nat},MM.idx L a=some i→∃ x,L[i]? =some x∧x.2.1=a∧MM.get L a=some x.2.2
 | [],a,i,h=>by simp [MM.idx] at h
 | x ::L,a,i,h=>by
  unfold MM.idx at h
  unfold MM.get
  simp only [List.findIdx?_cons,List.find?_cons] at h ⊢
  by_cases e:a=x.2.1
  ·simp only [e,decide_true,if_true] at h ⊢
   injection h with h;subst h
   exact ⟨x,rfl,rfl,rfl⟩
  ·simp only [e,decide_false,Bool.false_eq_true,if_false,Option.map_eq_some_iff] at h ⊢
   obtain ⟨j,hj,rfl⟩:=h
   obtain ⟨y,h1,h2,h3⟩:=MM.rZ (L:=L) (a:=a) (i:=j) hj
   exact ⟨y,by simpa using h1,h2,by simpa [MM.get] using h3⟩
theorem MM.get_mem:∀ {L:MM K V} {a:K} {v:V},MM.get L a=some v→∃ t,(t,a,v)∈L
 | [],a,v,h=>by simp [MM.get] at h
 | x ::L,a,v,h=>by
  unfold MM.get at h
  simp only [List.find?_cons] at h
  by_cases e:a=x.2.1
  ·simp only [e,decide_true,Option.map_some,Option.some.injEq] at h
   refine ⟨x.1,?_⟩
   subst h
   rw [e];simp
  ·simp only [e,decide_false] at h
   obtain ⟨t,ht⟩:=MM.get_mem (L:=L) (a:=a) (v:=v) h
   exact ⟨t,by simp [ht]⟩
theorem MM.iV {L:MM K V}{a:K}:MM.has L a=true↔a∈MM.keys L:=by
 unfold MM.has MM.get MM.keys
 induction L with
 | nil=>simp
 | cons x L ih=>
  simp only [List.find?_cons,List.map_cons,List.mem_cons]
  by_cases e:a=x.2.1
  ·simp [e]
  ·simp only [e,decide_false,false_or];exact ih
theorem MM.get_of_mem:∀ {L:MM K V} (h:(MM.keys L).Nodup) {t:Nat} {a:K} {v:V},(t,a,v)∈L→MM.get L a=some v
 | [],_,t,a,v,h=>by cases h
 | x ::L,hn,t,a,v,h=>by
  unfold MM.get
  simp only [MM.keys,List.map_cons,List.nodup_cons] at hn
  simp only [List.find?_cons]
  rcases List.mem_cons.1 h with rfl | h
  ·simp
  ·have:a≠x.2.1:=fun e=>hn.1 (by rw [← e];exact List.mem_map.2 ⟨_,h,rfl⟩)
   simp only [this,decide_false]
   exact MM.get_of_mem (L:=L) hn.2 h
theorem MM.pJ {L:MM K V}{c:Nat}{a:K}{v:V}:MM.keys (MM.put L c a v)=if MM.has L a then MM.keys L else MM.keys L++[a]:=by
 unfold MM.put
 rw [← MM.ej]
 split
 ·rename_i i h
  rw [h]
  simp only [Option.isSome_some,if_true,MM.keys]
  apply List.ext_getElem?
  intro j
  simp only [List.getElem?_map,List.getElem?_modify]
  cases L[j]? with
  | none=>simp
  | some x=>by_cases e:i=j <;> simp [e]
 ·rename_i h
  rw [h];simp [MM.keys]
theorem MM.uV {L:MM K V}{c:Nat}{a:K}{v:V}:(MM.put L c a v).map (·.1)=if MM.has L a then L.map (·.1) else L.map (·.1)++[c]:=by
 unfold MM.put
 rw [← MM.ej]
 split
 ·rename_i i h
  rw [h]
  simp only [Option.isSome_some,if_true]
  apply List.ext_getElem?
  intro j
  simp only [List.getElem?_map,List.getElem?_modify]
  cases L[j]? with
  | none=>simp
  | some x=>by_cases e:i=j <;> simp [e]
 ·rename_i h
  rw [h];simp
theorem MM.E9 {L:MM K V}{c:Nat}{a b:K}{v:V}:MM.has (MM.put L c a v) b=(decide (b=a) || MM.has L b):=by
 rw [Bool.eq_iff_iff,MM.iV,MM.pJ]
 split
 ·rename_i h
  simp only [Bool.or_eq_true,decide_eq_true_eq,MM.iV]
  refine ⟨.inr,fun h'=> ?_⟩
  rcases h' with rfl | h'
  ·exact MM.iV.1 h
  ·exact h'
 ·simp only [List.mem_append,List.mem_singleton,Bool.or_eq_true,decide_eq_true_eq,MM.iV]
  exact Or.comm
theorem MM.fB {L:MM K V}{c:Nat}{a b:K}{v:V}:MM.get (MM.put L c a v) b=if b=a then some v else MM.get L b:=by
 unfold MM.put
 split
 ·rename_i i h
  revert i h
  induction L with
  | nil=>intro i h;simp [MM.idx] at h
  | cons x L ih=>
   intro i h
   unfold MM.idx at h
   simp only [List.findIdx?_cons] at h
   by_cases e:a=x.2.1
   ·simp only [e,decide_true,if_true] at h
    injection h with h;subst h
    simp only [MM.get,List.modify_zero_cons,List.find?_cons]
    by_cases eb:b=x.2.1
    ·simp [eb,e]
    ·simp [eb,e]
   ·simp only [e,decide_false,Bool.false_eq_true,if_false,Option.map_eq_some_iff] at h
    obtain ⟨j,hj,rfl⟩:=h
    have:=ih j hj
    simp only [MM.get,List.modify_succ_cons,List.find?_cons] at this ⊢
    by_cases eb:b=x.2.1
    ·simp only [eb,decide_true]
     rw [if_neg (fun h=>e h.symm)]
    ·simp only [eb,decide_false]
     exact this
 ·rename_i h
  have hn:=MM.jP.1 h
  unfold MM.get at hn ⊢
  rw [List.find?_append]
  by_cases eb:b=a
  ·subst eb
   have:List.find? (fun x=>decide (b=x.2.1)) L=none:=by simpa using hn
   rw [this];simp
  ·simp only [List.find?_cons,eb,decide_false,List.find?_nil,Option.or_none,if_false]
theorem MM.jm {L:MM K V}{c:Nat}(h:MM.wf L c)(a:K)(v:V):MM.wf (MM.put L c a v) (MM.iU L c a):=by
 refine ⟨?_,?_,fun x hx=> ?_⟩
 ·rw [MM.pJ]
  split
  ·exact h.keys
  ·rename_i hh
   rw [List.nodup_append]
   refine ⟨h.keys,by simp,fun x hx y hy=> ?_⟩
   simp only [List.mem_singleton] at hy
   subst hy
   intro e
   subst e
   exact hh (MM.iV.2 hx)
 ·rw [MM.uV]
  split
  ·exact h.times
  ·rw [List.nodup_append]
   refine ⟨h.times,by simp,fun x hx y hy=> ?_⟩
   simp only [List.mem_singleton] at hy
   obtain ⟨z,hz,rfl⟩:=List.mem_map.1 hx
   have:=h.old z hz
   omega
 ·have hm:x.1∈(MM.put L c a v).map (·.1):=List.mem_map.2 ⟨x,hx,rfl⟩
  rw [MM.uV] at hm
  unfold MM.iU
  split at hm
  ·rename_i hh
   obtain ⟨z,hz,e⟩:=List.mem_map.1 hm
   rw [if_pos hh,← e]
   exact h.old z hz
  ·rename_i hh
   rw [if_neg hh]
   rcases List.mem_append.1 hm with hm | hm
   ·obtain ⟨z,hz,e⟩:=List.mem_map.1 hm
    have:=h.old z hz
    omega
   ·simp only [List.mem_singleton] at hm
    omega
theorem MM.kB:MM.wf ([]:MM K V) 0:=⟨by simp [MM.keys],by simp,by simp⟩
theorem MM.qC {L:MM K V}(h:(L.map (·.1)).Nodup){x:Nat×K×V}(hx:x∈L):L.find? (fun y=>y.1 == x.1)=some x:=by
 induction L with
 | nil=>cases hx
 | cons y L ih=>
  simp only [List.map_cons,List.nodup_cons] at h
  simp only [List.find?_cons]
  rcases List.mem_cons.1 hx with rfl | hx
  ·simp
  ·have:y.1≠x.1:=fun e=>h.1 (by rw [e];exact List.mem_map.2 ⟨x,hx,rfl⟩)
   rw [show (y.1 == x.1)=false by simpa using this]
   exact ih h.2 hx
theorem uW {α β:Type}(f:α→β):∀ (l:List α) (i:Nat),(l.map f).eraseIdx i=(l.eraseIdx i).map f
 | [],i=>by simp
 | x::l,0=>by simp
 | x::l,i+1=>by simp [uW f l i]
theorem MM.sX {L:MM K V}(h:(L.map (·.1)).Nodup){x y:Nat×K×V}(hx:x∈L)(hy:y∈L)(e:x.1=y.1):x=y:=by
 have h1:=MM.qC h hx
 have h2:=MM.qC h hy
 rw [e,h2] at h1
 exact (Option.some.inj h1).symm
def an (kc:K→List SV)(vs:V→SV)(L:MM K V):List (Nat×SV×SV):=L.map fun x=>(x.1,SV.agg (kc x.2.1),vs x.2.2)
variable {kc:K→List SV} {vs:V→SV}
theorem qD {ks:List Bool}(heq:∀ a b,iA ks (kc a) (kc b)=some (decide (a=b)))(a:K):∀ (L:MM K V) (i:Nat),g_ ks true (.agg (kc a)) (an kc vs L) i=some ((MM.idx L a).map (· +i))
 | [],i=>by simp [an,g_,MM.idx]
 | x ::L,i=>by
  have ih:=qD heq a L (i+1)
  have hk:gZ ks true (.agg (kc x.2.1))=true:=by simp [gZ,j_,SV.cells,heq]
  unfold an at ih ⊢
  simp only [List.map_cons,g_,hk,if_true,SV.cells,heq]
  unfold MM.idx at ih ⊢
  simp only [List.findIdx?_cons]
  by_cases e:a=x.2.1
  ·simp [e]
  ·simp only [e,decide_false,Bool.false_eq_true,if_false]
   rw [ih]
   cases List.findIdx? (fun x=>decide (a=x.2.1)) L with
   | none=>rfl
   | some j=>simp;omega
theorem nv (d:Dt)(vs:V→SV)(L:MM Dt V):g_ [true,true] true (.agg d.cells) (an Dt.cells vs L) 0=some (MM.idx L d):=by
 rw [qD Dt.qh d L 0];cases MM.idx L d <;> rfl
theorem nw (d:aL)(vs:V→SV)(L:MM aL V):g_ [true,true,true,true,true,true,true,true] true (.agg d.cells) (an aL.cells vs L) 0=some (MM.idx L d):=by
 rw [qD aL.yt d L 0];cases MM.idx L d <;> rfl
theorem iJ (z:V)(L:MM K V)(a:K):fH (an kc vs L) (vs z) (MM.idx L a)=vs ((MM.get L a).getD z):=by
 cases h:MM.idx L a with
 | none=>rw [MM.jP.1 h];rfl
 | some i=>
  obtain ⟨x,h1,h2,h3⟩:=MM.rZ h
  rw [h3]
  simp [fH,an,h1]
def iv (n:Int):SV:= .d (.int .i64 n)
theorem kR (L:MM K Int)(a:K):fH (an kc iv L) (.d (.int .i64 0)) (MM.idx L a)= .d (.int .i64 ((MM.get L a).getD 0)):=iJ (vs:=iv) 0 L a
theorem jC (L:MM K V)(c:Nat)(a:K)(v:V):mq (an kc vs L) c (.agg (kc a)) (vs v) (MM.idx L a)= .map (an kc vs (MM.put L c a v)) (MM.iU L c a):=by
 unfold MM.put MM.iU
 rw [← MM.ej]
 cases h:MM.idx L a with
 | none=>simp [mq,an]
 | some i=>
  simp only [mq,Option.isSome_some,if_true,Ob.map.injEq,and_true,an]
  apply List.ext_getElem?
  intro j
  simp only [List.getElem?_map,List.getElem?_modify]
  cases L[j]? with
  | none=>simp
  | some x=>by_cases e:i=j <;> simp [e]
theorem kS (L:MM K Int)(c:Nat)(a:K)(n:Int):mq (an kc iv L) c (.agg (kc a)) (.d (.int .i64 n)) (MM.idx L a)= .map (an kc iv (MM.put L c a n)) (MM.iU L c a):=jC (vs:=iv) L c a n
def MM.vQ (L:MM K V)(c:Nat)(a:K)(z:V):MM K V:=match MM.idx L a with
 | some _=>L
 | none=>L++[(c,a,z)]
def MM.Jg (L:MM K V)(c:Nat)(a:K):Nat:=match MM.idx L a with
 | some i=>((L[i]?).map (·.1)).getD 0
 | none=>c
def MM.pos (L:MM K V)(a:K):Nat:=(MM.idx L a).getD L.length
theorem oO (L:MM K V)(c:Nat)(a:K):wS (an kc vs L) c (MM.idx L a)=MM.Jg L c a:=by
 unfold MM.Jg
 cases h:MM.idx L a with
 | none=>rfl
 | some i=>
  simp only [wS,an,List.getElem?_map]
  cases L[i]? <;> rfl
theorem sY (L:MM K V)(c:Nat)(a:K)(z:V):o6 (an kc vs L) c (.agg (kc a)) (vs z) (MM.idx L a)= .map (an kc vs (MM.vQ L c a z)) (MM.iU L c a):=by
 unfold MM.vQ MM.iU
 rw [← MM.ej]
 cases h:MM.idx L a with
 | none=>simp [o6,an]
 | some i=>simp [o6]
theorem r6 {L:MM K V}{c:Nat}(hw:MM.wf L c)(a:K)(z:V):(an kc vs (MM.vQ L c a z)).findIdx? (fun e=>(e.1:Int) == ((MM.Jg L c a:Nat):Int))=some (MM.pos L a):=by
 unfold MM.vQ MM.Jg MM.pos
 have key:∀ (l:MM K V) (i:Nat) (x:Nat×K×V),(l.map (·.1)).Nodup→l[i]? =some x→(an kc vs l).findIdx? (fun e=>(e.1:Int) == ((x.1:Nat):Int))=some i:=by
  intro l
  induction l with
  | nil=>intro i x _ h;simp at h
  | cons y l ih=>
   intro i x hn h
   rw [List.map_cons,List.nodup_cons] at hn
   simp only [an,List.map_cons,List.findIdx?_cons]
   cases i with
   | zero=>simp at h;subst h;simp
   | succ i=>
    simp at h
    have hne:((y.1:Int) == (x.1:Int))=false:=by
     have:y.1≠x.1:=fun e=>hn.1 (by rw [e];exact List.mem_map.2 ⟨x,List.mem_of_getElem? h,rfl⟩)
     simpa using fun h:(y.1:Int)=x.1=>this (by omega)
    rw [hne]
    have:=ih i x hn.2 h
    simp only [an] at this
    simp [this]
 cases h:MM.idx L a with
 | none=>
  refine key (L++[(c,a,z)]) L.length (c,a,z) ?_ (by simp)
  rw [List.map_append,List.nodup_append]
  refine ⟨hw.times,by simp,fun x hx y hy e=> ?_⟩
  simp at hy
  obtain ⟨q,hq,rfl⟩:=List.mem_map.1 hx
  have:=hw.old q hq
  omega
 | some i=>
  obtain ⟨x,h1,_⟩:=MM.rZ h
  simp only [h1,Option.map_some,Option.getD_some]
  exact key L i x hw.times h1
theorem jD (L:MM K V)(c:Nat)(a:K)(z v:V):(an kc vs (MM.vQ L c a z)).modify (MM.pos L a) (fun e=>(e.1,e.2.1,vs v))=an kc vs (MM.put L c a v):=by
 unfold MM.vQ MM.pos MM.put
 have key:∀ (l:MM K V) (i:Nat),(an kc vs l).modify i (fun e=>(e.1,e.2.1,vs v))=an kc vs (l.modify i fun x=>(x.1,x.2.1,v)):=fun l i=>by
  unfold an
  apply List.ext_getElem?
  intro j
  simp only [List.getElem?_map,List.getElem?_modify]
  cases l[j]? with
  | none=>simp
  | some x=>by_cases e:i=j <;> simp [e]
 cases h:MM.idx L a with
 | none=>
  simp only [Option.getD_none]
  rw [key]
  congr 1
  apply List.ext_getElem?
  intro j
  simp only [List.getElem?_modify,List.getElem?_append]
  by_cases h1:j<L.length
  ·simp [h1,show ¬ L.length=j by omega]
  ·simp only [h1,if_false]
   by_cases h2:L.length=j
   ·subst h2;simp
   ·simp [show ¬ j - L.length=0 by omega,show j - L.length≠0 by omega]
 | some i=>exact key L i
theorem jE (L:MM K V)(c:Nat)(a:K):wR (an kc vs L) c (MM.idx L a)= .map (an kc vs (MM.del L a)) c:=by
 unfold MM.del
 cases h:MM.idx L a with
 | none=>rfl
 | some i=>simp only [wR,an,uW]
theorem kT (L:MM K V):(an kc vs L).length=L.length:=by simp [an]
theorem eY {L:MM K V}{e:Nat×SV×SV}(h:e∈an kc vs L):∃ x,x∈L∧e=(x.1,SV.agg (kc x.2.1),vs x.2.2):=by
 obtain ⟨x,hx,rfl⟩:=List.mem_map.1 h
 exact ⟨x,hx,rfl⟩
theorem kU {L:MM K V}(h:(L.map (·.1)).Nodup){x:Nat×K×V}(hx:x∈L):(an kc vs L).find? (fun e=>e.1 == x.1)=some (x.1,SV.agg (kc x.2.1),vs x.2.2):=by
 unfold an
 rw [List.find?_map]
 have:=MM.qC h hx
 simp only [Function.comp_def,this,Option.map_some]
theorem kV (ρ:Nat→Nat)(L:MM K V)(hk:∀ a,SV.aW ρ (kc a)=kc a)(hv:∀ v,(vs v).aC ρ=vs v):(an kc vs L).map (fun e=>(e.1,e.2.1.aC ρ,e.2.2.aC ρ))=an kc vs L:=by
 unfold an
 rw [List.map_map]
 refine List.map_congr_left fun x _=> ?_
 simp [SV.aC,hk,hv]
theorem ny (q:Nat→Bool)(L:MM K V)(hk:∀ a,SV.ay q (kc a)=true)(hv:∀ v,(vs v).ok q=true):((an kc vs L).all fun e=>e.2.1.ok q && e.2.2.ok q)=true:=by
 unfold an
 simp [SV.ok,hk,hv]
end
theorem B1 (ρ:Nat→Nat)(n:Int):(iv n).aC ρ=iv n:=rfl
theorem Gz (q:Nat→Bool)(n:Int):(iv n).ok q=true:=rfl
abbrev jo:=MM Dt Int
theorem eC (ρ:Nat→Nat)(L:jo):(an Dt.cells iv L).map (fun e=>(e.1,e.2.1.aC ρ,e.2.2.aC ρ))=an Dt.cells iv L:=kV ρ L (fun a=>Dt.ax a ρ) (B1 ρ)
theorem bM (q:Nat→Bool)(L:jo):((an Dt.cells iv L).all fun e=>e.2.1.ok q && e.2.2.ok q)=true:=ny q L (fun a=>Dt.ai a q) (Gz q)
theorem sZ (ρ:Nat→Nat)(L:MM aL Int):(an aL.cells iv L).map (fun e=>(e.1,e.2.1.aC ρ,e.2.2.aC ρ))=an aL.cells iv L:=kV ρ L (fun a=>aL.ax a ρ) (B1 ρ)
theorem vR (q:Nat→Bool)(L:MM aL Int):((an aL.cells iv L).all fun e=>e.2.1.ok q && e.2.2.ok q)=true:=ny q L (fun a=>aL.ai a q) (Gz q)
end
end Go.Sl
namespace Go.Sl
open Go.RowKit
section
structure ag where
 dot:Dt
 dep:aL
 time:Nat
 who:Nat
 aG:Dt
 kind:Nat
 aK:Dt
 to:Nat
 bp:Nat
 depth:Nat
 cap:Nat
 at_:Dt
 iK:Dt
 item:Nat
 r7:Nat
 eu:Nat
 lines:DV
def ag.ds (o:ag):List DV:=
 .int .u8 o.dot.r:: .int .u32 o.dot.n::(o.dep.ds++(.int .u64 o.time:: .int .u32 o.who:: .int .u8 o.aG.r:: .int .u32 o.aG.n:: .int .u8 o.kind:: .int .u8 o.aK.r:: .int .u32 o.aK.n:: .int .u32 o.to:: .int .u8 o.bp:: .int .u8 o.depth:: .int .u64 o.cap::
  .int .u8 o.at_.r:: .int .u32 o.at_.n:: .int .u8 o.iK.r:: .int .u32 o.iK.n:: .int .u32 o.item:: .int .u32 o.r7:: .int .u32 o.eu::[o.lines]))
def ag.cells (o:ag):List SV:=o.ds.map .d
@[simp] theorem ag.lV (o:ag):o.ds.length=29:=rfl
@[simp] theorem ag.kP (o:ag):o.cells.length=29:=rfl
@[simp] theorem ag.ai (o:ag) (q:Nat→Bool):SV.ay q o.cells=true:=SV.bh _
@[simp] theorem ag.ax (o:ag) (ρ:Nat→Nat):SV.aW ρ o.cells=o.cells:=SV.ia _
theorem ag.cells_one (o:ag):o.cells.all SV.dG=true:=by simp [ag.cells,SV.dG]
@[simp] theorem ag.bg (o:ag):o.cells.take 29=o.cells:=rfl
theorem ag.kX (o:ag):o.cells.take 2=o.dot.cells:=rfl
theorem ag.Ax (o:ag):(o.cells.drop 2).take 8=o.dep.cells:=rfl
theorem ag.uX (o:ag):o.cells[10]? =some (u64 o.time):=rfl
theorem ag.Ay (o:ag):o.cells[11]? =some (u32 o.who):=rfl
theorem ag.kY (o:ag):(o.cells.drop 12).take 2=o.aG.cells:=rfl
theorem ag.uY (o:ag):o.cells[14]? =some (u8 o.kind):=rfl
theorem ag.uZ (o:ag):(o.cells.drop 15).take 2=o.aK.cells:=rfl
theorem ag.IF (o:ag):o.cells[17]? =some (u32 o.to):=rfl
theorem ag.iL (o:ag):o.cells[18]? =some (u8 o.bp):=rfl
theorem ag.iM (o:ag):o.cells[19]? =some (u8 o.depth):=rfl
theorem ag.qE (o:ag):o.cells[20]? =some (u64 o.cap):=rfl
theorem ag.IG (o:ag):(o.cells.drop 21).take 2=o.at_.cells:=rfl
theorem ag.Az (o:ag):(o.cells.drop 23).take 2=o.iK.cells:=rfl
theorem ag.u0 (o:ag):o.cells[25]? =some (u32 o.item):=rfl
theorem ag.AA (o:ag):o.cells[26]? =some (u32 o.r7):=rfl
theorem ag.qF (o:ag):o.cells[27]? =some (u32 o.eu):=rfl
theorem ag.qG (o:ag):o.cells[28]? =some (.d o.lines):=rfl
theorem ag.u5 (o:ag):o.cells[0]? =some (u8 o.dot.r):=rfl
theorem ag.u6 (o:ag):o.cells[1]? =some (u32 o.dot.n):=rfl
theorem ag.bD (c o:ag):cU c.cells 0 o.cells=o.cells:=rfl
def ag.before (a b:ag):Bool:=b.dep.bB a.dot
abbrev AB:List SV:=[.d (.int .u8 0),.d (.int .u32 0),.d (.int .u32 0),.d (.int .u32 0),.d (.int .u32 0),.d (.int .u32 0),.d (.int .u32 0),.d (.int .u32 0),.d (.int .u32 0),.d (.int .u32 0),.d (.int .u64 0),.d (.int .u32 0),.d (.int .u8 0),.d (.int .u32 0),.d (.int .u8 0),
 .d (.int .u8 0),.d (.int .u32 0),.d (.int .u32 0),.d (.int .u8 0),.d (.int .u8 0),.d (.int .u64 0),.d (.int .u8 0),.d (.int .u32 0),.d (.int .u8 0),.d (.int .u32 0),.d (.int .u32 0),.d (.int .u32 0),.d (.int .u32 0),.d .aU]
def ag.zero:ag:=⟨⟨0,0⟩,aL.zero,0,0,⟨0,0⟩,0,⟨0,0⟩,0,0,0,0,⟨0,0⟩,⟨0,0⟩,0,0,0,.aU⟩
theorem ag.aI:([.d (.int .u8 0),.d (.int .u32 0),.d (.int .u32 0),.d (.int .u32 0),.d (.int .u32 0),.d (.int .u32 0),.d (.int .u32 0),.d (.int .u32 0),.d (.int .u32 0),.d (.int .u32 0),.d (.int .u64 0),.d (.int .u32 0),.d (.int .u8 0),.d (.int .u32 0),.d (.int .u8 0),
 .d (.int .u8 0),.d (.int .u32 0),.d (.int .u32 0),.d (.int .u8 0),.d (.int .u8 0),.d (.int .u64 0),.d (.int .u8 0),.d (.int .u32 0),.d (.int .u8 0),.d (.int .u32 0),.d (.int .u32 0),.d (.int .u32 0),.d (.int .u32 0),.d .aU]:List SV)=ag.zero.cells:=rfl
abbrev ops (l:List ag):SV:= .d (.sl l.length (l.flatMap ag.ds))
abbrev iW (l:List ag):List SV:=List.map SV.d (l.flatMap ag.ds)
@[simp] theorem iX (l:List ag):(l.flatMap ag.ds).length=l.length*29:=dw ag.ds 29 (fun _=>rfl) l
theorem eZ {l:List ag}{i:Nat}{x:ag}(h:l[i]? =some x):List.take 29 (List.drop (i*29) (List.map SV.d (l.flatMap ag.ds)))=x.cells:=by
 rw [← List.map_drop,← List.map_take,kO ag.ds 29 (fun _=>rfl) l i x h]
 rfl
theorem B2 {l:List ag}{i:Nat}{x:ag}(h:l[i]? =some x){j:Nat}(hj:j<29):(List.map SV.d (l.flatMap ag.ds))[i*29+j]? =x.cells[j]? :=by
 rw [List.getElem?_map,sR ag.ds 29 (fun _=>rfl) l i j x h hj,ag.cells,List.getElem?_map]
theorem zB {l:List ag}{i:Nat}{x:ag}(h:l[i]? =some x){j n:Nat}(hj:j+n≤29):List.take n (List.drop (i*29+j) (List.map SV.d (l.flatMap ag.ds)))=(x.cells.drop j).take n:=by
 rw [← eZ h,List.drop_take,List.drop_drop,List.take_take,Nat.min_eq_left (by omega)]
theorem E_ {l:List ag}{i j n:Nat}{x:ag}(h:l[i]? =some x)(hj:j+n≤29):(i*29+j+n≤(List.map SV.d (l.flatMap ag.ds)).length)=True:=eq_true (by
 have:=bu h
 rw [List.length_map,iX]
 omega)
theorem bT {l:List ag}{i:Nat}{x:ag}(h:l[i]? =some x):(i*29+29≤(List.map SV.d (l.flatMap ag.ds)).length)=True:=eq_true (by
 have:=bu h
 rw [List.length_map,iX]
 omega)
theorem Fa {α:Type}(f:α→List DV)(sz:Nat)(hs:0<sz)(hf:∀ x,(f x).length=sz)(l:List α)(i:Nat)(x:α)(h:i<l.length):cU (List.map SV.d (l.flatMap f)) (i*sz) ((f x).map .d)=List.map SV.d ((l.set i x).flatMap f):=by
 have hl:=dw f sz hf l
 have hle:i*sz+sz≤l.length*sz:=by rw [← Nat.succ_mul];exact Nat.mul_le_mul_right sz h
 rw [qn (by rw [List.length_map,List.length_map,hf,hl];exact hle)]
 rw [List.length_map,hf,← List.map_take,← List.map_drop,← List.map_append,← List.map_append]
 congr 1
 induction l generalizing i with
 | nil=>simp at h
 | cons y l ih=>
  cases i with
  | zero=>
   simp [hf,List.drop_append,List.drop_of_length_le (Nat.le_of_eq (hf y))]
  | succ i=>
   have:=ih i (by simpa using h) (dw f sz hf l) (by
    have h2:i<l.length:=by simpa using h
    rw [← Nat.succ_mul];exact Nat.mul_le_mul_right sz h2)
   rw [Nat.succ_mul]
   simp only [List.flatMap_cons,List.set_cons_succ]
   rw [List.take_append,List.drop_append,hf,List.take_of_length_le (by rw [hf];omega),List.drop_of_length_le (by rw [hf];omega)]
   rw [show i*sz+sz - sz=i*sz by omega,show i*sz+sz+sz - sz=i*sz+sz by omega,← this]
   simp
theorem Hw {l:List ag}{i:Nat}(x:ag)(h:i<l.length):cU (List.map SV.d (l.flatMap ag.ds)) (i*29) x.cells=List.map SV.d ((l.set i x).flatMap ag.ds):=Fa ag.ds 29 (by omega) (fun _=>rfl) l i x h
structure Cr where
 dot:Dt
 aG:Dt
 par:Dt
 hold:Nat
 bp:Nat
 depth:Nat
 cap:Nat
 level:Int
 deriving DecidableEq
def Cr.ds (o:Cr):List DV:=[.int .u8 o.dot.r,.int .u32 o.dot.n,.int .u8 o.aG.r,.int .u32 o.aG.n,.int .u8 o.par.r,.int .u32 o.par.n,.int .u32 o.hold,.int .u8 o.bp,.int .u8 o.depth,.int .u64 o.cap,.int .i64 o.level]
def Cr.cells (o:Cr):List SV:=o.ds.map .d
@[simp] theorem Cr.lV (o:Cr):o.ds.length=11:=rfl
@[simp] theorem Cr.kP (o:Cr):o.cells.length=11:=rfl
@[simp] theorem Cr.ai (o:Cr) (q:Nat→Bool):SV.ay q o.cells=true:=SV.bh _
@[simp] theorem Cr.ax (o:Cr) (ρ:Nat→Nat):SV.aW ρ o.cells=o.cells:=SV.ia _
theorem Cr.cells_one (o:Cr):o.cells.all SV.dG=true:=rfl
@[simp] theorem Cr.bg (o:Cr):o.cells.take 11=o.cells:=rfl
theorem Cr.kX (o:Cr):o.cells.take 2=o.dot.cells:=rfl
theorem Cr.kY (o:Cr):(o.cells.drop 2).take 2=o.aG.cells:=rfl
theorem Cr.AD (o:Cr):(o.cells.drop 4).take 2=o.par.cells:=rfl
theorem Cr.u7 (o:Cr):o.cells[6]? =some (u32 o.hold):=rfl
theorem Cr.iL (o:Cr):o.cells[7]? =some (u8 o.bp):=rfl
theorem Cr.iM (o:Cr):o.cells[8]? =some (u8 o.depth):=rfl
theorem Cr.qE (o:Cr):o.cells[9]? =some (u64 o.cap):=rfl
theorem Cr.qH (o:Cr):o.cells[10]? =some (i64 o.level):=rfl
theorem Cr.bD (c o:Cr):cU c.cells 0 o.cells=o.cells:=rfl
def Cr.zero:Cr:=⟨⟨0,0⟩,⟨0,0⟩,⟨0,0⟩,0,0,0,0,0⟩
theorem Cr.aI:([.d (.int .u8 0),.d (.int .u32 0),.d (.int .u8 0),.d (.int .u32 0),.d (.int .u8 0),.d (.int .u32 0),.d (.int .u32 0),.d (.int .u8 0),.d (.int .u8 0),.d (.int .u64 0),.d (.int .i64 0)]:List SV)=Cr.zero.cells:=rfl
theorem Cr.qh (a b:Cr):iA [true,true,true,true,true,true,true,true,true,true,true] a.cells b.cells=some (decide (a=b)):=by
 have h:iA [true,true,true,true,true,true,true,true,true,true,true] a.cells b.cells=some (((a.dot.r:Int) == b.dot.r) && (((a.dot.n:Int) == b.dot.n) && (((a.aG.r:Int) == b.aG.r) && (((a.aG.n:Int) == b.aG.n) && (((a.par.r:Int) == b.par.r) && (((a.par.n:Int) == b.par.n) &&
   (((a.hold:Int) == b.hold) && (((a.bp:Int) == b.bp) && (((a.depth:Int) == b.depth) && (((a.cap:Int) == b.cap) && ((a.level == b.level) && true))))))))))):=by simp [iA,EC,Cr.cells,Cr.ds]
 rw [h]
 congr 1
 obtain ⟨⟨a0,a1⟩,⟨a2,a3⟩,⟨a4,a5⟩,a6,a7,a8,a9,a10⟩:=a
 obtain ⟨⟨b0,b1⟩,⟨b2,b3⟩,⟨b4,b5⟩,b6,b7,b8,b9,b10⟩:=b
 rw [Bool.eq_iff_iff]
 simp
 omega
abbrev de (l:List Cr):SV:= .d (.sl l.length (l.flatMap Cr.ds))
@[simp] theorem Ko (l:List Cr):(l.flatMap Cr.ds).length=l.length*11:=dw Cr.ds 11 (fun _=>rfl) l
def ov (o:ag):SV:= .agg o.cells
def cv (o:Cr):SV:= .agg o.cells
section
variable {K:Type} [DecidableEq K] {kc:K→List SV}
theorem nC (L:MM K ag)(a:K):fH (an kc ov L) (.agg ag.zero.cells) (MM.idx L a)= .agg ((MM.get L a).getD ag.zero).cells:=iJ (vs:=ov) ag.zero L a
theorem nD (L:MM K Cr)(a:K):fH (an kc cv L) (.agg Cr.zero.cells) (MM.idx L a)= .agg ((MM.get L a).getD Cr.zero).cells:=iJ (vs:=cv) Cr.zero L a
theorem nE (L:MM K ag)(c:Nat)(a:K):o6 (an kc ov L) c (.agg (kc a)) (.agg ag.zero.cells) (MM.idx L a)= .map (an kc ov (MM.vQ L c a ag.zero)) (MM.iU L c a):=sY (vs:=ov) L c a ag.zero
theorem nF (L:MM K Cr)(c:Nat)(a:K):o6 (an kc cv L) c (.agg (kc a)) (.agg Cr.zero.cells) (MM.idx L a)= .map (an kc cv (MM.vQ L c a Cr.zero)) (MM.iU L c a):=sY (vs:=cv) L c a Cr.zero
theorem nG (L:MM K Int)(c:Nat)(a:K):o6 (an kc iv L) c (.agg (kc a)) (.d (.int .i64 0)) (MM.idx L a)= .map (an kc iv (MM.vQ L c a 0)) (MM.iU L c a):=sY (vs:=iv) L c a 0
theorem nH (L:MM K ag)(c:Nat)(a:K)(z v:ag):(an kc ov (MM.vQ L c a z)).modify (MM.pos L a) (fun e=>(e.1,e.2.1,.agg v.cells))=an kc ov (MM.put L c a v):=jD (vs:=ov) L c a z v
theorem nI (L:MM K Cr)(c:Nat)(a:K)(z v:Cr):(an kc cv (MM.vQ L c a z)).modify (MM.pos L a) (fun e=>(e.1,e.2.1,.agg v.cells))=an kc cv (MM.put L c a v):=jD (vs:=cv) L c a z v
theorem nJ (L:MM K Int)(c:Nat)(a:K)(z v:Int):(an kc iv (MM.vQ L c a z)).modify (MM.pos L a) (fun e=>(e.1,e.2.1,.d (.int .i64 v)))=an kc iv (MM.put L c a v):=jD (vs:=iv) L c a z v
theorem cF (ρ:Nat→Nat)(L:MM Dt ag):(an Dt.cells ov L).map (fun e=>(e.1,e.2.1.aC ρ,e.2.2.aC ρ))=an Dt.cells ov L:=kV ρ L (fun a=>Dt.ax a ρ) (fun v=>by simp [ov,SV.aC])
theorem bq (q:Nat→Bool)(L:MM Dt ag):((an Dt.cells ov L).all fun e=>e.2.1.ok q && e.2.2.ok q)=true:=ny q L (fun a=>Dt.ai a q) (fun v=>by simp [ov,SV.ok])
theorem ic (ρ:Nat→Nat)(L:MM Dt Cr):(an Dt.cells cv L).map (fun e=>(e.1,e.2.1.aC ρ,e.2.2.aC ρ))=an Dt.cells cv L:=kV ρ L (fun a=>Dt.ax a ρ) (fun v=>by simp [cv,SV.aC])
theorem iY (q:Nat→Bool)(L:MM Dt Cr):((an Dt.cells cv L).all fun e=>e.2.1.ok q && e.2.2.ok q)=true:=ny q L (fun a=>Dt.ai a q) (fun v=>by simp [cv,SV.ok])
end
end
section
def uv (n:Nat):SV:= .d (.int .u64 (n:Int))
section
variable {K:Type} [DecidableEq K] {kc:K→List SV}
theorem nL (L:MM K Nat)(a:K):fH (an kc uv L) (.d (.int .u64 0)) (MM.idx L a)= .d (.int .u64 (((MM.get L a).getD 0:Nat):Int)):=iJ (vs:=uv) 0 L a
theorem nM (L:MM K Nat)(c:Nat)(a:K)(n:Nat):mq (an kc uv L) c (.agg (kc a)) (.d (.int .u64 (n:Int))) (MM.idx L a)= .map (an kc uv (MM.put L c a n)) (MM.iU L c a):=jC (vs:=uv) L c a n
theorem nN (L:MM K Nat)(c:Nat)(a:K):o6 (an kc uv L) c (.agg (kc a)) (.d (.int .u64 0)) (MM.idx L a)= .map (an kc uv (MM.vQ L c a 0)) (MM.iU L c a):=sY (vs:=uv) L c a 0
theorem nO (L:MM K Nat)(c:Nat)(a:K)(z v:Nat):(an kc uv (MM.vQ L c a z)).modify (MM.pos L a) (fun e=>(e.1,e.2.1,.d (.int .u64 (v:Int))))=an kc uv (MM.put L c a v):=jD (vs:=uv) L c a z v
end
structure Sp where
 d:Dt
 n:Nat
 deriving DecidableEq
def Sp.ds (x:Sp):List DV:=[.int .u8 x.d.r,.int .u32 x.d.n,.int .u64 x.n]
def Sp.cells (x:Sp):List SV:=x.ds.map .d
@[simp] theorem Sp.lV (x:Sp):x.ds.length=3:=rfl
@[simp] theorem Sp.kP (x:Sp):x.cells.length=3:=rfl
@[simp] theorem Sp.ai (x:Sp) (q:Nat→Bool):SV.ay q x.cells=true:=SV.bh _
@[simp] theorem Sp.ax (x:Sp) (ρ:Nat→Nat):SV.aW ρ x.cells=x.cells:=SV.ia _
theorem Sp.cells_one (x:Sp):x.cells.all SV.dG=true:=rfl
@[simp] theorem Sp.bg (x:Sp):x.cells.take 3=x.cells:=rfl
theorem Sp.kX (x:Sp):x.cells.take 2=x.d.cells:=rfl
theorem Sp.gN (x:Sp):x.cells[2]? =some (u64 x.n):=rfl
theorem Sp.bD (c x:Sp):cU c.cells 0 x.cells=x.cells:=rfl
def Sp.zero:Sp:=⟨⟨0,0⟩,0⟩
theorem Sp.aI:([.d (.int .u8 0),.d (.int .u32 0),.d (.int .u64 0)]:List SV)=Sp.zero.cells:=rfl
theorem Sp.fE (d:Dt)(n:Nat):cU (cU Sp.zero.cells 0 d.cells) 2 [.d (.int .u64 (n:Int))]=(Sp.mk d n).cells:=rfl
theorem Sp.qh (a b:Sp):iA [true,true,true] a.cells b.cells=some (decide (a=b)):=by
 have h:iA [true,true,true] a.cells b.cells=some (((a.d.r:Int) == b.d.r) && (((a.d.n:Int) == b.d.n) && (((a.n:Int) == b.n) && true))):=by simp [iA,EC,Sp.cells,Sp.ds]
 rw [h]
 congr 1
 obtain ⟨⟨a0,a1⟩,a2⟩:=a
 obtain ⟨⟨b0,b1⟩,b2⟩:=b
 rw [Bool.eq_iff_iff]
 simp
 omega
@[simp] theorem Kp (l:List Sp):(l.flatMap Sp.ds).length=l.length*3:=dw Sp.ds 3 (fun _=>rfl) l
theorem nP (x:Cr):eH x.cells=some x.ds:=rfl
theorem nQ (x:Sp):eH x.cells=some x.ds:=rfl
end
end Go.Sl
namespace Go.Sl
section
variable {P:Program}
def RW (P:Program)(cH:List SI)(st:St)(K:St→List (Bool×List Nat)→Prop):Prop:=
 ∃ de st' ob ts,runs P cH st de=some (st',ob,ts)∧ob∧K st' ts
def gi:SO→Bool
 | .call .. =>true
 | _=>false
def u9:SO→Bool
 | .oU .. =>true
 | _=>false
def seg (P:Program):List SI→St→Option (List SI×St×Prop×List (Bool×List Nat))
  | [],st=>some ([],st,True,[])
  | si :: r,st=>match si.g with
    | none=>match gi si.op with
      | true=>some (si::r,st,True,[])
      | false=>match eV P st si.op [] with
        | some (e,_)=>match seg P r (kr st si e) with
          | some (rest,st',ob,ts)=>some (rest,st',e.ob∧ob,gh si e::ts)
          | none=>none
        | none=>none
    | some (t,w)=>match st.env.lookup t with
      | some (.d (.bool b))=>match b == w with
        | true=>match gi si.op with
          | true=>some (si::r,st,True,[])
          | false=>match eV P st si.op [] with
            | some (e,_)=>match seg P r (kr st si e) with
              | some (rest,st',ob,ts)=>some (rest,st',e.ob∧ob,gh si e::ts)
              | none=>none
            | none=>none
        | false=>match seg P r (kr st si ⟨.dM [],[],[],0,True⟩) with
          | some (rest,st',ob,ts)=>some (rest,st',ob,gh si ⟨.dM [],[],[],0,True⟩::ts)
          | none=>none
      | some (.dM [])=>match seg P r (kr st si ⟨.dM [],[],[],0,True⟩) with
          | some (rest,st',ob,ts)=>some (rest,st',ob,gh si ⟨.dM [],[],[],0,True⟩::ts)
          | none=>none
      | _=>none
theorem AE {st:St}{so:SO}{e:kH}{c2:List CR}(hc:gi so=false)(h:eV P st so []=some (e,c2)):c2=[]∧(u9 so=false→∀ de,eV P st so de=some (e,de))∧(u9 so=true→∀ de,eV P st so (.iB::de)=some (e,de)):=by
 cases so <;> simp only [gi,Bool.true_eq_false] at hc <;> simp only [eV] at h <;> split at h <;> first | (cases h;done) | skip
 all_goals
  rename_i hs
  injection h with h
  injection h with h h'
  subst h;subst h'
  refine ⟨rfl,fun hb de=> ?_,fun hb de=> ?_⟩
  all_goals first
   | (simp [u9] at hb;done)
   | simp only [eV,hs]
theorem RW.nil {st:St}{K:St→List (Bool×List Nat)→Prop}(h:K st []):RW P [] st K:=⟨[],st,True,[],rfl,trivial,h⟩
theorem RW.cons {si:SI}{r:List SI}{st:St}{K:St→List (Bool×List Nat)→Prop}{e:kH}(h1:∀ de,∃ c0,eW P st si c0=some (e,de))(bn:e.ob)(h:RW P r (kr st si e) fun st' ts=>K st' (gh si e::ts)):RW P (si::r) st K:=by
 obtain ⟨de,st',ob,ts,hr,ho,hk⟩:=h
 obtain ⟨c0,hc0⟩:=h1 de
 refine ⟨c0,st',e.ob∧ob,gh si e::ts,?_,⟨bn,ho⟩,hk⟩
 simp only [runs,hc0,hr]
theorem xm {st:St}{so:SO}{e:kH}{c2:List CR}(hc:gi so=false)(h:eV P st so []=some (e,c2))(de:List CR):∃ c0,eV P st so c0=some (e,de):=by
 obtain ⟨_,h1,h2⟩:=AE hc h
 cases hb:u9 so with
 | false=>exact ⟨de,h1 hb de⟩
 | true=>exact ⟨.iB::de,h2 hb de⟩
theorem RW.call {d:Option Nat}{f:X}{args:List X}{g:Option (Nat×Bool)}{r:List SI}{st:St}{K:St→List (Bool×List Nat)→Prop}{fid:FuncId}{as first cap as':List SV}{F F':Hp}{v:SV}{nk:Nat}
  (hf:ev (fun t=>st.env.lookup t) f=some (.fn (.func fid) first cap)) (ha:oG (fun t=>st.env.lookup t) args=some as) (has:first++as++cap=as') (hc:aM P fid as' F st.k nk v F') (hs:HSub F st.hp)
  (hg:g=none∨∃ t w,g=some (t,w)∧st.env.lookup t=some (.d (.bool w)))
  (h:RW P r (kr st ⟨d,.call f args,g⟩ ⟨v,F,F',nk,True⟩) fun st' ts=>K st' (gh ⟨d,.call f args,g⟩ ⟨v,F,F',nk,True⟩::ts)):RW P (⟨d,.call f args,g⟩::r) st K:=by
 refine RW.cons (e:=⟨v,F,F',nk,aM P fid (first++as++cap) F st.k nk v F'∧HSub F st.hp⟩) (fun de=>⟨.call F v F' nk::de,?_⟩) ⟨by rw [has];exact hc,hs⟩ h
 rcases hg with rfl | ⟨t,w,rfl,hl⟩
 ·simp only [eW,eV,hf,ha]
 ·simp [eW,hl,eV,hf,ha]
theorem SW.KJ {N k0:Nat}{st:St}{Q:Exit→St→Prop}{cH:List SI}{bs:List Nat}{draw:Bool}(hm:P.follows .mixedOrders=true)(h:RW P cH st fun st' ts=>(!draw || ku bs ts)=true∧Q .normal st'):SW P N k0 (.ey cH bs draw) st Q:=by
 obtain ⟨de,st',ob,ts,hr,ho,hn,hk⟩:=h
 exact SW.ey de hm hr ho hn hk
theorem fJ {st:St}{d:Option Nat}{op:SO}{g:Option (Nat×Bool)}{de:List CR}{e:kH}{c2:List CR}(hg:g=none∨∃ t w,g=some (t,w)∧st.env.lookup t=some (.d (.bool w)))(h:eV P st op de=some (e,c2)):eW P st ⟨d,op,g⟩ de=some (e,c2):=by
 rcases hg with rfl | ⟨t,w,rfl,hl⟩
 ·simp only [eW,h]
 ·simp [eW,hl,h]
theorem RW.B3 {d:Nat}{op:SO}{g:Option (Nat×Bool)}{r:List SI}{K:St→List (Bool×List Nat)→Prop}{env:List (Nat×SV)}{hp F F':Hp}{k:Nat}{v:SV}{nk:Nat}{ob:Prop}
  (hr:cg op=true) (hc:gi op=false) (hb:u9 op=false) (hg:g=none∨∃ t w,g=some (t,w)∧env.lookup t=some (.d (.bool w))) (he:eV P ⟨env,hp,k⟩ op []=some (⟨v,F,F',nk,ob⟩,[])) (bn:ob) (hk:nk=0)
  (h:RW P r ⟨(d,v)::env,hp,k⟩ fun st' ts=>K st' ((true,F.map (·.1)++F'.map (·.1))::ts)):RW P (⟨some d,op,g⟩::r) ⟨env,hp,k⟩ K:=by
 subst hk
 refine RW.cons (e:=⟨v,F,F',0,ob⟩) (fun de=> ?_) bn ?_
 ·obtain ⟨c0,h0⟩:=xm hc he de
  exact ⟨c0,fJ hg h0⟩
 ·simpa only [kr,gh,hr,bV,if_true,Nat.add_zero] using h
def s4:Option Nat→SV→List (Nat×SV)→List (Nat×SV)
 | some d,v,env=>(d,v)::env
 | none,_,env=>env
theorem ig {d:Option Nat}{op:SO}{g:Option (Nat×Bool)}{env:List (Nat×SV)}{hp:Hp}{k:Nat}{e:kH}:kr ⟨env,hp,k⟩ ⟨d,op,g⟩ e=⟨s4 d e.v env,bV (cg op) hp e.F e.F',k+e.nk⟩:=by
 cases d <;> rfl
theorem RW.B4 {d:Option Nat}{op:SO}{g:Option (Nat×Bool)}{r:List SI}{K:St→List (Bool×List Nat)→Prop}{env:List (Nat×SV)}{hp oI F F':Hp}{k k':Nat}{v:SV}{nk:Nat}{ob:Prop}
  (hc:gi op=false) (hg:g=none∨∃ t w,g=some (t,w)∧env.lookup t=some (.d (.bool w))) (he:eV P ⟨env,hp,k⟩ op []=some (⟨v,F,F',nk,ob⟩,[])) (bn:ob) (hh:bV (cg op) hp F F'=oI) (hk:k+nk=k')
  (h:RW P r ⟨s4 d v env,oI,k'⟩ fun st' ts=>K st' ((cg op,F.map (·.1)++F'.map (·.1))::ts)):RW P (⟨d,op,g⟩::r) ⟨env,hp,k⟩ K:=by
 refine RW.cons (e:=⟨v,F,F',nk,ob⟩) (fun de=> ?_) bn ?_
 ·obtain ⟨c0,h0⟩:=xm hc he de
  exact ⟨c0,fJ hg h0⟩
 ·rw [ig,hh,hk];exact h
theorem RW.B5 {d:Nat}{op:SO}{t:Nat}{w:Bool}{r:List SI}{K:St→List (Bool×List Nat)→Prop}{env:List (Nat×SV)}{hp:Hp}{k:Nat}{s:SV}(hg:env.lookup t=some s)(hs:kN w s=true)
  (h:RW P r ⟨(d,.dM [])::env,hp,k⟩ fun st' ts=>K st' ((cg op,[])::ts)):RW P (⟨some d,op,some (t,w)⟩::r) ⟨env,hp,k⟩ K:=by
 have hh:bV (cg op) hp [] []=hp:=by unfold bV;split <;> rfl
 refine RW.cons (e:=⟨.dM [],[],[],0,True⟩) (fun de=>⟨de,?_⟩) trivial ?_
 ·unfold kN at hs
  split at hs
  ·simp only [eW,hg];rw [if_neg (by simpa using hs)]
  ·simp only [eW,hg]
  ·cases hs
 ·rw [ig]
  show RW P r ⟨(d,.dM [])::env,bV (cg op) hp [] [],k+0⟩ _
  rw [hh];exact h
theorem RW.AF {op:SO}{t:Nat}{w:Bool}{r:List SI}{K:St→List (Bool×List Nat)→Prop}{env:List (Nat×SV)}{hp:Hp}{k:Nat}{s:SV}(hg:env.lookup t=some s)(hs:kN w s=true)
  (h:RW P r ⟨env,hp,k⟩ fun st' ts=>K st' ((cg op,[])::ts)):RW P (⟨none,op,some (t,w)⟩::r) ⟨env,hp,k⟩ K:=by
 have hh:bV (cg op) hp [] []=hp:=by unfold bV;split <;> rfl
 refine RW.cons (e:=⟨.dM [],[],[],0,True⟩) (fun de=>⟨de,?_⟩) trivial ?_
 ·unfold kN at hs
  split at hs
  ·simp only [eW,hg];rw [if_neg (by simpa using hs)]
  ·simp only [eW,hg]
  ·cases hs
 ·rw [ig]
  show RW P r ⟨env,bV (cg op) hp [] [],k+0⟩ _
  rw [hh];exact h
theorem RW.B6 {d:Option Nat}{f:X}{args:List X}{g:Option (Nat×Bool)}{r:List SI}{K:St→List (Bool×List Nat)→Prop}{fid:FuncId}{as first cap as':List SV}{env:List (Nat×SV)}{hp F F':Hp}{k:Nat}{v:SV}{nk:Nat}
  (hf:ev (fun t=>env.lookup t) f=some (.fn (.func fid) first cap)) (ha:oG (fun t=>env.lookup t) args=some as) (has:first++as++cap=as') (hc:aM P fid as' F k nk v F') (hs:HSub F hp)
  (hg:g=none∨∃ t w,g=some (t,w)∧env.lookup t=some (.d (.bool w)))
  (h:RW P r ⟨s4 d v env,bV false hp F F',k+nk⟩ fun st' ts=>K st' ((false,F.map (·.1)++F'.map (·.1))::ts)):RW P (⟨d,.call f args,g⟩::r) ⟨env,hp,k⟩ K:=by
 refine RW.call (st:=⟨env,hp,k⟩) hf ha has hc hs hg ?_
 rw [ig];exact h
end
section
variable {P:Program}
def lX (P:Program)(o:Oper)(E:Nat→Option SV)(H:Nat→Option Ob)(k nk:Nat)(F:Hp)(Q:SV→Hp→Prop):Prop:=
 (∀ n ob,lk F n=some ob→H n=some ob)∧
 ∀ (rd:Option Nat) (p:Nat→Prop) (μ:Nat→Nm) (M:Mem) (a:Act) (w:World) (K:Act→World→Prop) (QQ:Exit→Act→World→Prop),(∀ n,(k≤n∧n<k+nk)→ ¬ p n)→gq E o.op.operands p μ M a→bK p μ M (lk F) w→
  (∀ r F' u aZ M' w',Q r F'→Rp (fun n=>p n∨(k≤n∧n<k+nk)) aZ M' r u→bK (fun n=>p n∨(k≤n∧n<k+nk)) aZ M' (lk F') w'→Ev (lk F) (fun n=>k≤n∧n<k+nk) μ M w (lk F') aZ M' w'→K (a.put o.dst u) w')→
  o.wpIn (jc rd) 0 P a w K QQ
theorem Sound.q {o:Oper}{E:Nat→Option SV}{H:Nat→Option Ob}{k:Nat}{e:kH}(h:Sound P o E H k e):lX P o E H k e.nk e.F (fun r F'=>r=e.v∧F'=e.F'):=
 ⟨h.2,fun rd p μ M a w K QQ h1 h2 h3 h4=>h.1 rd p μ M a w K QQ h1 h2 h3 fun u aZ M' w' a1 a2 a3=>h4 _ _ u aZ M' w' ⟨rfl,rfl⟩ a1 a2 a3⟩
theorem gH.step {N:Nat}{rd:Option Nat}{cE:Nat→Nm}{M0:Mem}{w0:World}{c0:Nat→Option Ob}{k0:Nat}{st:St}{a:Act}{w:World}{o:Oper}{si:SI}{F:Hp}{nk:Nat}{Q:SV→Hp→Prop}(hd:si.dst=o.dst)(hN:∀ d,o.dst=some d→d<N)
  (h:lX P o (fun t=>st.env.lookup t) (lk st.hp) st.k nk F Q) (hro:∀ r F',Q r F'→cg si.op=true→F'=F) (eO:gH N cE M0 w0 c0 k0 st a w) {K:Act→World→Prop} {QQ:Exit→Act→World→Prop}
  (hK:∀ r F',Q r F'→∀ a' w',gH N cE M0 w0 c0 k0 (kr st si ⟨r,F,F',nk,True⟩) a' w'→K a' w'):o.wpIn (jc rd) 0 P a w K QQ:=by
 obtain ⟨mH,hdf,hsz,μ,M,fQ,hS,hE⟩:=eO
 have hsub:∀ n ob,lk F n=some ob→lk st.hp n=some ob:=h.1
 refine h.2 rd (· <st.k) μ M a w K QQ (fun n hn=>by omega) ⟨fun t _ s hs=>fQ t s hs,hS.mem.j9⟩ (hS.sub hsub) fun r F' u aZ M' w' hQ hu rJ hE'=>hK r F' hQ _ _ ?_
 have hp:(fun n=>n<st.k∨(st.k≤n∧n<st.k+nk))=(· <st.k+nk):=funext fun n=>propext ⟨fun h=>by rcases h with h | h <;> omega,fun h=>by show n<st.k∨_;omega⟩
 have hfr:=hS.yc hsub (fun n hn=>by omega) hE' rJ fun n h=> .inl h
 rw [hp] at hu hfr
 have hnew:∀ n,(k0≤n∧n<st.k)∨(st.k≤n∧n<st.k+nk)↔k0≤n∧n<st.k+nk:=fun n=>by omega
 have hlk:lk (bV (cg si.op) st.hp F F')=ya (lk st.hp) (lk F) (lk F'):=fA hsub (hro r F' hQ)
 refine ⟨by show k0≤st.k+nk;omega,by rw [j3];exact hdf.ev hS hfr.2,by rw [mJ];exact hsz,aZ,M',fun t s hs=> ?_,?_,?_⟩
 ·have hold:∀ s,st.env.lookup t=some s→Rp (· <st.k+nk) aZ M' s (a.tmps.getD t undef):=fun s h'=>
   (fQ t s h').more (fun n h=>by omega) (fun n h=>hE'.old n fun h'=>by omega) hE'.mem
  simp only [kr,hd] at hs
  cases hod:o.dst with
  | none=>rw [hod] at hs;exact hold s hs
  | some d=>
   rw [hod] at hs
   simp only at hs
   rw [lT] at hs
   by_cases hdt:d=t
   ·subst hdt
    simp at hs
    subst hs
    rw [sM (by rw [hsz];exact hN d hod)]
    exact hu
   ·rw [if_neg hdt] at hs
    rw [nh (fun e=>hdt e.symm)]
    exact hold s hs
 ·show bK _ _ _ (lk (bV (cg si.op) st.hp F F')) _
  rw [hlk];exact hfr.1
 ·show Ev _ _ _ _ _ (lk (bV (cg si.op) st.hp F F')) _ _ _
  rw [hlk]
  exact (hE.trans hfr.2).rW fun n=>hnew n
theorem gH.skip {N:Nat}{cE:Nat→Nm}{M0:Mem}{w0:World}{c0:Nat→Option Ob}{k0:Nat}{st:St}{a:Act}{w:World}{si:SI}{d:Option Nat}(hd:si.dst=d)(hN:∀ x,d=some x→x<N)
  (eO:gH N cE M0 w0 c0 k0 st a w):gH N cE M0 w0 c0 k0 (kr st si ⟨.dM [],[],[],0,True⟩) (a.put d undef) w:=by
 obtain ⟨mH,hdf,hsz,μ,M,fQ,hS,hE⟩:=eO
 have hh:bV (cg si.op) st.hp [] []=st.hp:=by unfold bV;split <;> rfl
 refine ⟨mH,by rw [j3];exact hdf,by rw [mJ];exact hsz,μ,M,fun t s hs=> ?_,by simp only [kr,hh];exact hS,by simp only [kr,hh];exact hE⟩
 simp only [kr,hd] at hs
 cases d with
 | none=>exact fQ t s hs
 | some d=>
  simp only at hs
  rw [lT] at hs
  by_cases hdt:d=t
  ·subst hdt
   simp at hs
   subst hs
   rw [uK]
   exact Rp.dP.2 ⟨#[],rfl,aR.aP.2 rfl⟩
  ·rw [if_neg hdt] at hs
   rw [nh (fun e=>hdt e.symm)]
   exact fQ t s hs
def bw (P:Program)(N k0:Nat)(cH:List SI)(st:St)(K:St→Prop):Prop:=
 ∀ (ops:Array Oper) (i:Nat),i+cH.length=ops.size→(∀ j si,cH[j]? =some si→∃ o,ops[i+j]? =some o∧oz P ops o=some si)→(∀ si∈cH,∀ d,si.dst=some d→d<N)→
  ∀ (rd:Option Nat) (cE:Nat→Nm) (M0:Mem) (w0:World) (c0:Nat→Option Ob) (a:Act) (w:World),gH N cE M0 w0 c0 k0 st a w→∀ Q':Exit→Act→World→Prop,(∀ st' a' w',K st'→gH N cE M0 w0 c0 k0 st' a' w'→Q' .normal a' w')→
   wpOpsIn (jc rd) 0 P ops Q' (List.range' i cH.length) a w
theorem bw.nil {N k0:Nat}{st:St}{K:St→Prop}(h:K st):bw P N k0 [] st K:=fun ops i _ _ _ rd cE M0 w0 c0 a w eO Q' hQ=>hQ st a w h eO
theorem bw.cons {N k0:Nat}{st:St}{K:St→Prop}{si:SI}{r:List SI}
  (h:∀ (ops:Array Oper) (o:Oper),oz P ops o=some si→(∀ d,si.dst=some d→d<N)→∀ (rd:Option Nat) (cE:Nat→Nm) (M0:Mem) (w0:World) (c0:Nat→Option Ob) (a:Act) (w:World),gH N cE M0 w0 c0 k0 st a w→
   ∀ (i:Nat),ops[i]? =some o→∀ (Q':Exit→Act→World→Prop) (KK:Act→World→Prop),(∀ st' a' w',bw P N k0 r st' K→gH N cE M0 w0 c0 k0 st' a' w'→KK a' w')→wpOpIn (jc rd) 0 P ops Q' i KK a w):bw P N k0 (si::r) st K:=by
 intro ops i hl jL hN rd cE M0 w0 c0 a w eO Q' hQ
 obtain ⟨o,ho,hc⟩:=jL 0 si rfl
 simp only [Nat.add_zero] at ho
 rw [List.length_cons,List.range'_succ,wpOpsIn_cons]
 refine h ops o hc (fun d hd=>hN si (by simp) d hd) rd cE M0 w0 c0 a w eO i ho Q' _ fun st' a' w' hn hSt'=> ?_
 exact hn ops (i+1) (by simp at hl;omega) (fun j sj hj=>by
  obtain ⟨o',ho',hc'⟩:=jL (j+1) sj (by simpa using hj)
  exact ⟨o',by rw [show i+1+j=i+(j+1) by omega];exact ho',hc'⟩) (fun s hs d hd=>hN s (by simp [hs]) d hd) rd cE M0 w0 c0 a' w' hSt' Q' hQ
theorem bw.many {N k0:Nat}{st:St}{K:St→Prop}{si:SI}{r:List SI}{F:Hp}{nk:Nat}{Q:SV→Hp→Prop}(hg:si.g=none)(hq:∀ o:Oper,cO P o.op=some si.op→lX P o (fun t=>st.env.lookup t) (lk st.hp) st.k nk F Q)
  (hro:cg si.op=false) (h:∀ v F',Q v F'→bw P N k0 r (kr st si ⟨v,F,F',nk,True⟩) K):bw P N k0 (si::r) st K:=by
 refine bw.cons fun ops o hc hN rd cE M0 w0 c0 a w eO i ho Q' KK B7=> ?_
 obtain ⟨g1,g2,g3⟩:=fI hc
 have hgn:o.guard=none:=by
  rcases g3 with ⟨h,_⟩ | ⟨j,w,t,h,_,h'⟩
  ·exact h
  ·rw [hg] at h';cases h'
 unfold wpOpIn
 simp only [ho,Region.wanted,hgn,if_true]
 exact (gH.step g2 (fun d hd=>hN d (by rw [g2];exact hd)) (hq o g1) (fun v F' _ hr=>by rw [hro] at hr;cases hr) eO fun v F' hQ a' w' hSt'=>B7 _ a' w' (h v F' hQ) hSt')
theorem bw.GA {N k0:Nat}{K:St→Prop}{rest:List SI}:∀ {cH:List SI} {st st':St} {de:List CR} {ob:Prop} {ts:List (Bool×List Nat)},Go.Sl.runs P cH st de=some (st',ob,ts)→ob→bw P N k0 rest st' K→bw P N k0 (cH++rest) st K:=by
 intro cH
 induction cH with
 | nil=>
  intro st st' de ob ts h _ hk
  simp only [Go.Sl.runs] at h
  injection h with h
  injection h with h1 _
  subst h1
  exact hk
 | cons si r ih=>
  intro st st' de ob ts h bn hk
  simp only [Go.Sl.runs] at h
  split at h <;> first | (cases h;done) | skip
  rename_i e crs' hop
  split at h <;> first | (cases h;done) | skip
  rename_i st2 EN ts2 hr
  injection h with h
  injection h with h1 h
  injection h with h2 h3
  subst h1;subst h2
  refine bw.cons fun ops o hc hN rd cE M0 w0 c0 a w eO i ho Q' KK B7=> ?_
  obtain ⟨b1,b2,b3⟩:=oM hc hop bn.1
  obtain ⟨g1,g2,g3⟩:=fI hc
  have hnext:=ih hr bn.2 hk
  have hu:kr st si e=kr st si ⟨e.v,e.F,e.F',e.nk,True⟩:=rfl
  unfold wpOpIn
  simp only [ho]
  obtain ⟨mH,hdf,hsz,μ,M,fQ,hS,hE⟩:=eO
  have eO:gH N cE M0 w0 c0 k0 st a w:=⟨mH,hdf,hsz,μ,M,fQ,hS,hE⟩
  rcases b1 with ⟨j,want,t,sv,hg,hd,hE',hb,e1,e2,e3,e4⟩ | ⟨hg,hs⟩
  ·have hv:=fQ t _ hE'
   have hw:Region.wanted o (yielded ops a.tmps)=false:=by
    simp only [Region.wanted,hg]
    unfold kN at hb
    split at hb
    ·rw [gD hd (Rp.bz.1 hv)]
     simpa using hb
    ·obtain ⟨vs,e,hvs⟩:=Rp.dP.1 hv
     have hvs0:vs= #[]:=by have:=aR.aP.1 hvs;simpa using this
     rw [oJ hd (by rw [e,hvs0];rfl)]
     rfl
    ·cases hb
   simp only [hw,Bool.false_eq_true,if_false]
   obtain ⟨v,F,F',nk,eo⟩:=e
   simp only at e1 e2 e3 e4
   subst e1;subst e2;subst e3;subst e4
   exact ⟨fun _ _=>trivial,B7 _ _ _ hnext (gH.skip g2 (fun d hd=>hN d (by rw [g2];exact hd)) eO)⟩
  ·have hw:Region.wanted o (yielded ops a.tmps)=true:=by
    rcases hg with hg | ⟨j,want,t,hg,hd,hE'⟩
    ·simp [Region.wanted,hg]
    ·have hv:=Rp.bz.1 (fQ t _ hE')
     simp only [Region.wanted,hg,gD hd hv]
     simp
   simp only [hw,if_true]
   exact (gH.step g2 (fun d hd=>hN d (by rw [g2];exact hd)) hs.q (fun v F' hQ hr=>by rw [hQ.2];exact b2 hr) eO fun v F' hQ a' w' hSt'=>B7 _ a' w' (by rw [hQ.1,hQ.2];exact hnext) hSt')
theorem bw.runs {N k0:Nat}{K:St→Prop}{cH:List SI}{st st':St}{de:List CR}{ob:Prop}{ts:List (Bool×List Nat)}(h:Go.Sl.runs P cH st de=some (st',ob,ts))(ho:ob)(hk:K st'):bw P N k0 cH st K:=by
 have:=bw.GA (N:=N) (k0:=k0) (rest:=[]) h ho (bw.nil hk)
 rwa [List.append_nil] at this
theorem bw.one {N k0:Nat}{K:St→Prop}{si:SI}{r:List SI}{st:St}{e:kH}{c2 de:List CR}(h1:eW P st si de=some (e,c2))(bn:e.ob)(h:bw P N k0 r (kr st si e) K):bw P N k0 (si::r) st K:=
 bw.GA (cH:=[si]) (de:=de) (st':=kr st si e) (ob:=e.ob∧True) (ts:=[gh si e]) (by simp only [Go.Sl.runs,h1]) ⟨bn,trivial⟩ h
theorem zC {o:Oper}{E:Nat→Option SV}{H:Nat→Option Ob}{k nk:Nat}{f:X}{args:List X}{fid:FuncId}{first cap as:List SV}{F:Hp}{Q:SV→Hp→Prop}(hc:cO P o.op=some (.call f args))
  (h1:ev E f=some (.fn (.func fid) first cap)) (h2:oG E args=some as) (Bw:SC P fid (first++as++cap) F k nk Q) (hsub:∀ n ob,lk F n=some ob→H n=some ob):lX P o E H k nk F Q:=by
 obtain ⟨c,fo,hop,bR,hf,ha⟩:=pF hc
 exact ⟨hsub,fun rd p μ M a w K QQ hnew hk hS hK=>vN hop bR hf ha h1 h2 Bw hnew hk hS hK⟩
theorem SW.Ll {N k0:Nat}{st:St}{cH:List SI}{K:St→Prop}{st1:St}{ρ:Nat→Nat}(hw:aJ k0 st st1 ρ)(h:bw P N k0 cH st1 K):bw P N k0 cH st K:=
 fun ops i h1 h2 h3 rd cE M0 w0 c0 a w eO=>h ops i h1 h2 h3 rd cE M0 w0 c0 a w (eO.weak hw)
theorem SW.yu {N k0:Nat}{st:St}{Q:Exit→St→Prop}{cH:List SI}{bs:List Nat}(h:bw P N k0 cH st (Q .normal)):SW P N k0 (.ey cH bs false) st Q:=by
 intro c hc rd hrf cE M0 w0 c0 a w eO
 cases c <;> simp only [cK] at hc <;> first
  | (cases hc;done)
  | (exfalso;split at hc <;> cases hc;done)
  | (exfalso;obtain ⟨_,_,h'⟩:=Option.map_eq_some_iff.1 hc;cases h';done)
  | skip
 rename_i id ops draw
 split at hc <;> first | (cases hc;done) | skip
 rename_i sis' bs' hreg
 injection hc with hc
 injection hc with h1 h2 h3
 subst h1;subst h3
 unfold BS at hreg
 split at hreg <;> first | (cases hreg;done) | skip
 rename_i sis2 hsis
 split at hreg <;> first | (cases hreg;done) | skip
 rename_i hchk
 injection hreg with hreg
 injection hreg with hr1 hr2
 subst hr1
 simp only [Bool.and_eq_true] at hchk
 obtain ⟨_,hin⟩:=hchk
 obtain ⟨hlen,jL⟩:=lU hsis
 refine wpIn_region ?_
 rw [List.range_eq_range']
 have hn:ops.size=sis2.length:=by simpa using hlen
 rw [hn]
 refine h ops 0 (by omega) (fun j si hj=> ?_) (fun si hs d hd=> ?_) rd cE M0 w0 c0 a w eO _ fun st' a' w' hk hSt'=>⟨st',hk,hSt'⟩
 ·have hj':j<ops.size:=by rw [hn];exact (List.getElem?_eq_some_iff.1 hj).1
  obtain ⟨si',h1,h2⟩:=jL j ops[j] (by simp [hj'])
  rw [hj] at h1;injection h1 with h1;subst h1
  exact ⟨ops[j],by rw [Nat.zero_add];exact Array.getElem?_eq_getElem hj',h2⟩
 ·have:=List.all_eq_true.1 hin si hs
  rw [hd] at this
  simpa using this
end
section
variable {P:Program}
theorem HSub.cons {F h:Hp}{n:Nat}{ob:Ob}(h1:lk h n=some ob)(h2:HSub F h):HSub ((n,ob)::F) h:=fun m jw hm=>by
 rw [aa] at hm
 split at hm
 ·rename_i e;subst e;injection hm with hm;subst hm;exact h1
 ·exact h2 m jw hm
theorem wrap_i64 (n:Int)(h: -9223372036854775808≤n∧n<9223372036854775808):IntKind.i64.wrap n=n:=vP n h.1 h.2
theorem jF (n:Int)(h:0≤n∧n<18446744073709551616):IntKind.u64.wrap n=n:=by
 have:=wrap_u64 n.toNat (by omega)
 rwa [show ((n.toNat:Nat):Int)=n by omega] at this
theorem wrap_u32' (n:Int)(h:0≤n∧n<4294967296):IntKind.u32.wrap n=n:=by
 have:=wrap_u32 n.toNat (by omega)
 rwa [show ((n.toNat:Nat):Int)=n by omega] at this
theorem wrap_u8' (n:Int)(h:0≤n∧n<256):IntKind.u8.wrap n=n:=by
 have:=wrap_u8 n.toNat (by omega)
 rwa [show ((n.toNat:Nat):Int)=n by omega] at this
theorem af:(true == true)=true:=rfl
theorem u_:(false == false)=true:=rfl
theorem Dt.AG (c:Dt)(a b:Int)(h:0≤a∧0≤b):cU (cU c.cells 0 [.d (.int .u8 a)]) 1 [.d (.int .u32 b)]=(Dt.mk a.toNat b.toNat).cells:=by
 have:=Dt.fE c a.toNat b.toNat
 rwa [show ((a.toNat:Nat):Int)=a by omega,show ((b.toNat:Nat):Int)=b by omega] at this
theorem Dt.AH (c:Dt)(b:Int)(h:0≤b):cU c.cells 1 [.d (.int .u32 b)]=(Dt.mk c.r b.toNat).cells:=by
 rw [show b=((b.toNat:Nat):Int) by omega];rfl
theorem kZ (n k:Nat):(n:Int)+(no_index (OfNat.ofNat k):Int)=((n+OfNat.ofNat k:Nat):Int):=rfl
theorem k9 (n k:Nat):(n:Int)+(k:Int)=((n+k:Nat):Int):=rfl
def au (L:List Nat)(st:St)(R:St→Prop):Prop:=R ⟨st.env.filter (fun x=>L.contains x.1),st.hp,st.k⟩
theorem au.mk {L:List Nat}{env:List (Nat×SV)}{hp:Hp}{k:Nat}{R:St→Prop}{env':List (Nat×SV)}
  (he:env.filter (fun x=>L.contains x.1)=env':=by (simp only [kA,Nat.zero_add,Nat.reduceAdd,List.filter,List.contains_cons,List.contains_nil,Nat.reduceBEq,Bool.or_false,Bool.or_true,Bool.true_or,Bool.false_or,BEq.rfl,beq_self_eq_true] <;> with_reducible rfl)) (h:R ⟨env',hp,k⟩):au L ⟨env,hp,k⟩ R:=by
 show R ⟨env.filter _,hp,k⟩;rw [he];exact h
theorem mN (L : List Nat):∀ (env:List (Nat×SV)) (t:Nat) (s:SV),(env.filter (fun x=>L.contains x.1)).lookup t=some s→env.lookup t=some s
  | [],t,s,h=>by simp at h
  | (u, x) :: env,t,s,h=>by
    simp only [List.filter] at h
    by_cases hu:L.contains u=true
    · rw [hu] at h
      simp only [List.lookup] at h ⊢
      split at h
      · exact h
      · exact mN L env t s h
    · rw [show L.contains u=false by simpa using hu] at h
      have h2:=mN L env t s h
      simp only [List.lookup]
      by_cases e:t=u
      · subst e
        exfalso
        have:∀ (env:List (Nat×SV)),(env.filter (fun x=>L.contains x.1)).lookup t=none:=by
          intro env
          induction env with
          | nil=>rfl
          | cons y env ih=>
            simp only [List.filter]
            by_cases hy:L.contains y.1=true
            · rw [hy]
              simp only [List.lookup]
              have:(t == y.1)=false:=by
                simp only [beq_eq_false_iff_ne];intro e;rw [← e] at hy;exact hu hy
              rw [this];exact ih
            · rw [show L.contains y.1=false by simpa using hy];exact ih
        rw [this] at h;cases h
      · rw [show (t == u)=false by simpa using e];exact h2
theorem SW.dL {N k0:Nat}{st:St}{Q:Exit→St→Prop}{cH:List SI}{bs:List Nat}{draw:Bool}(L:List Nat)(hm:P.follows .mixedOrders=true)(h:RW P cH st fun st' ts=>(!draw || ku bs ts)=true∧au L st' (Q .normal)):SW P N k0 (.ey cH bs draw) st Q:=by
 have h':RW P cH st fun st' ts=>(!draw || ku bs ts)=true∧(fun e st'=>∃ st2,Q e st2∧st2=⟨st'.env.filter (fun x=>L.contains x.1),st'.hp,st'.k⟩) Exit.normal st':=by
  obtain ⟨de,st',ob,ts,hr,ho,hn,hk⟩:=h
  exact ⟨de,st',ob,ts,hr,ho,hn,_,hk,rfl⟩
 have:=SW.KJ (N:=N) (k0:=k0) (bs:=bs) (draw:=draw) (Q:=fun e st'=>∃ st2,Q e st2∧st2=⟨st'.env.filter (fun x=>L.contains x.1),st'.hp,st'.k⟩) hm h'
 intro c hc rd hrf cE M0 w0 c0 a w eO
 refine wpIn_mono (this c hc rd hrf cE M0 w0 c0 a w eO) ?_
 rintro e a' w' ⟨st',⟨st2,hq,rfl⟩,hst'⟩
 obtain ⟨h1,h2,h3,μ,M,h4,h5,h6⟩:=hst'
 exact ⟨_,hq,h1,h2,h3,μ,M,fun t s hl=>h4 t s (mN L _ t s hl),h5,h6⟩
theorem SW.cut {N k0:Nat}{st:St}{Q:Exit→St→Prop}{x y:bX}(stM:St)(ρ:Nat→Nat)(h1:SW P N k0 x st fun e st'=>match e with | .normal=>aJ k0 st' stM ρ | _=>False)(h2:SW P N k0 y stM Q):SW P N k0 (.seq x y) st Q:=by
 refine SW.seq (h1.mono fun e st' h=> ?_)
 cases e <;> first | exact h.elim | exact SW.weak ρ h h2
section
variable {cH rest r:List SI} {st st':St} {ob:Prop} {ts:List (Bool×List Nat)} {K:St→List (Bool×List Nat)→Prop}
theorem RW.ro {d:Nat}{op:SO}{g:Option (Nat×Bool)}{env:List (Nat×SV)}{hp F F':Hp}{k:Nat}{v:SV}{nk:Nat}{ob:Prop}{Φ:Prop}(φ:Φ)
  (hr:cg op=true:=by rfl) (hc:gi op=false:=by rfl) (hb:u9 op=false:=by rfl)
  (hg:g=none∨∃ t w,g=some (t,w)∧env.lookup t=some (.d (.bool w)):=by first | exact .inl rfl | exact .inr ⟨_,_,rfl,rfl⟩)
  (he:Φ→eV P ⟨env,hp,k⟩ op []=some (⟨v,F,F',nk,ob⟩,[]):=by
   intro φ
   simp (disch:=omega) only [Go.Sl.seg,kA,gi,eV,cZ,ev,oG,wQ,kr,List.lookup,Nat.reduceBEq,Nat.reduceAdd,Nat.reduceMul,Nat.zero_add,SV.cells,if_true,if_false,reduceIte,Bool.false_eq_true,cg,bV,dg,dh,fZ,gw,di,lk,List.filter,Nat.reduceBNe,bne_self_eq_false,eq_self,zm,wP,fU,vI,vJ,ED,aL.cells_one,BEq.rfl,beq_self_eq_true,Bool.true_or,Nat.reduceEqDiff,List.map_cons,List.map_nil,List.nil_append,List.cons_append,List.append_nil,Int.toNat_natCast,Nat.mul_one,Nat.add_zero,g_,gZ,j_,iD,iE,iF,iG,iH,iI,kf,Option.isSome_some,Option.isSome_none,Option.isNone_some,Option.isNone_none,Nat.zero_ne_one,Nat.one_ne_zero,Bool.and_false,Bool.and_true,List.drop_zero,aL.aI,aL.bg,aL.bD,Dt.cells_one,Dt.bg,Dt.As,Dt.Au,Dt.bD,Dt.aI,Dt.AG,Dt.AH,mD,eH,vK,uh,List.all_cons,List.all_nil,SV.dG,Int.cast_ofNat_Int,Int.reduceBNe,Int.reduceBEq,Int.reduceLT,Int.reduceLE,Int.reduceGT,Int.reduceGE,nu,uT,uU,Bool.not_true,Bool.not_false,Bool.or_false,Bool.or_true,Bool.false_or,Bool.or_self,aL.qB,aL.Av,aL.uR,aL.uS,aL.dJ,aL.dK,Dt.qB,Dt.Aw,Dt.dJ,Dt.dK,List.all_append,aL.yt,Dt.qh,Bool.cond_true,Bool.cond_false,wrap_i64,jF,wrap_u32',wrap_u8',af,u_,kZ,k9,Int.reduceToNat,List.length_nil,List.getElem?_cons_zero,List.getElem?_cons_succ,List.take_succ_cons,List.take_zero,List.drop_succ_cons,decide_true,decide_false,Bool.true_and,Bool.and_self,Bool.false_and,nv,nw,kR,kS,jE,MM.ej,kT,oO,nG,nJ,nE,nH,nF,nI,nC,nD,ag.cells_one,ag.bg,ag.kX,ag.Ax,ag.uX,ag.Ay,ag.kY,ag.uY,ag.uZ,ag.IF,ag.iL,ag.iM,ag.qE,ag.IG,ag.Az,ag.u0,ag.AA,ag.qF,ag.qG,ag.u5,ag.u6,ag.bD,ag.aI,Cr.cells_one,Cr.bg,Cr.kX,Cr.kY,Cr.AD,Cr.u7,Cr.iL,Cr.iM,Cr.qE,Cr.qH,Cr.bD,Cr.aI,Cr.qh,nL,nM,nN,nO,Sp.cells_one,Sp.bg,Sp.kX,Sp.gN,Sp.bD,Sp.aI,Sp.fE,Sp.qh,nQ,nP,φ]
   with_reducible rfl)
  (bn:ob:=by first | trivial | (repeat' (first | exact trivial | omega | apply And.intro | (simp [-List.length_flatMap,-Int.natCast_add];done) | (simp [-List.length_flatMap,-Int.natCast_add] <;> omega))))
  (hk:nk=0:=by rfl)
  (h:RW P r ⟨(d,v)::env,hp,k⟩ fun st' ts=>K st' ((true,F.map (·.1)++F'.map (·.1))::ts)):RW P (⟨some d,op,g⟩::r) ⟨env,hp,k⟩ K:=RW.B3 hr hc hb hg (he φ) bn hk h
theorem RW.op {d:Nat}{op:SO}{g:Option (Nat×Bool)}{env:List (Nat×SV)}{hp oI F F':Hp}{k k':Nat}{v:SV}{nk:Nat}{ob:Prop}{Φ:Prop}(φ:Φ)
  (hc:gi op=false:=by rfl)
  (hg:g=none∨∃ t w,g=some (t,w)∧env.lookup t=some (.d (.bool w)):=by first | exact .inl rfl | exact .inr ⟨_,_,rfl,rfl⟩)
  (he:Φ→eV P ⟨env,hp,k⟩ op []=some (⟨v,F,F',nk,ob⟩,[]):=by
   intro φ
   simp (disch:=omega) only [Go.Sl.seg,kA,gi,eV,cZ,ev,oG,wQ,kr,List.lookup,Nat.reduceBEq,Nat.reduceAdd,Nat.reduceMul,Nat.zero_add,SV.cells,if_true,if_false,reduceIte,Bool.false_eq_true,cg,bV,dg,dh,fZ,gw,di,lk,List.filter,Nat.reduceBNe,bne_self_eq_false,eq_self,zm,wP,fU,vI,vJ,ED,aL.cells_one,BEq.rfl,beq_self_eq_true,Bool.true_or,Nat.reduceEqDiff,List.map_cons,List.map_nil,List.nil_append,List.cons_append,List.append_nil,Int.toNat_natCast,Nat.mul_one,Nat.add_zero,g_,gZ,j_,iD,iE,iF,iG,iH,iI,kf,Option.isSome_some,Option.isSome_none,Option.isNone_some,Option.isNone_none,Nat.zero_ne_one,Nat.one_ne_zero,Bool.and_false,Bool.and_true,List.drop_zero,aL.aI,aL.bg,aL.bD,Dt.cells_one,Dt.bg,Dt.As,Dt.Au,Dt.bD,Dt.aI,Dt.AG,Dt.AH,mD,eH,vK,uh,List.all_cons,List.all_nil,SV.dG,Int.cast_ofNat_Int,Int.reduceBNe,Int.reduceBEq,Int.reduceLT,Int.reduceLE,Int.reduceGT,Int.reduceGE,nu,uT,uU,Bool.not_true,Bool.not_false,Bool.or_false,Bool.or_true,Bool.false_or,Bool.or_self,aL.qB,aL.Av,aL.uR,aL.uS,aL.dJ,aL.dK,Dt.qB,Dt.Aw,Dt.dJ,Dt.dK,List.all_append,aL.yt,Dt.qh,Bool.cond_true,Bool.cond_false,wrap_i64,jF,wrap_u32',wrap_u8',af,u_,kZ,k9,Int.reduceToNat,List.length_nil,List.getElem?_cons_zero,List.getElem?_cons_succ,List.take_succ_cons,List.take_zero,List.drop_succ_cons,decide_true,decide_false,Bool.true_and,Bool.and_self,Bool.false_and,nv,nw,kR,kS,jE,MM.ej,kT,oO,nG,nJ,nE,nH,nF,nI,nC,nD,ag.cells_one,ag.bg,ag.kX,ag.Ax,ag.uX,ag.Ay,ag.kY,ag.uY,ag.uZ,ag.IF,ag.iL,ag.iM,ag.qE,ag.IG,ag.Az,ag.u0,ag.AA,ag.qF,ag.qG,ag.u5,ag.u6,ag.bD,ag.aI,Cr.cells_one,Cr.bg,Cr.kX,Cr.kY,Cr.AD,Cr.u7,Cr.iL,Cr.iM,Cr.qE,Cr.qH,Cr.bD,Cr.aI,Cr.qh,nL,nM,nN,nO,Sp.cells_one,Sp.bg,Sp.kX,Sp.gN,Sp.bD,Sp.aI,Sp.fE,Sp.qh,nQ,nP,φ]
   with_reducible rfl)
  (bn:ob:=by first | trivial | (repeat' (first | exact trivial | omega | apply And.intro | (simp [-List.length_flatMap,-Int.natCast_add];done) | (simp [-List.length_flatMap,-Int.natCast_add] <;> omega))))
  (hh:Φ→bV (cg op) hp F F'=oI:=by (intro φ;simp only [φ,cg,bV,dg,dh,fZ,gw,di,lk,List.lookup,Nat.reduceBEq,BEq.rfl,beq_self_eq_true,if_true,if_false,reduceIte,Nat.reduceEqDiff,Bool.false_eq_true,Option.isSome_some,Option.isSome_none] <;> with_reducible rfl))
  (hk:k+nk=k':=by first | (simp only [Nat.add_zero,Nat.reduceAdd] <;> rfl) | rfl)
  (h:RW P r ⟨(d,v)::env,oI,k'⟩ fun st' ts=>K st' ((cg op,F.map (·.1)++F'.map (·.1))::ts)):RW P (⟨some d,op,g⟩::r) ⟨env,hp,k⟩ K:=RW.B4 hc hg (he φ) bn (hh φ) hk h
theorem RW.eF {op:SO}{g:Option (Nat×Bool)}{env:List (Nat×SV)}{hp oI F F':Hp}{k k':Nat}{v:SV}{nk:Nat}{ob:Prop}{Φ:Prop}(φ:Φ)
  (hc:gi op=false:=by rfl)
  (hg:g=none∨∃ t w,g=some (t,w)∧env.lookup t=some (.d (.bool w)):=by first | exact .inl rfl | exact .inr ⟨_,_,rfl,rfl⟩)
  (he:Φ→eV P ⟨env,hp,k⟩ op []=some (⟨v,F,F',nk,ob⟩,[]):=by
   intro φ
   simp (disch:=omega) only [Go.Sl.seg,kA,gi,eV,cZ,ev,oG,wQ,kr,List.lookup,Nat.reduceBEq,Nat.reduceAdd,Nat.reduceMul,Nat.zero_add,SV.cells,if_true,if_false,reduceIte,Bool.false_eq_true,cg,bV,dg,dh,fZ,gw,di,lk,List.filter,Nat.reduceBNe,bne_self_eq_false,eq_self,zm,wP,fU,vI,vJ,ED,aL.cells_one,BEq.rfl,beq_self_eq_true,Bool.true_or,Nat.reduceEqDiff,List.map_cons,List.map_nil,List.nil_append,List.cons_append,List.append_nil,Int.toNat_natCast,Nat.mul_one,Nat.add_zero,g_,gZ,j_,iD,iE,iF,iG,iH,iI,kf,Option.isSome_some,Option.isSome_none,Option.isNone_some,Option.isNone_none,Nat.zero_ne_one,Nat.one_ne_zero,Bool.and_false,Bool.and_true,List.drop_zero,aL.aI,aL.bg,aL.bD,Dt.cells_one,Dt.bg,Dt.As,Dt.Au,Dt.bD,Dt.aI,Dt.AG,Dt.AH,mD,eH,vK,uh,List.all_cons,List.all_nil,SV.dG,Int.cast_ofNat_Int,Int.reduceBNe,Int.reduceBEq,Int.reduceLT,Int.reduceLE,Int.reduceGT,Int.reduceGE,nu,uT,uU,Bool.not_true,Bool.not_false,Bool.or_false,Bool.or_true,Bool.false_or,Bool.or_self,aL.qB,aL.Av,aL.uR,aL.uS,aL.dJ,aL.dK,Dt.qB,Dt.Aw,Dt.dJ,Dt.dK,List.all_append,aL.yt,Dt.qh,Bool.cond_true,Bool.cond_false,wrap_i64,jF,wrap_u32',wrap_u8',af,u_,kZ,k9,Int.reduceToNat,List.length_nil,List.getElem?_cons_zero,List.getElem?_cons_succ,List.take_succ_cons,List.take_zero,List.drop_succ_cons,decide_true,decide_false,Bool.true_and,Bool.and_self,Bool.false_and,nv,nw,kR,kS,jE,MM.ej,kT,oO,nG,nJ,nE,nH,nF,nI,nC,nD,ag.cells_one,ag.bg,ag.kX,ag.Ax,ag.uX,ag.Ay,ag.kY,ag.uY,ag.uZ,ag.IF,ag.iL,ag.iM,ag.qE,ag.IG,ag.Az,ag.u0,ag.AA,ag.qF,ag.qG,ag.u5,ag.u6,ag.bD,ag.aI,Cr.cells_one,Cr.bg,Cr.kX,Cr.kY,Cr.AD,Cr.u7,Cr.iL,Cr.iM,Cr.qE,Cr.qH,Cr.bD,Cr.aI,Cr.qh,nL,nM,nN,nO,Sp.cells_one,Sp.bg,Sp.kX,Sp.gN,Sp.bD,Sp.aI,Sp.fE,Sp.qh,nQ,nP,φ]
   with_reducible rfl)
  (bn:ob:=by first | trivial | (repeat' (first | exact trivial | omega | apply And.intro | (simp [-List.length_flatMap,-Int.natCast_add];done) | (simp [-List.length_flatMap,-Int.natCast_add] <;> omega))))
  (hh:Φ→bV (cg op) hp F F'=oI:=by (intro φ;simp only [φ,cg,bV,dg,dh,fZ,gw,di,lk,List.lookup,Nat.reduceBEq,BEq.rfl,beq_self_eq_true,if_true,if_false,reduceIte,Nat.reduceEqDiff,Bool.false_eq_true,Option.isSome_some,Option.isSome_none] <;> with_reducible rfl))
  (hk:k+nk=k':=by first | (simp only [Nat.add_zero,Nat.reduceAdd] <;> rfl) | rfl)
  (h:RW P r ⟨env,oI,k'⟩ fun st' ts=>K st' ((cg op,F.map (·.1)++F'.map (·.1))::ts)):RW P (⟨none,op,g⟩::r) ⟨env,hp,k⟩ K:=RW.B4 hc hg (he φ) bn (hh φ) hk h
theorem RW.skip {d:Nat}{op:SO}{t:Nat}{w:Bool}{env:List (Nat×SV)}{hp:Hp}{k:Nat}{s:SV}
  (hg:env.lookup t=some s:=by rfl) (hs:kN w s=true:=by rfl)
  (h:RW P r ⟨(d,.dM [])::env,hp,k⟩ fun st' ts=>K st' ((cg op,[])::ts)):RW P (⟨some d,op,some (t,w)⟩::r) ⟨env,hp,k⟩ K:=RW.B5 hg hs h
theorem RW.bH {op:SO}{t:Nat}{w:Bool}{env:List (Nat×SV)}{hp:Hp}{k:Nat}{s:SV}
  (hg:env.lookup t=some s:=by rfl) (hs:kN w s=true:=by rfl)
  (h:RW P r ⟨env,hp,k⟩ fun st' ts=>K st' ((cg op,[])::ts)):RW P (⟨none,op,some (t,w)⟩::r) ⟨env,hp,k⟩ K:=RW.AF hg hs h
def ak (P:Program)(fid:FuncId)(as':List SV)(d:Option Nat)(r:List SI)(env:List (Nat×SV))(hp:Hp)(k:Nat)(K:St→List (Bool×List Nat)→Prop):Prop:=
 ∃ F F' v nk,aM P fid as' F k nk v F'∧HSub F hp∧RW P r ⟨s4 d v env,bV false hp F F',k+nk⟩ fun st' ts=>K st' ((false,F.map (·.1)++F'.map (·.1))::ts)
theorem RW.bJ {d:Option Nat}{f:X}{args:List X}{g:Option (Nat×Bool)}{fid:FuncId}{as first cap as':List SV}{env:List (Nat×SV)}{hp:Hp}{k:Nat}
  (hf:ev (fun t=>env.lookup t) f=some (.fn (.func fid) first cap):=by (simp only [ev,List.lookup,Nat.reduceBEq] <;> rfl))
  (ha:oG (fun t=>env.lookup t) args=some as:=by (simp only [ev,oG,List.lookup,Nat.reduceBEq] <;> rfl))
  (has:first++as++cap=as':=by first | (simp only [List.nil_append,List.cons_append,List.append_nil] <;> rfl) | rfl)
  (hg:g=none∨∃ t w,g=some (t,w)∧env.lookup t=some (.d (.bool w)):=by first | exact .inl rfl | exact .inr ⟨_,_,rfl,rfl⟩)
  (h:ak P fid as' d r env hp k K):RW P (⟨d,.call f args,g⟩::r) ⟨env,hp,k⟩ K:=by
 obtain ⟨F,F',v,nk,hc,hs,h⟩:=h
 exact RW.B6 hf ha has hc hs hg h
theorem ak.mk {fid:FuncId}{as':List SV}{F F' oI:Hp}{v v':SV}{nk k':Nat}{d:Nat}{env:List (Nat×SV)}{hp:Hp}{k:Nat}{Φ:Prop}(φ:Φ)
  (hs:HSub F hp:=by first | exact HSub.nil _ | (repeat (first | exact HSub.nil _ | refine HSub.cons (by rfl) ?_)))
  (hc:aM P fid as' F k nk v F')
  (hv:Φ→v=v':=by intro φ;first | ((simp only [φ]) <;> with_reducible rfl) | with_reducible rfl)
  (hh:Φ→bV false hp F F'=oI:=by (intro φ;simp only [φ,cg,bV,dg,dh,fZ,gw,di,lk,List.lookup,Nat.reduceBEq,BEq.rfl,beq_self_eq_true,if_true,if_false,reduceIte,Nat.reduceEqDiff,Bool.false_eq_true,Option.isSome_some,Option.isSome_none] <;> with_reducible rfl))
  (hk:k+nk=k':=by first | (simp only [Nat.add_zero,Nat.reduceAdd] <;> rfl) | rfl)
  (h:RW P r ⟨(d,v')::env,oI,k'⟩ fun st' ts=>K st' ((false,F.map (·.1)++F'.map (·.1))::ts)):ak P fid as' (some d) r env hp k K:=⟨F,F',v,nk,hc,hs,by rw [hv φ,hh φ,hk];exact h⟩
end
section
variable {N k0:Nat} {r:List SI} {K:St→Prop}
theorem bw.op {d:Nat}{op:SO}{g:Option (Nat×Bool)}{env:List (Nat×SV)}{hp oI F F':Hp}{k k':Nat}{v:SV}{nk:Nat}{ob:Prop}{Φ:Prop}(φ:Φ)
  (hg:g=none∨∃ t w,g=some (t,w)∧env.lookup t=some (.d (.bool w)):=by first | exact .inl rfl | exact .inr ⟨_,_,rfl,rfl⟩)
  (he:Φ→eV P ⟨env,hp,k⟩ op []=some (⟨v,F,F',nk,ob⟩,[]):=by
   intro φ
   simp (disch:=omega) only [Go.Sl.seg,kA,gi,eV,cZ,ev,oG,wQ,kr,List.lookup,Nat.reduceBEq,Nat.reduceAdd,Nat.reduceMul,Nat.zero_add,SV.cells,if_true,if_false,reduceIte,Bool.false_eq_true,cg,bV,dg,dh,fZ,gw,di,lk,List.filter,Nat.reduceBNe,bne_self_eq_false,eq_self,zm,wP,fU,vI,vJ,ED,aL.cells_one,BEq.rfl,beq_self_eq_true,Bool.true_or,Nat.reduceEqDiff,List.map_cons,List.map_nil,List.nil_append,List.cons_append,List.append_nil,Int.toNat_natCast,Nat.mul_one,Nat.add_zero,g_,gZ,j_,iD,iE,iF,iG,iH,iI,kf,Option.isSome_some,Option.isSome_none,Option.isNone_some,Option.isNone_none,Nat.zero_ne_one,Nat.one_ne_zero,Bool.and_false,Bool.and_true,List.drop_zero,aL.aI,aL.bg,aL.bD,Dt.cells_one,Dt.bg,Dt.As,Dt.Au,Dt.bD,Dt.aI,Dt.AG,Dt.AH,mD,eH,vK,uh,List.all_cons,List.all_nil,SV.dG,Int.cast_ofNat_Int,Int.reduceBNe,Int.reduceBEq,Int.reduceLT,Int.reduceLE,Int.reduceGT,Int.reduceGE,nu,uT,uU,Bool.not_true,Bool.not_false,Bool.or_false,Bool.or_true,Bool.false_or,Bool.or_self,aL.qB,aL.Av,aL.uR,aL.uS,aL.dJ,aL.dK,Dt.qB,Dt.Aw,Dt.dJ,Dt.dK,List.all_append,aL.yt,Dt.qh,Bool.cond_true,Bool.cond_false,wrap_i64,jF,wrap_u32',wrap_u8',af,u_,kZ,k9,Int.reduceToNat,List.length_nil,List.getElem?_cons_zero,List.getElem?_cons_succ,List.take_succ_cons,List.take_zero,List.drop_succ_cons,decide_true,decide_false,Bool.true_and,Bool.and_self,Bool.false_and,nv,nw,kR,kS,jE,MM.ej,kT,oO,nG,nJ,nE,nH,nF,nI,nC,nD,ag.cells_one,ag.bg,ag.kX,ag.Ax,ag.uX,ag.Ay,ag.kY,ag.uY,ag.uZ,ag.IF,ag.iL,ag.iM,ag.qE,ag.IG,ag.Az,ag.u0,ag.AA,ag.qF,ag.qG,ag.u5,ag.u6,ag.bD,ag.aI,Cr.cells_one,Cr.bg,Cr.kX,Cr.kY,Cr.AD,Cr.u7,Cr.iL,Cr.iM,Cr.qE,Cr.qH,Cr.bD,Cr.aI,Cr.qh,nL,nM,nN,nO,Sp.cells_one,Sp.bg,Sp.kX,Sp.gN,Sp.bD,Sp.aI,Sp.fE,Sp.qh,nQ,nP,φ]
   with_reducible rfl)
  (bn:ob:=by first | trivial | (repeat' (first | exact trivial | omega | apply And.intro | (simp [-List.length_flatMap,-Int.natCast_add];done) | (simp [-List.length_flatMap,-Int.natCast_add] <;> omega))))
  (hh:Φ→bV (cg op) hp F F'=oI:=by (intro φ;simp only [φ,cg,bV,dg,dh,fZ,gw,di,lk,List.lookup,Nat.reduceBEq,BEq.rfl,beq_self_eq_true,if_true,if_false,reduceIte,Nat.reduceEqDiff,Bool.false_eq_true,Option.isSome_some,Option.isSome_none] <;> with_reducible rfl))
  (hk:k+nk=k':=by first | (simp only [Nat.add_zero,Nat.reduceAdd] <;> rfl) | rfl)
  (h:bw P N k0 r ⟨(d,v)::env,oI,k'⟩ K):bw P N k0 (⟨some d,op,g⟩::r) ⟨env,hp,k⟩ K:=by
 refine bw.one (fJ hg (he φ)) bn ?_
 rw [ig,hh φ,hk];exact h
theorem bw.eF {op:SO}{g:Option (Nat×Bool)}{env:List (Nat×SV)}{hp oI F F':Hp}{k k':Nat}{v:SV}{nk:Nat}{ob:Prop}{Φ:Prop}(φ:Φ)
  (hg:g=none∨∃ t w,g=some (t,w)∧env.lookup t=some (.d (.bool w)):=by first | exact .inl rfl | exact .inr ⟨_,_,rfl,rfl⟩)
  (he:Φ→eV P ⟨env,hp,k⟩ op []=some (⟨v,F,F',nk,ob⟩,[]):=by
   intro φ
   simp (disch:=omega) only [Go.Sl.seg,kA,gi,eV,cZ,ev,oG,wQ,kr,List.lookup,Nat.reduceBEq,Nat.reduceAdd,Nat.reduceMul,Nat.zero_add,SV.cells,if_true,if_false,reduceIte,Bool.false_eq_true,cg,bV,dg,dh,fZ,gw,di,lk,List.filter,Nat.reduceBNe,bne_self_eq_false,eq_self,zm,wP,fU,vI,vJ,ED,aL.cells_one,BEq.rfl,beq_self_eq_true,Bool.true_or,Nat.reduceEqDiff,List.map_cons,List.map_nil,List.nil_append,List.cons_append,List.append_nil,Int.toNat_natCast,Nat.mul_one,Nat.add_zero,g_,gZ,j_,iD,iE,iF,iG,iH,iI,kf,Option.isSome_some,Option.isSome_none,Option.isNone_some,Option.isNone_none,Nat.zero_ne_one,Nat.one_ne_zero,Bool.and_false,Bool.and_true,List.drop_zero,aL.aI,aL.bg,aL.bD,Dt.cells_one,Dt.bg,Dt.As,Dt.Au,Dt.bD,Dt.aI,Dt.AG,Dt.AH,mD,eH,vK,uh,List.all_cons,List.all_nil,SV.dG,Int.cast_ofNat_Int,Int.reduceBNe,Int.reduceBEq,Int.reduceLT,Int.reduceLE,Int.reduceGT,Int.reduceGE,nu,uT,uU,Bool.not_true,Bool.not_false,Bool.or_false,Bool.or_true,Bool.false_or,Bool.or_self,aL.qB,aL.Av,aL.uR,aL.uS,aL.dJ,aL.dK,Dt.qB,Dt.Aw,Dt.dJ,Dt.dK,List.all_append,aL.yt,Dt.qh,Bool.cond_true,Bool.cond_false,wrap_i64,jF,wrap_u32',wrap_u8',af,u_,kZ,k9,Int.reduceToNat,List.length_nil,List.getElem?_cons_zero,List.getElem?_cons_succ,List.take_succ_cons,List.take_zero,List.drop_succ_cons,decide_true,decide_false,Bool.true_and,Bool.and_self,Bool.false_and,nv,nw,kR,kS,jE,MM.ej,kT,oO,nG,nJ,nE,nH,nF,nI,nC,nD,ag.cells_one,ag.bg,ag.kX,ag.Ax,ag.uX,ag.Ay,ag.kY,ag.uY,ag.uZ,ag.IF,ag.iL,ag.iM,ag.qE,ag.IG,ag.Az,ag.u0,ag.AA,ag.qF,ag.qG,ag.u5,ag.u6,ag.bD,ag.aI,Cr.cells_one,Cr.bg,Cr.kX,Cr.kY,Cr.AD,Cr.u7,Cr.iL,Cr.iM,Cr.qE,Cr.qH,Cr.bD,Cr.aI,Cr.qh,nL,nM,nN,nO,Sp.cells_one,Sp.bg,Sp.kX,Sp.gN,Sp.bD,Sp.aI,Sp.fE,Sp.qh,nQ,nP,φ]
   with_reducible rfl)
  (bn:ob:=by first | trivial | (repeat' (first | exact trivial | omega | apply And.intro | (simp [-List.length_flatMap,-Int.natCast_add];done) | (simp [-List.length_flatMap,-Int.natCast_add] <;> omega))))
  (hh:Φ→bV (cg op) hp F F'=oI:=by (intro φ;simp only [φ,cg,bV,dg,dh,fZ,gw,di,lk,List.lookup,Nat.reduceBEq,BEq.rfl,beq_self_eq_true,if_true,if_false,reduceIte,Nat.reduceEqDiff,Bool.false_eq_true,Option.isSome_some,Option.isSome_none] <;> with_reducible rfl))
  (hk:k+nk=k':=by first | (simp only [Nat.add_zero,Nat.reduceAdd] <;> rfl) | rfl)
  (h:bw P N k0 r ⟨env,oI,k'⟩ K):bw P N k0 (⟨none,op,g⟩::r) ⟨env,hp,k⟩ K:=by
 refine bw.one (fJ hg (he φ)) bn ?_
 rw [ig,hh φ,hk];exact h
theorem bw.skip {d:Nat}{op:SO}{t:Nat}{w:Bool}{env:List (Nat×SV)}{hp:Hp}{k:Nat}{s:SV}
  (hg:env.lookup t=some s:=by rfl) (hs:kN w s=true:=by rfl)
  (h:bw P N k0 r ⟨(d,.dM [])::env,hp,k⟩ K):bw P N k0 (⟨some d,op,some (t,w)⟩::r) ⟨env,hp,k⟩ K:=by
 have hh:bV (cg op) hp [] []=hp:=by unfold bV;split <;> rfl
 refine bw.one (e:=⟨.dM [],[],[],0,True⟩) (de:=[]) (c2:=[]) ?_ trivial ?_
 ·unfold kN at hs
  split at hs
  ·simp only [eW,hg];rw [if_neg (by simpa using hs)]
  ·simp only [eW,hg]
  ·cases hs
 ·rw [ig]
  show bw P N k0 r ⟨(d,.dM [])::env,bV (cg op) hp [] [],k+0⟩ _
  rw [hh];exact h
theorem bw.bJ {d:Nat}{f:X}{args:List X}{fid:FuncId}{as first cap as':List SV}{env:List (Nat×SV)}{hp F:Hp}{k nk:Nat}{Q:SV→Hp→Prop}
  (hsc:SC P fid as' F k nk Q) (hs:HSub F hp)
  (hf:ev (fun t=>env.lookup t) f=some (.fn (.func fid) first cap):=by (simp only [ev,List.lookup,Nat.reduceBEq] <;> rfl))
  (ha:oG (fun t=>env.lookup t) args=some as:=by (simp only [ev,oG,List.lookup,Nat.reduceBEq] <;> rfl))
  (has:first++as++cap=as':=by first | (simp only [List.nil_append,List.cons_append,List.append_nil] <;> rfl) | rfl)
  (h:∀ v F',Q v F'→bw P N k0 r ⟨(d,v)::env,bV false hp F F',k+nk⟩ K):bw P N k0 (⟨some d,.call f args,none⟩::r) ⟨env,hp,k⟩ K:=by
 refine bw.many (st:=⟨env,hp,k⟩) rfl (fun o hc=>zC hc hf ha (by rw [has];exact hsc) hs) rfl fun v F' hq=> ?_
 rw [ig];exact h v F' hq
theorem bw.oC {d:Nat}{f:X}{args:List X}{fid:FuncId}{as first cap as':List SV}{env:List (Nat×SV)}{hp oI F F':Hp}{k k' nk:Nat}{v v':SV}{Φ:Prop}(φ:Φ)
  (hsc:aM P fid as' F k nk v F')
  (hs:HSub F hp:=by first | exact HSub.nil _ | (repeat (first | exact HSub.nil _ | refine HSub.cons (by rfl) ?_)))
  (hf:ev (fun t=>env.lookup t) f=some (.fn (.func fid) first cap):=by (simp only [ev,List.lookup,Nat.reduceBEq] <;> rfl))
  (ha:oG (fun t=>env.lookup t) args=some as:=by (simp only [ev,oG,List.lookup,Nat.reduceBEq] <;> rfl))
  (has:first++as++cap=as':=by first | (simp only [List.nil_append,List.cons_append,List.append_nil] <;> rfl) | rfl)
  (hv:Φ→v=v':=by intro φ;first | ((simp only [φ]) <;> with_reducible rfl) | with_reducible rfl)
  (hh:Φ→bV false hp F F'=oI:=by (intro φ;simp only [φ,cg,bV,dg,dh,fZ,gw,di,lk,List.lookup,Nat.reduceBEq,BEq.rfl,beq_self_eq_true,if_true,if_false,reduceIte,Nat.reduceEqDiff,Bool.false_eq_true,Option.isSome_some,Option.isSome_none] <;> with_reducible rfl))
  (hk:k+nk=k':=by first | (simp only [Nat.add_zero,Nat.reduceAdd] <;> rfl) | rfl)
  (h:bw P N k0 r ⟨(d,v')::env,oI,k'⟩ K):bw P N k0 (⟨some d,.call f args,none⟩::r) ⟨env,hp,k⟩ K:=by
 refine bw.many (st:=⟨env,hp,k⟩) rfl (fun o hc=>zC hc hf ha (by rw [has];exact hsc) hs) rfl fun w G hq=> ?_
 obtain ⟨rfl,rfl⟩:=hq
 rw [ig]
 obtain rfl:=hv φ
 obtain rfl:=hh φ
 obtain rfl:=hk
 exact h
end
theorem SB.mono {f:FuncId}{args:List SV}{F:Hp}{k nk:Nat}{Q Q':SV→Hp→Prop}(h:SB P f args F k nk Q)(hq:∀ r F,Q r F→Q' r F):SB P f args F k nk Q':=
 ⟨h.1,h.2.1,h.2.2.1,fun μ M w vals h1 h2=>(h.2.2.2 μ M w vals h1 h2).mono fun _ _ ⟨r,F',aZ,M',u,e,hQ,x⟩=>⟨r,F',aZ,M',u,e,hq r F' hQ,x⟩⟩
theorem SB.args {f:FuncId}{args args':List SV}{F:Hp}{k nk:Nat}{Q:SV→Hp→Prop}(h:SB P f args F k nk Q)(hok:SV.ay (fun n=>decide (n<k)) args'=true)
  (ha:∀ (p:Nat→Prop) (μ:Nat→Nm) (M:Mem) (vs:List Value),aR p μ M args' vs→aR p μ M args vs):SB P f args' F k nk Q:=
 ⟨h.1,hok,h.2.2.1,fun μ M w vals h1 h2=>h.2.2.2 μ M w vals (ha _ μ M _ h1) h2⟩
theorem End.mk {k nk:Nat}{nj:List RV}{Q:SV→Hp→Prop}{st:St}{ss:List SV}{ob:Prop}(F':Hp)
  (h1:Bz st nj=some (ss,ob):=by rfl)
  (h2:ob:=by simp [wP])
  (h3:HSub F' st.hp:=by first | exact HSub.nil _ | (repeat (first | exact HSub.nil _ | refine HSub.cons (by rfl) ?_)))
  (h4:Q (eP ss) F')
  (h5:(eP ss).ok (fun n=>decide (n<k+nk))=true:=by first | rfl | simp [eP,SV.ok,SV.ay,aL.ai,SV.bh])
  (h6:F'.ok (fun n=>decide (n<k+nk))=true:=by first | rfl | simp [Hp.ok,Ob.ok,SV.ok,SV.ay,aL.ai,SV.bh])
  (h7:k+nk≤st.k:=by simp):Go.Sl.Fin k nk nj Q st:=⟨ss,ob,F',h1,h2,h3,h4,h5,h6,h7⟩
theorem SW.ah {N k0:Nat}{st:St}{Q:Exit→St→Prop}{x:X}{y z:bX}(hx:ev (fun t=>st.env.lookup t) x=some (.d (.bool true)))(h1:SW P N k0 y st Q):SW P N k0 (.cond x y z) st Q:=
 SW.cond hx (fun _=>h1) (fun h=>by cases h)
theorem SW.aj {N k0:Nat}{st:St}{Q:Exit→St→Prop}{x:X}{y z:bX}(hx:ev (fun t=>st.env.lookup t) x=some (.d (.bool false)))(h1:SW P N k0 z st Q):SW P N k0 (.cond x y z) st Q:=
 SW.cond hx (fun h=>by cases h) (fun _=>h1)
theorem SW.gR {N k0:Nat}{st:St}{Q:Exit→St→Prop}{α:Type}{x:bX}(I:α→St)(m:α→Nat)(i0:α)(Hu:Nat→Nat){Φ:Prop}(φ:Φ)
  (h0:Φ→aJ k0 st (I i0) Hu:=by intro φ;simp [Go.Sl.aJ,aY,uk,BV,SV.aC,SV.aW,SV.ok,SV.ay,Ob.aC,Ob.ok,lk,List.lookup,aL.ax,Dt.ax,SV.ia,SV.bh,SV.j4,SV.lW,aL.ai,eC,bM,sZ,vR,kA,φ])
  (round:∀ i,SW P N k0 x (I i) fun e st'=>match e with | .normal=>∃ j ρ,m j<m i∧aJ k0 st' (I j) ρ | e=>Q e st'):SW P N k0 (.loop x) st Q:=SW.loop I m i0 Hu (h0 φ) round
theorem aJ.mk {k0:Nat}{st st1:St}{ρ:Nat→Nat}{Φ:Prop}(φ:Φ)(h0:Φ→aJ k0 st st1 ρ:=by intro φ;simp [Go.Sl.aJ,aY,uk,BV,SV.aC,SV.aW,SV.ok,SV.ay,Ob.aC,Ob.ok,lk,List.lookup,aL.ax,Dt.ax,SV.ia,SV.bh,SV.j4,SV.lW,aL.ai,eC,bM,sZ,vR,kA,φ]):aJ k0 st st1 ρ:=h0 φ
theorem Next.mk {k0:Nat}{st':St}{α:Type}{I:α→St}{m:α→Nat}{i:α}(j:α)(ρ:Nat→Nat){Φ:Prop}(φ:Φ)
  (hm:m j<m i:=by first | omega | (simp;done) | (simp;omega))
  (h0:Φ→aJ k0 st' (I j) ρ:=by intro φ;simp [Go.Sl.aJ,aY,uk,BV,SV.aC,SV.aW,SV.ok,SV.ay,Ob.aC,Ob.ok,lk,List.lookup,aL.ax,Dt.ax,SV.ia,SV.bh,SV.j4,SV.lW,aL.ai,eC,bM,sZ,vR,kA,φ]):∃ j ρ,m j<m i∧aJ k0 st' (I j) ρ:=⟨j,ρ,hm,h0 φ⟩
end
end Go.Sl
