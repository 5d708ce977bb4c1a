/-
 Small lemmas for walks.
-/
import Derived.ProofKit
import Derived.OpenShut
import Derived.Carry
import Derived.ShutString
import Derived.Maps.RangeRun
import Derived.Test.YtaelhkkjgfobhaaGreatT3
set_option linter.unusedSimpArgs false
set_option linter.unusedSectionVars false
set_option linter.unusedVariables false
namespace Go.Sl
open Go.RowKit
abbrev u32 (n:Nat):SV:= .d (.int .u32 (n:Int))
abbrev u64 (n:Nat):SV:= .d (.int .u64 (n:Int))
abbrev u8 (n:Nat):SV:= .d (.int .u8 (n:Int))
abbrev i64 (n:Int):SV:= .d (.int .i64 n)
abbrev bl (b:Bool):SV:= .d (.bool b)
mutual
theorem SV.oG:∀ s:SV,s.aC id=s
 | .d _ | .ptr _ _ | .gs _ _ | .bs _ _ _ | .vp _ _ | .mp _ | .it _ | .yl _ | .any=>rfl
 | .fn f a c=>by simp only[SV.aC,SV.bS a,SV.bS c]
 | .agg cs=>by simp only[SV.aC,SV.bS cs]
 | .de cs=>by simp only[SV.aC,SV.bS cs]
theorem SV.bS:∀ s:List SV,SV.aU id s=s
 | []=>rfl
 | c::cs=>by simp only[SV.aU,SV.oG c,SV.bS cs]
end
theorem Ob.oG (o:Ob):o.aC id=o:=by
 cases o<;>simp[Ob.aC,SV.bS,SV.oG]
section
variable {P:Program} {N k0:Nat} {st:St} {Q:Exit->St->Prop}
end
theorem ru {α β:Type}(f:α->List β)(sz:Nat)(hf:∀ x,(f x).length=sz):∀ (l:List α) (i j:Nat) (x:α),l[i]? =some x->j<sz->(l.flatMap f)[i*sz+j]? =(f x)[j]?
 | [],i,j,x,h,_=>by simp at h
 | y::l,0,j,x,h,hj=>by
  simp at h;subst h;rw[List.flatMap_cons,List.getElem?_append_left (by rw[hf];omega)];simp
 | y::l,i+1,j,x,h,hj=>by
  simp at h;rw[List.flatMap_cons,List.getElem?_append_right (by rw[hf,Nat.add_mul];omega),hf];rw[show(i+1)*sz+j - sz=i*sz+j by rw[Nat.add_mul];omega];exact ru f sz hf l i j x h hj
theorem gw {α β:Type}(f:α->List β)(sz:Nat)(hf:∀ x,(f x).length=sz):∀ (l:List α) (i:Nat) (x:α),l[i]? =some x->((l.flatMap f).drop (i*sz)).take sz=f x
 | [],i,x,h=>by simp at h
 | y::l,0,x,h=>by
  simp at h;subst h;simp[List.flatMap_cons,List.take_left' (hf y)]
 | y::l,i+1,x,h=>by
  simp at h;rw[List.flatMap_cons,Nat.add_mul,Nat.one_mul,Nat.add_comm,<- List.drop_drop,List.drop_left' (hf y)];exact gw f sz hf l i x h
theorem dU {α β:Type}(f:α->List β)(sz:Nat)(hf:∀ x,(f x).length=sz)(l:List α):(l.flatMap f).length=l.length*sz:=by
 induction l with
 | nil=>simp
 | cons x l ih=>simp[List.flatMap_cons,hf,ih,Nat.add_mul,Nat.add_comm]
theorem xY (n:Int)(h: -9223372036854775808<=n)(h':n<9223372036854775808):IntKind.i64.wrap n=n:=by
 simp[IntKind.wrap,IntKind.bits,IntKind.signed];omega
theorem HSub.nil (h:Hp):HSub [] h:=λ n ob hn=>by simp[bA] at hn
def Pure (P:Program)(f:FuncId)(args:List SV)(v:SV):Prop:=SB P f args [] 0 0 λ r F=>r=v/\F=[]
theorem SV.wW {ρ:Nat->Nat}(s:SV):s.ok (λ n=>decide (n<0))=true->s.aC ρ=s:=
 SV.rec (motive_1:=λ s=>s.ok (λ n=>decide (n<0))=true->s.aC ρ=s) (motive_2:=λ l=>SV.au (λ n=>decide (n<0)) l=true->SV.aU ρ l=l)
  (λ _ _=>rfl) (λ _ _ h=>by simp[SV.ok] at h) (λ _ _ h=>by simp[SV.ok] at h) (λ _ _ _ h=>by simp[SV.ok] at h) (λ _ _ _=>rfl) (λ _ h=>by simp[SV.ok] at h) (λ _ h=>by simp[SV.ok] at h) (λ _ h=>by simp[SV.ok] at h)
  (λ f a c h1 h2 h=>by simp only[SV.ok,Bool.and_eq_true] at h;simp only[SV.aC,h1 h.1,h2 h.2])
  (λ cs h1 h=>by simp only[SV.ok] at h;simp only[SV.aC,h1 h]) (λ cs h1 h=>by simp only[SV.ok] at h;simp only[SV.aC,h1 h]) (λ _=>rfl)
  (λ _=>rfl) (λ c cs h1 h2 h=>by simp only[SV.au,Bool.and_eq_true] at h;simp only[SV.aU,h1 h.1,h2 h.2]) s
theorem Pure.sc {P:Program}{f:FuncId}{args:List SV}{v:SV}(h:Pure P f args v)(hv:v.ok (λ n=>decide (n<0))=true)(k:Nat):aF P f args [] k 0 v []:=by
 have:=SB.at h id k (λ n m hn=>absurd hn (Nat.not_lt_zero n)) (λ n hn=>absurd hn (Nat.not_lt_zero n)) (λ i hi=>absurd hi (Nat.not_lt_zero i));rw[SV.bS] at this;refine this.mono ?_;rintro r F' ⟨r0,F0,⟨rfl,rfl⟩,rfl,rfl⟩;exact⟨SV.wW _ hv,rfl⟩
structure aB where
 (a0 a1 a2 a3 a4 a5 a6 a7:Nat)
 deriving DecidableEq
def aB.get (v:aB):Nat->Nat
 | 0=>v.a0|1=>v.a1|2=>v.a2|3=>v.a3|4=>v.a4|5=>v.a5|6=>v.a6|7=>v.a7|_=>0
def aB.of (f:Nat->Nat):aB:=⟨f 0,f 1,f 2,f 3,f 4,f 5,f 6,f 7⟩
theorem aB.uI (f:Nat->Nat){r:Nat}(h:r<8):(aB.of f).get r=f r:=by
 match r,h with
 | 0,_|1,_|2,_|3,_|4,_|5,_|6,_|7,_=>rfl
theorem aB.ext' {a b:aB}(h:∀ r,r<8->a.get r=b.get r):a=b:=by
 obtain⟨a0,a1,a2,a3,a4,a5,a6,a7⟩:=a;obtain⟨b0,b1,b2,b3,b4,b5,b6,b7⟩:=b;have h0:a0=b0:=h 0 (by omega);have h1:a1=b1:=h 1 (by omega);have h2:a2=b2:=h 2 (by omega);have h3:a3=b3:=h 3 (by omega);have h4:a4=b4:=h 4 (by omega);have h5:a5=b5:=h 5 (by omega);have h6:a6=b6:=h 6 (by omega);have h7:a7=b7:=h 7 (by omega);subst h0 h1 h2 h3 h4 h5 h6 h7;rfl
def aB.ds (v:aB):List DV:=[.int .u32 v.a0,.int .u32 v.a1,.int .u32 v.a2,.int .u32 v.a3,.int .u32 v.a4,.int .u32 v.a5,.int .u32 v.a6,.int .u32 v.a7]
def aB.cells (v:aB):List SV:=[u32 v.a0,u32 v.a1,u32 v.a2,u32 v.a3,u32 v.a4,u32 v.a5,u32 v.a6,u32 v.a7]
theorem aB.kS (v:aB):v.ds.map .d=v.cells:=rfl
theorem aB.kT (v:aB):v.ds.length=8:=rfl
theorem aB.jE (v:aB){r:Nat}(h:r<8):v.cells[r]? =some (u32 (v.get r)):=by
 match r,h with
 | 0,_|1,_|2,_|3,_|4,_|5,_|6,_|7,_=>rfl
theorem aB.cells_one (v:aB):v.cells.all SV.dR=true:=rfl
theorem aB.jc (v:aB):v.cells.length=8:=rfl
theorem aB.aj (v:aB)(q:Nat->Bool):SV.au q v.cells=true:=rfl
def aB.set (v:aB)(i x:Nat):aB:=aB.of λ r=>if r=i then x else v.get r
theorem aB.CD (v:aB){i:Nat}(h:i<8)(x:Nat):v.cells.set i (u32 x)=(v.set i x).cells:=by
 match i,h with
 | 0,_|1,_|2,_|3,_|4,_|5,_|6,_|7,_=>rfl
def aB.wf (v:aB):Prop:=∀ r,r<8->v.get r<4294967296
theorem aB.qJ (a b:aB):jD (rep 8 [true]) a.cells b.cells=some (decide (a=b)):=by
 have h:jD (rep 8 [true]) a.cells b.cells=some (((a.a0:Int) == b.a0) && (((a.a1:Int) == b.a1) && (((a.a2:Int) == b.a2) && (((a.a3:Int) == b.a3) && (((a.a4:Int) == b.a4) && (((a.a5:Int) == b.a5) && (((a.a6:Int) == b.a6) && (((a.a7:Int) == b.a7) && true)))))))):=by
  simp[jD,HP,rep,aB.cells]
 rw[h]
 congr 1
 obtain⟨a0,a1,a2,a3,a4,a5,a6,a7⟩:=a;obtain⟨b0,b1,b2,b3,b4,b5,b6,b7⟩:=b;rw[Bool.eq_iff_iff];simp;omega
end Go.Sl
namespace Go.Sl
open Go.RowKit Go.ChangeShapes Go.WideShapes
def zl (P:Program):Nat->List Field->Option Nat
 | o,[]=>some o
 | o,f::fs=>if f.offset=o then zl P (o+P.cellsOf f.type) fs else none
def Fit (P:Program):Nat->TypeId->List DV->Prop
 | 0,_,_=>False
 | d+1,t,ds=>match P.underlying t with
  | some .bool=>∃ b,ds=[.bool b]
  | some (.int k)=>∃ n,ds=[.int k n]/\(Lit.int k n).wf=true
  | some (.struct fs)=>ds.length=P.cellsOf t/\∀ f∈fs.toList,Fit P d f.type ((ds.drop f.offset).take (P.cellsOf f.type))
  | some (.array n e)=>ds.length=P.cellsOf t/\∀ i,i<n->Fit P d e ((ds.drop (i*P.cellsOf e)).take (P.cellsOf e))
  | some (.slice e)=>ds=[.aG]\/∃ n cs,ds=[.sl n cs]/\n<=9223372036854775807/\cs.length=n*P.cellsOf e/\∀ i,i<n->Fit P d e ((cs.drop (i*P.cellsOf e)).take (P.cellsOf e))
  | _=>False
def jy (P:Program):Nat->TypeId->Bool
 | 0,_=>false
 | d+1,t=>match P.underlying t with
  | some .bool=>P.cellsOf t == 1
  | some (.int _)=>P.cellsOf t == 1
  | some (.struct fs)=>(zl P 0 fs.toList == some (P.cellsOf t)) && fs.toList.all λ f=>jy P d f.type
  | some (.array n e)=>(P.cellsOf t == n*P.cellsOf e) && jy P d e
  | some (.slice e)=>(P.cellsOf t == 1) && jy P d e && decide (0<P.cellsOf e) && decide (0<P.bytesOf e)
  | _=>false
def kU (w:World):Mem:=λ b o=>w.cell? ⟨b,o,none⟩
def Cells (M:Mem):List Value->List DV->Prop
 | [],[]=>True
 | v::vs,d::ds=>bQ M d v/\Cells M vs ds
 | _,_=>False
theorem Cells.length {M:Mem}:∀ {vs:List Value} {ds:List DV},Cells M vs ds->vs.length=ds.length
 | [],[],_=>rfl
 | v::vs,d::ds,h=>by simp only[Cells] at h;simp[h.2.length]
 | [],d::ds,h=>by simp[Cells] at h
 | v::vs,[],h=>by simp[Cells] at h
theorem Cells.append {M:Mem}:∀ {vs us:List Value} {ds es:List DV},Cells M vs ds->Cells M us es->Cells M (vs++us) (ds++es)
 | [],us,[],es,_,h=>by simpa using h
 | v::vs,us,d::ds,es,h,k=>by simp only[Cells] at h;simp only[List.cons_append,Cells];exact⟨h.1,h.2.append k⟩
 | [],us,d::ds,es,h,_=>by simp[Cells] at h
 | v::vs,us,[],es,h,_=>by simp[Cells] at h
theorem Cells.PC {M:Mem}{p:Nat->Prop}{μ:Nat->Nm}:∀ {vs:List Value} {ds:List DV},Cells M vs ds->aV p μ M (ds.map .d) vs
 | [],[],_=>aV.aQ.2 rfl
 | v::vs,d::ds,h=>by simp only[Cells] at h;exact aV.aD.2 ⟨v,vs,rfl,Rp.cI.2 h.1,h.2.PC⟩
 | [],d::ds,h=>by simp[Cells] at h
 | v::vs,[],h=>by simp[Cells] at h
theorem Cells.Nr {w:World}{b:Nat}:∀ {vs:List Value} {ds:List DV} (q:Nat),Cells (kU w) vs ds->(∀ (i:Nat) (v:Value),vs[i]? =some v->w.cell? ⟨b,q+i,none⟩=some v)->dD (kU w) b q ds
 | [],[],q,_,_=>by simp[dD]
 | v::vs,d::ds,q,h,hc=>by
  simp only[Cells] at h;simp only[dD];refine⟨⟨v,by simpa[kU] using hc 0 v rfl,h.1⟩,Cells.Nr (q+1) h.2 λ i u hi=> ?_⟩;have:=hc (i+1) u (by simpa using hi)
  rwa [show q+(i+1)=q+1+i by omega] at this
 | [],d::ds,q,h,_=>by simp[Cells] at h
 | v::vs,[],q,h,_=>by simp[Cells] at h
section
variable {H:Type} {enc:TypeId×Value->H} {P:Program} {w:World} {sp:Nat->Bool} {held:Bool}
theorem wX:∀ {d:Nat} {t:TypeId} {ds:List DV},jy P d t=true->Fit P d t ds->ds.length=P.cellsOf t
 | 0,t,ds,h,_=>by simp[jy] at h
 | d +1,t,ds,h,hf=>by
  simp only[jy] at h;simp only[Fit] at hf
  split at h
  .rename_i hu;rw[hu] at hf;obtain⟨b,rfl⟩:=hf;simp at h;simp[h]
  .rename_i hu;rw[hu] at hf;obtain⟨b,rfl,_⟩:=hf;simp at h;simp[h]
  .rename_i hu;rw[hu] at hf;exact hf.1
  .rename_i hu;rw[hu] at hf;exact hf.1
  .rename_i hu;rw[hu] at hf
   simp at h;rcases hf with rfl|⟨n,cs,rfl,_⟩<;>simp[h.1.1.1]
  .cases h
theorem BP:∀ {fs:List Field} {o n:Nat},zl P o fs=some n->o<=n
 | [],o,n,h=>by simp[zl] at h;omega
 | f::fs,o,n,h=>by
  simp only[zl] at h
  split at h
  .have:=BP h;omega
  .cases h
mutual
def DV.small (B:Nat):DV->Prop
 | .sl n cs=>n<=B/\eS B cs
 | _=>True
def eS (B:Nat):List DV->Prop
 | []=>True
 | c::cs=>c.small B/\eS B cs
end
theorem eS.append {B:Nat}:∀ {cs ds:List DV},eS B cs->eS B ds->eS B (cs++ds)
 | [],_,_,h=>h
 | _::_,_,h,k=>by
  simp only[List.cons_append,eS] at h ⊢;exact⟨h.1,h.2.append k⟩
theorem uJ {B:Nat}:∀ {cs:List DV},eS B cs↔∀ c,c∈cs->c.small B
 | []=>by simp[eS]
 | c::cs=>by simp[eS,uJ (cs:=cs)]
def AO (P:Program)(B:Nat)(t:TypeId)(y:DataW H):Prop:=∀ n,n∈y.weights P t->n<=B
def Sm (P:Program)(t:TypeId)(ds:List DV)(y:DataW H):Prop:=∀ (B:Nat),AO P B t y->eS B ds
theorem kV {P:Program}{e:TypeId}{n:Nat}:∀ {xs:List (DataW H)} {x:DataW H},x∈xs->n∈x.weights P e->n∈DataW.weightsAll P e xs
 | [],_,h,_=>by cases h
 | y::ys,x,h,hn=>by
  simp only[DataW.weightsAll,List.mem_append];rcases List.mem_cons.1 h with rfl|h
  .exact .inl hn
  .exact .inr (kV h hn)
theorem oq {P:Program}{n:Nat}:∀ {ts:List TypeId} {xs:List (DataW H)} {j:Nat} {t:TypeId} {x:DataW H},ts[j]? =some t->xs[j]? =some x->n∈x.weights P t->n∈DataW.weightsEach P ts xs
 | t0::ts,x0::xs,0,t,x,ht,hx,hn=>by
  simp at ht hx;subst ht;subst hx;simp only[DataW.weightsEach,List.mem_append];exact .inl hn
 | t0::ts,x0::xs,j+1,t,x,ht,hx,hn=>by
  simp at ht hx;simp only[DataW.weightsEach,List.mem_append];exact .inr (oq ht hx hn)
 | [],_,_,_,_,ht,_,_=>by simp at ht
 | _::_,[],_,_,_,_,hx,_=>by simp at hx
theorem AO.slice {P:Program}{B:Nat}{t e:TypeId}{es sp:List (DataW H)}(hu:P.underlying t=some (.slice e))(h:AO P B t (.slice es sp)):(0<P.bytesOf e->es.length<=B)/\∀ x,x∈es->AO P B e x:=by
 constructor
 .intro hp
  have:=h ((es.length+sp.length)*P.bytesOf e) (by simp[DataW.weights,hu]);have h2:es.length*1<=(es.length+sp.length)*P.bytesOf e:=Nat.mul_le_mul (by omega) hp;omega
 .intro x hx n hn
  exact h n (by simp only[DataW.weights,hu,List.mem_cons,List.mem_append];exact .inr (.inl (kV hx hn)))
theorem AO.struct {P:Program}{B:Nat}{t:TypeId}{fs:Array Field}{xs:List (DataW H)}(hu:P.underlying t=some (.struct fs))(h:AO P B t (.agg xs)){i:Nat}{f:Field}{x:DataW H}(hf:fs.toList[i]? =some f)(hx:xs[i]? =some x):AO P B f.type x:=λ n hn=>
 h n (by simp only[DataW.weights,hu];exact oq (j:=i) (by rw[List.getElem?_map,hf];rfl) hx hn)
theorem AO.array {P:Program}{B:Nat}{t e:TypeId}{k:Nat}{xs:List (DataW H)}(hu:P.underlying t=some (.array k e))(h:AO P B t (.agg xs)){x:DataW H}(hx:x∈xs):AO P B e x:=λ n hn=>
 h n (by simp only[DataW.weights,hu];exact kV hx hn)
theorem uK (d fuel:Nat)(cs:List Value)(Q:Field->DataW H->Prop)(part:∀ f:Field,jy P d f.type=true->∀ x,DataW.trod enc P w 0 sp held fuel f.type ((cs.drop f.offset).take (P.cellsOf f.type))=some x->
   ∃ ds,Fit P d f.type ds/\Cells (kU w) ((cs.drop f.offset).take (P.cellsOf f.type)) ds/\Sm P f.type ds x.1):
  ∀ (fs:List Field) (o n:Nat),zl P o fs=some n->n<=cs.length->(∀ f∈fs,jy P d f.type=true/\∃ x,DataW.trod enc P w 0 sp held fuel f.type ((cs.drop f.offset).take (P.cellsOf f.type))=some x/\Q f x.1)->
   ∃ ds,ds.length=n - o/\Cells (kU w) ((cs.drop o).take (n - o)) ds/\(∀ f∈fs,o<=f.offset/\Fit P d f.type ((ds.drop (f.offset - o)).take (P.cellsOf f.type)))/\∀ (B:Nat),(∀ f x,Q f x->AO P B f.type x)->eS B ds
 | [],o,n,h,_,_=>by
  simp[zl] at h;subst h;exact⟨[],by simp,by simp[Cells],by simp,λ _ _=>trivial⟩
 | f ::fs,o,n,h,hn,hf=>by
  simp only[zl] at h
  split at h<;>try (cases h;done)
  rename_i ho;have hle:=BP h;obtain⟨ds2,l2,c2,f2,s2⟩:=uK d fuel cs Q part fs _ n h hn λ g hg=>hf g (by simp[hg])
  obtain⟨x1,hx1,hq1⟩:=(hf f (by simp)).2;obtain⟨ds1,f1,c1,s1⟩:=part f (hf f (by simp)).1 x1 hx1;have l1:=wX (hf f (by simp)).1 f1;refine⟨ds1++ds2,by simp[l1,l2];omega,?_,?_,λ B hq=>(s1 B (hq _ _ hq1)).append (s2 B hq)⟩
  .have:=c1.append c2
   rw[ho] at this;have e:(cs.drop o).take (n - o)=(cs.drop o).take (P.cellsOf f.type)++(cs.drop (o+P.cellsOf f.type)).take (n - (o+P.cellsOf f.type)):=by
    rw[<- List.drop_drop,show n - o=P.cellsOf f.type+(n - (o+P.cellsOf f.type)) by omega,List.take_add]
   rw[e];exact this
  .intro g hg
   rcases List.mem_cons.1 hg with rfl|hg
   .refine⟨by omega,?_⟩
    rw[show g.offset - o=0 by omega,List.drop_zero,List.take_left' l1];exact f1
   .obtain⟨q1,q2⟩:=f2 g hg
    refine⟨by omega,?_⟩;rw[List.drop_append,List.drop_eq_nil_of_le (by omega),List.nil_append,l1,show g.offset - o - P.cellsOf f.type=g.offset - (o+P.cellsOf f.type) by omega];exact q2
theorem sE (d:Nat)(e:TypeId)(he:jy P d e=true)(cell:Nat->List Value)(Q:DataW H->Prop):∀ (n k:Nat),(∀ i,i<n->∃ ds,Fit P d e ds/\Cells (kU w) (cell (k+i)) ds/\∃ x,Q x/\Sm P e ds x)->
  ∃ ds,ds.length=n*P.cellsOf e/\Cells (kU w) ((List.range' k n).flatMap cell) ds/\(∀ i,i<n->Fit P d e ((ds.drop (i*P.cellsOf e)).take (P.cellsOf e)))/\∀ (B:Nat),(∀ x,Q x->AO P B e x)->eS B ds
 | 0,k,_=>⟨[],by simp,by simp[Cells],by omega,λ _ _=>trivial⟩
 | n + 1,k,h=>by
  obtain⟨ds1,f1,c1,x1,hq1,s1⟩:=h 0 (by omega);have l1:=wX he f1;obtain⟨ds2,l2,c2,f2,s2⟩:=sE d e he cell Q n (k+1) λ i hi=>by
   have:=h (i+1) (by omega)
   rwa [show k+(i+1)=k+1+i by omega] at this
  refine⟨ds1++ds2,by simp[l1,l2,Nat.add_mul];omega,?_,λ i hi=> ?_,λ B hq=>(s1 B (hq _ hq1)).append (s2 B hq)⟩
  .rw[List.range'_succ,List.flatMap_cons]
   exact c1.append c2
  .cases i with
   | zero=>simp[List.take_left' l1];exact f1
   | succ i=>
    rw[Nat.add_mul,Nat.one_mul,Nat.add_comm,<- List.drop_drop,List.drop_left' l1];exact f2 i (by omega)
theorem jE {b o n:Nat}{base:Nat}{cs:List Value}(h:w.cells? base ⟨b,o,none⟩ n=some cs):cs.length=n/\∀ (i:Nat) (v:Value),cs[i]? =some v->w.cell? ⟨b,o+i,none⟩=some v:=by
 obtain⟨_,h1,h2⟩:=World.cells?_some h;refine⟨h1,λ i v hi=> ?_⟩;have hlt:i<n:=by
  have:=(List.getElem?_eq_some_iff.1 hi).1;omega
 have:=h2 i hlt;rw[dZ] at this;rw[this];exact hi
theorem EL : ∀ (d fuel:Nat) (t:TypeId) (cs:List Value) (x:DataW H×List MemPlace),jy P d t=true->DataW.trod enc P w 0 sp held fuel t cs=some x->∃ ds,Fit P d t ds/\Cells (kU w) cs ds/\Sm P t ds x.1:=by
  intro d
  induction d with
  | zero=>intro fuel t cs x h;simp[jy] at h
  | succ d ih =>
    intro fuel t cs x h hx;simp only[jy] at h;simp only[Fit]
    split at h
    . rename_i hu
      (try rw[hu])
      obtain⟨b,rfl,_⟩:=DataW.trod_bool hu hx;exact⟨[.bool b],⟨b,rfl⟩,by simp[Cells,bQ],λ _ _=>by simp[eS,DV.small]⟩
    . rename_i k hu
      (try rw[hu])
      obtain⟨n,rfl,_,hw⟩:=DataW.trod_int hu hx;exact⟨[.int k n],⟨n,rfl,hw⟩,by simp[Cells,bQ],λ _ _=>by simp[eS,DV.small]⟩
    . rename_i fs hu
      (try rw[hu])
      simp only[Bool.and_eq_true,beq_iff_eq,List.all_eq_true] at h;obtain⟨xs,n,hn,hxe,hl,hxl,hf⟩:=DataW.trod_struct hu hx;obtain⟨ds,l1,c1,f1,s1⟩:=uK d n cs (λ f x=>∃ i,fs.toList[i]? =some f/\(xs.map (·.1))[i]? =some x) (λ f hft y hy=>ih n f.type _ y hft hy) fs.toList 0 (P.cellsOf t) h.1 (by omega) λ f hf'=>by
        refine⟨h.2 f hf',?_⟩;obtain⟨i,hi,e⟩:=List.getElem_of_mem hf';have hfi:fs[i]? =some f:=by
          have hi':i<fs.size:=by simpa using hi
          rw[Array.getElem?_eq_getElem hi'];simpa using e
        have:=hf i f hfi;have hix:i<xs.length:=by rw[hxl];simpa using hi
        exact⟨_,this.trans (List.getElem?_eq_getElem hix),i,by rw[Array.getElem?_toList];exact hfi,by rw[List.getElem?_map,List.getElem?_eq_getElem hix];rfl⟩
      refine⟨ds,⟨by simpa using l1,λ f hf'=>by simpa using(f1 f hf').2⟩,?_,λ B hq=>s1 B λ f x ⟨i,h1,h2⟩=>AO.struct hu (by rw[hxe] at hq;exact hq) h1 h2⟩;rw[List.drop_zero,Nat.sub_zero,List.take_of_length_le (by omega)] at c1;exact c1
    . rename_i n e hu
      (try rw[hu])
      simp only[Bool.and_eq_true,beq_iff_eq] at h;obtain⟨xs,m,hm,hxe,hl,hxl,hf⟩:=DataW.trod_array hu hx;obtain⟨ds,l1,c1,f1,s1⟩:=sE d e h.2 (λ i=>(cs.drop (i*P.cellsOf e)).take (P.cellsOf e)) (λ x=>x∈xs.map (·.1)) n 0 λ i hi=>by
        have:=hf i hi;have hix:i<xs.length:=by omega
        rw[Nat.zero_add];obtain⟨ds,a1,a2,a3⟩:=ih m e _ _ h.2 (this.trans (List.getElem?_eq_getElem hix));exact⟨ds,a1,a2,_,List.mem_map.2 ⟨_,List.getElem_mem hix,rfl⟩,a3⟩
      have hfl:∀ (n k:Nat) (cs:List Value),(k+n)*P.cellsOf e<=cs.length->(List.range' k n).flatMap (λ i=>(cs.drop (i*P.cellsOf e)).take (P.cellsOf e))=(cs.drop (k*P.cellsOf e)).take (n*P.cellsOf e):=by
        intro n
        induction n with
        | zero=>intro k cs _;simp
        | succ n ihn=>
          intro k cs hk;rw[List.range'_succ,List.flatMap_cons,ihn (k+1) cs (by rwa [show k+1+n=k+(n+1) by omega])];rw[show(n+1)*P.cellsOf e=P.cellsOf e+n*P.cellsOf e by rw[Nat.add_mul];omega,List.take_add,List.drop_drop];rw[show k*P.cellsOf e+P.cellsOf e=(k+1)*P.cellsOf e by rw[Nat.add_mul];omega]
      refine⟨ds,⟨by rw[l1,h.1],f1⟩,?_,λ B hq=>s1 B λ x hx'=>AO.array hu (by rw[hxe] at hq;exact hq) hx'⟩;rw[hfl n 0 cs (by rw[hl,h.1];simp)] at c1;rw[Nat.zero_mul,List.drop_zero,List.take_of_length_le (by rw[hl,h.1];exact Nat.le_refl _)] at c1;exact c1
    . rename_i e hu
      (try rw[hu])
      simp only[Bool.and_eq_true,beq_iff_eq,decide_eq_true_eq] at h;rcases DataW.trod_slice hu hx with⟨rfl,_⟩|⟨a,len,cap,elems,rest,n,hn,rfl,hxe,_,hlc,yT,hel,hf,_⟩
      . exact⟨[.aG],.inl rfl,by simp[Cells,bQ],λ _ _=>by simp[eS,DV.small]⟩
      . have hspot:0<len->a.spot=none:=by
          intro hpos;have:=hf 0 hpos;rw[show elems[0]? =some (elems[0]'(by omega)) from List.getElem?_eq_getElem (by omega)] at this;obtain⟨c0,h0,_⟩:=Option.bind_eq_some_iff.1 this;obtain⟨_,h1,h2⟩:=World.cells?_some h0;have h3:=h2 0 h.1.2;simp only[Nat.zero_mul] at h3;have e0:(a.add 0).add 0=a:=by simp[Addr.add]
          rw[e0] at h3;have hsome:c0[0]? =some (c0[0]'(by omega)):=List.getElem?_eq_getElem (by omega);rw[hsome] at h3;unfold World.cell? at h3
          split at h3
          . split at h3
            . cases h3
            . rename_i hs;simpa using hs
          . cases h3
        have hA:0<len->a=⟨a.block,a.off,none⟩:=λ hpos=>by
          have:=hspot hpos;obtain⟨b,o,s⟩:=a;simp at this;subst this;rfl
        have hcell:∀ i,i<len->∃ c,w.cells? 0 (a.add (i*P.cellsOf e)) (P.cellsOf e)=some c/\∃ ds,Fit P d e ds/\Cells (kU w) c ds/\∃ x,x∈elems.map (·.1)/\Sm P e ds x:=by
          intro i hi;have:=hf i hi;rw[List.getElem?_eq_getElem (show i<elems.length by omega)] at this;obtain⟨c,h0,h1⟩:=Option.bind_eq_some_iff.1 this;obtain⟨ds,a1,a2,a3⟩:=ih n e c _ h.1.1.2 h1;exact⟨c,h0,ds,a1,a2,_,List.mem_map.2 ⟨_,List.getElem_mem (by omega),rfl⟩,a3⟩
        let cell:Nat->List Value:=λ i=>((w.cells? 0 (a.add (i*P.cellsOf e)) (P.cellsOf e)).getD [])
        have lV:∀ i,i<len->w.cells? 0 (a.add (i*P.cellsOf e)) (P.cellsOf e)=some (cell i):=λ i hi=>by
          obtain⟨c,h0,_⟩:=hcell i hi;simp only[cell];rw[h0];rfl
        obtain⟨ds,l1,c1,f1,s1⟩:=sE d e h.1.1.2 cell (λ x=>x∈elems.map (·.1)) len 0 λ i hi=>by
          obtain⟨c,h0,h1⟩:=hcell i hi;rw[Nat.zero_add];simp only[cell];rw[h0];exact h1
        refine⟨[.sl len ds],.inr ⟨len,ds,rfl,by unfold maxLen at yT;omega,l1,f1⟩,?_,λ B hq=> ?_⟩;rotate_left
        . rw[hxe] at hq
          simp only[eS,DV.small,and_true];obtain⟨g1,g2⟩:=AO.slice hu hq;have:=g1 h.2;rw[List.length_map,hel] at this;exact⟨this,s1 B λ x hx'=>g2 x hx'⟩
        simp only[Cells,bQ,and_true];refine⟨some a,cap,rfl,hlc,λ h0=> ?_,λ hpos=>⟨a.block,a.off,by rw[<- hA hpos],?_⟩⟩
        . subst h0;simp at l1;exact l1
        . refine Cells.Nr a.off c1 λ i v hi=> ?_
          have key:∀ (n k i:Nat) (v:Value),k+n<=len->((List.range' k n).flatMap cell)[i]? =some v->w.cell? ⟨a.block,a.off+k*P.cellsOf e+i,none⟩=some v:=by
            intro n
            induction n with
            | zero=>intro k i v _ h;simp at h
            | succ n ihn=>
              intro k i v hk hv;rw[List.range'_succ,List.flatMap_cons] at hv;have hck:=lV k (by omega);rw[hA (by omega),dZ] at hck;obtain⟨g1,g2⟩:=jE hck
              by_cases hlt:i<(cell k).length
              . rw[List.getElem?_append_left hlt] at hv
                exact g2 i v hv
              . rw[List.getElem?_append_right (by omega),g1] at hv
                have:=ihn (k+1) (i - P.cellsOf e) v (by omega) hv
                rwa [show a.off+(k+1)*P.cellsOf e+(i - P.cellsOf e)=a.off+k*P.cellsOf e+i by rw[Nat.add_mul];omega] at this
          have:=key len 0 i v (by omega) hi
          simpa using this
    . cases h
def ot (P:Program)(t:TypeId)(ds:List DV):SV:=
 match dV P t with
 | some (some _)=> .agg (ds.map .d)
 | _=> .d (ds.headD .oy)
def sF (P:Program)(d:Nat):List TypeId->List (List DV)->Prop
 | [],[]=>True
 | t::ts,x::xs=>Fit P d t x/\sF P d ts xs
 | _,_=>False
def uL (P:Program):List TypeId->List (List DV)->List SV
 | t::ts,x::xs=>ot P t x::uL P ts xs
 | _,_=>[]
def qw (P:Program)(d:Nat)(ts:List TypeId):Bool:=ts.all λ t=>jy P d t && (P.readableRec t && decide (t<P.types.size))
theorem It {t:TypeId}{v:Value}{d:Nat}{x:DataW H}{ps:List MemPlace}{r:Reach}{b0:Nat}(hf:jy P d t=true)(hv:Value.okWide P w r b0 t v)(h:DataW.Trod enc P w 0 sp held t v x ps)(p:Nat->Prop)(μ:Nat->Nm):
  ∃ ds,Fit P d t ds/\Rp p μ (kU w) (ot P t ds) v/\Sm P t ds x:=by
 obtain⟨fuel,hx⟩:=h;obtain⟨ds,h1,h2,h3⟩:=EL d fuel t _ _ hf hx;refine⟨ds,h1,?_,h3⟩;have hinfo:∃ i,P.info? t=some i:=by
  cases hi:P.info? t with
  | some i=>exact⟨i,rfl⟩
  | none=>
   exfalso
   cases d with
   | zero=>simp[jy] at hf
   | succ d=>simp[jy,Program.underlying,hi] at hf
 obtain⟨i,hi⟩:=hinfo;have one:∀ (hs:dV P t=some none) (Ns:v.cells.toList=[v]),Rp p μ (kU w) (ot P t ds) v:=by
  intro hs Ns;rw[Ns] at h2
  match ds,h2 with
  | [y],h2=>
   simp only[Cells] at h2;simp only[ot,hs,List.headD_cons];exact Rp.cI.2 h2.1
  | [],h2=>simp[Cells] at h2
  | y::z::r,h2=>simp[Cells] at h2
 have agg:∀ (n:Nat) (hs:dV P t=some (some n)) (cs:Array Value) (Ns:v= .agg cs),Rp p μ (kU w) (ot P t ds) v:=by
  intro n hs cs Ns;subst Ns;simp only[ot,hs];exact Rp.eM.2 ⟨cs,rfl,Cells.PC h2⟩
 cases d with
 | zero=>simp[jy] at hf
 | succ d=>
  simp only[jy] at hf
  split at hf
  .rename_i hu
   obtain⟨b,rfl⟩:=okWide_bool hu hv;exact one (by simp[dV,hu,hi]) rfl
  .rename_i hu
   obtain⟨b,rfl⟩:=okWide_int hu hv;exact one (by simp[dV,hu,hi]) rfl
  .rename_i fs hu
   obtain⟨cs,rfl,_⟩:=okWide_struct hu hv;exact agg i.size (by simp[dV,hu,hi]) cs rfl
  .rename_i n e hu
   unfold Value.okWide at hv;rw[hu] at hv;obtain⟨cs,rfl,_⟩:=hv;exact agg i.size (by simp[dV,hu,hi]) cs rfl
  .rename_i e hu
   obtain⟨a,len,cap,rfl⟩:=okWide_slice hu hv;exact one (by simp[dV,hu,hi]) rfl
  .cases hf
theorem zm {d:Nat}{r:Reach}{b0:Nat}(p:Nat->Prop)(μ:Nat->Nm):∀ (ts:List TypeId) (vs:List Value) (xs:List (DataW H)) (ps:List MemPlace),qw P d ts=true->DataW.TrodAll enc P w 0 sp held ts vs xs ps->
  (∀ (j:Nat) t v,ts[j]? =some t->vs[j]? =some v->Value.okWide P w r b0 t v)->∃ vY,sF P d ts vY/\aV p μ (kU w) (uL P ts vY) vs/\xs.length=ts.length/\∀ (B:Nat),(∀ n,n∈DataW.weightsEach P ts xs->n<=B)->∀ ds,ds∈vY->eS B ds
 | [],vs,xs,ps,_,h,_=>by
  obtain⟨rfl,rfl,_⟩:=trodAll_nil h;exact⟨[],trivial,aV.aQ.2 rfl,rfl,λ _ _ _ h=>by cases h⟩
 | t::ts,vs,xs,ps,hf,h,hv=>by
  obtain⟨v,vs',x,xs',p1,p2,rfl,rfl,rfl,h1,h2⟩:=trodAll_cons h;simp only[qw,List.all_cons,Bool.and_eq_true] at hf;obtain⟨ds,a1,a2,a3⟩:=It (P:=P) hf.1.1 (hv 0 t v rfl rfl) h1 p μ;obtain⟨vY,b1,b2,b3,b4⟩:=zm p μ ts vs' xs' p2 (by simpa[qw] using hf.2) h2 λ j t' v' ht hv'=>hv (j+1) t' v' (by simpa using ht) (by simpa using hv')
  refine⟨ds::vY,⟨a1,b1⟩,aV.aD.2 ⟨v,vs',rfl,a2,b2⟩,by simp[b3],λ B hq ds' hd=> ?_⟩;rcases List.mem_cons.1 hd with rfl|hd
  .exact a3 B λ n hn=>hq n (by simp only[DataW.weightsEach,List.mem_append];exact .inl hn)
  .exact b4 B (λ n hn=>hq n (by simp only[DataW.weightsEach,List.mem_append];exact .inr hn)) ds' hd
theorem qg {d:Nat}(hl:laidOutB P=true){W W':World}{sp':Nat->Bool}:∀ (ts:List TypeId) (vs:List Value) (xs:List (DataW H)) (ps:List MemPlace),qw P d ts=true->DataW.TrodAll enc P W 0 (λ _=>true) true ts vs xs ps->
  (∀ x∈ps,W.sameAt W' x)->(∀ x∈ps,sp' x.block=true)->DataW.TrodAll enc P W' 0 sp' true ts vs xs ps
 | [],vs,xs,ps,_,h,_,_=>by
  obtain⟨rfl,rfl,rfl⟩:=trodAll_nil h;exact trodAll_mk0
 | t ::ts,vs,xs,ps,hf,h,hs,hp=>by
  obtain⟨v,vs',x,xs',p1,p2,rfl,rfl,rfl,h1,h2⟩:=trodAll_cons h;simp only[qw,List.all_cons,Bool.and_eq_true,decide_eq_true_eq] at hf
  exact trodAll_cons_mk (WideElems.Trod_stays hl hf.1.2.1 hf.1.2.2 h1 (λ q hq=>hs q (by simp[hq])) (λ q hq=>hp q (by simp[hq])))
   (qg hl ts vs' xs' p2 (by simpa[qw] using hf.2) h2 (λ q hq=>hs q (by simp[hq])) (λ q hq=>hp q (by simp[hq])))
theorem wj {f:Func}{s:ChangeSpec}{apart fresh handsOn again:Bool}{W W':World}{args:Array Value}{v:Value}{ds gs:List (DataW H)}{before pa pv:List MemPlace}
  (hW:DataW.Whole enc P f.params.toList s.vars apart W args.toList ds gs before)
  (hres:∀ (b:Nat) (sp:Nat->Bool) (hd:Bool),DataW.TrodAll enc P W' b sp hd f.resultTypes.toList (v.resultList f.resultTypes.size) (s.fn H (ds++gs)).results [])
  (hargs:∀ sp:Nat->Bool,(∀ p∈before,sp p.block=true)->DataW.TrodAll enc P W' 0 sp true f.params.toList args.toList (s.fn H (ds++gs)).args pa)
  (hvars:∀ sp:Nat->Bool,(∀ p∈before,sp p.block=true)->DataW.TrodVars enc P W' sp s.vars (s.fn H (ds++gs)).vars pv)
  (hps:before=pa++pv) (hb:Below W.heap.size W W')
  (hok:∀ (j:Nat) (t:TypeId) (r:Value),f.resultTypes[j]? =some t->(v.resultList f.resultTypes.size)[j]? =some r->Value.okWide P W' .any 0 t r):
  s.post enc P f apart fresh handsOn again W args v W':=by
 have hlt:∀ p∈before,p.block<W.heap.size:=λ p hp=>hW.lt p hp
 have hold:∀ p∈before,(λ b=>decide (b<W.heap.size)) p.block=true:=λ p hp=>by simpa using hlt p hp
 refine⟨ds,gs,before,[],pa,pv,hW,hres _ _ _,hargs _ hold,hvars _ hold,World.keptBut_mono (λ p hp=>⟨hp,?_⟩) (hb.frame (· ∈before)),λ _=> ?_⟩
 .rw[hps,List.mem_append] at hp
  exact Or.inr hp
 .obtain⟨_,_,_,_,_,hz,hn⟩:=hW
  refine⟨hok,_,_,([]++pa)++pv,⟨[]++pa,pv,trodAll_append (hargs _ (λ _ _=>rfl)) (hres _ _ _),hvars _ (λ _ _=>rfl),rfl,?_,?_⟩,?_⟩
  .intro b off hp
   have hin:MemPlace.cell b off∈before:=by rw[hps];simpa using hp
   rw[hb.frozen (hlt _ hin)];exact hz b off hin
  .intro ha
   have:=hn ha;rw[hps] at this
   simpa using this
  .intro p hp _
   rw[hps]
   simpa using hp
theorem CE {f:FuncId}{fn:Func}{spec:ChangeSpec}{tb:TypeId}(d:Nat)(hl:laidOutB P=true)(hts:qw P d fn.params.toList=true)(hres:fn.resultTypes= #[tb])(htb:P.underlying tb=some .bool)(hvars:spec.vars=[])
  (Nt:∀ ds:List (DataW H),ds.length=fn.params.toList.length->(spec.fn H ds).results=[.lit (.bool true)]/\(spec.fn H ds).args=ds/\(spec.fn H ds).vars=[])
  (B:Nat)
  (OU:∀ vY,sF P d fn.params.toList vY->(∀ ds,ds∈vY->eS B ds)->SB P f (uL P fn.params.toList vY) [] 0 0 λ r F=>r=bl true)
  (W:World) (base:Nat) (args:Array Value) (ds gs:List (DataW H)) (before:List MemPlace)
  (hval:∀ (j:Nat) t v,fn.params[j]? =some t->args[j]? =some v->Value.okWide P W .any base t v)
  (hW:DataW.Whole enc P fn.params.toList spec.vars false W args.toList ds gs before) (hG:qn (kU W)) (hB:∀ n,n∈DataW.weightsEach P fn.params.toList ds->n<=B):
  Calls P f args W λ e W'=>∃ v,e= .returned v/\spec.post enc P fn false true false false W args v W':=by
 have hW':=hW;obtain⟨p,q,hA,hV,rfl,hfz,oH⟩:=hW;rw[hvars] at hV;obtain⟨rfl,rfl⟩:=trodVars_none hV;obtain⟨vY,h1,h2,h3,h4⟩:=zm (P:=P) (d:=d) (λ n=>n<0) (λ _=>⟨0,0,true⟩) fn.params.toList args.toList ds p hts hA λ j t v ht hv=>hval j t v (by simpa using ht) (by simpa using hv)
 refine((OU vY h1 (h4 B hB)).2.2.2 (λ _=>⟨0,0,true⟩) (kU W) W args h2 ⟨⟨λ b o v h=>h,hG⟩,λ n ob h=>by simp[bA] at h,λ n m h=>by simp[bA] at h⟩).mono ?_;rintro e W' ⟨r,F',bh,M',u,rfl,rfl,_,_,hr,_,hE⟩;have hu:u= .bool true:=by simpa[dh,bQ] using hr
 subst hu;have hb:Below W.heap.size W W':=⟨hE.os,hE.tape.1,hE.output,hE.size,λ b hb=>(hE.frame b hb λ n hn=>by simp[bA] at hn).1⟩;obtain⟨s1,s2,s3⟩:=Nt (ds++[]) (by simpa using h3);refine⟨_,rfl,wj (pa:=p) (pv:=[]) hW' (λ b sp hd=> ?_) (λ sp hsp=> ?_) (λ sp hsp=> ?_) rfl hb ?_⟩
 .rw[s1,hres]
  exact trodAll_cons_mk (shut_bool htb _) trodAll_mk0
 .rw[s2]
  simp only[List.append_nil] at hsp ⊢;exact qg hl _ _ _ _ hts hA (λ x hx=>hb.same (hW'.lt x (by simpa using hx))) hsp
 .rw[hvars,s3]
  rfl
 .exact ok_one hres rfl (okWide_bool_mk htb _)
end
end Go.Sl
namespace Go.Sl
open Go.RowKit
mutual
def SV.gz (n len:Nat)(ds:List DV):SV->SV
 | .gs m l=>if m=n then (if l=len then .d (.sl len ds) else .any) else .gs m l
 | .agg cs=> .agg (SV.jX n len ds cs)
 | .de cs=> .de (SV.jX n len ds cs)
 | s=>s
def SV.jX (n len:Nat)(ds:List DV):List SV->List SV
 | []=>[]
 | c::cs=>c.gz n len ds::SV.jX n len ds cs
end
def iM (n len:Nat)(ds:List DV)(env:List (Nat×SV)):List (Nat×SV):=env.map λ x=>(x.1,x.2.gz n len ds)
theorem kX (n len:Nat)(ds:List DV):∀ (env:List (Nat×SV)) (t:Nat),(iM n len ds env).lookup t=(env.lookup t).map (SV.gz n len ds)
 | [],t=>rfl
 | (q,s)::env,t=>by
  simp only[iM,List.map_cons,List.lookup];cases t == q
  .exact kX n len ds env t
  .rfl
mutual
theorem SV.pI {p:Nat->Prop}{μ:Nat->Nm}{M:Mem}{n len:Nat}{ds:List DV}(hg:∀ v,Rp p μ M (.gs n len) v->Rp p μ M (.d (.sl len ds)) v):∀ (s:SV) (v:Value),Rp p μ M s v->Rp p μ M (s.gz n len ds) v
 | .gs m l,v,h=>by
  simp only[SV.gz]
  split
  .rename_i e;subst e
   split
   .rename_i e;subst e
    exact hg v h
   .exact Rp.any
  .exact h
 | .agg cs,v,h=>by
  obtain⟨vs,e,h1⟩:=Rp.eM.1 h;simp only[SV.gz];exact Rp.eM.2 ⟨vs,e,SV.oI hg cs _ h1⟩
 | .de cs,v,h=>by
  obtain⟨vs,e,h1⟩:=Rp.dX.1 h;simp only[SV.gz];exact Rp.dX.2 ⟨vs,e,SV.oI hg cs _ h1⟩
 | .d _,v,h=>h
 | .ptr _ _,v,h=>h
 | .vp _ _,v,h=>h
 | .bs _ _ _,v,h=>h
 | .mp _,v,h=>h
 | .it _,v,h=>h
 | .yl _,v,h=>h
 | .fn _ _ _,v,h=>h
 | .any,v,h=>h
theorem SV.oI {p:Nat->Prop}{μ:Nat->Nm}{M:Mem}{n len:Nat}{ds:List DV}(hg:∀ v,Rp p μ M (.gs n len) v->Rp p μ M (.d (.sl len ds)) v):∀ (s:List SV) (v:List Value),aV p μ M s v->aV p μ M (SV.jX n len ds s) v
 | [],v,h=>h
 | c::cs,v,h=>by
  obtain⟨u,us,e,h1,h2⟩:=aV.aD.1 h;simp only[SV.jX];exact aV.aD.2 ⟨u,us,e,SV.pI hg c u h1,SV.oI hg cs us h2⟩
end
theorem aV.Kw {p:Nat->Prop}{μ:Nat->Nm}{M:Mem}{ds:List DV}{vs:List Value}(h:aV p μ M (ds.map .d) vs){i:Nat}{x:DV}(hi:ds[i]? =some x):∃ u,vs[i]? =some u/\bQ M x u:=by
 obtain⟨u,hu,hr⟩:=h.get (i:=i) (c:= .d x) (by simp[hi]);exact⟨u,hu,Rp.cI.1 hr⟩
section
variable {P:Program} {N k0:Nat} {st:St} {Q:Exit->St->Prop}
theorem iC.freeze {cF:Nat->Nm}{M0:Mem}{w0:World}{c0:Nat->Option Ob}{a:Act}{w:World}(n:Nat){e sz len:Nat}{cs:List SV}{ds:List DV}(hn:lk st.hp n=some (.arr e sz len cs))(hcs:cs=ds.map .d)
    (h:iC N cF M0 w0 c0 k0 st a w):iC N cF M0 w0 c0 k0 ⟨iM n len ds st.env,bY st.hp n,st.k⟩ a w:=by
  subst hcs;obtain⟨lW,hdf,hsz,μ,M,fq,hS,hE⟩:=h;obtain⟨hpn,br,hMn⟩:=hS.obs n _ hn;rcases br with⟨hdead,hl0,hds⟩|⟨hlive,vs,hb,hl1,hl2,MV,hl4,hr⟩
  . have hd0:ds=[]:=by simpa using hds
    subst hd0;subst hl0;have hg:∀ v,Rp (· <st.k) μ M (.gs n 0) v->Rp (· <st.k) μ M (.d (.sl 0 [])) v:=λ v hv=>by
      refine Rp.cI.2 ?_;simp only[bQ];obtain⟨h,_⟩|⟨_,_,A,e1⟩:=hv.l5
      . rw[hdead] at h;cases h
      . exact⟨A,0,e1,Nat.le_refl _,λ _=>trivial,λ h=>absurd h (Nat.lt_irrefl _)⟩
    have hsub:∀ m ob,lk (bY st.hp n) m=some ob->lk st.hp m=some ob:=λ m ob hm=>by
      rw[cZ] at hm
      split at hm
      . cases hm
      . exact hm
    refine⟨lW,hdf,hsz,μ,M,λ t s hs=> ?_,hS.sub hsub,hE.yV λ m hm=> ?_⟩
    . rw[kX] at hs
      obtain⟨s',hs',rfl⟩:=Option.map_eq_some_iff.1 hs;exact SV.pI hg s' _ (fq t s' hs')
    . obtain⟨o1,ho1⟩:=Option.ne_none_iff_exists'.1 hm
      rw[hsub m o1 ho1];simp
  have hMn:=hMn hlive;have hlen:ds.length=len*sz:=by simpa using hl1
  let M':Mem:=λ b o=>if b=(μ n).blk then (if o<len*sz then vs[o]? else none) else M b o
  have hne:∀ b,b≠(μ n).blk->∀ o,M' b o=M b o:=λ b hb o=>by simp[M',hb]
  have hle:Mem.le M M':=λ b o v hv=>by
    have:b≠(μ n).blk:=λ e=>by rw[e,hMn] at hv;cases hv
    rw[hne b this];exact hv
  have hoth:∀ m,lk st.hp m≠none->m≠n->(μ m).live=true->(μ m).blk≠(μ n).blk:=λ m hm hmn lm e=>hmn (hS.inj m n hm (by rw[hn];simp) lm hlive e)
  have hsub:∀ m ob,lk (bY st.hp n) m=some ob->lk st.hp m=some ob/\m≠n:=λ m ob hm=>by
    rw[cZ] at hm
    split at hm
    . cases hm
    . rename_i e;exact⟨hm,e⟩
  have hg:∀ v,Rp (· <st.k) μ M' (.gs n len) v->Rp (· <st.k) μ M' (.d (.sl len ds)) v:=λ v hv=>by
    obtain⟨_,e1⟩|⟨h,_⟩:=hv.l5
    rotate_left
    . rw[hlive] at h;cases h
    refine Rp.cI.2 ?_;simp only[bQ];refine⟨_,_,e1,hl2,λ h0=> ?_,λ _=>⟨_,_,rfl,dD.mk λ i c hi=> ?_⟩⟩
    . subst h0
      simp at hlen;exact hlen
    . obtain⟨u,hu,hru⟩:=hr.Kw hi
      have hil:i<len*sz:=by rw[<- hlen];exact(List.getElem?_eq_some_iff.1 hi).1
      refine⟨u,?_,bQ.mono hle _ _ hru⟩;rw[List.getElem?_take_of_lt hil] at hu;simp only[M',if_true,Nat.zero_add,hil]
      simpa using hu
  refine⟨lW,hdf,hsz,μ,M',λ t s hs=> ?_,⟨⟨λ b o v hv=> ?_,hS.mem.kJ.le hle⟩,λ m ob hm=> ?_,λ m m' hm hm' lm lm' e=> ?_⟩,⟨hE.old,Mem.le_trans hE.mem hle,λ b hb0 hf=> ?_,hE.size,λ m hm=> ?_,hE.os,hE.tape,hE.output⟩⟩
  . rw[kX] at hs
    obtain⟨s',hs',rfl⟩:=Option.map_eq_some_iff.1 hs;exact SV.pI hg s' _ ((fq t s' hs').more (λ _ h=>h) (λ _ _=>rfl) hle)
  . by_cases hbn:b=(μ n).blk
    . subst hbn
      simp only[M',if_true] at hv
      split at hv
      . rw[cell_of hb];exact hv
      . cases hv
    . rw[hne b hbn] at hv
      exact hS.mem b o v hv
  . obtain⟨hm1,hmn⟩:=hsub m ob hm
    obtain⟨a1,a2,a3⟩:=hS.obs m ob hm1;refine⟨a1,a2.more (λ _ h=>h) (λ _ _=>rfl) hle λ _=>rfl,λ lm o=> ?_⟩;rw[hne _ (hoth m (by rw[hm1];simp) hmn lm)];exact a3 lm o
  . obtain⟨o1,ho1⟩:=Option.ne_none_iff_exists'.1 hm
    obtain⟨o2,ho2⟩:=Option.ne_none_iff_exists'.1 hm';exact hS.inj m m' (by rw[(hsub m o1 ho1).1];simp) (by rw[(hsub m' o2 ho2).1];simp) lm lm' e
  . have hbn:b≠(μ n).blk:=λ e=>by
      rcases hE.names n (by rw[hn];simp) with⟨_,hh⟩|⟨h,h'⟩
      . rcases hh hlive with h|⟨m,hm,lm,e'⟩
        . omega
        . exact hf m hm lm (e'.trans e.symm)
      . rw[hE.old n h] at e hlive
        exact hf n h' hlive e.symm
    obtain⟨f1,f2⟩:=hE.frame b hb0 hf;exact⟨f1,λ o=>by rw[hne b hbn];exact f2 o⟩
  . obtain⟨o1,ho1⟩:=Option.ne_none_iff_exists'.1 hm
    exact hE.names m (by rw[(hsub m o1 ho1).1];simp)
theorem SW.freeze {s:bK}(n:Nat){e sz len:Nat}{cs:List SV}(ds:List DV)(hn:lk st.hp n=some (.arr e sz len cs))(hcs:cs=ds.map .d)(h:SW P N k0 s ⟨iM n len ds st.env,bY st.hp n,st.k⟩ Q):SW P N k0 s st Q:=
 λ c hc rd hrf cF M0 w0 c0 a w fM=>h c hc rd hrf cF M0 w0 c0 a w (fM.freeze n hn hcs)
theorem iC.iN {cF:Nat->Nm}{M0:Mem}{w0:World}{c0:Nat->Option Ob}{a:Act}{w:World}(t:Nat)(e sz:Nat)(ht:st.env.lookup t=some (.d .aG))(h:iC N cF M0 w0 c0 k0 st a w):
    iC N cF M0 w0 c0 k0 ⟨(t,.gs st.k 0)::st.env,(st.k,.arr e sz 0 [])::st.hp,st.k+1⟩ a w:=by
  obtain⟨lW,hdf,hsz,μ,M,fq,hS,hE⟩:=h;have hmu:=uu (μ:=μ) (m:=⟨0,0,false⟩) (p:=(· <st.k)) (k:=st.k) (Nat.lt_irrefl _);have hup:∀ n,n<st.k->n<st.k+1:=λ n h=>by omega
  have hlt:∀ n ob,lk st.hp n=some ob->n<st.k:=λ n ob h=>(hS.obs n ob h).1
  refine⟨by show k0<=st.k+1;omega,hdf,hsz,yW μ st.k ⟨0,0,false⟩,M,λ u s hs=> ?_,⟨hS.mem,λ n ob hn=> ?_,λ n m hn hm ln lm e=> ?_⟩,⟨λ n hn=> ?_,hE.mem,hE.frame,hE.size,λ n hn=> ?_,hE.os,hE.tape,hE.output⟩⟩
  . rw[ny] at hs
    split at hs
    . rename_i e1
      subst e1;injection hs with hs;subst hs;have h1:=(fq t _ ht).rep;simp only[dh,bQ] at h1;intro ν ic;simp only[dh];rw[ic st.k (Nat.lt_succ_self _),bz];exact .inr ⟨rfl,trivial,none,h1⟩
    . exact(fq u s hs).more hup hmu (Mem.le_refl M)
  . rw[aa] at hn
    split at hn
    . rename_i e1
      subst e1;injection hn with hn;subst hn;rw[bz];exact⟨Nat.lt_succ_self _,.inl ⟨rfl,rfl,rfl⟩,λ h=>by cases h⟩
    . obtain⟨a1,a2,a3⟩:=hS.obs n ob hn
      rw[hmu n a1];exact⟨hup n a1,a2.more hup hmu (Mem.le_refl M) λ _=>rfl,a3⟩
  . rw[aa] at hn hm
    by_cases e1:n=st.k
    . subst e1;rw[bz] at ln;cases ln
    . by_cases e2:m=st.k
      . subst e2;rw[bz] at lm;cases lm
      . rw[if_neg e1] at hn
        rw[if_neg e2] at hm;obtain⟨o1,ho1⟩:=Option.ne_none_iff_exists'.1 hn;obtain⟨o2,ho2⟩:=Option.ne_none_iff_exists'.1 hm;rw[hmu n (hlt n o1 ho1)] at e ln;rw[hmu m (hlt m o2 ho2)] at e lm;exact hS.inj n m hn hm ln lm e
  . simp only at hn
    by_cases e1:n=st.k
    . subst e1;omega
    . rw[eU _ _ _ e1];exact hE.old n (by omega)
  . rw[aa] at hn
    by_cases e1:n=st.k
    . subst e1
      rw[bz];exact .inl ⟨⟨by omega,Nat.lt_succ_self _⟩,λ h=>by cases h⟩
    . rw[if_neg e1] at hn
      obtain⟨o1,ho1⟩:=Option.ne_none_iff_exists'.1 hn;rw[hmu n (hlt n o1 ho1)];rcases hE.names n hn with⟨b1,b2⟩|⟨b1,b2⟩
      . exact .inl ⟨⟨b1.1,by have:=b1.2;show n<st.k+1;omega⟩,b2⟩
      . refine .inr ⟨λ h=> ?_,b2⟩
        have:n<st.k:=hlt n o1 ho1;exact b1 ⟨h.1,this⟩
theorem SW.iN {s:bK}(t:Nat)(e sz:Nat)(ht:st.env.lookup t=some (.d .aG))(h:SW P N k0 s ⟨(t,.gs st.k 0)::st.env,(st.k,.arr e sz 0 [])::st.hp,st.k+1⟩ Q):SW P N k0 s st Q:=
 λ c hc rd hrf cF M0 w0 c0 a w fM=>h c hc rd hrf cF M0 w0 c0 a w (fM.iN t e sz ht)
theorem bQ.l_ {M:Mem}{v:Value}(h:bQ M .aG v):bQ M (.sl 0 []) v:=by
 simp only[bQ] at h ⊢;exact⟨none,0,h,Nat.le_refl _,λ _=>trivial,λ h=>absurd h (Nat.lt_irrefl _)⟩
theorem SC.args {f:FuncId}{args args':List SV}{F:Hp}{k nk:Nat}{Q:SV->Hp->Prop}(ha:∀ (p:Nat->Prop) μ M vs,aV p μ M args' vs->aV p μ M args vs)(h:SC P f args F k nk Q):SC P f args' F k nk Q:=
 ⟨h.1,λ p μ M w vals h1 h2 h3=>h.2 p μ M w vals h1 (ha p μ M _ h2) h3⟩
end
theorem SV.wY {ρ:Nat->Nat}:∀ {l:List SV},SV.au (λ n=>decide (n<0)) l=true->SV.aU ρ l=l
 | [],_=>rfl
 | c::cs,h=>by
  simp only[SV.au,Bool.and_eq_true] at h;simp only[SV.aU,SV.wW c h.1,SV.wY h.2]
def fz (ns:List Nat)(k:Nat)(i:Nat):Nat:=match ns[i]? with
 | some n=>n
 | none=>i - ns.length+k
theorem EM:∀ {h:Hp} {n:Nat} {ob:Ob},(n,ob)∈h->∃ kM,lk h n=some kM
 | [],n,ob,h=>by simp at h
 | (m,o)::h,n,ob,hm=>by
  rw[aa]
  by_cases e:n=m
  .exact⟨o,by simp[e]⟩
  .rw[if_neg e]
   rcases List.mem_cons.1 hm with h1|h1
   .injection h1 with h1 _;exact absurd h1 e
   .exact EM h1
theorem SB.nB {P:Program}{f:FuncId}{args:List SV}{F F':Hp}{nk:Nat}{r:SV}(ns:List Nat)(h:SB P f args F ns.length nk λ r' F1=>r'=r/\F1=F')(hd:ns.Nodup)(hF:∀ i,i<ns.length->lk F i≠none)(k:Nat):
  aF P f (SV.aU (fz ns k) args) (F.aC (fz ns k)) k nk (r.aC (fz ns k)) (F'.aC (fz ns k)):=by
 have hlt:∀ i,i<ns.length->ns[i]? =some (fz ns k i):=λ i hi=>by simp[fz,hi]
 have:=SB.at h (fz ns k) k (λ n m hn hm e=> ?_) (λ n hn p μ M w vals _ hS=> ?_) (λ i hi=> ?_)
 .refine this.mono ?_
  rintro r' F1 ⟨r0,F0,⟨rfl,rfl⟩,rfl,rfl⟩;exact⟨rfl,rfl⟩
 .have h1:=hlt n hn
  have h2:=hlt m hm;rw[e] at h1;exact(List.getElem?_inj hn hd).1 (h1.trans h2.symm)
 .obtain⟨ob,ho⟩:=Option.ne_none_iff_exists'.1 (hF n hn)
  have hm:(fz ns k n,ob.aC (fz ns k))∈F.aC (fz ns k):=List.mem_map.2 ⟨(n,ob),kQ ho,rfl⟩;obtain⟨kM,ho'⟩:=EM hm;exact(hS.obs _ _ ho').1
 .simp[fz];omega
theorem SB.new {P:Program}{f:FuncId}{args:List SV}{F':Hp}{nk:Nat}{r:SV}(h:SB P f args [] 0 nk λ r' F1=>r'=r/\F1=F')(k:Nat):
  aF P f args [] k nk (r.aC (fz [] k)) (F'.aC (fz [] k)):=by
 have:=SB.nB [] h (by simp) (λ i hi=>absurd hi (Nat.not_lt_zero i)) k
 rwa [SV.wY h.2.1] at this
@[simp] theorem Nu (h:Hp):HSub [] h↔True:=⟨λ _=>trivial,λ _=>HSub.nil h⟩
@[simp] theorem Nv (h:Hp) (n:Nat) (ob:Ob):HSub [(n,ob)] h↔lk h n=some ob:=by
 refine⟨λ hs=>hs n ob (by simp[cU]),λ hs m kM hm=> ?_⟩;rw[cU] at hm
 split at hm
 .rename_i e;subst e;simp at hm;subst hm;exact hs
 .cases hm
def aB.zero:aB:=⟨0,0,0,0,0,0,0,0⟩
theorem aB.aM:[SV.d (.int .u32 0),.d (.int .u32 0),.d (.int .u32 0),.d (.int .u32 0),.d (.int .u32 0),.d (.int .u32 0),.d (.int .u32 0),.d (.int .u32 0)]=aB.zero.cells:=rfl
@[simp] theorem aB.bk (v:aB):v.cells.take 8=v.cells:=rfl
theorem aB.bB (u v:aB):cq u.cells 0 v.cells=v.cells:=rfl
theorem aB.BQ (v:aB){i:Nat}(h:i<8)(x:Nat):cq v.cells i [.d (.int .u32 (x:Int))]=(v.set i x).cells:=aB.CD v h x
attribute [simp] aB.jc aB.kT aB.aj aB.kS
theorem aB.aA (v:aB)(ρ:Nat->Nat):SV.aU ρ v.cells=v.cells:=rfl
def aB.zip (f:Nat->Nat->Nat)(a b:aB):aB:=aB.of λ r=>f (a.get r) (b.get r)
def aB.upto (i:Nat)(a b:aB):aB:=aB.of λ r=>if r<i then a.get r else b.get r
theorem aB.CF (a b:aB):aB.upto 0 a b=b:=aB.ext' λ r hr=>by simp[aB.upto,aB.uI _ hr]
theorem aB.EO (a b:aB):aB.upto 8 a b=a:=aB.ext' λ r hr=>by simp[aB.upto,aB.uI _ hr,hr]
theorem aB.CG (a b:aB){i:Nat}(h:i<8):(aB.upto i a b).set i (a.get i)=aB.upto (i+1) a b:=aB.ext' λ r hr=>by
 simp only[aB.set,aB.upto,aB.uI _ hr]
 by_cases e:r=i
 .subst e;simp
 .by_cases e2:r<i
  .simp[e,e2,show r<i+1 by omega]
  .simp[e,e2,show ¬ r<i+1 by omega]
@[simp] theorem Nw (l:List aB):(l.flatMap aB.ds).length=l.length*8:=dU aB.ds 8 (λ _=>rfl) l
theorem bt {α:Type}{l:List α}{i:Nat}{x:α}(h:l[i]? =some x):l.take (i+1)=l.take i++[x]:=by
 rw[List.take_add_one,h];rfl
theorem cu {α:Type}{l:List α}{i:Nat}{x:α}(h:l[i]? =some x):i<l.length:=(List.getElem?_eq_some_iff.1 h).1
theorem aP {α:Type}{l:List α}{i:Nat}(h:i<l.length):∃ x,l[i]? =some x:=⟨_,List.getElem?_eq_getElem h⟩
theorem aB.zn (a b:aB):jD [true,true,true,true,true,true,true,true] a.cells b.cells=some (decide (a=b)):=aB.qJ a b
structure Dt where
 (r n:Nat)
 deriving DecidableEq
def Dt.ds (d:Dt):List DV:=[.int .u8 d.r,.int .u32 d.n]
def Dt.cells (d:Dt):List SV:=[u8 d.r,u32 d.n]
theorem Dt.kS (d:Dt):d.ds.map .d=d.cells:=rfl
@[simp] theorem Dt.kT (d:Dt):d.ds.length=2:=rfl
@[simp] theorem Dt.jc (d:Dt):d.cells.length=2:=rfl
@[simp] theorem Dt.aj (d:Dt) (q:Nat->Bool):SV.au q d.cells=true:=rfl
theorem Dt.aA (d:Dt)(ρ:Nat->Nat):SV.aU ρ d.cells=d.cells:=rfl
@[simp] theorem Dt.bk (d:Dt):d.cells.take 2=d.cells:=rfl
theorem Dt.AP (d:Dt):d.cells[0]? =some (u8 d.r):=rfl
theorem Dt.AQ (d:Dt):d.cells[1]? =some (u32 d.n):=rfl
theorem Dt.bB (c d:Dt):cq c.cells 0 d.cells=d.cells:=rfl
theorem Dt.aM:[SV.d (.int .u8 0),.d (.int .u32 0)]=(Dt.mk 0 0).cells:=rfl
theorem Dt.fV (c:Dt)(a b:Nat):cq (cq c.cells 0 [.d (.int .u8 (a:Int))]) 1 [.d (.int .u32 (b:Int))]=(Dt.mk a b).cells:=rfl
@[simp] theorem Kx (cs:List SV) (o:Nat) (c:SV):(cq cs o [c]).length=cs.length:=by simp[cq]
theorem Iu (cs:List SV)(o:Nat)(c:SV):cq cs o [c]=cs.set o c:=rfl
theorem Dt.cells_one (d:Dt):d.cells.all SV.dR=true:=rfl
theorem Dt.qJ (a b:Dt):jD [true,true] a.cells b.cells=some (decide (a=b)):=by
 have h:jD [true,true] a.cells b.cells=some (((a.r:Int) == b.r) && (((a.n:Int) == b.n) && true)):=by simp[jD,HP,Dt.cells]
 rw[h]
 congr 1
 obtain⟨a0,a1⟩:=a;obtain⟨b0,b1⟩:=b;rw[Bool.eq_iff_iff];simp;omega
abbrev Dt.zero:Dt:=⟨0,0⟩
def Dt.may (d:Dt):Bool:=decide (d.r<8) && decide (0<d.n)
def Dt.wf (d:Dt):Prop:=d.r<256/\d.n<4294967296
abbrev bg (l:List Dt):SV:= .d (.sl l.length (l.flatMap Dt.ds))
@[simp] theorem kY (l:List Dt):(l.flatMap Dt.ds).length=l.length*2:=dU Dt.ds 2 (λ _=>rfl) l
theorem b_ {l:List Dt}{i:Nat}{x:Dt}(h:l[i]? =some x):List.take 2 (List.drop (i*2) (List.map SV.d (l.flatMap Dt.ds)))=x.cells:=by
 rw[<- List.map_drop,<- List.map_take,gw Dt.ds 2 (λ _=>rfl) l i x h];rfl
section
variable {P:Program} {N k0:Nat} {st:St} {Q:Exit->St->Prop}
theorem SW.slot {c:bK}(t:Nat){s:SV}(s':SV)(hl:st.env.lookup t=some s)(hs:∀ (p:Nat->Prop) μ M v,Rp p μ M s v->Rp p μ M s' v)(h:SW P N k0 c ⟨(t,s')::st.env,st.hp,st.k⟩ Q):SW P N k0 c st Q:=by
 refine λ cc hc rd hrf cF M0 w0 c0 a w fM=>h cc hc rd hrf cF M0 w0 c0 a w ?_
 obtain⟨lW,hdf,hsz,μ,M,fq,hS,hE⟩:=fM;refine⟨lW,hdf,hsz,μ,M,λ q x hq=> ?_,hS,hE⟩;simp only[List.lookup] at hq
 split at hq
 .rename_i e
  have e:q=t:=by simpa using e
  injection hq with hq;subst e;subst hq;exact hs _ _ _ _ (fq q s hl)
 .exact fq q x hq
theorem l_ (p:Nat->Prop)(μ:Nat->Nm)(M:Mem)(v:Value)(h:Rp p μ M (.d .aG) v):Rp p μ M (.d (.sl 0 [])) v:=Rp.cI.2 (Rp.cI.1 h).l_
theorem SW.aG {c:bK}(t:Nat)(hl:st.env.lookup t=some (.d .aG))(h:SW P N k0 c ⟨(t,.d (.sl 0 []))::st.env,st.hp,st.k⟩ Q):SW P N k0 c st Q:=SW.slot t _ hl l_ h
end
end Go.Sl
namespace Go.Sl
section
namespace Co
def M (d s:Nat):SI:=⟨some d,.mv (.t s),none⟩
def G (d s g:Nat)(b:Bool):SI:=⟨some d,.mv (.t s),some (g,b)⟩
def J (d:Nat)(o:SO):SI:=⟨some d,o,none⟩
def H (d:Nat)(o:SO)(g:Nat)(b:Bool):SI:=⟨some d,o,some (g,b)⟩
def N (o:SO):SI:=⟨none,o,none⟩
def F (l:List SI)(n:Nat):bK:= .fD l (oo n) false
def C (f:FuncId):X:= .k (.fn (.func f) [] [])
def Z (n:Int):X:= .k (.d (.int .i64 n))
def B (b:Bool):X:= .k (.d (.bool b))
def b8 (n:Int):SV:= .d (.int .u8 n)
def ay (n:Int):SV:= .d (.int .u32 n)
def bu (n:Int):SV:= .d (.int .u64 n)
def i6 (n:Int):SV:= .d (.int .i64 n)
def z8:List SV:=[.d (.int .u32 0),.d (.int .u32 0),.d (.int .u32 0),.d (.int .u32 0),.d (.int .u32 0),.d (.int .u32 0),.d (.int .u32 0),.d (.int .u32 0)]
def bC:List SV:=[.d (.int .u8 0),.d (.int .u32 0),.d (.int .u32 0),.d (.int .u32 0),.d (.int .u32 0),.d (.int .u32 0),.d (.int .u32 0),.d (.int .u32 0),.d (.int .u32 0),.d (.int .u32 0),.d (.int .u64 0),.d (.int .u32 0),.d (.int .u8 0),.d (.int .u32 0),.d (.int .u8 0),.d (.int .u8 0),.d (.int .u32 0),.d (.int .u32 0),.d (.int .u8 0),.d (.int .u8 0),.d (.int .u64 0),.d (.int .u8 0),.d (.int .u32 0),.d (.int .u8 0),.d (.int .u32 0),.d (.int .u32 0),.d (.int .u32 0),.d (.int .u32 0),.d .aG]
def T (d a:Nat):SI:=⟨some d,.load none (.t a),none⟩
def K (d n a:Nat):SI:=⟨some d,.load (some n) (.t a),none⟩
def E (d i a:Nat):SI:=⟨some d,.ext i (.t a),none⟩
def L (d a:Nat):SI:=⟨some d,.len (.t a),none⟩
def P (d f a:Nat):SI:=⟨some d,.call (.k (.fn (.func f) [] [])) [.t a],none⟩
def Q (d f a b:Nat):SI:=⟨some d,.call (.k (.fn (.func f) [] [])) [.t a,.t b],none⟩
def R (d f a b c:Nat):SI:=⟨some d,.call (.k (.fn (.func f) [] [])) [.t a,.t b,.t c],none⟩
def x (d n a:Nat):SI:=⟨some d,.box n (.t a),none⟩
def W (n a b:Nat):SI:=⟨none,.store n (.t a) (.t b),none⟩
def Y (d:Nat)(o:BinOp)(a:Nat)(n:Int):SI:=⟨some d,.bin o (.t a) (.k (.d (.int .i64 n))),none⟩
def V (d:Nat)(o:BinOp)(a b:Nat):SI:=⟨some d,.bin o (.t a) (.t b),none⟩
def U (d a b:Nat):SI:=⟨some d,.pick (.t a) (.t b) (.k (.d (.bool false))),none⟩
def O (d a:Nat):SI:=⟨some d,.not (.t a),none⟩
def D (d o a:Nat):SI:=⟨some d,.a_ o (.t a),none⟩
def A (d a:Nat):SI:=⟨some d,.dM (.t a),none⟩
def I (d n a b:Nat):SI:=⟨some d,.dz n (.t a) (.t b),none⟩
def S (a b:bK):bK:= .seq a b
end Co
def En (P:Program)(f:FuncId)(N:Nat)(s:bK)(rv:List RV):Prop:=
 ∀ {args:List SV} {F:Hp} {k nk:Nat} {Q:SV->Hp->Prop} (_:SV.au (λ n=>decide (n<k)) args=true) (_:F.ok (λ n=>decide (n<k))=true) (_:args.length<=N)
  (_:SW P N k s ⟨lX 0 args,F,k⟩ λ e st'=>match e with | .normal=>Fin k nk rv Q st' | .ret=>Fin k nk rv Q st'|_=>False),SB P f args F k nk Q
theorem En.mk {P:Program}{f N:Nat}{fn:Func}{c:Code}{s:bK}{rv:List RV}(hf:P.funcs[f]? =some fn)(hN:fn.ntmps=N:=by rfl)(hb:fn.body=some c:=by kernel_rfl)(hc:cK P fn.ntmps c=some s:=by kernel_rfl)(hr:Ir P fn.results.toList=some rv:=by kernel_rfl)(ha:jV P f=true:=by kernel_rfl):En P f N s rv:=by
 subst hN;intro args F k nk Q h1 h2 h3 h;exact SB.Is hf hb hc hr ha h1 h2 h3 h
end
section
def aB.jF (v:aB)(d:Dt):Bool:=d.may && decide (d.n<=v.get d.r)
def aB.above (a b:aB):Bool:=(List.range 8).all λ r=>decide (b.get r<=a.get r)
theorem aB.CH {a b:aB}:a.above b=true↔∀ r,r<8->b.get r<=a.get r:=by simp[aB.above]
theorem aB.BR (f:Nat->Nat->Nat)(a b:aB){r:Nat}(h:r<8):(aB.zip f a b).get r=f (a.get r) (b.get r):=by simp[aB.zip,aB.uI _ h]
theorem aB.zo (a b:aB):decide (aB.zip max a b=a)=a.above b:=by
 rw[Bool.eq_iff_iff,decide_eq_true_eq,aB.CH];constructor
 .intro h r hr
  have:=aB.BR max a b hr;rw[h] at this;omega
 .intro h
  exact aB.ext' λ r hr=>by rw[aB.BR _ _ _ hr];have:=h r hr;omega
def aB.count (v:aB):Nat:=v.a0+v.a1+v.a2+v.a3+v.a4+v.a5+v.a6+v.a7
def aB.next (v:aB)(r:Nat):Dt×Nat:=if 8<=r then (Dt.zero,2) else if v.get r=4294967295 then (Dt.zero,6) else (⟨r,v.get r+1⟩,0)
def aB.put (v:aB)(d:Dt):aB×Nat:=if d.may=false then (aB.zero,2) else if d.n≠v.get d.r+1 then (aB.zero,9) else (v.set d.r d.n,0)
theorem wrap_u32 (n:Nat)(h:n<4294967296):IntKind.u32.wrap (n:Int)=n:=by
 simp[IntKind.wrap,IntKind.bits,IntKind.signed];omega
theorem wrap_u64 (n:Nat)(h:n<18446744073709551616):IntKind.u64.wrap (n:Int)=n:=by
 simp[IntKind.wrap,IntKind.bits,IntKind.signed];omega
theorem wrap_u8 (n:Nat)(h:n<256):IntKind.u8.wrap (n:Int)=n:=by
 simp[IntKind.wrap,IntKind.bits,IntKind.signed];omega
theorem aB.qx (a b c d e f g h:SV)(r:List SV)(v:aB):cq (a::b::c::d::e::f::g::h::r) 0 v.cells=v.cells++r:=rfl
theorem aB.AR (u v:aB)(r:List SV):cq (u.cells++r) 8 v.cells=u.cells++cq r 0 v.cells:=rfl
theorem aB.uM (u v:aB)(r:List SV):cq (u.cells++r) 16 v.cells=u.cells++cq r 8 v.cells:=rfl
theorem aB.uN (u v:aB)(r:List SV):cq (u.cells++r) 24 v.cells=u.cells++cq r 16 v.cells:=rfl
theorem aB.dO (u:aB)(r:List SV):e_ (u.cells++r)=match e_ r with|some x=>some (u.ds++x)|none=>none:=by
 cases h:e_ r<;>simp[aB.cells,e_,h,aB.ds]
theorem aB.dP (u:aB):e_ u.cells=some u.ds:=rfl
theorem Dt.qx (a b:SV)(r:List SV)(v:Dt):cq (a::b::r) 0 v.cells=v.cells++r:=rfl
theorem Dt.AS (u v:Dt)(r:List SV):cq (u.cells++r) 2 v.cells=u.cells++cq r 0 v.cells:=rfl
theorem Dt.dO (u:Dt)(r:List SV):e_ (u.cells++r)=match e_ r with|some x=>some (u.ds++x)|none=>none:=by
 cases h:e_ r<;>simp[Dt.cells,e_,h,Dt.ds]
theorem Dt.dP (u:Dt):e_ u.cells=some u.ds:=rfl
theorem nC (l:List DV):(l.map SV.d).all SV.dR=true:=by simp[SV.dR]
def EP (r a c:Nat):List Dt:=(List.range c).map λ i=>⟨r,a+i⟩
@[simp] theorem Ly (r a c:Nat):(EP r a c).length=c:=by simp[EP]
theorem SV.mc (ρ:Nat->Nat):∀ (a b:List SV),SV.aU ρ (a++b)=SV.aU ρ a++SV.aU ρ b
 | [],b=>rfl
 | x::a,b=>by simp[SV.aU,SV.mc ρ a b]
theorem SV.kZ (q:Nat->Bool):∀ (a b:List SV),SV.au q (a++b)=(SV.au q a && SV.au q b)
 | [],b=>rfl
 | x::a,b=>by simp[SV.au,SV.kZ q a b,Bool.and_assoc]
theorem ER {α:Type}{l m:List α}(hl:l.length=m.length)(h:∀ j,j<l.length->l[j]? =m[j]?):l=m:=by
 apply List.ext_getElem?;intro j
 by_cases hj:j<l.length
 .exact h j hj
 .rw[List.getElem?_eq_none (by omega),List.getElem?_eq_none (by omega)]
theorem uO:(false == true)=false:=rfl
theorem uP:(true == false)=false:=rfl
end
section
theorem iO (es:List (Nat×SV×SV))(c:Nat)(k v:SV):kf es c k v none= .map (es++[(c,k,v)]) (c+1):=rfl
theorem iP (es:List (Nat×SV×SV))(c:Nat)(k v:SV)(i:Nat):kf es c k v (some i)= .map (es.modify i λ e=>(e.1,e.2.1,v)) c:=rfl
theorem iQ (es:List (Nat×SV×SV))(c:Nat):yY es c none= .map es c:=rfl
theorem iR (es:List (Nat×SV×SV))(c i:Nat):yY es c (some i)= .map (es.eraseIdx i) c:=rfl
theorem iS (es:List (Nat×SV×SV))(z:SV):fK es z none=z:=rfl
theorem iT (es:List (Nat×SV×SV))(z:SV)(i:Nat):fK es z (some i)=match es[i]? with
 | some e=>e.2.2
 | none=>z:=rfl
section
variable {K V:Type} [DecidableEq K]
abbrev MM (K V:Type):=List (Nat×K×V)
def MM.idx (L:MM K V)(a:K):Option Nat:=L.findIdx? λ x=>decide (a=x.2.1)
def MM.get (L:MM K V)(a:K):Option V:=(L.find? λ x=>decide (a=x.2.1)).map (·.2.2)
def MM.has (L:MM K V)(a:K):Bool:=(MM.get L a).isSome
def MM.keys (L:MM K V):List K:=L.map (·.2.1)
def MM.put (L:MM K V)(c:Nat)(a:K)(v:V):MM K V:=match MM.idx L a with
 | some i=>L.modify i λ x=>(x.1,x.2.1,v)
 | none=>L++[(c,a,v)]
def MM.jA (L:MM K V)(c:Nat)(a:K):Nat:=if MM.has L a then c else c+1
def MM.del (L:MM K V)(a:K):MM K V:=match MM.idx L a with
 | some i=>L.eraseIdx i
 | none=>L
structure MM.wf (L:MM K V)(c:Nat):Prop where
 keys:(MM.keys L).Nodup
 times:(L.map (·.1)).Nodup
 old:∀ x,x∈L->x.1<c
theorem MM.k9 {L:MM K V}{a:K}:MM.idx L a=none↔MM.get L a=none:=by
 unfold MM.idx MM.get
 induction L with
 | nil=>simp
 | cons x L ih=>
  simp only[List.findIdx?_cons,List.find?_cons]
  by_cases h:a=x.2.1
  .simp[h]
  .simp only[h,decide_false,Bool.false_eq_true,if_false,Option.map_eq_none_iff] at ih ⊢
   exact ih
theorem MM.eE {L:MM K V}{a:K}:(MM.idx L a).isSome=MM.has L a:=by
 unfold MM.has;rw[Bool.eq_iff_iff,Option.isSome_iff_ne_none,Option.isSome_iff_ne_none,ne_eq,ne_eq,MM.k9]
theorem MM.tZ:∀ {L:MM K V} {a:K} {i:Nat},MM.idx L a=some i->∃ x,L[i]? =some x/\x.2.1=a/\MM.get L a=some x.2.2
 | [],a,i,h=>by simp[MM.idx] at h
 | x ::L,a,i,h=>by
  unfold MM.idx at h;unfold MM.get;simp only[List.findIdx?_cons,List.find?_cons] at h ⊢
  by_cases e:a=x.2.1
  .simp only[e,decide_true,if_true] at h ⊢
   injection h with h;subst h;exact⟨x,rfl,rfl,rfl⟩
  .simp only[e,decide_false,Bool.false_eq_true,if_false,Option.map_eq_some_iff] at h ⊢
   obtain⟨j,hj,rfl⟩:=h;obtain⟨y,h1,h2,h3⟩:=MM.tZ (L:=L) (a:=a) (i:=j) hj;exact⟨y,by simpa using h1,h2,by simpa[MM.get] using h3⟩
theorem MM.get_mem:∀ {L:MM K V} {a:K} {v:V},MM.get L a=some v->∃ t,(t,a,v)∈L
 | [],a,v,h=>by simp[MM.get] at h
 | x ::L,a,v,h=>by
  unfold MM.get at h;simp only[List.find?_cons] at h
  by_cases e:a=x.2.1
  .simp only[e,decide_true,Option.map_some,Option.some.injEq] at h
   refine⟨x.1,?_⟩;subst h;rw[e];simp
  .simp only[e,decide_false] at h
   obtain⟨t,ht⟩:=MM.get_mem (L:=L) (a:=a) (v:=v) h;exact⟨t,by simp[ht]⟩
theorem MM.ir {L:MM K V}{a:K}:MM.has L a=true↔a∈MM.keys L:=by
 unfold MM.has MM.get MM.keys
 induction L with
 | nil=>simp
 | cons x L ih=>
  simp only[List.find?_cons,List.map_cons,List.mem_cons]
  by_cases e:a=x.2.1
  .simp[e]
  .simp only[e,decide_false,false_or];exact ih
theorem MM.get_of_mem:∀ {L:MM K V} (h:(MM.keys L).Nodup) {t:Nat} {a:K} {v:V},(t,a,v)∈L->MM.get L a=some v
 | [],_,t,a,v,h=>by cases h
 | x ::L,hn,t,a,v,h=>by
  unfold MM.get;simp only[MM.keys,List.map_cons,List.nodup_cons] at hn;simp only[List.find?_cons];rcases List.mem_cons.1 h with rfl|h
  .simp
  .have:a≠x.2.1:=λ e=>hn.1 (by rw[<- e];exact List.mem_map.2 ⟨_,h,rfl⟩)
   simp only[this,decide_false];exact MM.get_of_mem (L:=L) hn.2 h
theorem MM.ry {L:MM K V}{c:Nat}{a:K}{v:V}:MM.keys (MM.put L c a v)=if MM.has L a then MM.keys L else MM.keys L++[a]:=by
 unfold MM.put;rw[<- MM.eE]
 split
 .rename_i i h
  rw[h];simp only[Option.isSome_some,if_true,MM.keys];apply List.ext_getElem?;intro j;simp only[List.getElem?_map,List.getElem?_modify];cases L[j]? with
  | none=>simp
  | some x=>by_cases e:i=j<;>simp[e]
 .rename_i h
  rw[h];simp[MM.keys]
theorem MM.wZ {L:MM K V}{c:Nat}{a:K}{v:V}:(MM.put L c a v).map (·.1)=if MM.has L a then L.map (·.1) else L.map (·.1)++[c]:=by
 unfold MM.put;rw[<- MM.eE]
 split
 .rename_i i h
  rw[h];simp only[Option.isSome_some,if_true];apply List.ext_getElem?;intro j;simp only[List.getElem?_map,List.getElem?_modify];cases L[j]? with
  | none=>simp
  | some x=>by_cases e:i=j<;>simp[e]
 .rename_i h
  rw[h];simp
theorem MM.nD {L:MM K V}{c:Nat}{a b:K}{v:V}:MM.has (MM.put L c a v) b=(decide (b=a) || MM.has L b):=by
 rw[Bool.eq_iff_iff,MM.ir,MM.ry]
 split
 .rename_i h
  simp only[Bool.or_eq_true,decide_eq_true_eq,MM.ir];refine⟨.inr,λ h'=> ?_⟩;rcases h' with rfl|h'
  .exact MM.ir.1 h
  .exact h'
 .simp only[List.mem_append,List.mem_singleton,Bool.or_eq_true,decide_eq_true_eq,MM.ir]
  exact Or.comm
theorem MM.c_ {L:MM K V}{c:Nat}{a b:K}{v:V}:MM.get (MM.put L c a v) b=if b=a then some v else MM.get L b:=by
 unfold MM.put
 split
 .rename_i i h
  revert i h
  induction L with
  | nil=>intro i h;simp[MM.idx] at h
  | cons x L ih=>
   intro i h;unfold MM.idx at h;simp only[List.findIdx?_cons] at h
   by_cases e:a=x.2.1
   .simp only[e,decide_true,if_true] at h
    injection h with h;subst h;simp only[MM.get,List.modify_zero_cons,List.find?_cons]
    by_cases eb:b=x.2.1
    .simp[eb,e]
    .simp[eb,e]
   .simp only[e,decide_false,Bool.false_eq_true,if_false,Option.map_eq_some_iff] at h
    obtain⟨j,hj,rfl⟩:=h;have:=ih j hj;simp only[MM.get,List.modify_succ_cons,List.find?_cons] at this ⊢
    by_cases eb:b=x.2.1
    .simp only[eb,decide_true]
     rw[if_neg (λ h=>e h.symm)]
    .simp only[eb,decide_false]
     exact this
 .rename_i h
  have hn:=MM.k9.1 h;unfold MM.get at hn ⊢;rw[List.find?_append]
  by_cases eb:b=a
  .subst eb
   have:List.find? (λ x=>decide (b=x.2.1)) L=none:=by simpa using hn
   rw[this];simp
  .simp only[List.find?_cons,eb,decide_false,List.find?_nil,Option.or_none,if_false]
theorem MM.gB {L:MM K V}{c:Nat}(h:MM.wf L c)(a:K)(v:V):MM.wf (MM.put L c a v) (MM.jA L c a):=by
 refine⟨?_,?_,λ x hx=> ?_⟩
 .rw[MM.ry]
  split
  .exact h.keys
  .rename_i hh
   rw[List.nodup_append];refine⟨h.keys,by simp,λ x hx y hy=> ?_⟩;simp only[List.mem_singleton] at hy;subst hy;intro e;subst e;exact hh (MM.ir.2 hx)
 .rw[MM.wZ]
  split
  .exact h.times
  .rw[List.nodup_append]
   refine⟨h.times,by simp,λ x hx y hy=> ?_⟩;simp only[List.mem_singleton] at hy;obtain⟨z,hz,rfl⟩:=List.mem_map.1 hx;have:=h.old z hz;omega
 .have hm:x.1∈(MM.put L c a v).map (·.1):=List.mem_map.2 ⟨x,hx,rfl⟩
  rw[MM.wZ] at hm;unfold MM.jA
  split at hm
  .rename_i hh
   obtain⟨z,hz,e⟩:=List.mem_map.1 hm;rw[if_pos hh,<- e];exact h.old z hz
  .rename_i hh
   rw[if_neg hh];rcases List.mem_append.1 hm with hm|hm
   .obtain⟨z,hz,e⟩:=List.mem_map.1 hm
    have:=h.old z hz;omega
   .simp only[List.mem_singleton] at hm
    omega
theorem MM.k_:MM.wf ([]:MM K V) 0:=⟨by simp[MM.keys],by simp,by simp⟩
theorem MM.sG {L:MM K V}(h:(L.map (·.1)).Nodup){x:Nat×K×V}(hx:x∈L):L.find? (λ y=>y.1 == x.1)=some x:=by
 induction L with
 | nil=>cases hx
 | cons y L ih=>
  simp only[List.map_cons,List.nodup_cons] at h;simp only[List.find?_cons];rcases List.mem_cons.1 hx with rfl|hx
  .simp
  .have:y.1≠x.1:=λ e=>h.1 (by rw[e];exact List.mem_map.2 ⟨x,hx,rfl⟩)
   rw[show(y.1 == x.1)=false by simpa using this];exact ih h.2 hx
theorem w_ {α β:Type}(f:α->β):∀ (l:List α) (i:Nat),(l.map f).eraseIdx i=(l.eraseIdx i).map f
 | [],i=>by simp
 | x::l,0=>by simp
 | x::l,i+1=>by simp[w_ f l i]
theorem MM.rz {L:MM K V}(h:(L.map (·.1)).Nodup){x y:Nat×K×V}(hx:x∈L)(hy:y∈L)(e:x.1=y.1):x=y:=by
 have h1:=MM.sG h hx;have h2:=MM.sG h hy;rw[e,h2] at h1;exact(Option.some.inj h1).symm
def aq (kc:K->List SV)(vs:V->SV)(L:MM K V):List (Nat×SV×SV):=L.map λ x=>(x.1,SV.agg (kc x.2.1),vs x.2.2)
variable {kc:K->List SV} {vs:V->SV}
theorem sH {ks:List Bool}(heq:∀ a b,jD ks (kc a) (kc b)=some (decide (a=b)))(a:K):∀ (L:MM K V) (i:Nat),ja ks true (.agg (kc a)) (aq kc vs L) i=some ((MM.idx L a).map (· +i))
 | [],i=>by simp[aq,ja,MM.idx]
 | x ::L,i=>by
  have ih:=sH heq a L (i+1);have hk:i_ ks true (.agg (kc x.2.1))=true:=by simp[i_,kN,SV.cells,heq]
  unfold aq at ih ⊢;simp only[List.map_cons,ja,hk,if_true,SV.cells,heq];unfold MM.idx at ih ⊢;simp only[List.findIdx?_cons]
  by_cases e:a=x.2.1
  .simp[e]
  .simp only[e,decide_false,Bool.false_eq_true,if_false]
   rw[ih];cases List.findIdx? (λ x=>decide (a=x.2.1)) L with
   | none=>rfl
   | some j=>simp;omega
theorem nE (d:Dt)(vs:V->SV)(L:MM Dt V):ja [true,true] true (.agg d.cells) (aq Dt.cells vs L) 0=some (MM.idx L d):=by
 rw[sH Dt.qJ d L 0];cases MM.idx L d<;>rfl
theorem nF (d:aB)(vs:V->SV)(L:MM aB V):ja [true,true,true,true,true,true,true,true] true (.agg d.cells) (aq aB.cells vs L) 0=some (MM.idx L d):=by
 rw[sH aB.zn d L 0];cases MM.idx L d<;>rfl
theorem jd (z:V)(L:MM K V)(a:K):fK (aq kc vs L) (vs z) (MM.idx L a)=vs ((MM.get L a).getD z):=by
 cases h:MM.idx L a with
 | none=>rw[MM.k9.1 h];rfl
 | some i=>
  obtain⟨x,h1,h2,h3⟩:=MM.tZ h;rw[h3];simp[fK,aq,h1]
def iv (n:Int):SV:= .d (.int .i64 n)
theorem lg (L:MM K Int)(a:K):fK (aq kc iv L) (.d (.int .i64 0)) (MM.idx L a)= .d (.int .i64 ((MM.get L a).getD 0)):=jd (vs:=iv) 0 L a
theorem jG (L:MM K V)(c:Nat)(a:K)(v:V):kf (aq kc vs L) c (.agg (kc a)) (vs v) (MM.idx L a)= .map (aq kc vs (MM.put L c a v)) (MM.jA L c a):=by
 unfold MM.put MM.jA;rw[<- MM.eE];cases h:MM.idx L a with
 | none=>simp[kf,aq]
 | some i=>
  simp only[kf,Option.isSome_some,if_true,Ob.map.injEq,and_true,aq];apply List.ext_getElem?;intro j;simp only[List.getElem?_map,List.getElem?_modify];cases L[j]? with
  | none=>simp
  | some x=>by_cases e:i=j<;>simp[e]
theorem lp (L:MM K Int)(c:Nat)(a:K)(n:Int):kf (aq kc iv L) c (.agg (kc a)) (.d (.int .i64 n)) (MM.idx L a)= .map (aq kc iv (MM.put L c a n)) (MM.jA L c a):=jG (vs:=iv) L c a n
def MM.xZ (L:MM K V)(c:Nat)(a:K)(z:V):MM K V:=match MM.idx L a with
 | some _=>L
 | none=>L++[(c,a,z)]
def MM.Nx (L:MM K V)(c:Nat)(a:K):Nat:=match MM.idx L a with
 | some i=>((L[i]?).map (·.1)).getD 0
 | none=>c
def MM.pos (L:MM K V)(a:K):Nat:=(MM.idx L a).getD L.length
theorem oJ (L:MM K V)(c:Nat)(a:K):yZ (aq kc vs L) c (MM.idx L a)=MM.Nx L c a:=by
 unfold MM.Nx;cases h:MM.idx L a with
 | none=>rfl
 | some i=>
  simp only[yZ,aq,List.getElem?_map];cases L[i]?<;>rfl
theorem uQ (L:MM K V)(c:Nat)(a:K)(z:V):qP (aq kc vs L) c (.agg (kc a)) (vs z) (MM.idx L a)= .map (aq kc vs (MM.xZ L c a z)) (MM.jA L c a):=by
 unfold MM.xZ MM.jA;rw[<- MM.eE];cases h:MM.idx L a with
 | none=>simp[qP,aq]
 | some i=>simp[qP]
theorem t_ {L:MM K V}{c:Nat}(hw:MM.wf L c)(a:K)(z:V):(aq kc vs (MM.xZ L c a z)).findIdx? (λ e=>(e.1:Int) == ((MM.Nx L c a:Nat):Int))=some (MM.pos L a):=by
 unfold MM.xZ MM.Nx MM.pos;have key:∀ (l:MM K V) (i:Nat) (x:Nat×K×V),(l.map (·.1)).Nodup->l[i]? =some x->(aq kc vs l).findIdx? (λ e=>(e.1:Int) == ((x.1:Nat):Int))=some i:=by
  intro l
  induction l with
  | nil=>intro i x _ h;simp at h
  | cons y l ih=>
   intro i x hn h;rw[List.map_cons,List.nodup_cons] at hn;simp only[aq,List.map_cons,List.findIdx?_cons];cases i with
   | zero=>simp at h;subst h;simp
   | succ i=>
    simp at h;have hne:((y.1:Int) == (x.1:Int))=false:=by
     have:y.1≠x.1:=λ e=>hn.1 (by rw[e];exact List.mem_map.2 ⟨x,List.mem_of_getElem? h,rfl⟩)
     simpa using λ h:(y.1:Int)=x.1=>this (by omega)
    rw[hne];have:=ih i x hn.2 h;simp only[aq] at this;simp[this]
 cases h:MM.idx L a with
 | none=>
  refine key (L++[(c,a,z)]) L.length (c,a,z) ?_ (by simp);rw[List.map_append,List.nodup_append];refine⟨hw.times,by simp,λ x hx y hy e=> ?_⟩;simp at hy;obtain⟨q,hq,rfl⟩:=List.mem_map.1 hx;have:=hw.old q hq;omega
 | some i=>
  obtain⟨x,h1,_⟩:=MM.tZ h;simp only[h1,Option.map_some,Option.getD_some];exact key L i x hw.times h1
theorem kF (L:MM K V)(c:Nat)(a:K)(z v:V):(aq kc vs (MM.xZ L c a z)).modify (MM.pos L a) (λ e=>(e.1,e.2.1,vs v))=aq kc vs (MM.put L c a v):=by
 unfold MM.xZ MM.pos MM.put;have key:∀ (l:MM K V) (i:Nat),(aq kc vs l).modify i (λ e=>(e.1,e.2.1,vs v))=aq kc vs (l.modify i λ x=>(x.1,x.2.1,v)):=λ l i=>by
  unfold aq;apply List.ext_getElem?;intro j;simp only[List.getElem?_map,List.getElem?_modify];cases l[j]? with
  | none=>simp
  | some x=>by_cases e:i=j<;>simp[e]
 cases h:MM.idx L a with
 | none=>
  simp only[Option.getD_none];rw[key]
  congr 1
  apply List.ext_getElem?;intro j;simp only[List.getElem?_modify,List.getElem?_append]
  by_cases h1:j<L.length
  .simp[h1,show ¬ L.length=j by omega]
  .simp only[h1,if_false]
   by_cases h2:L.length=j
   .subst h2;simp
   .simp[show ¬ j - L.length=0 by omega,show j - L.length≠0 by omega]
 | some i=>exact key L i
theorem jH (L:MM K V)(c:Nat)(a:K):yY (aq kc vs L) c (MM.idx L a)= .map (aq kc vs (MM.del L a)) c:=by
 unfold MM.del;cases h:MM.idx L a with
 | none=>rfl
 | some i=>simp only[yY,aq,w_]
theorem lu (L:MM K V):(aq kc vs L).length=L.length:=by simp[aq]
theorem eF {L:MM K V}{e:Nat×SV×SV}(h:e∈aq kc vs L):∃ x,x∈L/\e=(x.1,SV.agg (kc x.2.1),vs x.2.2):=by
 obtain⟨x,hx,rfl⟩:=List.mem_map.1 h;exact⟨x,hx,rfl⟩
theorem kG {L:MM K V}(h:(L.map (·.1)).Nodup){x:Nat×K×V}(hx:x∈L):(aq kc vs L).find? (λ e=>e.1 == x.1)=some (x.1,SV.agg (kc x.2.1),vs x.2.2):=by
 unfold aq;rw[List.find?_map];have:=MM.sG h hx;simp only[Function.comp_def,this,Option.map_some]
theorem lz (ρ:Nat->Nat)(L:MM K V)(hk:∀ a,SV.aU ρ (kc a)=kc a)(hv:∀ v,(vs v).aC ρ=vs v):(aq kc vs L).map (λ e=>(e.1,e.2.1.aC ρ,e.2.2.aC ρ))=aq kc vs L:=by
 unfold aq;rw[List.map_map];refine List.map_congr_left λ x _=> ?_
 simp[SV.aC,hk,hv]
theorem nG (q:Nat->Bool)(L:MM K V)(hk:∀ a,SV.au q (kc a)=true)(hv:∀ v,(vs v).ok q=true):((aq kc vs L).all λ e=>e.2.1.ok q && e.2.2.ok q)=true:=by
 unfold aq;simp[SV.ok,hk,hv]
end
theorem ES (ρ:Nat->Nat)(n:Int):(iv n).aC ρ=iv n:=rfl
theorem Ky (q:Nat->Bool)(n:Int):(iv n).ok q=true:=rfl
abbrev jk:=MM Dt Int
theorem ff (ρ:Nat->Nat)(L:jk):(aq Dt.cells iv L).map (λ e=>(e.1,e.2.1.aC ρ,e.2.2.aC ρ))=aq Dt.cells iv L:=lz ρ L (λ a=>Dt.aA a ρ) (ES ρ)
theorem bP (q:Nat->Bool)(L:jk):((aq Dt.cells iv L).all λ e=>e.2.1.ok q && e.2.2.ok q)=true:=nG q L (λ a=>Dt.aj a q) (Ky q)
theorem uR (ρ:Nat->Nat)(L:MM aB Int):(aq aB.cells iv L).map (λ e=>(e.1,e.2.1.aC ρ,e.2.2.aC ρ))=aq aB.cells iv L:=lz ρ L (λ a=>aB.aA a ρ) (ES ρ)
theorem x_ (q:Nat->Bool)(L:MM aB Int):((aq aB.cells iv L).all λ e=>e.2.1.ok q && e.2.2.ok q)=true:=nG q L (λ a=>aB.aj a q) (Ky q)
end
end Go.Sl
namespace Go.Sl
open Go.RowKit
section
structure ag where
 dot:Dt
 dep:aB
 time:Nat
 who:Nat
 aI:Dt
 kind:Nat
 aN:Dt
 to:Nat
 aT:Nat
 depth:Nat
 cap:Nat
 at_:Dt
 j5:Dt
 item:Nat
 Lz:Nat
 zp:Nat
 lines:DV
def ag.ds (o:ag):List DV:=
 .int .u8 o.dot.r:: .int .u32 o.dot.n::(o.dep.ds++(.int .u64 o.time:: .int .u32 o.who:: .int .u8 o.aI.r:: .int .u32 o.aI.n:: .int .u8 o.kind:: .int .u8 o.aN.r:: .int .u32 o.aN.n:: .int .u32 o.to:: .int .u8 o.aT:: .int .u8 o.depth:: .int .u64 o.cap::
  .int .u8 o.at_.r:: .int .u32 o.at_.n:: .int .u8 o.j5.r:: .int .u32 o.j5.n:: .int .u32 o.item:: .int .u32 o.Lz:: .int .u32 o.zp::[o.lines]))
def ag.cells (o:ag):List SV:=o.ds.map .d
@[simp] theorem ag.kT (o:ag):o.ds.length=29:=rfl
@[simp] theorem ag.jc (o:ag):o.cells.length=29:=rfl
@[simp] theorem ag.aj (o:ag) (q:Nat->Bool):SV.au q o.cells=true:=SV.aZ _
@[simp] theorem ag.aA (o:ag) (ρ:Nat->Nat):SV.aU ρ o.cells=o.cells:=SV.dN _
theorem ag.cells_one (o:ag):o.cells.all SV.dR=true:=by simp[ag.cells,SV.dR]
@[simp] theorem ag.bk (o:ag):o.cells.take 29=o.cells:=rfl
theorem ag.lB (o:ag):o.cells.take 2=o.dot.cells:=rfl
theorem ag.AT (o:ag):(o.cells.drop 2).take 8=o.dep.cells:=rfl
theorem ag.uS (o:ag):o.cells[10]? =some (u64 o.time):=rfl
theorem ag.AU (o:ag):o.cells[11]? =some (u32 o.who):=rfl
theorem ag.lC (o:ag):(o.cells.drop 12).take 2=o.aI.cells:=rfl
theorem ag.uT (o:ag):o.cells[14]? =some (u8 o.kind):=rfl
theorem ag.uU (o:ag):(o.cells.drop 15).take 2=o.aN.cells:=rfl
theorem ag.LA (o:ag):o.cells[17]? =some (u32 o.to):=rfl
theorem ag.iU (o:ag):o.cells[18]? =some (u8 o.aT):=rfl
theorem ag.iV (o:ag):o.cells[19]? =some (u8 o.depth):=rfl
theorem ag.qy (o:ag):o.cells[20]? =some (u64 o.cap):=rfl
theorem ag.LC (o:ag):(o.cells.drop 21).take 2=o.at_.cells:=rfl
theorem ag.AV (o:ag):(o.cells.drop 23).take 2=o.j5.cells:=rfl
theorem ag.uV (o:ag):o.cells[25]? =some (u32 o.item):=rfl
theorem ag.AW (o:ag):o.cells[26]? =some (u32 o.Lz):=rfl
theorem ag.qz (o:ag):o.cells[27]? =some (u32 o.zp):=rfl
theorem ag.qA (o:ag):o.cells[28]? =some (.d o.lines):=rfl
theorem ag.uW (o:ag):o.cells[0]? =some (u8 o.dot.r):=rfl
theorem ag.uX (o:ag):o.cells[1]? =some (u32 o.dot.n):=rfl
theorem ag.bB (c o:ag):cq c.cells 0 o.cells=o.cells:=rfl
def ag.before (a b:ag):Bool:=b.dep.jF a.dot
abbrev Eg:List SV:=[.d (.int .u8 0),.d (.int .u32 0),.d (.int .u32 0),.d (.int .u32 0),.d (.int .u32 0),.d (.int .u32 0),.d (.int .u32 0),.d (.int .u32 0),.d (.int .u32 0),.d (.int .u32 0),.d (.int .u64 0),.d (.int .u32 0),.d (.int .u8 0),.d (.int .u32 0),.d (.int .u8 0),
 .d (.int .u8 0),.d (.int .u32 0),.d (.int .u32 0),.d (.int .u8 0),.d (.int .u8 0),.d (.int .u64 0),.d (.int .u8 0),.d (.int .u32 0),.d (.int .u8 0),.d (.int .u32 0),.d (.int .u32 0),.d (.int .u32 0),.d (.int .u32 0),.d .aG]
def ag.zero:ag:=⟨⟨0,0⟩,aB.zero,0,0,⟨0,0⟩,0,⟨0,0⟩,0,0,0,0,⟨0,0⟩,⟨0,0⟩,0,0,0,.aG⟩
theorem ag.aM:([.d (.int .u8 0),.d (.int .u32 0),.d (.int .u32 0),.d (.int .u32 0),.d (.int .u32 0),.d (.int .u32 0),.d (.int .u32 0),.d (.int .u32 0),.d (.int .u32 0),.d (.int .u32 0),.d (.int .u64 0),.d (.int .u32 0),.d (.int .u8 0),.d (.int .u32 0),.d (.int .u8 0),
 .d (.int .u8 0),.d (.int .u32 0),.d (.int .u32 0),.d (.int .u8 0),.d (.int .u8 0),.d (.int .u64 0),.d (.int .u8 0),.d (.int .u32 0),.d (.int .u8 0),.d (.int .u32 0),.d (.int .u32 0),.d (.int .u32 0),.d (.int .u32 0),.d .aG]:List SV)=ag.zero.cells:=rfl
abbrev ops (l:List ag):SV:= .d (.sl l.length (l.flatMap ag.ds))
abbrev jO (l:List ag):List SV:=List.map SV.d (l.flatMap ag.ds)
@[simp] theorem jP (l:List ag):(l.flatMap ag.ds).length=l.length*29:=dU ag.ds 29 (λ _=>rfl) l
theorem tB {l:List ag}{i:Nat}{x:ag}(h:l[i]? =some x):List.take 29 (List.drop (i*29) (List.map SV.d (l.flatMap ag.ds)))=x.cells:=by
 rw[<- List.map_drop,<- List.map_take,gw ag.ds 29 (λ _=>rfl) l i x h];rfl
theorem LD {l:List ag}{i:Nat}{x:ag}(h:l[i]? =some x){j:Nat}(hj:j<29):(List.map SV.d (l.flatMap ag.ds))[i*29+j]? =x.cells[j]? :=by
 rw[List.getElem?_map,ru ag.ds 29 (λ _=>rfl) l i j x h hj,ag.cells,List.getElem?_map]
theorem Iv {l:List ag}{i:Nat}{x:ag}(h:l[i]? =some x){j n:Nat}(hj:j+n<=29):List.take n (List.drop (i*29+j) (List.map SV.d (l.flatMap ag.ds)))=(x.cells.drop j).take n:=by
 rw[<- tB h,List.drop_take,List.drop_drop,List.take_take,Nat.min_eq_left (by omega)]
theorem lD {l:List ag}{i:Nat}{x:ag}(h:l[i]? =some x):(i*29+29<=(List.map SV.d (l.flatMap ag.ds)).length)=True:=eq_true (by
 have:=cu h;rw[List.length_map,jP];omega)
theorem ya {α:Type}(f:α->List DV)(sz:Nat)(hs:0<sz)(hf:∀ x,(f x).length=sz)(l:List α)(i:Nat)(x:α)(h:i<l.length):cq (List.map SV.d (l.flatMap f)) (i*sz) ((f x).map .d)=List.map SV.d ((l.set i x).flatMap f):=by
 have hl:=dU f sz hf l;have hle:i*sz+sz<=l.length*sz:=by rw[<- Nat.succ_mul];exact Nat.mul_le_mul_right sz h
 rw[qo (by rw[List.length_map,List.length_map,hf,hl];exact hle)];rw[List.length_map,hf,<- List.map_take,<- List.map_drop,<- List.map_append,<- List.map_append]
 congr 1
 induction l generalizing i with
 | nil=>simp at h
 | cons y l ih=>
  cases i with
  | zero=>
   simp[hf,List.drop_append,List.drop_of_length_le (Nat.le_of_eq (hf y))]
  | succ i=>
   have:=ih i (by simpa using h) (dU f sz hf l) (by
    have h2:i<l.length:=by simpa using h
    rw[<- Nat.succ_mul];exact Nat.mul_le_mul_right sz h2)
   rw[Nat.succ_mul];simp only[List.flatMap_cons,List.set_cons_succ];rw[List.take_append,List.drop_append,hf,List.take_of_length_le (by rw[hf];omega),List.drop_of_length_le (by rw[hf];omega)];rw[show i*sz+sz - sz=i*sz by omega,show i*sz+sz+sz - sz=i*sz+sz by omega,<- this];simp
theorem LF {l:List ag}{i:Nat}(x:ag)(h:i<l.length):cq (List.map SV.d (l.flatMap ag.ds)) (i*29) x.cells=List.map SV.d ((l.set i x).flatMap ag.ds):=ya ag.ds 29 (by omega) (λ _=>rfl) l i x h
structure Cr where
 dot:Dt
 aI:Dt
 par:Dt
 hold:Nat
 aT:Nat
 depth:Nat
 cap:Nat
 level:Int
 deriving DecidableEq
def Cr.ds (o:Cr):List DV:=[.int .u8 o.dot.r,.int .u32 o.dot.n,.int .u8 o.aI.r,.int .u32 o.aI.n,.int .u8 o.par.r,.int .u32 o.par.n,.int .u32 o.hold,.int .u8 o.aT,.int .u8 o.depth,.int .u64 o.cap,.int .i64 o.level]
def Cr.cells (o:Cr):List SV:=o.ds.map .d
@[simp] theorem Cr.kT (o:Cr):o.ds.length=11:=rfl
@[simp] theorem Cr.jc (o:Cr):o.cells.length=11:=rfl
@[simp] theorem Cr.aj (o:Cr) (q:Nat->Bool):SV.au q o.cells=true:=SV.aZ _
@[simp] theorem Cr.aA (o:Cr) (ρ:Nat->Nat):SV.aU ρ o.cells=o.cells:=SV.dN _
theorem Cr.cells_one (o:Cr):o.cells.all SV.dR=true:=rfl
@[simp] theorem Cr.bk (o:Cr):o.cells.take 11=o.cells:=rfl
theorem Cr.lB (o:Cr):o.cells.take 2=o.dot.cells:=rfl
theorem Cr.lC (o:Cr):(o.cells.drop 2).take 2=o.aI.cells:=rfl
theorem Cr.AX (o:Cr):(o.cells.drop 4).take 2=o.par.cells:=rfl
theorem Cr.uY (o:Cr):o.cells[6]? =some (u32 o.hold):=rfl
theorem Cr.iU (o:Cr):o.cells[7]? =some (u8 o.aT):=rfl
theorem Cr.iV (o:Cr):o.cells[8]? =some (u8 o.depth):=rfl
theorem Cr.qy (o:Cr):o.cells[9]? =some (u64 o.cap):=rfl
theorem Cr.qB (o:Cr):o.cells[10]? =some (i64 o.level):=rfl
theorem Cr.bB (c o:Cr):cq c.cells 0 o.cells=o.cells:=rfl
def Cr.zero:Cr:=⟨⟨0,0⟩,⟨0,0⟩,⟨0,0⟩,0,0,0,0,0⟩
theorem Cr.aM:([.d (.int .u8 0),.d (.int .u32 0),.d (.int .u8 0),.d (.int .u32 0),.d (.int .u8 0),.d (.int .u32 0),.d (.int .u32 0),.d (.int .u8 0),.d (.int .u8 0),.d (.int .u64 0),.d (.int .i64 0)]:List SV)=Cr.zero.cells:=rfl
theorem Cr.qJ (a b:Cr):jD [true,true,true,true,true,true,true,true,true,true,true] a.cells b.cells=some (decide (a=b)):=by
 have h:jD [true,true,true,true,true,true,true,true,true,true,true] a.cells b.cells=some (((a.dot.r:Int) == b.dot.r) && (((a.dot.n:Int) == b.dot.n) && (((a.aI.r:Int) == b.aI.r) && (((a.aI.n:Int) == b.aI.n) && (((a.par.r:Int) == b.par.r) && (((a.par.n:Int) == b.par.n) &&
   (((a.hold:Int) == b.hold) && (((a.aT:Int) == b.aT) && (((a.depth:Int) == b.depth) && (((a.cap:Int) == b.cap) && ((a.level == b.level) && true))))))))))):=by simp[jD,HP,Cr.cells,Cr.ds]
 rw[h]
 congr 1
 obtain⟨⟨a0,a1⟩,⟨a2,a3⟩,⟨a4,a5⟩,a6,a7,a8,a9,a10⟩:=a;obtain⟨⟨b0,b1⟩,⟨b2,b3⟩,⟨b4,b5⟩,b6,b7,b8,b9,b10⟩:=b;rw[Bool.eq_iff_iff];simp;omega
abbrev dQ (l:List Cr):SV:= .d (.sl l.length (l.flatMap Cr.ds))
@[simp] theorem Oz (l:List Cr):(l.flatMap Cr.ds).length=l.length*11:=dU Cr.ds 11 (λ _=>rfl) l
def ov (o:ag):SV:= .agg o.cells
def cv (o:Cr):SV:= .agg o.cells
section
variable {K:Type} [DecidableEq K] {kc:K->List SV}
theorem nH (L:MM K ag)(a:K):fK (aq kc ov L) (.agg ag.zero.cells) (MM.idx L a)= .agg ((MM.get L a).getD ag.zero).cells:=jd (vs:=ov) ag.zero L a
theorem nI (L:MM K Cr)(a:K):fK (aq kc cv L) (.agg Cr.zero.cells) (MM.idx L a)= .agg ((MM.get L a).getD Cr.zero).cells:=jd (vs:=cv) Cr.zero L a
theorem nJ (L:MM K ag)(c:Nat)(a:K):qP (aq kc ov L) c (.agg (kc a)) (.agg ag.zero.cells) (MM.idx L a)= .map (aq kc ov (MM.xZ L c a ag.zero)) (MM.jA L c a):=uQ (vs:=ov) L c a ag.zero
theorem nL (L:MM K Cr)(c:Nat)(a:K):qP (aq kc cv L) c (.agg (kc a)) (.agg Cr.zero.cells) (MM.idx L a)= .map (aq kc cv (MM.xZ L c a Cr.zero)) (MM.jA L c a):=uQ (vs:=cv) L c a Cr.zero
theorem nM (L:MM K Int)(c:Nat)(a:K):qP (aq kc iv L) c (.agg (kc a)) (.d (.int .i64 0)) (MM.idx L a)= .map (aq kc iv (MM.xZ L c a 0)) (MM.jA L c a):=uQ (vs:=iv) L c a 0
theorem nN (L:MM K ag)(c:Nat)(a:K)(z v:ag):(aq kc ov (MM.xZ L c a z)).modify (MM.pos L a) (λ e=>(e.1,e.2.1,.agg v.cells))=aq kc ov (MM.put L c a v):=kF (vs:=ov) L c a z v
theorem nO (L:MM K Cr)(c:Nat)(a:K)(z v:Cr):(aq kc cv (MM.xZ L c a z)).modify (MM.pos L a) (λ e=>(e.1,e.2.1,.agg v.cells))=aq kc cv (MM.put L c a v):=kF (vs:=cv) L c a z v
theorem nP (L:MM K Int)(c:Nat)(a:K)(z v:Int):(aq kc iv (MM.xZ L c a z)).modify (MM.pos L a) (λ e=>(e.1,e.2.1,.d (.int .i64 v)))=aq kc iv (MM.put L c a v):=kF (vs:=iv) L c a z v
theorem cQ (ρ:Nat->Nat)(L:MM Dt ag):(aq Dt.cells ov L).map (λ e=>(e.1,e.2.1.aC ρ,e.2.2.aC ρ))=aq Dt.cells ov L:=lz ρ L (λ a=>Dt.aA a ρ) (λ v=>by simp[ov,SV.aC])
theorem bF (q:Nat->Bool)(L:MM Dt ag):((aq Dt.cells ov L).all λ e=>e.2.1.ok q && e.2.2.ok q)=true:=nG q L (λ a=>Dt.aj a q) (λ v=>by simp[ov,SV.ok])
theorem jY (ρ:Nat->Nat)(L:MM Dt Cr):(aq Dt.cells cv L).map (λ e=>(e.1,e.2.1.aC ρ,e.2.2.aC ρ))=aq Dt.cells cv L:=lz ρ L (λ a=>Dt.aA a ρ) (λ v=>by simp[cv,SV.aC])
theorem kB (q:Nat->Bool)(L:MM Dt Cr):((aq Dt.cells cv L).all λ e=>e.2.1.ok q && e.2.2.ok q)=true:=nG q L (λ a=>Dt.aj a q) (λ v=>by simp[cv,SV.ok])
end
end
section
def uv (n:Nat):SV:= .d (.int .u64 (n:Int))
section
variable {K:Type} [DecidableEq K] {kc:K->List SV}
theorem nQ (L:MM K Nat)(a:K):fK (aq kc uv L) (.d (.int .u64 0)) (MM.idx L a)= .d (.int .u64 (((MM.get L a).getD 0:Nat):Int)):=jd (vs:=uv) 0 L a
theorem nR (L:MM K Nat)(c:Nat)(a:K)(n:Nat):kf (aq kc uv L) c (.agg (kc a)) (.d (.int .u64 (n:Int))) (MM.idx L a)= .map (aq kc uv (MM.put L c a n)) (MM.jA L c a):=jG (vs:=uv) L c a n
theorem nS (L:MM K Nat)(c:Nat)(a:K):qP (aq kc uv L) c (.agg (kc a)) (.d (.int .u64 0)) (MM.idx L a)= .map (aq kc uv (MM.xZ L c a 0)) (MM.jA L c a):=uQ (vs:=uv) L c a 0
theorem nT (L:MM K Nat)(c:Nat)(a:K)(z v:Nat):(aq kc uv (MM.xZ L c a z)).modify (MM.pos L a) (λ e=>(e.1,e.2.1,.d (.int .u64 (v:Int))))=aq kc uv (MM.put L c a v):=kF (vs:=uv) L c a z v
end
structure Sp where
 d:Dt
 n:Nat
 deriving DecidableEq
def Sp.ds (x:Sp):List DV:=[.int .u8 x.d.r,.int .u32 x.d.n,.int .u64 x.n]
def Sp.cells (x:Sp):List SV:=x.ds.map .d
@[simp] theorem Sp.kT (x:Sp):x.ds.length=3:=rfl
@[simp] theorem Sp.jc (x:Sp):x.cells.length=3:=rfl
@[simp] theorem Sp.aj (x:Sp) (q:Nat->Bool):SV.au q x.cells=true:=SV.aZ _
@[simp] theorem Sp.aA (x:Sp) (ρ:Nat->Nat):SV.aU ρ x.cells=x.cells:=SV.dN _
theorem Sp.cells_one (x:Sp):x.cells.all SV.dR=true:=rfl
@[simp] theorem Sp.bk (x:Sp):x.cells.take 3=x.cells:=rfl
theorem Sp.lB (x:Sp):x.cells.take 2=x.d.cells:=rfl
theorem Sp.gN (x:Sp):x.cells[2]? =some (u64 x.n):=rfl
theorem Sp.bB (c x:Sp):cq c.cells 0 x.cells=x.cells:=rfl
def Sp.zero:Sp:=⟨⟨0,0⟩,0⟩
theorem Sp.aM:([.d (.int .u8 0),.d (.int .u32 0),.d (.int .u64 0)]:List SV)=Sp.zero.cells:=rfl
theorem Sp.fV (d:Dt)(n:Nat):cq (cq Sp.zero.cells 0 d.cells) 2 [.d (.int .u64 (n:Int))]=(Sp.mk d n).cells:=rfl
theorem Sp.qJ (a b:Sp):jD [true,true,true] a.cells b.cells=some (decide (a=b)):=by
 have h:jD [true,true,true] a.cells b.cells=some (((a.d.r:Int) == b.d.r) && (((a.d.n:Int) == b.d.n) && (((a.n:Int) == b.n) && true))):=by simp[jD,HP,Sp.cells,Sp.ds]
 rw[h]
 congr 1
 obtain⟨⟨a0,a1⟩,a2⟩:=a;obtain⟨⟨b0,b1⟩,b2⟩:=b;rw[Bool.eq_iff_iff];simp;omega
@[simp] theorem OA (l:List Sp):(l.flatMap Sp.ds).length=l.length*3:=dU Sp.ds 3 (λ _=>rfl) l
theorem nU (x:Cr):e_ x.cells=some x.ds:=rfl
theorem nV (x:Sp):e_ x.cells=some x.ds:=rfl
end
end Go.Sl
namespace Go.Sl
section
variable {P:Program}
def RW (P:Program)(dB:List SI)(st:St)(K:St->List (Bool×List Nat)->Prop):Prop:=
 ∃ dQ st' ob ts,runs P dB st dQ=some (st',ob,ts)/\ob/\K st' ts
def gU:SO->Bool
 | .call .. =>true
 | _=>false
def xb:SO->Bool
 | .kK .. =>true
 | _=>false
def seg (P:Program):List SI->St->Option (List SI×St×Prop×List (Bool×List Nat))
  | [],st=>some ([],st,True,[])
  | si :: r,st=>match si.g with
    | none=>match gU si.op with
      | true=>some (si::r,st,True,[])
      | false=>match fu P st si.op [] with
        | some (e,_)=>match seg P r (l9 st si e) with
          | some (rest,st',ob,ts)=>some (rest,st',e.ob/\ob,iA si e::ts)
          | none=>none
        | none=>none
    | some (t,w)=>match st.env.lookup t with
      | some (.d (.bool b))=>match b == w with
        | true=>match gU si.op with
          | true=>some (si::r,st,True,[])
          | false=>match fu P st si.op [] with
            | some (e,_)=>match seg P r (l9 st si e) with
              | some (rest,st',ob,ts)=>some (rest,st',e.ob/\ob,iA si e::ts)
              | none=>none
            | none=>none
        | false=>match seg P r (l9 st si ⟨.de [],[],[],0,True⟩) with
          | some (rest,st',ob,ts)=>some (rest,st',ob,iA si ⟨.de [],[],[],0,True⟩::ts)
          | none=>none
      | some (.de [])=>match seg P r (l9 st si ⟨.de [],[],[],0,True⟩) with
          | some (rest,st',ob,ts)=>some (rest,st',ob,iA si ⟨.de [],[],[],0,True⟩::ts)
          | none=>none
      | _=>none
theorem CI {st:St}{so:SO}{e:mF}{c2:List CR}(hc:gU so=false)(h:fu P st so []=some (e,c2)):c2=[]/\(xb so=false->∀ dQ,fu P st so dQ=some (e,dQ))/\(xb so=true->∀ dQ,fu P st so (.gz::dQ)=some (e,dQ)):=by
 cases so<;>simp only[gU,Bool.true_eq_false] at hc<;>simp only[fu] at h<;>split at h<;>try (cases h;done)
 all_goals
  rename_i hs;injection h with h;injection h with h h';subst h;subst h';refine⟨rfl,λ hb dQ=> ?_,λ hb dQ=> ?_⟩
  all_goals first
   | (simp[xb] at hb;done)
   | simp only[fu,hs]
theorem RW.nil {st:St}{K:St->List (Bool×List Nat)->Prop}(h:K st []):RW P [] st K:=⟨[],st,True,[],rfl,trivial,h⟩
theorem RW.cons {si:SI}{r:List SI}{st:St}{K:St->List (Bool×List Nat)->Prop}{e:mF}(h1:∀ dQ,∃ c0,gi P st si c0=some (e,dQ))(br:e.ob)(h:RW P r (l9 st si e) λ st' ts=>K st' (iA si e::ts)):RW P (si::r) st K:=by
 obtain⟨dQ,st',ob,ts,hr,ho,hk⟩:=h;obtain⟨c0,hc0⟩:=h1 dQ;refine⟨c0,st',e.ob/\ob,iA si e::ts,?_,⟨br,ho⟩,hk⟩;simp only[runs,hc0,hr]
theorem zq {st:St}{so:SO}{e:mF}{c2:List CR}(hc:gU so=false)(h:fu P st so []=some (e,c2))(dQ:List CR):∃ c0,fu P st so c0=some (e,dQ):=by
 obtain⟨_,h1,h2⟩:=CI hc h;cases hb:xb so with
 | false=>exact⟨dQ,h1 hb dQ⟩
 | true=>exact⟨.gz::dQ,h2 hb dQ⟩
theorem RW.call {d:Option Nat}{f:X}{args:List X}{g:Option (Nat×Bool)}{r:List SI}{st:St}{K:St->List (Bool×List Nat)->Prop}{fid:FuncId}{as first cap as':List SV}{F F':Hp}{v:SV}{nk:Nat}
  (hf:ev (λ t=>st.env.lookup t) f=some (.fn (.func fid) first cap)) (ha:qc (λ t=>st.env.lookup t) args=some as) (has:first++as++cap=as') (hc:aF P fid as' F st.k nk v F') (hs:HSub F st.hp)
  (hg:g=none\/∃ t w,g=some (t,w)/\st.env.lookup t=some (.d (.bool w)))
  (h:RW P r (l9 st ⟨d,.call f args,g⟩ ⟨v,F,F',nk,True⟩) λ st' ts=>K st' (iA ⟨d,.call f args,g⟩ ⟨v,F,F',nk,True⟩::ts)):RW P (⟨d,.call f args,g⟩::r) st K:=by
 refine RW.cons (e:=⟨v,F,F',nk,aF P fid (first++as++cap) F st.k nk v F'/\HSub F st.hp⟩) (λ dQ=>⟨.call F v F' nk::dQ,?_⟩) ⟨by rw[has];exact hc,hs⟩ h;rcases hg with rfl|⟨t,w,rfl,hl⟩
 .simp only[gi,fu,hf,ha]
 .simp[gi,hl,fu,hf,ha]
theorem SW.OV {N k0:Nat}{st:St}{Q:Exit->St->Prop}{dB:List SI}{bs:List Nat}{draw:Bool}(hm:P.follows .mixedOrders=true)(h:RW P dB st λ st' ts=>(!draw || nw bs ts)=true/\Q .normal st'):SW P N k0 (.fD dB bs draw) st Q:=by
 obtain⟨dQ,st',ob,ts,hr,ho,hn,hk⟩:=h;exact SW.fD dQ hm hr ho hn hk
theorem f_ {st:St}{d:Option Nat}{op:SO}{g:Option (Nat×Bool)}{dQ:List CR}{e:mF}{c2:List CR}(hg:g=none\/∃ t w,g=some (t,w)/\st.env.lookup t=some (.d (.bool w)))(h:fu P st op dQ=some (e,c2)):gi P st ⟨d,op,g⟩ dQ=some (e,c2):=by
 rcases hg with rfl|⟨t,w,rfl,hl⟩
 .simp only[gi,h]
 .simp[gi,hl,h]
theorem RW.ET {d:Nat}{op:SO}{g:Option (Nat×Bool)}{r:List SI}{K:St->List (Bool×List Nat)->Prop}{env:List (Nat×SV)}{hp F F':Hp}{k:Nat}{v:SV}{nk:Nat}{ob:Prop}
  (hr:dA op=true) (hc:gU op=false) (hb:xb op=false) (hg:g=none\/∃ t w,g=some (t,w)/\env.lookup t=some (.d (.bool w))) (he:fu P ⟨env,hp,k⟩ op []=some (⟨v,F,F',nk,ob⟩,[])) (br:ob) (hk:nk=0)
  (h:RW P r ⟨(d,v)::env,hp,k⟩ λ st' ts=>K st' ((true,F.map (·.1)++F'.map (·.1))::ts)):RW P (⟨some d,op,g⟩::r) ⟨env,hp,k⟩ K:=by
 subst hk;refine RW.cons (e:=⟨v,F,F',0,ob⟩) (λ dQ=> ?_) br ?_
 .obtain⟨c0,h0⟩:=zq hc he dQ
  exact⟨c0,f_ hg h0⟩
 .simpa only[l9,iA,hr,bU,if_true,Nat.add_zero] using h
def rA:Option Nat->SV->List (Nat×SV)->List (Nat×SV)
 | some d,v,env=>(d,v)::env
 | none,_,env=>env
theorem iW {d:Option Nat}{op:SO}{g:Option (Nat×Bool)}{env:List (Nat×SV)}{hp:Hp}{k:Nat}{e:mF}:l9 ⟨env,hp,k⟩ ⟨d,op,g⟩ e=⟨rA d e.v env,bU (dA op) hp e.F e.F',k+e.nk⟩:=by
 cases d<;>rfl
theorem RW.EU {d:Option Nat}{op:SO}{g:Option (Nat×Bool)}{r:List SI}{K:St->List (Bool×List Nat)->Prop}{env:List (Nat×SV)}{hp oD F F':Hp}{k k':Nat}{v:SV}{nk:Nat}{ob:Prop}
  (hc:gU op=false) (hg:g=none\/∃ t w,g=some (t,w)/\env.lookup t=some (.d (.bool w))) (he:fu P ⟨env,hp,k⟩ op []=some (⟨v,F,F',nk,ob⟩,[])) (br:ob) (hh:bU (dA op) hp F F'=oD) (hk:k+nk=k')
  (h:RW P r ⟨rA d v env,oD,k'⟩ λ st' ts=>K st' ((dA op,F.map (·.1)++F'.map (·.1))::ts)):RW P (⟨d,op,g⟩::r) ⟨env,hp,k⟩ K:=by
 refine RW.cons (e:=⟨v,F,F',nk,ob⟩) (λ dQ=> ?_) br ?_
 .obtain⟨c0,h0⟩:=zq hc he dQ
  exact⟨c0,f_ hg h0⟩
 .rw[iW,hh,hk];exact h
theorem RW.Iw {d:Option Nat}{e sz len:Nat}{z:List SV}{parts:List (Nat×Nat×X)}{g:Option (Nat×Bool)}{r:List SI}{K:St->List (Bool×List Nat)->Prop}{env:List (Nat×SV)}{hp oD F F':Hp}{k k':Nat}{v:SV}{nk:Nat}{ob:Prop}
  (hg:g=none\/∃ t w,g=some (t,w)/\env.lookup t=some (.d (.bool w))) (he:fu P ⟨env,hp,k⟩ (.kK e sz len z parts) [.own]=some (⟨v,F,F',nk,ob⟩,[])) (br:ob) (hh:bU false hp F F'=oD) (hk:k+nk=k')
  (h:RW P r ⟨rA d v env,oD,k'⟩ λ st' ts=>K st' ((false,F.map (·.1)++F'.map (·.1))::ts)):RW P (⟨d,.kK e sz len z parts,g⟩::r) ⟨env,hp,k⟩ K:=by
 refine RW.cons (e:=⟨v,F,F',nk,ob⟩) (λ dQ=>⟨.own::dQ,f_ hg ?_⟩) br ?_
 .simp only[fu] at he ⊢
  split at he<;>try (cases he;done)
  rename_i hs;injection he with he;injection he with he _;subst he;rfl
 .rw[iW]
  show RW P r ⟨rA d v env,bU false hp F F',k+nk⟩ _;rw[hh,hk];exact h
theorem RW.EV {d:Nat}{op:SO}{t:Nat}{w:Bool}{r:List SI}{K:St->List (Bool×List Nat)->Prop}{env:List (Nat×SV)}{hp:Hp}{k:Nat}{s:SV}(hg:env.lookup t=some s)(hs:mM w s=true)
  (h:RW P r ⟨(d,.de [])::env,hp,k⟩ λ st' ts=>K st' ((dA op,[])::ts)):RW P (⟨some d,op,some (t,w)⟩::r) ⟨env,hp,k⟩ K:=by
 have hh:bU (dA op) hp [] []=hp:=by unfold bU;split<;>rfl
 refine RW.cons (e:=⟨.de [],[],[],0,True⟩) (λ dQ=>⟨dQ,?_⟩) trivial ?_
 .unfold mM at hs
  split at hs
  .simp only[gi,hg];rw[if_neg (by simpa using hs)]
  .simp only[gi,hg]
  .cases hs
 .rw[iW]
  show RW P r ⟨(d,.de [])::env,bU (dA op) hp [] [],k+0⟩ _;rw[hh];exact h
theorem RW.CJ {op:SO}{t:Nat}{w:Bool}{r:List SI}{K:St->List (Bool×List Nat)->Prop}{env:List (Nat×SV)}{hp:Hp}{k:Nat}{s:SV}(hg:env.lookup t=some s)(hs:mM w s=true)
  (h:RW P r ⟨env,hp,k⟩ λ st' ts=>K st' ((dA op,[])::ts)):RW P (⟨none,op,some (t,w)⟩::r) ⟨env,hp,k⟩ K:=by
 have hh:bU (dA op) hp [] []=hp:=by unfold bU;split<;>rfl
 refine RW.cons (e:=⟨.de [],[],[],0,True⟩) (λ dQ=>⟨dQ,?_⟩) trivial ?_
 .unfold mM at hs
  split at hs
  .simp only[gi,hg];rw[if_neg (by simpa using hs)]
  .simp only[gi,hg]
  .cases hs
 .rw[iW]
  show RW P r ⟨env,bU (dA op) hp [] [],k+0⟩ _;rw[hh];exact h
theorem RW.EW {d:Option Nat}{f:X}{args:List X}{g:Option (Nat×Bool)}{r:List SI}{K:St->List (Bool×List Nat)->Prop}{fid:FuncId}{as first cap as':List SV}{env:List (Nat×SV)}{hp F F':Hp}{k:Nat}{v:SV}{nk:Nat}
  (hf:ev (λ t=>env.lookup t) f=some (.fn (.func fid) first cap)) (ha:qc (λ t=>env.lookup t) args=some as) (has:first++as++cap=as') (hc:aF P fid as' F k nk v F') (hs:HSub F hp)
  (hg:g=none\/∃ t w,g=some (t,w)/\env.lookup t=some (.d (.bool w)))
  (h:RW P r ⟨rA d v env,bU false hp F F',k+nk⟩ λ st' ts=>K st' ((false,F.map (·.1)++F'.map (·.1))::ts)):RW P (⟨d,.call f args,g⟩::r) ⟨env,hp,k⟩ K:=by
 refine RW.call (st:=⟨env,hp,k⟩) hf ha has hc hs hg ?_;rw[iW];exact h
end
section
variable {P:Program}
def nW (P:Program)(o:Oper)(E:Nat->Option SV)(H:Nat->Option Ob)(k nk:Nat)(F:Hp)(Q:SV->Hp->Prop):Prop:=
 (∀ n ob,lk F n=some ob->H n=some ob)/\
 ∀ (rd:Option Nat) (p:Nat->Prop) (μ:Nat->Nm) (M:Mem) (a:Act) (w:World) (K:Act->World->Prop) (QQ:Exit->Act->World->Prop),(∀ n,(k<=n/\n<k+nk)-> ¬ p n)->iD E o.op.operands p μ M a->bR p μ M (lk F) w->
  (∀ r F' u bh M' w',Q r F'->Rp (λ n=>p n\/(k<=n/\n<k+nk)) bh M' r u->bR (λ n=>p n\/(k<=n/\n<k+nk)) bh M' (lk F') w'->Ev (lk F) (λ n=>k<=n/\n<k+nk) μ M w (lk F') bh M' w'->K (a.put o.dst u) w')->
  o.wpIn (jT rd) 0 P a w K QQ
theorem Sound.q {o:Oper}{E:Nat->Option SV}{H:Nat->Option Ob}{k:Nat}{e:mF}(h:Sound P o E H k e):nW P o E H k e.nk e.F (λ r F'=>r=e.v/\F'=e.F'):=
 ⟨h.2,λ rd p μ M a w K QQ h1 h2 h3 h4=>h.1 rd p μ M a w K QQ h1 h2 h3 λ u bh M' w' a1 a2 a3=>h4 _ _ u bh M' w' ⟨rfl,rfl⟩ a1 a2 a3⟩
theorem iC.step {N:Nat}{rd:Option Nat}{cF:Nat->Nm}{M0:Mem}{w0:World}{c0:Nat->Option Ob}{k0:Nat}{st:St}{a:Act}{w:World}{o:Oper}{si:SI}{F:Hp}{nk:Nat}{Q:SV->Hp->Prop}(hd:si.dst=o.dst)(hN:∀ d,o.dst=some d->d<N)
  (h:nW P o (λ t=>st.env.lookup t) (lk st.hp) st.k nk F Q) (hro:∀ r F',Q r F'->dA si.op=true->F'=F) (fM:iC N cF M0 w0 c0 k0 st a w) {K:Act->World->Prop} {QQ:Exit->Act->World->Prop}
  (hK:∀ r F',Q r F'->∀ a' w',iC N cF M0 w0 c0 k0 (l9 st si ⟨r,F,F',nk,True⟩) a' w'->K a' w'):o.wpIn (jT rd) 0 P a w K QQ:=by
 obtain⟨lW,hdf,hsz,μ,M,fq,hS,hE⟩:=fM;have hsub:∀ n ob,lk F n=some ob->lk st.hp n=some ob:=h.1;refine h.2 rd (· <st.k) μ M a w K QQ (λ n hn=>by omega) ⟨λ t _ s hs=>fq t s hs,hS.mem.kJ⟩ (hS.sub hsub) λ r F' u bh M' w' hQ hu sg hE'=>hK r F' hQ _ _ ?_
 have hp:(λ n=>n<st.k\/(st.k<=n/\n<st.k+nk))=(· <st.k+nk):=funext λ n=>propext ⟨λ h=>by rcases h with h|h<;>omega,λ h=>by show n<st.k\/_;omega⟩
 have hfr:=hS.AH hsub (λ n hn=>by omega) hE' sg λ n h=> .inl h
 rw[hp] at hu hfr;have hnew:∀ n,(k0<=n/\n<st.k)\/(st.k<=n/\n<st.k+nk)↔k0<=n/\n<st.k+nk:=λ n=>by omega
 have hlk:lk (bU (dA si.op) st.hp F F')=AA (lk st.hp) (lk F) (lk F'):=iI hsub (hro r F' hQ);refine⟨by show k0<=st.k+nk;omega,by rw[l7];exact hdf.ev hS hfr.2,by rw[oE];exact hsz,bh,M',λ t s hs=> ?_,?_,?_⟩
 .have hold:∀ s,st.env.lookup t=some s->Rp (· <st.k+nk) bh M' s (a.tmps.getD t undef):=λ s h'=>
   (fq t s h').more (λ n h=>by omega) (λ n h=>hE'.old n λ h'=>by omega) hE'.mem
  simp only[l9,hd] at hs;cases hod:o.dst with
  | none=>rw[hod] at hs;exact hold s hs
  | some d=>
   rw[hod] at hs;simp only at hs;rw[ny] at hs
   by_cases hdt:d=t
   .subst hdt
    simp at hs;subst hs;rw[uD (by rw[hsz];exact hN d hod)];exact hu
   .rw[if_neg hdt] at hs
    rw[pG (λ e=>hdt e.symm)];exact hold s hs
 .show bR _ _ _ (lk (bU (dA si.op) st.hp F F')) _
  rw[hlk];exact hfr.1
 .show Ev _ _ _ _ _ (lk (bU (dA si.op) st.hp F F')) _ _ _
  rw[hlk];exact(hE.trans hfr.2).tV λ n=>hnew n
theorem iC.skip {N:Nat}{cF:Nat->Nm}{M0:Mem}{w0:World}{c0:Nat->Option Ob}{k0:Nat}{st:St}{a:Act}{w:World}{si:SI}{d:Option Nat}(hd:si.dst=d)(hN:∀ x,d=some x->x<N)
  (fM:iC N cF M0 w0 c0 k0 st a w):iC N cF M0 w0 c0 k0 (l9 st si ⟨.de [],[],[],0,True⟩) (a.put d undef) w:=by
 obtain⟨lW,hdf,hsz,μ,M,fq,hS,hE⟩:=fM;have hh:bU (dA si.op) st.hp [] []=st.hp:=by unfold bU;split<;>rfl
 refine⟨lW,by rw[l7];exact hdf,by rw[oE];exact hsz,μ,M,λ t s hs=> ?_,by simp only[l9,hh];exact hS,by simp only[l9,hh];exact hE⟩;simp only[l9,hd] at hs;cases d with
 | none=>exact fq t s hs
 | some d=>
  simp only at hs;rw[ny] at hs
  by_cases hdt:d=t
  .subst hdt
   simp at hs;subst hs;rw[wT];exact Rp.dX.2 ⟨#[],rfl,aV.aQ.2 rfl⟩
  .rw[if_neg hdt] at hs
   rw[pG (λ e=>hdt e.symm)];exact fq t s hs
def bq (P:Program)(N k0:Nat)(dB:List SI)(st:St)(K:St->Prop):Prop:=
 ∀ (ops:Array Oper) (i:Nat),i+dB.length=ops.size->(∀ j si,dB[j]? =some si->∃ o,ops[i+j]? =some o/\qf P ops o=some si)->(∀ si∈dB,∀ d,si.dst=some d->d<N)->
  ∀ (rd:Option Nat) (cF:Nat->Nm) (M0:Mem) (w0:World) (c0:Nat->Option Ob) (a:Act) (w:World),iC N cF M0 w0 c0 k0 st a w->∀ Q':Exit->Act->World->Prop,(∀ st' a' w',K st'->iC N cF M0 w0 c0 k0 st' a' w'->Q' .normal a' w')->
   wpOpsIn (jT rd) 0 P ops Q' (List.range' i dB.length) a w
theorem bq.nil {N k0:Nat}{st:St}{K:St->Prop}(h:K st):bq P N k0 [] st K:=λ ops i _ _ _ rd cF M0 w0 c0 a w fM Q' hQ=>hQ st a w h fM
theorem bq.cons {N k0:Nat}{st:St}{K:St->Prop}{si:SI}{r:List SI}
  (h:∀ (ops:Array Oper) (o:Oper),qf P ops o=some si->(∀ d,si.dst=some d->d<N)->∀ (rd:Option Nat) (cF:Nat->Nm) (M0:Mem) (w0:World) (c0:Nat->Option Ob) (a:Act) (w:World),iC N cF M0 w0 c0 k0 st a w->
   ∀ (i:Nat),ops[i]? =some o->∀ (Q':Exit->Act->World->Prop) (KK:Act->World->Prop),(∀ st' a' w',bq P N k0 r st' K->iC N cF M0 w0 c0 k0 st' a' w'->KK a' w')->wpOpIn (jT rd) 0 P ops Q' i KK a w):bq P N k0 (si::r) st K:=by
 intro ops i hl kR hN rd cF M0 w0 c0 a w fM Q' hQ;obtain⟨o,ho,hc⟩:=kR 0 si rfl;simp only[Nat.add_zero] at ho;rw[List.length_cons,List.range'_succ,wpOpsIn_cons];refine h ops o hc (λ d hd=>hN si (by simp) d hd) rd cF M0 w0 c0 a w fM i ho Q' _ λ st' a' w' hn hSt'=> ?_
 exact hn ops (i+1) (by simp at hl;omega) (λ j sj hj=>by
  obtain⟨o',ho',hc'⟩:=kR (j+1) sj (by simpa using hj);exact⟨o',by rw[show i+1+j=i+(j+1) by omega];exact ho',hc'⟩) (λ s hs d hd=>hN s (by simp[hs]) d hd) rd cF M0 w0 c0 a' w' hSt' Q' hQ
theorem bq.many {N k0:Nat}{st:St}{K:St->Prop}{si:SI}{r:List SI}{F:Hp}{nk:Nat}{Q:SV->Hp->Prop}(hg:si.g=none)(hq:∀ o:Oper,cO P o.op=some si.op->nW P o (λ t=>st.env.lookup t) (lk st.hp) st.k nk F Q)
  (hro:dA si.op=false) (h:∀ v F',Q v F'->bq P N k0 r (l9 st si ⟨v,F,F',nk,True⟩) K):bq P N k0 (si::r) st K:=by
 refine bq.cons λ ops o hc hN rd cF M0 w0 c0 a w fM i ho Q' KK EX=> ?_
 obtain⟨g1,g2,g3⟩:=gT hc;have hgn:o.guard=none:=by
  rcases g3 with⟨h,_⟩|⟨j,w,t,h,_,h'⟩
  .exact h
  .rw[hg] at h';cases h'
 unfold wpOpIn;simp only[ho,Region.wanted,hgn,if_true];exact(iC.step g2 (λ d hd=>hN d (by rw[g2];exact hd)) (hq o g1) (λ v F' _ hr=>by rw[hro] at hr;cases hr) fM λ v F' hQ a' w' hSt'=>EX _ a' w' (h v F' hQ) hSt')
theorem bq.Kz {N k0:Nat}{K:St->Prop}{rest:List SI}:∀ {dB:List SI} {st st':St} {dQ:List CR} {ob:Prop} {ts:List (Bool×List Nat)},Go.Sl.runs P dB st dQ=some (st',ob,ts)->ob->bq P N k0 rest st' K->bq P N k0 (dB++rest) st K:=by
 intro dB
 induction dB with
 | nil=>
  intro st st' dQ ob ts h _ hk;simp only[Go.Sl.runs] at h;injection h with h;injection h with h1 _;subst h1;exact hk
 | cons si r ih=>
  intro st st' dQ ob ts h br hk;simp only[Go.Sl.runs] at h
  split at h<;>try (cases h;done)
  rename_i e crs' hop
  split at h<;>try (cases h;done)
  rename_i st2 H6 ts2 hr;injection h with h;injection h with h1 h;injection h with h2 h3;subst h1;subst h2;refine bq.cons λ ops o hc hN rd cF M0 w0 c0 a w fM i ho Q' KK EX=> ?_
  obtain⟨b1,b2,b3⟩:=qv hc hop br.1;obtain⟨g1,g2,g3⟩:=gT hc;have hnext:=ih hr br.2 hk;have hu:l9 st si e=l9 st si ⟨e.v,e.F,e.F',e.nk,True⟩:=rfl;unfold wpOpIn;simp only[ho];obtain⟨lW,hdf,hsz,μ,M,fq,hS,hE⟩:=fM;have fM:iC N cF M0 w0 c0 k0 st a w:=⟨lW,hdf,hsz,μ,M,fq,hS,hE⟩;rcases b1 with⟨j,want,t,sv,hg,hd,hE',hb,e1,e2,e3,e4⟩|⟨hg,hs⟩
  .have hv:=fq t _ hE'
   have hw:Region.wanted o (yielded ops a.tmps)=false:=by
    simp only[Region.wanted,hg];unfold mM at hb
    split at hb
    .rw[iK hd (Rp.bD.1 hv)]
     simpa using hb
    .obtain⟨vs,e,hvs⟩:=Rp.dX.1 hv
     have hvs0:vs= #[]:=by have:=aV.aQ.1 hvs;simpa using this
     rw[qq hd (by rw[e,hvs0];rfl)];rfl
    .cases hb
   simp only[hw,Bool.false_eq_true,if_false];obtain⟨v,F,F',nk,eo⟩:=e;simp only at e1 e2 e3 e4;subst e1;subst e2;subst e3;subst e4;exact⟨λ _ _=>trivial,EX _ _ _ hnext (iC.skip g2 (λ d hd=>hN d (by rw[g2];exact hd)) fM)⟩
  .have hw:Region.wanted o (yielded ops a.tmps)=true:=by
    rcases hg with hg|⟨j,want,t,hg,hd,hE'⟩
    .simp[Region.wanted,hg]
    .have hv:=Rp.bD.1 (fq t _ hE')
     simp only[Region.wanted,hg,iK hd hv];simp
   simp only[hw,if_true];exact(iC.step g2 (λ d hd=>hN d (by rw[g2];exact hd)) hs.q (λ v F' hQ hr=>by rw[hQ.2];exact b2 hr) fM λ v F' hQ a' w' hSt'=>EX _ a' w' (by rw[hQ.1,hQ.2];exact hnext) hSt')
theorem bq.runs {N k0:Nat}{K:St->Prop}{dB:List SI}{st st':St}{dQ:List CR}{ob:Prop}{ts:List (Bool×List Nat)}(h:Go.Sl.runs P dB st dQ=some (st',ob,ts))(ho:ob)(hk:K st'):bq P N k0 dB st K:=by
 have:=bq.Kz (N:=N) (k0:=k0) (rest:=[]) h ho (bq.nil hk)
 rwa [List.append_nil] at this
theorem bq.one {N k0:Nat}{K:St->Prop}{si:SI}{r:List SI}{st:St}{e:mF}{c2 dQ:List CR}(h1:gi P st si dQ=some (e,c2))(br:e.ob)(h:bq P N k0 r (l9 st si e) K):bq P N k0 (si::r) st K:=
 bq.Kz (dB:=[si]) (dQ:=dQ) (st':=l9 st si e) (ob:=e.ob/\True) (ts:=[iA si e]) (by simp only[Go.Sl.runs,h1]) ⟨br,trivial⟩ h
theorem BS {o:Oper}{E:Nat->Option SV}{H:Nat->Option Ob}{k nk:Nat}{f:X}{args:List X}{fid:FuncId}{first cap as:List SV}{F:Hp}{Q:SV->Hp->Prop}(hc:cO P o.op=some (.call f args))
  (h1:ev E f=some (.fn (.func fid) first cap)) (h2:qc E args=some as) (Ee:SC P fid (first++as++cap) F k nk Q) (hsub:∀ n ob,lk F n=some ob->H n=some ob):nW P o E H k nk F Q:=by
 obtain⟨c,fo,hop,bW,hf,ha⟩:=qZ hc;exact⟨hsub,λ rd p μ M a w K QQ hnew hk hS hK=>xW hop bW hf ha h1 h2 Ee hnew hk hS hK⟩
theorem SW.P3 {N k0:Nat}{st:St}{dB:List SI}{K:St->Prop}{st1:St}{ρ:Nat->Nat}(hw:aH k0 st st1 ρ)(h:bq P N k0 dB st1 K):bq P N k0 dB st K:=
 λ ops i h1 h2 h3 rd cF M0 w0 c0 a w fM=>h ops i h1 h2 h3 rd cF M0 w0 c0 a w (fM.weak hw)
theorem SW.xd {N k0:Nat}{st:St}{Q:Exit->St->Prop}{dB:List SI}{bs:List Nat}(h:bq P N k0 dB st (Q .normal)):SW P N k0 (.fD dB bs false) st Q:=by
 intro c hc rd hrf cF M0 w0 c0 a w fM;cases c<;>simp only[cK] at hc<;>first
  | (cases hc;done)
  | (exfalso;split at hc<;>cases hc;done)
  | (exfalso;obtain⟨_,_,h'⟩:=Option.map_eq_some_iff.1 hc;cases h';done)
  | skip
 rename_i id ops draw
 split at hc<;>try (cases hc;done)
 rename_i sis' bs' hreg;injection hc with hc;injection hc with h1 h2 h3;subst h1;subst h3;unfold EE at hreg
 split at hreg<;>try (cases hreg;done)
 rename_i sis2 hsis
 split at hreg<;>try (cases hreg;done)
 rename_i hchk;injection hreg with hreg;injection hreg with hr1 hr2;subst hr1;simp only[Bool.and_eq_true] at hchk;obtain⟨_,hin⟩:=hchk;obtain⟨hlen,kR⟩:=nA hsis;refine wpIn_region ?_;rw[List.range_eq_range'];have hn:ops.size=sis2.length:=by simpa using hlen
 rw[hn];refine h ops 0 (by omega) (λ j si hj=> ?_) (λ si hs d hd=> ?_) rd cF M0 w0 c0 a w fM _ λ st' a' w' hk hSt'=>⟨st',hk,hSt'⟩
 .have hj':j<ops.size:=by rw[hn];exact(List.getElem?_eq_some_iff.1 hj).1
  obtain⟨si',h1,h2⟩:=kR j ops[j] (by simp[hj']);rw[hj] at h1;injection h1 with h1;subst h1;exact⟨ops[j],by rw[Nat.zero_add];exact Array.getElem?_eq_getElem hj',h2⟩
 .have:=List.all_eq_true.1 hin si hs
  rw[hd] at this
  simpa using this
end
section
variable {P:Program}
theorem HSub.cons {F h:Hp}{n:Nat}{ob:Ob}(h1:lk h n=some ob)(h2:HSub F h):HSub ((n,ob)::F) h:=λ m kM hm=>by
 rw[aa] at hm
 split at hm
 .rename_i e;subst e;injection hm with hm;subst hm;exact h1
 .exact h2 m kM hm
theorem wrap_i64 (n:Int)(h: -9223372036854775808<=n/\n<9223372036854775808):IntKind.i64.wrap n=n:=xY n h.1 h.2
theorem jI (n:Int)(h:0<=n/\n<18446744073709551616):IntKind.u64.wrap n=n:=by
 have:=wrap_u64 n.toNat (by omega)
 rwa [show((n.toNat:Nat):Int)=n by omega] at this
theorem wrap_u32' (n:Int)(h:0<=n/\n<4294967296):IntKind.u32.wrap n=n:=by
 have:=wrap_u32 n.toNat (by omega)
 rwa [show((n.toNat:Nat):Int)=n by omega] at this
theorem wrap_u8' (n:Int)(h:0<=n/\n<256):IntKind.u8.wrap n=n:=by
 have:=wrap_u8 n.toNat (by omega)
 rwa [show((n.toNat:Nat):Int)=n by omega] at this
theorem af:(true == true)=true:=rfl
theorem uZ:(false == false)=true:=rfl
theorem Dt.AY (c:Dt)(a b:Int)(h:0<=a/\0<=b):cq (cq c.cells 0 [.d (.int .u8 a)]) 1 [.d (.int .u32 b)]=(Dt.mk a.toNat b.toNat).cells:=by
 have:=Dt.fV c a.toNat b.toNat
 rwa [show((a.toNat:Nat):Int)=a by omega,show((b.toNat:Nat):Int)=b by omega] at this
theorem Dt.AZ (c:Dt)(b:Int)(h:0<=b):cq c.cells 1 [.d (.int .u32 b)]=(Dt.mk c.r b.toNat).cells:=by
 rw[show b=((b.toNat:Nat):Int) by omega];rfl
theorem lE (n k:Nat):(n:Int)+(no_index (OfNat.ofNat k):Int)=((n+OfNat.ofNat k:Nat):Int):=rfl
theorem lF (n k:Nat):(n:Int)+(k:Int)=((n+k:Nat):Int):=rfl
def ak (L:List Nat)(st:St)(R:St->Prop):Prop:=R ⟨st.env.filter (λ x=>L.contains x.1),st.hp,st.k⟩
theorem ak.mk {L:List Nat}{env:List (Nat×SV)}{hp:Hp}{k:Nat}{R:St->Prop}{env':List (Nat×SV)}
  (he:env.filter (λ x=>L.contains x.1)=env':=by (simp only[lX,Nat.zero_add,Nat.reduceAdd,List.filter,List.contains_cons,List.contains_nil,Nat.reduceBEq,Bool.or_false,Bool.or_true,Bool.true_or,Bool.false_or,BEq.rfl,beq_self_eq_true]<;>with_reducible rfl)) (h:R ⟨env',hp,k⟩):ak L ⟨env,hp,k⟩ R:=by
 show R ⟨env.filter _,hp,k⟩;rw[he];exact h
theorem oK (L : List Nat):∀ (env:List (Nat×SV)) (t:Nat) (s:SV),(env.filter (λ x=>L.contains x.1)).lookup t=some s->env.lookup t=some s
  | [],t,s,h=>by simp at h
  | (u, x) :: env,t,s,h=>by
    simp only[List.filter] at h
    by_cases hu:L.contains u=true
    . rw[hu] at h
      simp only[List.lookup] at h ⊢
      split at h
      . exact h
      . exact oK L env t s h
    . rw[show L.contains u=false by simpa using hu] at h
      have h2:=oK L env t s h;simp only[List.lookup]
      by_cases e:t=u
      . subst e
        exfalso
        have:∀ (env:List (Nat×SV)),(env.filter (λ x=>L.contains x.1)).lookup t=none:=by
          intro env
          induction env with
          | nil=>rfl
          | cons y env ih=>
            simp only[List.filter]
            by_cases hy:L.contains y.1=true
            . rw[hy]
              simp only[List.lookup];have:(t == y.1)=false:=by
                simp only[beq_eq_false_iff_ne];intro e;rw[<- e] at hy;exact hu hy
              rw[this];exact ih
            . rw[show L.contains y.1=false by simpa using hy];exact ih
        rw[this] at h;cases h
      . rw[show(t == u)=false by simpa using e];exact h2
theorem SW.bG {N k0:Nat}{st:St}{Q:Exit->St->Prop}{dB:List SI}{bs:List Nat}{draw:Bool}(L:List Nat)(hm:P.follows .mixedOrders=true)(h:RW P dB st λ st' ts=>(!draw || nw bs ts)=true/\ak L st' (Q .normal)):SW P N k0 (.fD dB bs draw) st Q:=by
 have h':RW P dB st λ st' ts=>(!draw || nw bs ts)=true/\(λ e st'=>∃ st2,Q e st2/\st2=⟨st'.env.filter (λ x=>L.contains x.1),st'.hp,st'.k⟩) Exit.normal st':=by
  obtain⟨dQ,st',ob,ts,hr,ho,hn,hk⟩:=h;exact⟨dQ,st',ob,ts,hr,ho,hn,_,hk,rfl⟩
 have:=SW.OV (N:=N) (k0:=k0) (bs:=bs) (draw:=draw) (Q:=λ e st'=>∃ st2,Q e st2/\st2=⟨st'.env.filter (λ x=>L.contains x.1),st'.hp,st'.k⟩) hm h';intro c hc rd hrf cF M0 w0 c0 a w fM;refine wpIn_mono (this c hc rd hrf cF M0 w0 c0 a w fM) ?_;rintro e a' w' ⟨st',⟨st2,hq,rfl⟩,hst'⟩;obtain⟨h1,h2,h3,μ,M,h4,h5,h6⟩:=hst';exact⟨_,hq,h1,h2,h3,μ,M,λ t s hl=>h4 t s (oK L _ t s hl),h5,h6⟩
theorem SW.cut {N k0:Nat}{st:St}{Q:Exit->St->Prop}{x y:bK}(stM:St)(ρ:Nat->Nat)(h1:SW P N k0 x st λ e st'=>match e with | .normal=>aH k0 st' stM ρ|_=>False)(h2:SW P N k0 y stM Q):SW P N k0 (.seq x y) st Q:=by
 refine SW.seq (h1.mono λ e st' h=> ?_);cases e<;>first|exact h.elim|exact SW.weak ρ h h2
section
variable {dB rest r:List SI} {st st':St} {ob:Prop} {ts:List (Bool×List Nat)} {K:St->List (Bool×List Nat)->Prop}
theorem gZ0{p:Prop}(h:p:=by
   intro φ;simp(disch:=omega) only[Go.Sl.seg,lX,gU,fu,dK,ev,qc,wL,l9,List.lookup,Nat.reduceBEq,Nat.reduceAdd,Nat.reduceMul,Nat.zero_add,SV.cells,if_true,if_false,reduceIte,Bool.false_eq_true,dA,bU,dx,dy,gA,gR,bY,lk,List.filter,Nat.reduceBNe,bne_self_eq_false,eq_self,AD,yS,gH,v_,we,Em,aB.cells_one,BEq.rfl,beq_self_eq_true,Bool.true_or,Nat.reduceEqDiff,List.map_cons,List.map_nil,List.nil_append,List.cons_append,List.append_nil,Int.toNat_natCast,Nat.mul_one,Nat.add_zero,ja,i_,kN,iO,iP,iQ,iR,iS,iT,kO,Option.isSome_some,Option.isSome_none,Option.isNone_some,Option.isNone_none,Nat.zero_ne_one,Nat.one_ne_zero,Bool.and_false,Bool.and_true,List.drop_zero,aB.aM,aB.bk,aB.bB,Dt.cells_one,Dt.bk,Dt.AP,Dt.AQ,Dt.bB,Dt.aM,Dt.AY,Dt.AZ,mK,e_,wg,ux,List.all_cons,List.all_nil,SV.dR,Int.cast_ofNat_Int,Int.reduceBNe,Int.reduceBEq,Int.reduceLT,Int.reduceLE,Int.reduceGT,Int.reduceGE,nC,uO,uP,Bool.not_true,Bool.not_false,Bool.or_false,Bool.or_true,Bool.false_or,Bool.or_self,aB.qx,aB.AR,aB.uM,aB.uN,aB.dO,aB.dP,Dt.qx,Dt.AS,Dt.dO,Dt.dP,List.all_append,aB.zn,Dt.qJ,Bool.cond_true,Bool.cond_false,wrap_i64,jI,wrap_u32',wrap_u8',af,uZ,lE,lF,Int.reduceToNat,List.length_nil,List.getElem?_cons_zero,List.getElem?_cons_succ,List.take_succ_cons,List.take_zero,List.drop_succ_cons,decide_true,decide_false,Bool.true_and,Bool.and_self,Bool.false_and,nE,nF,lg,lp,jH,MM.eE,lu,oJ,nM,nP,nJ,nN,nL,nO,nH,nI,ag.cells_one,ag.bk,ag.lB,ag.AT,ag.uS,ag.AU,ag.lC,ag.uT,ag.uU,ag.LA,ag.iU,ag.iV,ag.qy,ag.LC,ag.AV,ag.uV,ag.AW,ag.qz,ag.qA,ag.uW,ag.uX,ag.bB,ag.aM,Cr.cells_one,Cr.bk,Cr.lB,Cr.lC,Cr.AX,Cr.uY,Cr.iU,Cr.iV,Cr.qy,Cr.qB,Cr.bB,Cr.aM,Cr.qJ,nQ,nR,nS,nT,Sp.cells_one,Sp.bk,Sp.lB,Sp.gN,Sp.bB,Sp.aM,Sp.fV,Sp.qJ,nV,nU,φ]
   with_reducible rfl):p:=h
theorem gZ1{p:Prop}(h:p:=by (intro φ;simp only[φ,dA,bU,dx,dy,gA,gR,bY,lk,List.lookup,Nat.reduceBEq,BEq.rfl,beq_self_eq_true,if_true,if_false,reduceIte,Nat.reduceEqDiff,Bool.false_eq_true,Option.isSome_some,Option.isSome_none]<;>with_reducible rfl)):p:=h
theorem gZ2{p:Prop}(h:p:=by first|trivial|(repeat' (first|exact trivial|omega|apply Zq|(simp[-List.length_flatMap,-Int.natCast_add];done)|(simp[-List.length_flatMap,-Int.natCast_add]<;>omega)))):p:=h
theorem gZ3{p:Prop}(h:p:=by intro φ;simp[Go.Sl.aH,aL,tS,EJ,SV.aC,SV.aU,SV.ok,SV.au,Ob.aC,Ob.ok,lk,List.lookup,aB.aA,Dt.aA,SV.dN,SV.aZ,SV.mc,SV.kZ,aB.aj,ff,bP,uR,x_,lX,φ]):p:=h
theorem RW.ro {d:Nat}{op:SO}{g:Option (Nat×Bool)}{env:List (Nat×SV)}{hp F F':Hp}{k:Nat}{v:SV}{nk:Nat}{ob:Prop}{Φ:Prop}(φ:Φ)
  (hr:dA op=true:=by rfl) (hc:gU op=false:=by rfl) (hb:xb op=false:=by rfl)
  (hg:g=none\/∃ t w,g=some (t,w)/\env.lookup t=some (.d (.bool w)):=by first|exact .inl rfl|exact .inr ⟨_,_,rfl,rfl⟩)
  (he:Φ->fu P ⟨env,hp,k⟩ op []=some (⟨v,F,F',nk,ob⟩,[]):=by exact gZ0)
  (br:ob:=by exact gZ2)
  (hk:nk=0:=by rfl)
  (h:RW P r ⟨(d,v)::env,hp,k⟩ λ st' ts=>K st' ((true,F.map (·.1)++F'.map (·.1))::ts)):RW P (⟨some d,op,g⟩::r) ⟨env,hp,k⟩ K:=RW.ET hr hc hb hg (he φ) br hk h
theorem RW.op {d:Nat}{op:SO}{g:Option (Nat×Bool)}{env:List (Nat×SV)}{hp oD F F':Hp}{k k':Nat}{v:SV}{nk:Nat}{ob:Prop}{Φ:Prop}(φ:Φ)
  (hc:gU op=false:=by rfl)
  (hg:g=none\/∃ t w,g=some (t,w)/\env.lookup t=some (.d (.bool w)):=by first|exact .inl rfl|exact .inr ⟨_,_,rfl,rfl⟩)
  (he:Φ->fu P ⟨env,hp,k⟩ op []=some (⟨v,F,F',nk,ob⟩,[]):=by exact gZ0)
  (br:ob:=by exact gZ2)
  (hh:Φ->bU (dA op) hp F F'=oD:=by exact gZ1)
  (hk:k+nk=k':=by first|(simp only[Nat.add_zero,Nat.reduceAdd]<;>rfl)|rfl)
  (h:RW P r ⟨(d,v)::env,oD,k'⟩ λ st' ts=>K st' ((dA op,F.map (·.1)++F'.map (·.1))::ts)):RW P (⟨some d,op,g⟩::r) ⟨env,hp,k⟩ K:=RW.EU hc hg (he φ) br (hh φ) hk h
theorem RW.di {op:SO}{g:Option (Nat×Bool)}{env:List (Nat×SV)}{hp oD F F':Hp}{k k':Nat}{v:SV}{nk:Nat}{ob:Prop}{Φ:Prop}(φ:Φ)
  (hc:gU op=false:=by rfl)
  (hg:g=none\/∃ t w,g=some (t,w)/\env.lookup t=some (.d (.bool w)):=by first|exact .inl rfl|exact .inr ⟨_,_,rfl,rfl⟩)
  (he:Φ->fu P ⟨env,hp,k⟩ op []=some (⟨v,F,F',nk,ob⟩,[]):=by exact gZ0)
  (br:ob:=by exact gZ2)
  (hh:Φ->bU (dA op) hp F F'=oD:=by exact gZ1)
  (hk:k+nk=k':=by first|(simp only[Nat.add_zero,Nat.reduceAdd]<;>rfl)|rfl)
  (h:RW P r ⟨env,oD,k'⟩ λ st' ts=>K st' ((dA op,F.map (·.1)++F'.map (·.1))::ts)):RW P (⟨none,op,g⟩::r) ⟨env,hp,k⟩ K:=RW.EU hc hg (he φ) br (hh φ) hk h
theorem RW.lit {d:Nat}{e sz len:Nat}{z:List SV}{parts:List (Nat×Nat×X)}{g:Option (Nat×Bool)}{env:List (Nat×SV)}{hp oD F F':Hp}{k k':Nat}{v:SV}{nk:Nat}{ob:Prop}{Φ:Prop}(φ:Φ)
  (hg:g=none\/∃ t w,g=some (t,w)/\env.lookup t=some (.d (.bool w)):=by first|exact .inl rfl|exact .inr ⟨_,_,rfl,rfl⟩)
  (he:Φ->fu P ⟨env,hp,k⟩ (.kK e sz len z parts) [.own]=some (⟨v,F,F',nk,ob⟩,[]):=by exact gZ0)
  (br:ob:=by exact gZ2)
  (hh:Φ->bU false hp F F'=oD:=by exact gZ1)
  (hk:k+nk=k':=by first|(simp only[Nat.add_zero,Nat.reduceAdd]<;>rfl)|rfl)
  (h:RW P r ⟨(d,v)::env,oD,k'⟩ λ st' ts=>K st' ((false,F.map (·.1)++F'.map (·.1))::ts)):RW P (⟨some d,.kK e sz len z parts,g⟩::r) ⟨env,hp,k⟩ K:=RW.Iw hg (he φ) br (hh φ) hk h
theorem RW.skip {d:Nat}{op:SO}{t:Nat}{w:Bool}{env:List (Nat×SV)}{hp:Hp}{k:Nat}{s:SV}
  (hg:env.lookup t=some s:=by rfl) (hs:mM w s=true:=by rfl)
  (h:RW P r ⟨(d,.de [])::env,hp,k⟩ λ st' ts=>K st' ((dA op,[])::ts)):RW P (⟨some d,op,some (t,w)⟩::r) ⟨env,hp,k⟩ K:=RW.EV hg hs h
theorem RW.aR {op:SO}{t:Nat}{w:Bool}{env:List (Nat×SV)}{hp:Hp}{k:Nat}{s:SV}
  (hg:env.lookup t=some s:=by rfl) (hs:mM w s=true:=by rfl)
  (h:RW P r ⟨env,hp,k⟩ λ st' ts=>K st' ((dA op,[])::ts)):RW P (⟨none,op,some (t,w)⟩::r) ⟨env,hp,k⟩ K:=RW.CJ hg hs h
def ai (P:Program)(fid:FuncId)(as':List SV)(d:Option Nat)(r:List SI)(env:List (Nat×SV))(hp:Hp)(k:Nat)(K:St->List (Bool×List Nat)->Prop):Prop:=
 ∃ F F' v nk,aF P fid as' F k nk v F'/\HSub F hp/\RW P r ⟨rA d v env,bU false hp F F',k+nk⟩ λ st' ts=>K st' ((false,F.map (·.1)++F'.map (·.1))::ts)
theorem RW.aW {d:Option Nat}{f:X}{args:List X}{g:Option (Nat×Bool)}{fid:FuncId}{as first cap as':List SV}{env:List (Nat×SV)}{hp:Hp}{k:Nat}
  (hf:ev (λ t=>env.lookup t) f=some (.fn (.func fid) first cap):=by (simp only[ev,List.lookup,Nat.reduceBEq]<;>rfl))
  (ha:qc (λ t=>env.lookup t) args=some as:=by (simp only[ev,qc,List.lookup,Nat.reduceBEq]<;>rfl))
  (has:first++as++cap=as':=by first|(simp only[List.nil_append,List.cons_append,List.append_nil]<;>rfl)|rfl)
  (hg:g=none\/∃ t w,g=some (t,w)/\env.lookup t=some (.d (.bool w)):=by first|exact .inl rfl|exact .inr ⟨_,_,rfl,rfl⟩)
  (h:ai P fid as' d r env hp k K):RW P (⟨d,.call f args,g⟩::r) ⟨env,hp,k⟩ K:=by
 obtain⟨F,F',v,nk,hc,hs,h⟩:=h;exact RW.EW hf ha has hc hs hg h
theorem ai.mk {fid:FuncId}{as':List SV}{F F' oD:Hp}{v v':SV}{nk k':Nat}{d:Nat}{env:List (Nat×SV)}{hp:Hp}{k:Nat}{Φ:Prop}(φ:Φ)
  (hs:HSub F hp:=by first|exact HSub.nil _|(repeat (first|exact HSub.nil _|refine HSub.cons (by rfl) ?_)))
  (hc:aF P fid as' F k nk v F')
  (hv:Φ->v=v':=by intro φ;first|((simp only[φ])<;>with_reducible rfl)|with_reducible rfl)
  (hh:Φ->bU false hp F F'=oD:=by exact gZ1)
  (hk:k+nk=k':=by first|(simp only[Nat.add_zero,Nat.reduceAdd]<;>rfl)|rfl)
  (h:RW P r ⟨(d,v')::env,oD,k'⟩ λ st' ts=>K st' ((false,F.map (·.1)++F'.map (·.1))::ts)):ai P fid as' (some d) r env hp k K:=⟨F,F',v,nk,hc,hs,by rw[hv φ,hh φ,hk];exact h⟩
end
section
variable {N k0:Nat} {r:List SI} {K:St->Prop}
theorem bq.op {d:Nat}{op:SO}{g:Option (Nat×Bool)}{env:List (Nat×SV)}{hp oD F F':Hp}{k k':Nat}{v:SV}{nk:Nat}{ob:Prop}{Φ:Prop}(φ:Φ)
  (hg:g=none\/∃ t w,g=some (t,w)/\env.lookup t=some (.d (.bool w)):=by first|exact .inl rfl|exact .inr ⟨_,_,rfl,rfl⟩)
  (he:Φ->fu P ⟨env,hp,k⟩ op []=some (⟨v,F,F',nk,ob⟩,[]):=by exact gZ0)
  (br:ob:=by exact gZ2)
  (hh:Φ->bU (dA op) hp F F'=oD:=by exact gZ1)
  (hk:k+nk=k':=by first|(simp only[Nat.add_zero,Nat.reduceAdd]<;>rfl)|rfl)
  (h:bq P N k0 r ⟨(d,v)::env,oD,k'⟩ K):bq P N k0 (⟨some d,op,g⟩::r) ⟨env,hp,k⟩ K:=by
 refine bq.one (f_ hg (he φ)) br ?_;rw[iW,hh φ,hk];exact h
theorem bq.di {op:SO}{g:Option (Nat×Bool)}{env:List (Nat×SV)}{hp oD F F':Hp}{k k':Nat}{v:SV}{nk:Nat}{ob:Prop}{Φ:Prop}(φ:Φ)
  (hg:g=none\/∃ t w,g=some (t,w)/\env.lookup t=some (.d (.bool w)):=by first|exact .inl rfl|exact .inr ⟨_,_,rfl,rfl⟩)
  (he:Φ->fu P ⟨env,hp,k⟩ op []=some (⟨v,F,F',nk,ob⟩,[]):=by exact gZ0)
  (br:ob:=by exact gZ2)
  (hh:Φ->bU (dA op) hp F F'=oD:=by exact gZ1)
  (hk:k+nk=k':=by first|(simp only[Nat.add_zero,Nat.reduceAdd]<;>rfl)|rfl)
  (h:bq P N k0 r ⟨env,oD,k'⟩ K):bq P N k0 (⟨none,op,g⟩::r) ⟨env,hp,k⟩ K:=by
 refine bq.one (f_ hg (he φ)) br ?_;rw[iW,hh φ,hk];exact h
theorem bq.skip {d:Nat}{op:SO}{t:Nat}{w:Bool}{env:List (Nat×SV)}{hp:Hp}{k:Nat}{s:SV}
  (hg:env.lookup t=some s:=by rfl) (hs:mM w s=true:=by rfl)
  (h:bq P N k0 r ⟨(d,.de [])::env,hp,k⟩ K):bq P N k0 (⟨some d,op,some (t,w)⟩::r) ⟨env,hp,k⟩ K:=by
 have hh:bU (dA op) hp [] []=hp:=by unfold bU;split<;>rfl
 refine bq.one (e:=⟨.de [],[],[],0,True⟩) (dQ:=[]) (c2:=[]) ?_ trivial ?_
 .unfold mM at hs
  split at hs
  .simp only[gi,hg];rw[if_neg (by simpa using hs)]
  .simp only[gi,hg]
  .cases hs
 .rw[iW]
  show bq P N k0 r ⟨(d,.de [])::env,bU (dA op) hp [] [],k+0⟩ _;rw[hh];exact h
theorem bq.aW {d:Nat}{f:X}{args:List X}{fid:FuncId}{as first cap as':List SV}{env:List (Nat×SV)}{hp F:Hp}{k nk:Nat}{Q:SV->Hp->Prop}
  (hsc:SC P fid as' F k nk Q) (hs:HSub F hp)
  (hf:ev (λ t=>env.lookup t) f=some (.fn (.func fid) first cap):=by (simp only[ev,List.lookup,Nat.reduceBEq]<;>rfl))
  (ha:qc (λ t=>env.lookup t) args=some as:=by (simp only[ev,qc,List.lookup,Nat.reduceBEq]<;>rfl))
  (has:first++as++cap=as':=by first|(simp only[List.nil_append,List.cons_append,List.append_nil]<;>rfl)|rfl)
  (h:∀ v F',Q v F'->bq P N k0 r ⟨(d,v)::env,bU false hp F F',k+nk⟩ K):bq P N k0 (⟨some d,.call f args,none⟩::r) ⟨env,hp,k⟩ K:=by
 refine bq.many (st:=⟨env,hp,k⟩) rfl (λ o hc=>BS hc hf ha (by rw[has];exact hsc) hs) rfl λ v F' hq=> ?_
 rw[iW];exact h v F' hq
theorem bq.oL {d:Nat}{f:X}{args:List X}{fid:FuncId}{as first cap as':List SV}{env:List (Nat×SV)}{hp oD F F':Hp}{k k' nk:Nat}{v v':SV}{Φ:Prop}(φ:Φ)
  (hsc:aF P fid as' F k nk v F')
  (hs:HSub F hp:=by first|exact HSub.nil _|(repeat (first|exact HSub.nil _|refine HSub.cons (by rfl) ?_)))
  (hf:ev (λ t=>env.lookup t) f=some (.fn (.func fid) first cap):=by (simp only[ev,List.lookup,Nat.reduceBEq]<;>rfl))
  (ha:qc (λ t=>env.lookup t) args=some as:=by (simp only[ev,qc,List.lookup,Nat.reduceBEq]<;>rfl))
  (has:first++as++cap=as':=by first|(simp only[List.nil_append,List.cons_append,List.append_nil]<;>rfl)|rfl)
  (hv:Φ->v=v':=by intro φ;first|((simp only[φ])<;>with_reducible rfl)|with_reducible rfl)
  (hh:Φ->bU false hp F F'=oD:=by exact gZ1)
  (hk:k+nk=k':=by first|(simp only[Nat.add_zero,Nat.reduceAdd]<;>rfl)|rfl)
  (h:bq P N k0 r ⟨(d,v')::env,oD,k'⟩ K):bq P N k0 (⟨some d,.call f args,none⟩::r) ⟨env,hp,k⟩ K:=by
 refine bq.many (st:=⟨env,hp,k⟩) rfl (λ o hc=>BS hc hf ha (by rw[has];exact hsc) hs) rfl λ w G hq=> ?_
 obtain⟨rfl,rfl⟩:=hq;rw[iW];obtain rfl:=hv φ;obtain rfl:=hh φ;obtain rfl:=hk;exact h
end
theorem SB.mono {f:FuncId}{args:List SV}{F:Hp}{k nk:Nat}{Q Q':SV->Hp->Prop}(h:SB P f args F k nk Q)(hq:∀ r F,Q r F->Q' r F):SB P f args F k nk Q':=
 ⟨h.1,h.2.1,h.2.2.1,λ μ M w vals h1 h2=>(h.2.2.2 μ M w vals h1 h2).mono λ _ _ ⟨r,F',bh,M',u,e,hQ,x⟩=>⟨r,F',bh,M',u,e,hq r F' hQ,x⟩⟩
theorem SB.args {f:FuncId}{args args':List SV}{F:Hp}{k nk:Nat}{Q:SV->Hp->Prop}(h:SB P f args F k nk Q)(hok:SV.au (λ n=>decide (n<k)) args'=true)
  (ha:∀ (p:Nat->Prop) (μ:Nat->Nm) (M:Mem) (vs:List Value),aV p μ M args' vs->aV p μ M args vs):SB P f args' F k nk Q:=
 ⟨h.1,hok,h.2.2.1,λ μ M w vals h1 h2=>h.2.2.2 μ M w vals (ha _ μ M _ h1) h2⟩
theorem End.mk {k nk:Nat}{rj:List RV}{Q:SV->Hp->Prop}{st:St}{ss:List SV}{ob:Prop}(F':Hp)
  (h1:CC st rj=some (ss,ob):=by rfl)
  (h2:ob:=by simp[yS])
  (h3:HSub F' st.hp:=by first|exact HSub.nil _|(repeat (first|exact HSub.nil _|refine HSub.cons (by rfl) ?_)))
  (h4:Q (ez ss) F')
  (h5:(ez ss).ok (λ n=>decide (n<k+nk))=true:=by first|rfl|simp[ez,SV.ok,SV.au,aB.aj,SV.aZ])
  (h6:F'.ok (λ n=>decide (n<k+nk))=true:=by first|rfl|simp[Hp.ok,Ob.ok,SV.ok,SV.au,aB.aj,SV.aZ])
  (h7:k+nk<=st.k:=by simp):Go.Sl.Fin k nk rj Q st:=⟨ss,ob,F',h1,h2,h3,h4,h5,h6,h7⟩
theorem SW.an {N k0:Nat}{st:St}{Q:Exit->St->Prop}{x:X}{y z:bK}(hx:ev (λ t=>st.env.lookup t) x=some (.d (.bool true)))(h1:SW P N k0 y st Q):SW P N k0 (.cond x y z) st Q:=
 SW.cond hx (λ _=>h1) (λ h=>by cases h)
theorem SW.ah {N k0:Nat}{st:St}{Q:Exit->St->Prop}{x:X}{y z:bK}(hx:ev (λ t=>st.env.lookup t) x=some (.d (.bool false)))(h1:SW P N k0 z st Q):SW P N k0 (.cond x y z) st Q:=
 SW.cond hx (λ h=>by cases h) (λ _=>h1)
theorem SW.lG {N k0:Nat}{st:St}{Q:Exit->St->Prop}{α:Type}{x:bK}(I:α->St)(m:α->Nat)(i0:α)(Lx:Nat->Nat){Φ:Prop}(φ:Φ)
  (h0:Φ->aH k0 st (I i0) Lx:=by exact gZ3)
  (round:∀ i,SW P N k0 x (I i) λ e st'=>match e with | .normal=>∃ j ρ,m j<m i/\aH k0 st' (I j) ρ|e=>Q e st'):SW P N k0 (.loop x) st Q:=SW.loop I m i0 Lx (h0 φ) round
theorem aH.mk {k0:Nat}{st st1:St}{ρ:Nat->Nat}{Φ:Prop}(φ:Φ)(h0:Φ->aH k0 st st1 ρ:=by exact gZ3):aH k0 st st1 ρ:=h0 φ
theorem Next.mk {k0:Nat}{st':St}{α:Type}{I:α->St}{m:α->Nat}{i:α}(j:α)(ρ:Nat->Nat){Φ:Prop}(φ:Φ)
  (hm:m j<m i:=by first|omega|(simp;done)|(simp;omega))
  (h0:Φ->aH k0 st' (I j) ρ:=by exact gZ3):∃ j ρ,m j<m i/\aH k0 st' (I j) ρ:=⟨j,ρ,hm,h0 φ⟩
end
end Go.Sl
namespace Go.Sl
open Go.RowKit
section
set_option maxHeartbeats 1000000
variable {P:Program}
theorem ej {n:Nat}{ob:Ob}{h:Hp}:lk ((n,ob)::h) n=some ob:=by rw[aa,if_pos rfl]
theorem bL {n m:Nat}{ob:Ob}{h:Hp}(e:m≠n):lk ((n,ob)::h) m=lk h m:=by rw[aa,if_neg e]
mutual
theorem SV.fG {q q':Nat->Bool}(h:∀ n,q n=true->q' n=true):∀ s:SV,s.ok q=true->s.ok q'=true
 | .d _,_=>rfl
 | .ptr n _,hs=>h n hs
 | .gs n _,hs=>h n hs
 | .vp _ _,_=>rfl
 | .bs n _ _,hs=>h n hs
 | .mp n,hs=>h n hs
 | .it n,hs=>h n hs
 | .yl n,hs=>h n hs
 | .fn _ a c,hs=>by
  simp only[SV.ok,Bool.and_eq_true] at hs ⊢;exact⟨SV.jZ h a hs.1,SV.jZ h c hs.2⟩
 | .agg cs,hs=>SV.jZ h cs hs
 | .de cs,hs=>SV.jZ h cs hs
 | .any,_=>rfl
theorem SV.jZ {q q':Nat->Bool}(h:∀ n,q n=true->q' n=true):∀ s:List SV,SV.au q s=true->SV.au q' s=true
 | [],_=>rfl
 | c::cs,hs=>by
  simp only[SV.au,Bool.and_eq_true] at hs ⊢;exact⟨SV.fG h c hs.1,SV.jZ h cs hs.2⟩
end
theorem EY {k nk K:Nat}{F hp F':Hp}{μ xR:Nat->Nm}{M M1:Mem}{w w':World}(vX:bR (· <K) xR M1 (lk hp) w')(oB:Ev (lk F) (λ n=>k<=n/\n<K) μ M w (lk hp) xR M1 w')
    (h3:HSub F' hp) (h6:F'.ok (λ n=>decide (n<k+nk))=true):
    bR (· <k+nk) (λ n=>if n<k+nk then xR n else μ n) M1 (lk F') w'/\Ev (lk F) (λ n=>k<=n/\n<k+nk) μ M w (lk F') (λ n=>if n<k+nk then xR n else μ n) M1 w':=by
  refine⟨⟨vX.mem,λ n ob hn=> ?_,λ n m hn hm ln lm e=> ?_⟩,⟨λ n hn=> ?_,oB.mem,oB.frame,oB.size,λ n hn=> ?_,oB.os,oB.tape,oB.output⟩⟩
  . obtain⟨a1,a2⟩:=Hp.fC h6 hn
    simp only[decide_eq_true_eq] at a1;obtain⟨_,b1,b2⟩:=vX.obs n ob (h3 n ob hn);simp only[if_pos a1];refine⟨a1,?_,b2⟩;have hb':bZ (· <K) (λ n=>xR (id n)) M1 w' (xR n) (ob.aC id):=by rw[Ob.oG];exact b1
    exact bZ.to a2 (λ m hm=>by simpa using hm) (λ m hm=>by simp only[decide_eq_true_eq] at hm;simp[hm]) hb'
  . obtain⟨o1,ho1⟩:=Option.ne_none_iff_exists'.1 hn
    obtain⟨o2,ho2⟩:=Option.ne_none_iff_exists'.1 hm;have a1:=(Hp.fC h6 ho1).1;have a2:=(Hp.fC h6 ho2).1;simp only[decide_eq_true_eq] at a1 a2;rw[if_pos a1] at e ln;rw[if_pos a2] at e lm;exact vX.inj n m (by rw[h3 n o1 ho1];simp) (by rw[h3 m o2 ho2];simp) ln lm e
  . by_cases hnk:n<k+nk
    . simp only[if_pos hnk]
      by_cases hK:k<=n
      . exact absurd ⟨hK,hnk⟩ hn
      . exact oB.old n (λ hh=>hK hh.1)
    . simp only[if_neg hnk]
  . obtain⟨o1,ho1⟩:=Option.ne_none_iff_exists'.1 hn
    have a1:=(Hp.fC h6 ho1).1;simp only[decide_eq_true_eq] at a1;simp only[if_pos a1];rcases oB.names n (by rw[h3 n o1 ho1];simp) with⟨b1,b2⟩|⟨b1,b2⟩
    . exact .inl ⟨⟨b1.1,a1⟩,b2⟩
    . exact .inr ⟨λ hh=>b1 ⟨hh.1,by
        by_cases hK:n<K
        . exact hK
        . exact absurd (vX.obs n o1 (h3 n o1 ho1)).1 hK⟩,b2⟩
theorem zu {p:Nat->Prop}{μ:Nat->Nm}{M:Mem}:∀ (ps:List Nat) (args:List SV) (vals:List Value) (tm:Array Value) (env:List (Nat×SV)),aV p μ M args vals->ps.length=args.length->
  (∀ t s,env.lookup t=some s->Rp p μ M s (tm.getD t undef))->(∀ q,q∈ps->q<tm.size)->
  ∀ t s,((ps.zip args).reverse++env).lookup t=some s->Rp p μ M s (((ps.zip vals).foldl (λ tmps (x:Nat×Value)=>tmps.setIfInBounds x.1 x.2) tm).getD t undef)
 | [],args,vals,tm,env,hr,hl,he,hq,t,s,h=>by simpa using he t s (by simpa using h)
 | q::ps,[],vals,tm,env,hr,hl,he,hq,t,s,h=>by simp at hl
 | q ::ps,x::args,vals,tm,env,hr,hl,he,hq,t,s,h=>by
  obtain⟨u,us,rfl,h1,h2⟩:=aV.aD.1 hr;simp only[List.zip_cons_cons,List.reverse_cons,List.append_assoc,List.singleton_append] at h;simp only[List.zip_cons_cons,List.foldl_cons];refine zu ps args us (tm.setIfInBounds q u) ((q,x)::env) h2 (by simpa using hl) (λ t' s' h'=> ?_) (λ q' hq'=>by simpa using hq q' (by simp[hq'])) t s h;have hqs:=hq q (by simp);simp only[List.lookup] at h'
  split at h'
  .rename_i e
   have e:t'=q:=by simpa using e
   subst e;injection h' with h';subst h';have:(tm.setIfInBounds t' u).getD t' undef=u:=by simp[Array.getD,hqs]
   rw[this];exact h1
  .rename_i e
   have e:t'≠q:=by simpa using e
   have:(tm.setIfInBounds q u).getD t' undef=tm.getD t' undef:=by
    simp[Array.getD_eq_getD_getElem?,Array.getElem?_setIfInBounds_ne (Ne.symm e)]
   rw[this];exact he t' s' h'
theorem xe:∀ (xs:List (Nat×Value)) (tm:Array Value),(xs.foldl (λ tmps (x:Nat×Value)=>tmps.setIfInBounds x.1 x.2) tm).size=tm.size
 | [],tm=>rfl
 | x::xs,tm=>by simp[xe xs]
def Left:Exit->Option Code->Bool->Prop
 | .normal,pe,b=>pe=none/\b=true
 | .ret,pe,b=>pe=some .ret/\b=false
 | .exit id,pe,b=>pe=some (.exit id)/\b=false
 | _,_,_=>False
def mN (pe:Option Code):LoopState:=if pe.isNone then .ready else .done
def P4 (nl N:Nat)(ts:List Nat)(cs:List SV)(ps:List Nat)(ca cb:Code)(k nk:Nat)(Q:SV->Hp->Prop)(e:Exit)(st2:St):Prop:=
 ∃ pe b F',Left e pe b/\HSub F' st2.hp/\F'.ok (λ n=>decide (n<k+nk))=true/\k+nk<=st2.k/\Q (.d (.bool b)) ((nl,.p0 N ts cs ps ca cb (mN pe) pe)::F')
theorem u0 {p:Nat->Prop}{μ:Nat->Nm}{M:Mem}{f:Nat->Value}:∀ {ts:List Nat} {cs:List SV},aV p μ M cs (ts.map f)->∀ t s,(ts.zip cs).lookup t=some s->Rp p μ M s (f t)
 | [],_,_,t,s,h=>by simp at h
 | t'::ts,[],_,t,s,h=>by simp at h
 | t'::ts,c::cs,hr,t,s,h=>by
  obtain⟨u,us,e,h1,h2⟩:=aV.aD.1 hr;injection e with e1 e2;subst e1;subst e2;simp only[List.zip_cons_cons,List.lookup] at h
  split at h
  .rename_i e
   have e:t=t':=by simpa using e
   injection h with h;subst h;subst e;exact h1
  .exact u0 h2 t s h
theorem Ef.ua {nl N k nk:Nat}{ts:List Nat}{cs:List SV}{ps:List Nat}{ca cb:Code}{sa sb:bK}{args:List SV}{H:Hp}{Q:SV->Hp->Prop}
    (hca:cK P N ca=some sa) (hcb:cK P N cb=some sb) (P5:sa.rf=false) (hrb:sb.rf=false) (hlen:ps.length=args.length) (P6:∀ q,q∈ps->q<N) (hnl:nl<k) (hH:lk H nl=none)
    (hargs:SV.au (λ n=>decide (n<k)) args=true) (P7:H.ok (λ n=>decide (n<k))=true) (hcs:SV.au (λ n=>decide (n<k)) cs=true)
    (h:SW P N k sa ⟨(ps.zip args).reverse++ts.zip cs,H,k⟩ λ e st1=>e= .normal/\SW P N k sb st1 (P4 nl N ts cs ps ca cb k nk Q)):
    Ef P nl args ((nl,.p0 N ts cs ps ca cb .ready none)::H) k nk Q:=by
  refine⟨hargs,by simp only[Hp.ok,List.all_cons,Ob.ok,hcs,Bool.and_eq_true];exact⟨by simpa using hnl,P7⟩,λ μ M w vals hr hS=> ?_⟩;obtain⟨_,⟨hlive,r,hb,hcsr,hN,hps,has,hbd,hst,hpe⟩,hMn⟩:=hS.obs nl _ ej;generalize hl:(μ nl).blk=l at*;have hMn:=hMn hlive;have hsub:∀ n ob,lk H n=some ob->lk ((nl,.p0 N ts cs ps ca cb .ready none)::H) n=some ob:=λ n ob hn=>by
    rw[bL (λ e=>by rw[e,hH] at hn;cases hn)];exact hn
  have hSH:bR (· <k) μ M (lk H) w:=hS.sub hsub;have hltl:l<w.heap.size:=(Array.getElem?_eq_some_iff.1 hb).1;have hnot:∀ n,lk H n≠none->(μ n).live=true->(μ n).blk≠l:=λ n hn ln e=>by
    obtain⟨ob,ho⟩:=Option.ne_none_iff_exists'.1 hn;have:=hS.inj n nl (by rw[hsub n ob ho];simp) (by rw[ej];simp) ln hlive (by rw[hl];exact e);subst this;rw[hH] at hn;exact hn rfl
  have hvs:vals.size=r.params.size:=by
    have h1:vals.size=args.length:=by simpa using hr.length
    have h2:r.params.size=ps.length:=by rw[<- hps];simp
    omega
  refine⟨_,_,_,_,run_yield hb hvs,roundIn_of_wpIn trivial ?_⟩;have hfold:(r.params.zip vals).foldl (λ tmps (x:Nat×Value)=>tmps.setIfInBounds x.1 x.2) r.tmps=(ps.zip vals.toList).foldl (λ tmps (x:Nat×Value)=>tmps.setIfInBounds x.1 x.2) r.tmps:=by
    rw[<- hps,<- Array.foldl_toList,Array.toList_zip]
  have fM:iC N μ M w (lk H) k ⟨(ps.zip args).reverse++ts.zip cs,H,k⟩ { tmps:=(ps.zip vals.toList).foldl (λ tmps (x:Nat×Value)=>tmps.setIfInBounds x.1 x.2) r.tmps,defers:=[]} w:=by
    refine⟨Nat.le_refl _,trivial,by rw[xe];exact hN,μ,M,?_,hSH,Ev.refl _ _ _ _ _ λ n hn hh=>absurd hh.2 (Nat.not_lt.2 hh.1)⟩;exact zu ps args vals.toList r.tmps (ts.zip cs) hr hlen (u0 (f:=λ t=>r.tmps.getD t undef) hcsr) (λ q hq=>by rw[hN];exact P6 q hq)
  have hfold':(r.params.zip vals).foldl (λ tmps (x:Tmp×Value)=>match x with|(t,a)=>tmps.setIfInBounds t a) r.tmps=(ps.zip vals.toList).foldl (λ tmps (x:Nat×Value)=>tmps.setIfInBounds x.1 x.2) r.tmps:=hfold;rw[hfold',has,hbd];show ca.wpIn (jT (some l)) 0 P _ _ w;refine wpIn_mono (h ca hca (some l) (λ e=>by rw[P5] at e;cases e) μ M w (lk H) _ w fM) ?_;rintro e a1 w1 ⟨st1,⟨rfl,hbody⟩,hk1,hdf1,hsz1,xR,M1,hsl1,vX,oB⟩;have hw1:w1.heap[l]? =some (.loop r):=by rw[(oB.frame l hltl hnot).1];exact hb
  refine⟨_,run_beginRound hw1 hst,?_⟩;have hnot1:∀ n,lk st1.hp n≠none->(xR n).live=true->(xR n).blk≠l:=λ n hn ln e=>by
    rcases oB.names n hn with⟨_,hh⟩|⟨h1,h2⟩
    . rcases hh ln with h'|⟨m,hm,lm,e'⟩
      . omega
      . exact hnot m hm lm (e'.trans e)
    . rw[oB.old n h1] at e ln
      exact hnot n h2 ln e
  have hM1:∀ o,M1 l o=none:=λ o=>by rw[(oB.frame l hltl hnot).2];exact hMn o
  have hS2:bR (· <st1.k) xR M1 (lk st1.hp) (w1.putObj l (.loop { r with state:= .busy})):=by
    refine⟨⟨λ b o v hv=> ?_,vX.mem.kJ⟩,λ n ob hn=> ?_,vX.inj⟩
    . have hbl:b≠l:=λ e=>by rw[e,hM1] at hv;cases hv
      have:=vX.mem b o v hv;simp only[World.cell?,World.putObj_heap_other hbl] at this ⊢;exact this
    . obtain⟨q1,q2,q3⟩:=vX.obs n ob hn
      exact⟨q1,q2.more (λ _ h=>h) (λ _ _=>rfl) (Mem.le_refl _) (λ ln=>World.putObj_heap_other (hnot1 n (by rw[hn];simp) ln)),q3⟩
  have hE2:Ev (lk H) (λ n=>k<=n/\n<st1.k) μ M (w.putObj l (.loop { r with state:= .busy})) (lk st1.hp) xR M1 (w1.putObj l (.loop { r with state:= .busy})):=by
    refine⟨oB.old,oB.mem,λ b hb' hn=> ?_,by simpa using oB.size,by simpa using oB.names,oB.os,oB.tape,oB.output⟩;rw[World.putObj_size] at hb';refine⟨?_,(oB.frame b hb' hn).2⟩
    by_cases e:b=l
    . subst e
      rw[World.putObj_heap_same hltl,World.putObj_heap_same (Array.getElem?_eq_some_iff.1 hw1).1]
    . rw[World.putObj_heap_other e,World.putObj_heap_other e];exact(oB.frame b hb' hn).1
  have hdf2:Marks (w.putObj l (.loop { r with state:= .busy})) (w1.putObj l (.loop { r with state:= .busy})) a1.defers:=by
    have key:∀ df,Marks w w1 df->Marks (w.putObj l (.loop { r with state:= .busy})) (w1.putObj l (.loop { r with state:= .busy})) df:=by
      intro df
      induction df with
      | nil=>intro _;trivial
      | cons d ds ih=>
        rintro⟨⟨q,g1,g2,g3,g4⟩,g5⟩;refine⟨⟨q,g1,by simpa using g2,?_,g4⟩,ih g5⟩;rw[World.putObj_heap_other (λ e=>by rw[e,hw1] at g3;cases g3)];exact g3
    exact key _ hdf1
  show cb.wpIn (jT (some l)) 0 P _ _ _;refine wpIn_mono (hbody cb hcb (some l) (λ e=>by rw[hrb] at e;cases e) μ M _ (lk H) a1 _ ⟨hk1,hdf2,hsz1,xR,M1,hsl1,hS2,hE2⟩) ?_;rintro e a2 w3 ⟨st2,⟨pe,b,F',hleft,hF',EH,hkk,hQ⟩,hk2,_,_,Kq,M2,_,hS3,hE3⟩;have hlt':l<(w.putObj l (.loop { r with state:= .busy})).heap.size:=by simpa using hltl
  have hw3:w3.heap[l]? =some (.loop { r with state:= .busy}):=by rw[(hE3.frame l hlt' hnot).1];exact World.putObj_heap_same hltl
  have hnot3:∀ n,lk st2.hp n≠none->(Kq n).live=true->(Kq n).blk≠l:=λ n hn ln e=>by
    rcases hE3.names n hn with⟨_,hh⟩|⟨h1,h2⟩
    . rcases hh ln with h'|⟨m,hm,lm,e'⟩
      . omega
      . exact hnot m hm lm (e'.trans e)
    . rw[hE3.old n h1] at e ln
      exact hnot n h2 ln e
  have hM3:∀ o,M2 l o=none:=λ o=>by rw[(hE3.frame l hlt' hnot).2];exact hMn o
  have hnl2:lk st2.hp nl=none:=by
    cases hc:lk st2.hp nl with
    | none=>rfl
    | some ob=>
      rcases hE3.names nl (by rw[hc];simp) with⟨h1,_⟩|⟨_,h2⟩
      . omega
      . exact absurd hH h2
  have hmu:Kq nl=μ nl:=hE3.old nl (by omega)
  have fin:∃ w4,(Instr.endRound l pe).run P w3= .ok (.bool pe.isNone) w4/\∃ r F' bh M' u,Ending.returned (.bool pe.isNone)= .returned u/\Q r F'/\r.ok (λ n=>decide (n<k+nk))=true/\F'.ok (λ n=>decide (n<k+nk))=true/\dh bh M' r u/\bR (· <k+nk) bh M' (lk F') w4/\
      Ev (lk ((nl,.p0 N ts cs ps ca cb .ready none)::H)) (λ n=>k<=n/\n<k+nk) μ M w (lk F') bh M' w4:=by
    refine⟨_,run_endRound pe hw3,?_⟩;have hbp:b=pe.isNone:=by cases e<;>simp only[Left] at hleft<;>first|(obtain⟨rfl,rfl⟩:=hleft;rfl)|exact hleft.elim
    have hS4:bR (· <st2.k) Kq M2 (lk ((nl,.p0 N ts cs ps ca cb (mN pe) pe)::st2.hp)) (w3.putObj l (.loop { r with state:=if pe.isNone then .ready else .done,pending:=pe})):=by
      refine⟨⟨λ b o v hv=> ?_,hS3.mem.kJ⟩,λ n ob hn=> ?_,λ n m hn hm ln lm e=> ?_⟩
      . have hbl:b≠l:=λ e=>by rw[e,hM3] at hv;cases hv
        have:=hS3.mem b o v hv;simp only[World.cell?,World.putObj_heap_other hbl] at this ⊢;exact this
      . by_cases en:n=nl
        . subst en
          rw[ej] at hn;injection hn with hn;subst hn;rw[hmu];refine⟨by omega,⟨hlive,{ r with state:=if pe.isNone then .ready else .done,pending:=pe},by rw[hl];exact World.putObj_heap_same (Array.getElem?_eq_some_iff.1 hw3).1,?_,hN,hps,has,hbd,rfl,rfl⟩,λ _=>by rw[hl];exact hM3⟩;exact hcsr.more (λ n hn=>by show n<st2.k;have:n<k:=hn;omega) (λ n hn=>hE3.old n (by have:n<k:=hn;omega)) hE3.mem
        . rw[bL en] at hn
          obtain⟨q1,q2,q3⟩:=hS3.obs n ob hn;exact⟨q1,q2.more (λ _ h=>h) (λ _ _=>rfl) (Mem.le_refl _) (λ ln=>World.putObj_heap_other (hnot3 n (by rw[hn];simp) ln)),q3⟩
      . by_cases en:n=nl<;>by_cases em:m=nl
        . rw[en,em]
        . subst en
          rw[bL em] at hm;rw[hmu,hl] at e;exact absurd e.symm (hnot3 m hm lm)
        . subst em
          rw[bL en] at hn;rw[hmu,hl] at e;exact absurd e (hnot3 n hn ln)
        . rw[bL en] at hn
          rw[bL em] at hm;exact hS3.inj n m hn hm ln lm e
    have hE4:Ev (lk ((nl,.p0 N ts cs ps ca cb .ready none)::H)) (λ n=>k<=n/\n<st2.k) μ M w (lk ((nl,.p0 N ts cs ps ca cb (mN pe) pe)::st2.hp)) Kq M2 (w3.putObj l (.loop { r with state:=if pe.isNone then .ready else .done,pending:=pe})):=by
      have hsz:=hE3.size;rw[World.putObj_size] at hsz;refine⟨hE3.old,hE3.mem,λ b hb' hn=> ?_,by simpa using hsz,λ n hn=> ?_,hE3.os,hE3.tape,hE3.output⟩
      . have hbl:b≠l:=λ e=>hn nl (by rw[ej];simp) hlive (by rw[hl];exact e.symm)
        have hnH:∀ n,lk H n≠none->(μ n).live=true->(μ n).blk≠b:=λ n h1 h2=>by
          obtain⟨ob,ho⟩:=Option.ne_none_iff_exists'.1 h1;exact hn n (by rw[hsub n ob ho];simp) h2
        have:=hE3.frame b (by simpa using hb') hnH;refine⟨?_,this.2⟩;rw[World.putObj_heap_other hbl,this.1,World.putObj_heap_other hbl]
      . by_cases en:n=nl
        . subst en
          exact .inr ⟨by omega,by rw[ej];simp⟩
        . rw[bL en] at hn
          rw[bL en];rcases hE3.names n hn with⟨h1,h2⟩|h1
          . refine .inl ⟨h1,λ ln=> ?_⟩
            rcases h2 ln with h2|⟨m,hm,lm,e⟩
            . exact .inl (by simpa using h2)
            . obtain⟨ob,ho⟩:=Option.ne_none_iff_exists'.1 hm
              exact .inr ⟨m,by rw[hsub m ob ho];simp,lm,e⟩
          . exact .inr h1
    have hsub':HSub ((nl,.p0 N ts cs ps ca cb (mN pe) pe)::F') ((nl,.p0 N ts cs ps ca cb (mN pe) pe)::st2.hp):=λ n ob hn=>by
      by_cases en:n=nl
      . subst en;rw[ej] at hn ⊢;exact hn
      . rw[bL en] at hn ⊢;exact hF' n ob hn
    have hok':Hp.ok (λ n=>decide (n<k+nk)) ((nl,.p0 N ts cs ps ca cb (mN pe) pe)::F')=true:=by
      have hcs':SV.au (λ n=>decide (n<k+nk)) cs=true:=by
        rw[SV.xX] at hcs ⊢;intro c hc;exact SV.fG (λ n hn=>by simp only[decide_eq_true_eq] at hn ⊢;omega) c (hcs c hc)
      simp only[Hp.ok,List.all_cons,Ob.ok,hcs',Bool.and_eq_true];exact⟨⟨by simp;omega,trivial⟩,EH⟩
    obtain⟨z1,z2⟩:=EY (nk:=nk) hS4 hE4 hsub' hok';exact⟨_,_,_,M2,_,rfl,hQ,rfl,hok',by rw[hbp];simp[dh,bQ],z1,z2⟩
  obtain⟨w4,he,hfin⟩:=fin;cases e<;>simp only[Left] at hleft<;>first
    | exact hleft.elim
    | (obtain⟨rfl,rfl⟩:=hleft;exact⟨_,w4,he,hfin⟩)
def CK (env:List (Nat×SV)):List Nat->List SV->Prop
 | [],[]=>True
 | t::ts,c::cs=>env.lookup t=some c/\CK env ts cs
 | _,_=>False
theorem CK.rep {p:Nat->Prop}{μ:Nat->Nm}{M:Mem}{env:List (Nat×SV)}{f:Nat->Value}(h:∀ t s,env.lookup t=some s->Rp p μ M s (f t)):∀ {ts:List Nat} {cs:List SV},CK env ts cs->aV p μ M cs (ts.map f)
 | [],[],_=>aV.aQ.2 rfl
 | t::ts,c::cs,⟨h1,h2⟩=>aV.aD.2 ⟨_,_,rfl,h t c h1,CK.rep h h2⟩
 | [],_::_,h=>h.elim
 | _::_,[],h=>h.elim
def RQ (Q:Exit->St->Prop)(pe:Option Code)(st:St):Prop:=
 match pe with
 | none=>Q .normal st
 | some .ret=>Q .ret st
 | some (.exit id)=>Q (.exit id) st
 | _=>False
theorem Marks.lt {w0 w:World}:∀ {df:List Deferred},Marks w0 w df->∀ d,d∈df->∃ r,d=⟨.collected r,#[]⟩/\r<w.heap.size
 | [],_,d,h=>by simp at h
 | d::ds,⟨⟨r,h1,h2,h3,h4⟩,h5⟩,d',h=>by
  rcases List.mem_cons.1 h with rfl|h
  .exact⟨r,h1,(Array.getElem?_eq_some_iff.1 h3).1⟩
  .exact Marks.lt h5 d' h
theorem Marks.alloc {w0 w:World}(o:Obj):∀ {df:List Deferred},Marks w0 w df->Marks w0 (w.alloc o) df
 | [],_=>trivial
 | d::ds,⟨⟨r,h1,h2,h3,h4⟩,h5⟩=>⟨⟨r,h1,h2,(jU w o (Array.getElem?_eq_some_iff.1 h3).1).trans h3,h4⟩,Marks.alloc o h5⟩
theorem SW.sD {N k0 nk:Nat}{st:St}{Q:Exit->St->Prop}{g:X}{ps:List Nat}{sa sb:bK}{f:FuncId}{first cap:List SV}(ts:List Nat)(cs:List SV)(hg:ev (λ t=>st.env.lookup t) g=some (.fn (.func f) first cap))(hts:CK st.env ts cs)
    (h:∀ ca cb,cK P N ca=some sa->cK P N cb=some sb->SC P f (first++[.yl st.k]++cap) ((st.k,.p0 N ts cs ps ca cb .ready none)::st.hp) (st.k+1) nk λ _ F'=>
      ∃ pe,lk F' st.k=some (.p0 N ts cs ps ca cb (mN pe) pe)/\RQ Q pe ⟨st.env,bY F' st.k,st.k+1+nk⟩):SW P N k0 (.sD g ps sa sb) st Q:=by
  intro c hc rd hrf cF M0 w0 c0 a w fM;obtain rfl:=hrf rfl;cases c<;>simp only[cK] at hc<;>first
    | (cases hc;done)
    | (exfalso;obtain⟨_,_,hh⟩:=Option.map_eq_some_iff.1 hc;cases hh;done)
    | skip
  case rangeFunc g' ps' ca cb=>
    split at hc<;>try (cases hc;done)
    rename_i g'' sa' sb' hg' hca hcb;injection hc with hc;injection hc with e1 e2 e3 e4;subst e1;subst e2;subst e3;subst e4;obtain⟨lW,hdf,hsz,μ,M,fq,hS,hE⟩:=fM;have hk:iD (λ t=>st.env.lookup t) #[g'] (· <st.k) μ M a:=⟨λ t _ s hs=>fq t s hs,hS.mem.kJ⟩;obtain⟨as,cs',ef,r1,r2⟩:=Rp.r_.1 (hk.get (by simp) hg' hg);have hlt:∀ n,lk st.hp n≠none->n<st.k:=λ n hn=>by
      obtain⟨ob,ho⟩:=Option.ne_none_iff_exists'.1 hn;exact(hS.obs n ob ho).1
    refine wpIn_rangeFunc λ fn _=> ?_
    let rr:Loop:={ state:= .ready,pending:=none,fn:=fn,tmps:=a.tmps,params:=ps',assign:=ca,body:=cb,defers:=w.heap.size}
    let wA:=w.alloc (.deferred (some []))
    let wB:=wA.alloc (.loop rr)
    have hAs:wA.heap.size=w.heap.size+1:=World.size_alloc _ _;have hBs:wB.heap.size=w.heap.size+2:=by show(wA.alloc _).heap.size=_;rw[World.size_alloc,hAs]
    have hB1:wB.heap[w.heap.size+1]? =some (.loop rr):=by rw[<- hAs];exact gM wA _
    have hB0:wB.heap[w.heap.size]? =some (.deferred (some [])):=by rw[jU wA _ (by omega)];exact gM w _
    have hBo:∀ b,b<w.heap.size->wB.heap[b]? =w.heap[b]? :=λ b hb=>by rw[jU wA _ (by omega),jU w _ hb]
    let nm:Nm:=⟨w.heap.size+1,0,true⟩
    let μB:=yW μ st.k nm
    have hold:∀ n,n<st.k->μB n=μ n:=λ n hn=>eU _ _ _ (by omega)
    have hup:∀ n,n<st.k->n<st.k+1:=λ n hn=>by omega
    have hMl:∀ o,M (w.heap.size+1) o=none:=uw hS.mem (by omega);have hSB:bR (· <st.k+1) μB M (lk ((st.k,.p0 N ts cs ps'.toList ca cb .ready none)::st.hp)) wB:=by
      refine⟨mI _ (mI _ hS.mem),λ n ob hn=> ?_,λ n m hn hm ln lm e=> ?_⟩
      . by_cases en:n=st.k
        . subst en
          rw[ej] at hn;injection hn with hn;subst hn;have e:μB st.k=nm:=bz _ _ _;rw[e];refine⟨Nat.lt_succ_self _,⟨rfl,rr,hB1,?_,hsz,rfl,rfl,rfl,rfl,rfl⟩,λ _=>hMl⟩;exact(CK.rep (f:=λ t=>a.tmps.getD t undef) fq hts).more hup hold (Mem.le_refl _)
        . rw[bL en] at hn
          obtain⟨q1,q2,q3⟩:=hS.obs n ob hn;rw[hold n q1];exact⟨hup n q1,q2.more hup hold (Mem.le_refl _) (λ ln=>hBo _ (q2.lt ln)),q3⟩
      . have far:∀ n,lk st.hp n≠none->(μB n).live=true->(μB n).blk≠w.heap.size+1:=λ n hn ln e=>by
          rw[hold n (hlt n hn)] at ln e;have:=hS.lt hn ln;omega
        have e0:(μB st.k).blk=w.heap.size+1:=by show(yW μ st.k nm st.k).blk=_;rw[bz]
        by_cases en:n=st.k<;>by_cases em:m=st.k
        . rw[en,em]
        . subst en
          rw[bL em] at hm;exact absurd (e.symm.trans e0) (far m hm lm)
        . subst em
          rw[bL en] at hn;exact absurd (e.trans e0) (far n hn ln)
        . rw[bL en] at hn
          rw[bL em] at hm;rw[hold n (hlt n hn)] at ln e;rw[hold m (hlt m hm)] at lm e;exact hS.inj n m hn hm ln lm e
    have hEB:Ev (lk st.hp) (λ n=>st.k<=n/\n<st.k+1) μ M w (lk ((st.k,.p0 N ts cs ps'.toList ca cb .ready none)::st.hp)) μB M wB:=by
      refine⟨λ n hn=>eU _ _ _ (λ e=>hn (by omega)),Mem.le_refl _,λ b hb _=>⟨hBo b hb,λ _=>rfl⟩,by omega,λ n hn=> ?_,rfl,⟨rfl,Nat.le_refl _⟩,rfl⟩
      by_cases en:n=st.k
      . subst en
        exact .inl ⟨⟨Nat.le_refl _,Nat.lt_succ_self _⟩,λ _=> .inl (by show _<=(yW μ st.k nm st.k).blk;rw[bz];exact Nat.le_succ _)⟩
      . rw[bL en] at hn
        have:=hlt n hn;exact .inr ⟨by omega,hn⟩
    have hargs:aV (· <st.k+1) μB M (first++[.yl st.k]++cap) (as++ #[Value.func (.yield (w.heap.size+1)) #[] #[]]++cs').toList:=by
      have hy:aV (· <st.k+1) μB M [.yl st.k] [Value.func (.yield (w.heap.size+1)) #[] #[]]:=by
        refine aV.aD.2 ⟨_,_,rfl,λ bh ko=> ?_,aV.aQ.2 rfl⟩;have:bh st.k=nm:=(ko st.k (Nat.lt_succ_self _)).trans (bz _ _ _);simp[dh,this,nm]
      simpa using((r1.more hup hold (Mem.le_refl _)).append hy).append (r2.more hup hold (Mem.le_refl _))
    obtain⟨bW,hcalls⟩:=h ca cb hca hcb;refine⟨w.heap.size+1,[{ target:= .collected w.heap.size,args:= #[]}],wB,{ target:= .fn (.func f) cs',args:=as++ #[Value.func (.yield (w.heap.size+1)) #[] #[]]},wB,f,as++ #[Value.func (.yield (w.heap.size+1)) #[] #[]]++cs',wB,?_,?_,λ _ _=>trivial,?_,(λ e=>by cases e),?_⟩
    . exact run_enterLoop_outer fn a.tmps ps' ca cb
    . have e1:(#[Operand.const (.func (.yield (w.heap.size+1)) #[] #[])]:Array Operand).map a.eval= #[Value.func (.yield (w.heap.size+1)) #[] #[]]:=by simp[Act.eval]
      simp only[resolve,rangeCall,e1,ef,Deferred.ofValue,Sem.run_pure]
    . simp only[invoke,nu bW]
    . refine sk.2 ((hcalls (· <st.k+1) μB M wB _ (λ n hn=>by omega) hargs hSB).mono ?_)
      rintro e w3 ⟨r,F',bh,M',u,rfl,⟨pe,hrec,hRQ⟩,_,hS3,hE3⟩;have hp:(λ n=>n<st.k+1\/(st.k+1<=n/\n<st.k+1+nk))=(· <st.k+1+nk):=funext λ n=>propext ⟨λ h=>by rcases h with h|h<;>omega,λ h=>by show n<st.k+1\/_;omega⟩
      rw[hp] at hS3;have hmk:bh st.k=nm:=(hE3.old st.k (by omega)).trans (bz _ _ _);obtain⟨_,⟨_,r3,hb3,_,_,_,_,_,hst3,hpe3⟩,hM3⟩:=hS3.obs st.k _ hrec;rw[hmk] at hb3 hM3;have hb3:w3.heap[w.heap.size+1]? =some (.loop r3):=hb3;have hM3:∀ o,M' (w.heap.size+1) o=none:=hM3 rfl;refine⟨_,_,run_endLoop hb3 (by rw[hst3];unfold mN;split<;>simp),?_⟩;rw[hpe3];have hnot:∀ n,lk (bY F' st.k) n≠none->(bh n).live=true->(bh n).blk≠w.heap.size+1:=λ n hn ln e=>by
        rw[cZ] at hn
        split at hn
        . exact hn rfl
        . rename_i en
          exact en (hS3.inj n st.k hn (by rw[hrec];simp) ln (by rw[hmk]) (by rw[hmk];exact e))
      have hSt':iC N cF M0 w0 c0 k0 ⟨st.env,bY F' st.k,st.k+1+nk⟩ { a with defers:={ target:= .collected w.heap.size,args:= #[]}::a.defers} (w3.putObj (w.heap.size+1) (.loop { r3 with state:= .exhausted,pending:=pe})):=by
        refine⟨by show k0<=st.k+1+nk;omega,⟨⟨w.heap.size,rfl,hE.size,?_,λ d' hd e=> ?_⟩,?_⟩,hsz,bh,M',λ t s hs=> ?_,⟨⟨λ b o v hv=> ?_,hS3.mem.kJ⟩,λ n ob hn=> ?_,λ n m hn hm=> ?_⟩,?_⟩
        . rw[World.putObj_heap_other (by omega)]
          exact hE3.keeps hSB hB0 rfl
        . obtain⟨q,e',hq⟩:=hdf.lt d' hd
          rw[e'] at e;injection e with e _;injection e with e;omega
        . refine Marks.put _ _ (λ d' hd e=> ?_) ((hdf.alloc _).alloc _ |>.ev hSB hE3)
          obtain⟨q,e',hq⟩:=hdf.lt d' hd;rw[e'] at e;injection e with e _;injection e with e;omega
        . exact(fq t s hs).more (λ n hn=>by show n<st.k+1+nk;have:n<st.k:=hn;omega) (λ n hn=>by have:n<st.k:=hn;rw[hE3.old n (by omega),hold n hn]) hE3.mem
        . have hbl:b≠w.heap.size+1:=λ e=>by rw[e,hM3] at hv;cases hv
          have:=hS3.mem b o v hv;simp only[World.cell?,World.putObj_heap_other hbl] at this ⊢;exact this
        . have hn':lk F' n=some ob:=by
            have:=hn;simp only[cZ] at this
            split at this
            . cases this
            . exact this
          obtain⟨q1,q2,q3⟩:=hS3.obs n ob hn';exact⟨q1,q2.more (λ _ h=>h) (λ _ _=>rfl) (Mem.le_refl _) (λ ln=>World.putObj_heap_other (hnot n (by rw[hn];simp) ln)),q3⟩
        . refine hS3.inj n m (λ e=>hn ?_) (λ e=>hm ?_)
          . show lk (bY F' st.k) n=none;rw[cZ,e];split<;>rfl
          . show lk (bY F' st.k) m=none;rw[cZ,e];split<;>rfl
        . refine Ev.put ?_ _ (by have:=hE.size;omega)
          refine(((hE.trans hEB).trans hE3).tV λ n=> ?_).yV λ n hn e=>hn ?_
          . show _↔(k0<=n/\n<st.k+1+nk);omega
          . show lk (bY F' st.k) n=none;rw[cZ,e];split<;>rfl
      cases pe with
      | none=>exact⟨_,hRQ,hSt'⟩
      | some c=>
        cases c<;>simp only[RQ] at hRQ<;>first
          | exact hRQ.elim
          | exact wpIn_ret ⟨_,hRQ,hSt'⟩
          | exact wpIn_exit ⟨_,hRQ,hSt'⟩
  all_goals (exfalso;split at hc<;>cases hc)
end
section
open Go.ChangeMaps (setBlock)
variable {P:Program}
theorem gG.mem {p:Nat->Prop}{μ:Nat->Nm}{M:Mem}:∀ {es:List (Nat×SV×SV)} {dL:List MapEntry},gG p μ M es dL->∀ x,x∈dL->∃ e,e∈es/\x.born=e.1/\Rp p μ M e.2.1 x.key/\Rp p μ M e.2.2 x.val
 | [],dL,h,x,hx=>by simp only[gG] at h;subst h;simp at hx
 | (b,k,v)::r,dL,h,x,hx=>by
  obtain⟨e,es',rfl,h1,h2,h3,h4⟩:=h;rcases List.mem_cons.1 hx with rfl|hx
  .exact⟨(b,k,v),by simp,h1,h2,h3⟩
  .obtain⟨e,he,h⟩:=gG.mem h4 x hx
   exact⟨e,by simp[he],h⟩
theorem gG.mem' {p:Nat->Prop}{μ:Nat->Nm}{M:Mem}:∀ {es:List (Nat×SV×SV)} {dL:List MapEntry},gG p μ M es dL->∀ e,e∈es->∃ x,x∈dL/\x.born=e.1
 | [],dL,h,e,he=>by simp at he
 | (b,k,v)::r,dL,h,e,he=>by
  obtain⟨x,es',rfl,h1,h2,h3,h4⟩:=h;rcases List.mem_cons.1 he with rfl|he
  .exact⟨x,by simp,h1⟩
  .obtain⟨x',hx,h⟩:=gG.mem' h4 e he
   exact⟨x',by simp[hx],h⟩
theorem Iy {op:Op}{x':X}(hc:cO P op=some (.kL x')):∃ it,op= .next it false/\cX it=some x':=by
 cases op<;>simp only[cO] at hc<;>try (cases hc;done)
 case next it s=>
  cases s
  .simp only[Bool.false_eq_true,if_false] at hc
   obtain⟨y,hy,e⟩:=Option.map_eq_some_iff.1 hc;injection e with e;subst e;exact⟨it,rfl,hy⟩
  .simp at hc
 all_goals (repeat' (first|contradiction|(cases hc;done)|(obtain⟨_,_,hh⟩:=Option.map_eq_some_iff.1 hc;cases hh;done)|split at hc))
def KA (n m since:Nat)(seen:List Nat)(st:Nat)(es:List (Nat×SV×SV))(c:Nat)(r:SV)(F':Hp):Prop:=
 (r= .de [.d (.bool false)]/\F'=[(n,.iter (some m) since seen st),(m,.map es c)]/\∀ e,e∈es->seen.contains e.1=true)\/
 ∃ e,e∈es/\seen.contains e.1=false/\r= .de [.d (.bool true),e.2.1,e.2.2]/\F'=[(n,.iter (some m) since (seen++[e.1]) c),(m,.map es c)]
theorem EZ {o:Oper}{E:Nat->Option SV}{H:Nat->Option Ob}{k:Nat}{x':X}{n m since st c:Nat}{seen:List Nat}{es:List (Nat×SV×SV)}(hc:cO P o.op=some (.kL x'))(h1:ev E x'=some (.it n))
  (hH:H n=some (.iter (some m) since seen st)) (hM:H m=some (.map es c)) (hnm:n≠m) (hold:∀ e,e∈es->e.1<since) (hst:since<=st):
  nW P o E H k 0 [(n,.iter (some m) since seen st),(m,.map es c)] (KA n m since seen st es c):=by
 obtain⟨it,ho,hx⟩:=Iy hc;refine⟨?_,?_⟩
 .intro q ob hq
  rw[aa,cU] at hq
  split at hq
  .rename_i e;subst e;simp at hq;subst hq;exact hH
  .split at hq
   .rename_i e;subst e;simp at hq;subst hq;exact hM
   .cases hq
 intro rd p μ M a w K QQ hnew hk hS hK;have ln:lk [(n,Ob.iter (some m) since seen st),(m,.map es c)] n=some (.iter (some m) since seen st):=by simp[aa]
 have lm:lk [(n,Ob.iter (some m) since seen st),(m,.map es c)] m=some (.map es c):=by rw[aa,if_neg (λ h=>hnm h.symm),cU,if_pos rfl]
 obtain⟨hpn,⟨hlv,hpm,hb⟩,hMn⟩:=hS.obs n _ ln;obtain⟨hpm',⟨hlv2,dL,HQ,hre⟩,hMm⟩:=hS.obs m _ lm;simp only[Option.map_some] at hb;have e1:=(hk.get (by simp[ho,Op.operands]) hx h1).Kv;have hpk:∀ q,p q->(λ q=>p q\/(k<=q/\q<k+0)) q:=λ q hq=> .inl hq
 have hold':∀ x∈dL.toList,x.born<since:=λ x hx=>by
  obtain⟨e,he,h,_⟩:=hre.mem x hx;rw[h];exact hold e he
 rcases run_next_at (P:=P) w o.type (μ n).blk (μ m).blk since st seen.toArray dL c hb HQ hold' hst with⟨h0,hrun⟩|⟨x,hx,w1,hw1,hrun⟩
 .have hrun':(execOp a.eval o).run P w= .ok (.value (.tuple #[.bool false])) w:=by simp[execOp,ho,e1,hrun]
  refine iE hrun' (hK _ _ _ μ M w (.inl ⟨rfl,rfl,λ e he=> ?_⟩) ?_ (hS.more hpk) (Ev.refl _ _ _ _ _ λ q _ h=>by omega))
  .obtain⟨x,hx,hb'⟩:=hre.mem' e he
   have hnil:leftOf dL seen.toArray= #[]:=Array.eq_empty_of_size_eq_zero h0;unfold leftOf at hnil;rw[Array.filter_eq_empty_iff] at hnil;have:=hnil x (by simpa using hx)
   simpa[hb'] using this
  .exact Rp.dX.2 ⟨_,rfl,aV.aD.2 ⟨_,_,rfl,Rp.bD.2 rfl,aV.aQ.2 rfl⟩⟩
 .have hx':x∈dL.toList/\seen.contains x.born=false:=by
   unfold leftOf at hx
   simpa using hx
  obtain⟨e,he,hb',hrk,MW⟩:=hre.mem x hx'.1;have hrun':(execOp a.eval o).run P w= .ok (.value (.tuple #[.bool true,x.key,x.val])) (setBlock w1 (μ n).blk (.mapIter (some (μ m).blk) since (seen.toArray.push x.born) c)):=by simp[execOp,ho,e1,hrun]
  have hh:w1.heap=w.heap:=by rcases hw1 with rfl|rfl<;>rfl
  have hsz:(setBlock w1 (μ n).blk (.mapIter (some (μ m).blk) since (seen.toArray.push x.born) c)).heap.size=w.heap.size:=by simp[setBlock,hh]
  have hoth:∀ b,b≠(μ n).blk->(setBlock w1 (μ n).blk (.mapIter (some (μ m).blk) since (seen.toArray.push x.born) c)).heap[b]? =w.heap[b]? :=λ b hb=>by
   simp[setBlock,hh,Array.getElem?_setIfInBounds_ne (Ne.symm hb)]
  have hsame:(setBlock w1 (μ n).blk (.mapIter (some (μ m).blk) since (seen.toArray.push x.born) c)).heap[(μ n).blk]? =some (.mapIter (some (μ m).blk) since (seen.toArray.push x.born) c):=by
   have:(μ n).blk<w.heap.size:=(Array.getElem?_eq_some_iff.1 hb).1;simp[setBlock,hh,this]
  have hne:(μ m).blk≠(μ n).blk:=λ e=>hnm (hS.inj n m (by rw[ln];simp) (by rw[lm];simp) hlv hlv2 e.symm)
  refine iE hrun' (hK _ _ _ μ M _ (.inr ⟨e,he,by rw[<- hb'];exact hx'.2,rfl,rfl⟩) ?_ ⟨⟨λ b o v hv=> ?_,hS.mem.kJ⟩,λ q ob hq=> ?_,λ q q' hq hq' lq lq' ee=> ?_⟩ ⟨λ _ _=>rfl,Mem.le_refl _,λ b hb hf=>⟨hoth b λ ee=>hf n (by rw[ln];simp) hlv ee.symm,λ _=>rfl⟩,by rw[hsz];exact Nat.le_refl _,λ q hq=> ?_,?_,?_,?_⟩)
  .exact(Rp.dX.2 ⟨_,rfl,aV.aD.2 ⟨_,_,rfl,Rp.bD.2 rfl,aV.aD.2 ⟨_,_,rfl,hrk,aV.aD.2 ⟨_,_,rfl,MW,aV.aQ.2 rfl⟩⟩⟩⟩:Rp p μ M _ _).more hpk (λ _ _=>rfl) (Mem.le_refl _)
  .have hbl:b≠(μ n).blk:=λ ee=>by rw[ee,hMn hlv] at hv;cases hv
   rw[<- hS.mem b o v hv];unfold World.cell?;rw[hoth b hbl]
  .rw[aa,cU] at hq
   split at hq
   .rename_i e';subst e';simp at hq;subst hq
    refine⟨.inl hpn,⟨hlv,λ q hq=> .inl (hpm q hq),?_⟩,hMn⟩
    simpa[hb'] using hsame
   .split at hq
    .rename_i e';subst e';simp at hq;subst hq
     refine⟨.inl hpm',⟨hlv2,dL,(hoth _ hne).trans HQ,hre.more hpk (λ _ _=>rfl) (Mem.le_refl _)⟩,hMm⟩
    .cases hq
  .have dom:∀ q,lk [(n,Ob.iter (some m) since (seen++[e.1]) c),(m,.map es c)] q≠none->lk [(n,Ob.iter (some m) since seen st),(m,.map es c)] q≠none:=λ q hq=>by
    rw[aa,cU] at hq ⊢
    split at hq
    .rename_i e';rw[if_pos e'];simp
    .rename_i e';rw[if_neg e'];split at hq<;>simp_all
   exact hS.inj q q' (dom q hq) (dom q' hq') lq lq' ee
  .refine .inr ⟨by omega,?_⟩
   rw[aa,cU] at hq ⊢
   split at hq
   .rename_i e';rw[if_pos e'];simp
   .rename_i e';rw[if_neg e'];split at hq<;>simp_all
  .rcases hw1 with rfl|rfl<;>rfl
  .rcases hw1 with rfl|rfl
   .exact⟨rfl,Nat.le_refl _⟩
   .exact⟨rfl,Nat.le_succ _⟩
  .rcases hw1 with rfl|rfl<;>rfl
theorem zx {o:Oper}{E:Nat->Option SV}{H:Nat->Option Ob}{k nk:Nat}{f:X}{args:List X}{nl:Nat}{as:List SV}{F:Hp}{Q:SV->Hp->Prop}(hc:cO P o.op=some (.call f args))
  (h1:ev E f=some (.yl nl)) (h2:qc E args=some as) (hF:lk F nl≠none) (Ny:SY P nl as F k nk Q) (hsub:∀ n ob,lk F n=some ob->H n=some ob):nW P o E H k nk F Q:=by
 obtain⟨c,fo,hop,bW,hf,ha⟩:=qZ hc;exact⟨hsub,λ rd p μ M a w K QQ hnew hk hS hK=>zc hop bW hf ha h1 h2 hF Ny hnew hk hS hK⟩
theorem bq.yield {N k0:Nat}{st:St}{K:St->Prop}{d:Option Nat}{r:List SI}{f:X}{args:List X}{nl:Nat}{as:List SV}{F:Hp}{nk:Nat}{Q:SV->Hp->Prop}
  (h1:ev (λ t=>st.env.lookup t) f=some (.yl nl)) (h2:qc (λ t=>st.env.lookup t) args=some as) (hF:lk F nl≠none) (Ny:SY P nl as F st.k nk Q) (hsub:HSub F st.hp)
  (h:∀ v F',Q v F'->bq P N k0 r (l9 st ⟨d,.call f args,none⟩ ⟨v,F,F',nk,True⟩) K):bq P N k0 (⟨d,.call f args,none⟩::r) st K:=
 bq.many rfl (λ o hc=>zx hc h1 h2 hF Ny hsub) rfl h
theorem bq.kL {N k0:Nat}{st:St}{K:St->Prop}{d:Option Nat}{r:List SI}{x:X}{n m since s c:Nat}{seen:List Nat}{es:List (Nat×SV×SV)}
  (h1:ev (λ t=>st.env.lookup t) x=some (.it n)) (hH:lk st.hp n=some (.iter (some m) since seen s)) (hM:lk st.hp m=some (.map es c)) (hnm:n≠m) (hold:∀ e,e∈es->e.1<since) (hs:since<=s)
  (h:∀ v F',KA n m since seen s es c v F'->bq P N k0 r (l9 st ⟨d,.kL x,none⟩ ⟨v,[(n,.iter (some m) since seen s),(m,.map es c)],F',0,True⟩) K):bq P N k0 (⟨d,.kL x,none⟩::r) st K:=
 bq.many rfl (λ o hc=>EZ hc h1 hH hM hnm hold hs) rfl h
end
section
variable {P:Program}
theorem xg {args:List SV}{F:Hp}{k nk:Nat}{Q:SV->Hp->Prop}(q:Nat->Bool)(hao:SV.au q args=true)(EH:F.ok q=true)(hk:F.ok (λ n=>decide (n<k))=true)(MX:∀ n,q n=true->lk F n≠none)
    (hQ:∀ r F',Q r F'->r.ok (λ n=>decide (n<k+nk))=true->F'.ok (λ n=>decide (n<k+nk))=true->r.ok (λ n=>q n || (decide (k<=n) && decide (n<k+nk)))=true/\F'.ok (λ n=>q n || (decide (k<=n) && decide (n<k+nk)))=true)
    {p:Nat->Prop} {μ:Nat->Nm} {M:Mem} {w:World} {vals:Array Value} (hp:∀ n,(k<=n/\n<k+nk)-> ¬ p n) (hr:aV p μ M args vals.toList) (hS:bR p μ M (lk F) w):
    aV (· <k) μ M args vals.toList/\bR (· <k) μ M (lk F) w/\∀ e w',
      (∃ r F' bh M' u,e=Ending.returned u/\Q r F'/\r.ok (λ n=>decide (n<k+nk))=true/\F'.ok (λ n=>decide (n<k+nk))=true/\dh bh M' r u/\bR (· <k+nk) bh M' (lk F') w'/\
        Ev (lk F) (λ n=>k<=n/\n<k+nk) μ M w (lk F') bh M' w')->
      ∃ r F' bh M' u,e=Ending.returned u/\Q r F'/\Rp (λ n=>p n\/(k<=n/\n<k+nk)) bh M' r u/\bR (λ n=>p n\/(k<=n/\n<k+nk)) bh M' (lk F') w'/\
        Ev (lk F) (λ n=>k<=n/\n<k+nk) μ M w (lk F') bh M' w':=by
  have hlt:∀ n,q n=true->n<k:=λ n h=>by
    obtain⟨ob,ho⟩:=Option.ne_none_iff_exists'.1 (MX n h)
    simpa using(Hp.fC hk ho).1
  have hqP:∀ n,q n=true->p n:=λ n h=>by
    obtain⟨ob,ho⟩:=Option.ne_none_iff_exists'.1 (MX n h);exact(hS.obs n ob ho).1
  refine⟨aV.BN hao hlt hr.v8,⟨hS.mem,λ n ob hn=> ?_,hS.inj⟩,?_⟩
  . obtain⟨a1,a2⟩:=Hp.fC EH hn
    obtain⟨_,b1,b2⟩:=hS.obs n ob hn;have hb':bZ p (λ n=>μ (id n)) M w (μ n) (ob.aC id):=by rw[Ob.oG];exact b1
    exact⟨hlt n a1,bZ.to a2 hlt (λ _ _=>rfl) hb',b2⟩
  . rintro e w' ⟨r,F',bh,M',u,rfl,hq,hr1,hr2,hru,sg,hE⟩
    obtain⟨h1,h2⟩:=hQ r F' hq hr1 hr2;have hq2:∀ n,(q n || (decide (k<=n) && decide (n<k+nk)))=true->(p n\/(k<=n/\n<k+nk)):=λ n hn=>by
      simp only[Bool.or_eq_true,Bool.and_eq_true,decide_eq_true_eq] at hn;exact hn.imp (hqP n) id
    refine⟨r,F',bh,M',u,rfl,hq,Rp.EF h1 hq2 hru,⟨sg.mem,λ n ob hn=> ?_,sg.inj⟩,hE⟩;obtain⟨a1,a2⟩:=Hp.fC h2 hn;obtain⟨_,b1,b2⟩:=sg.obs n ob hn;have hb':bZ (· <k+nk) (λ n=>bh (id n)) M' w' (bh n) (ob.aC id):=by rw[Ob.oG];exact b1
    exact⟨hq2 n a1,bZ.to a2 hq2 (λ _ _=>rfl) hb',b2⟩
theorem SB.here {f:FuncId}{args:List SV}{F:Hp}{k nk:Nat}{Q:SV->Hp->Prop}(q:Nat->Bool)(h:SB P f args F k nk Q)(MX:∀ n,q n=true->lk F n≠none)(hao:SV.au q args=true)(EH:F.ok q=true)
  (hQ:∀ r F',Q r F'->r.ok (λ n=>decide (n<k+nk))=true->F'.ok (λ n=>decide (n<k+nk))=true->r.ok (λ n=>q n || (decide (k<=n) && decide (n<k+nk)))=true/\F'.ok (λ n=>q n || (decide (k<=n) && decide (n<k+nk)))=true):SC P f args F k nk Q:=by
 refine⟨h.1,λ p μ M w vals hp hr hS=> ?_⟩;obtain⟨h1,h2,h3⟩:=xg q hao EH h.2.2.1 MX hQ hp hr hS;exact(h.2.2.2 μ M w vals h1 h2).mono h3
theorem Ef.here {nl:Nat}{args:List SV}{F:Hp}{k nk:Nat}{Q:SV->Hp->Prop}(q:Nat->Bool)(h:Ef P nl args F k nk Q)(MX:∀ n,q n=true->lk F n≠none)(hao:SV.au q args=true)(EH:F.ok q=true)
  (hQ:∀ r F',Q r F'->r.ok (λ n=>decide (n<k+nk))=true->F'.ok (λ n=>decide (n<k+nk))=true->r.ok (λ n=>q n || (decide (k<=n) && decide (n<k+nk)))=true/\F'.ok (λ n=>q n || (decide (k<=n) && decide (n<k+nk)))=true):SY P nl args F k nk Q:=by
 intro p μ M w vals hp _ hr hS;obtain⟨h1,h2,h3⟩:=xg q hao EH h.2.1 MX hQ hp hr hS;obtain⟨fn,tmps,assign,body,hy,hround⟩:=h.2.2 μ M w vals h1 h2;exact⟨fn,tmps,assign,body,hy,hround.mono h3⟩
theorem SC.frame {f:FuncId}{args:List SV}{F H:Hp}{k nk:Nat}{Q:SV->Hp->Prop}(h:SC P f args F k nk Q)(hs:HSub F H):SC P f args H k nk λ r F'=>∃ F1,Q r F1/\F'=bU false H F F1:=by
 refine⟨h.1,λ p μ M w vals hp hr hS=>(h.2 p μ M w vals hp hr (hS.sub hs)).mono ?_⟩;rintro e w' ⟨r,F1,bh,M',u,rfl,hq,hru,sg,hE⟩;obtain⟨z1,z2⟩:=hS.AH hs hp hE sg λ n h=> .inl h
 have hlk:lk (bU false H F F1)=AA (lk H) (lk F) (lk F1):=iI hs (λ h=>by cases h);exact⟨r,_,bh,M',u,rfl,⟨F1,hq,rfl⟩,hru,by rw[hlk];exact z1,by rw[hlk];exact z2⟩
theorem xh:∀ {h:Hp} {n:Nat} {ob:Ob},lk h n=some ob->gR h n ob=h
 | [],n,ob,h=>by simp[bA] at h
 | (m,o)::h,n,ob,hl=>by
  rw[aa] at hl;simp only[gR]
  by_cases e:m=n
  .subst e
   simp only[if_true] at hl ⊢;injection hl with hl;rw[hl]
  .rw[if_neg (λ h=>e h.symm)] at hl
   rw[if_neg e,xh hl]
theorem sI {h:Hp}{n:Nat}{ob:Ob}(hl:lk h n=some ob):gA h n ob=h:=by
 unfold gA;rw[hl];exact xh hl
theorem je {h:Hp}{n:Nat}{o o':Ob}:gA ((n,o)::h) n o'=(n,o')::h:=by
 have:lk ((n,o)::h) n=some o:=ej;unfold gA;rw[this];simp[gR]
theorem BT {h F F':Hp}:bU true h F F'=h:=rfl
def gC (es:List (Nat×SV×SV))(seen:List Nat):Nat:=(es.filter λ e=> !seen.contains e.1).length
theorem kH {es:List (Nat×SV×SV)}{seen:List Nat}{e:Nat×SV×SV}(he:e∈es)(hs:seen.contains e.1=false):gC es (seen++[e.1])<gC es seen:=by
 induction es with
 | nil=>cases he
 | cons x es ih=>
  have hle:∀ l:List (Nat×SV×SV),gC l (seen++[e.1])<=gC l seen:=λ l=>by
   induction l with
   | nil=>exact Nat.le_refl _
   | cons y l ihl=>
    simp only[gC,List.filter,List.contains_append] at ihl ⊢;cases h1:seen.contains y.1
    .cases h2:[e.1].contains y.1
     .simp only[Bool.or_self,Bool.not_false,List.length_cons];omega
     .simp only[Bool.false_or,Bool.not_true,Bool.not_false,List.length_cons];omega
    .simp only[Bool.true_or,Bool.not_true];omega
  rcases List.mem_cons.1 he with rfl|he
  .have:=hle es
   simp only[gC,List.filter,List.contains_append,hs,Bool.false_or,List.contains_cons,List.contains_nil,BEq.rfl,Bool.true_or,Bool.not_true,Bool.not_false,List.length_cons] at this ⊢;omega
  .have:=ih he
   simp only[gC,List.filter,List.contains_append] at this ⊢;cases h1:seen.contains x.1
   .cases h2:[e.1].contains x.1
    .simp only[Bool.or_self,Bool.not_false,List.length_cons];omega
    .simp only[Bool.false_or,Bool.not_true,Bool.not_false,List.length_cons];omega
   .simp only[Bool.true_or,Bool.not_true];omega
theorem Hp.eu {q q':Nat->Bool}(h:∀ n,q n=true->q' n=true){F:Hp}(hF:F.ok q=true):F.ok q'=true:=by
 unfold Hp.ok at hF ⊢;rw[List.all_eq_true] at hF ⊢;intro x hx;have:=hF x hx;simp only[Bool.and_eq_true] at this ⊢;refine⟨h _ this.1,?_⟩;have h2:=this.2;generalize x.2=ob at h2 ⊢;cases ob<;>simp only[Ob.ok] at h2 ⊢
 .exact SV.jZ h _ h2
 .exact SV.jZ h _ h2
 .rw[List.all_eq_true] at h2 ⊢
  intro e he;have:=h2 e he;simp only[Bool.and_eq_true] at this ⊢;exact⟨SV.fG h _ this.1,SV.fG h _ this.2⟩
 .rename_i mo _ _ _
  cases mo with
  | none=>rfl
  | some n=>exact h n h2
 .exact SV.jZ h _ h2
theorem Hp.bM {k k':Nat}(h:k<=k'){F:Hp}(hF:F.ok (λ n=>decide (n<k))=true):F.ok (λ n=>decide (n<k'))=true:=Hp.eu (λ n hn=>by simp at hn ⊢;omega) hF
theorem Hp.out {k n:Nat}{F:Hp}(hF:F.ok (λ n=>decide (n<k))=true)(h:k<=n):lk F n=none:=by
 cases hh:lk F n with
 | none=>rfl
 | some ob=>have:=(Hp.fC hF hh).1;simp at this;omega
theorem tS.KB {k:Nat}{hp:Hp}:∀ {h:Hp},h.ok (λ n=>decide (n<k))=true->(∀ x,x∈h->lk hp x.1=some x.2)->tS id k hp h
 | [],_,_=>trivial
 | (n,ob)::r,hq,hl=>by
  unfold Hp.ok at hq;simp only[List.all_cons,Bool.and_eq_true,decide_eq_true_eq] at hq;refine⟨?_,hq.1.1,hq.1.2,tS.KB (by unfold Hp.ok;exact hq.2) λ x hx=>hl x (by simp[hx])⟩;rw[Ob.oG];exact hl (n,ob) (by simp)
theorem aH.same {k0:Nat}{st st1:St}(h1:k0<=st1.k)(h2:aL id st1.k st.env st1.env)(h3:st1.hp.ok (λ n=>decide (n<st1.k))=true)(h4:∀ x,x∈st1.hp->lk st.hp x.1=some x.2):aH k0 st st1 id:=
 ⟨h1,λ _ _=>rfl,h2,tS.KB h3 h4,λ _ _ _ _ e=>e⟩
theorem bX {x y:Nat}(h:x≠y):(x == y)=false/\(y == x)=false/\(x=y)=False/\(y=x)=False:=
 ⟨by simpa using h,by simpa using Ne.symm h,eq_false h,eq_false (Ne.symm h)⟩
inductive lY {α σ:Type}(Step:σ->α->σ->Prop)(s:σ):List α->σ->Prop where
 | nil:lY Step s [] s
 | snoc {xs:List α} {s' s'':σ} {x:α}:lY Step s xs s'->Step s' x s''->lY Step s (xs++[x]) s''
structure pJ {α σ:Type}(P:Program)(y:Nat)(enc:α->SV)(aX:Nat)(Fh:σ->Hp)(Step:σ->α->σ->Prop)(go:σ->Bool)(s0:σ)(B:Nat):Prop where
 u5:∀ s,lk (Fh s) y≠none
 nd:∀ s x,x∈Fh s->lk (Fh s) x.1=some x.2
 call:∀ s xs x k,lY Step s0 xs s->xs.length<B->(Fh s).ok (λ n=>decide (n<k))=true->go s=true->SY P y [enc x] (Fh s) k aX λ r F'=>∃ s',Step s x s'/\r= .d (.bool (go s'))/\F'=Fh s'/\
  (Fh s').ok (λ n=>decide (n<k+aX))=true/\∀ n,lk (Fh s') n≠none->lk (Fh s) n≠none\/(k<=n/\n<k+aX)
section
variable {N k0:Nat} {st:St} {Q:Exit->St->Prop}
theorem SW.pK {it a b id:Nat}{bs:List Nat}{body:bK}{α:Type}(I:α->St)(m:α->Nat)(i0:α)(Lx:Nat->Nat)(uc nm since A1 c:α->Nat)(seen:α->List Nat)(es:α->List (Nat×SV×SV))
  (h0:aH k0 st (I i0) Lx) (hit:∀ i,(I i).env.lookup it=some (.it (uc i))) (hI:∀ i,lk (I i).hp (uc i)=some (.iter (some (nm i)) (since i) (seen i) (A1 i))) (hM:∀ i,lk (I i).hp (nm i)=some (.map (es i) (c i)))
  (hne:∀ i,uc i≠nm i) (hold:∀ i e,e∈es i->e.1<since i) (hst:∀ i,since i<=A1 i)
  (fin:∀ i,(∀ e,e∈es i->(seen i).contains e.1=true)->∃ st1 ρ,aH k0 ⟨(b,.d (.bool false))::(a,.de [.d (.bool false)])::(I i).env,(I i).hp,(I i).k⟩ st1 ρ/\Q (.exit id) st1)
  (step:∀ i e,e∈es i->(seen i).contains e.1=false->SW P N k0 body ⟨(b,.d (.bool true))::(a,.de [.d (.bool true),e.2.1,e.2.2])::(I i).env,gA (I i).hp (uc i) (.iter (some (nm i)) (since i) (seen i++[e.1]) (c i)),(I i).k⟩
   λ ex st'=>match ex with | .normal=>∃ j ρ,m j<m i/\aH k0 st' (I j) ρ|e=>Q e st'):
  SW P N k0 (.loop (.seq (.fD [⟨some a,.kL (.t it),none⟩,⟨some b,.ext 0 (.t a),none⟩] bs false) (.seq (.cond (.t b) .skip (.exit id)) body))) st Q:=by
 refine SW.loop I m i0 Lx h0 λ i=>SW.seq (SW.xd (bq.kL (hit i) (hI i) (hM i) (hne i) (hold i) (hst i) λ v F' hv=> ?_))
 have hmm:lk ([(uc i,.iter (some (nm i)) (since i) (seen i) (A1 i)),(nm i,.map (es i) (c i))]:Hp) (uc i)=some (.iter (some (nm i)) (since i) (seen i) (A1 i)):=by simp[aa]
 rcases hv with⟨rfl,rfl,hall⟩|⟨e,he,hs,rfl,rfl⟩
 .have hh:bU false (I i).hp [(uc i,.iter (some (nm i)) (since i) (seen i) (A1 i)),(nm i,.map (es i) (c i))] [(uc i,.iter (some (nm i)) (since i) (seen i) (A1 i)),(nm i,.map (es i) (c i))]=(I i).hp:=by
   have h1:(lk ([(uc i,.iter (some (nm i)) (since i) (seen i) (A1 i)),(nm i,.map (es i) (c i))]:Hp) (uc i)).isSome=true:=by simp[aa]
   have h2:(lk ([(uc i,.iter (some (nm i)) (since i) (seen i) (A1 i)),(nm i,.map (es i) (c i))]:Hp) (nm i)).isSome=true:=by rw[aa];split<;>simp[aa]
   simp only[bU,dy,h1,h2,if_true,dx,Bool.false_eq_true,if_false];rw[sI (hM i),sI (hI i)]
  refine bq.runs (dQ:=[]) (st':=⟨(b,.d (.bool false))::(a,.de [.d (.bool false)])::(I i).env,(I i).hp,(I i).k⟩) (ob:=True/\True) (ts:=[(true,[])]) ?_ ⟨trivial,trivial⟩ ?_
  .simp only[Go.Sl.runs,gi,fu,dK,l9,ev,List.lookup,BEq.rfl,dA,hh,Nat.add_zero,List.getElem?_cons_zero,BT,iA,List.map_nil,List.append_nil]
  .obtain⟨st1,ρ,hw,hq⟩:=fin i hall
   refine SW.seq (SW.cond (b:=false) ?_ (λ h=>by cases h) (λ _=>SW.weak ρ hw (SW.exit hq)));simp only[ev,List.lookup,BEq.rfl]
 .have hh:bU false (I i).hp [(uc i,.iter (some (nm i)) (since i) (seen i) (A1 i)),(nm i,.map (es i) (c i))] [(uc i,.iter (some (nm i)) (since i) (seen i++[e.1]) (c i)),(nm i,.map (es i) (c i))]=gA (I i).hp (uc i) (.iter (some (nm i)) (since i) (seen i++[e.1]) (c i)):=by
   have h1:(lk ([(uc i,.iter (some (nm i)) (since i) (seen i++[e.1]) (c i)),(nm i,.map (es i) (c i))]:Hp) (uc i)).isSome=true:=by simp[aa]
   have h2:(lk ([(uc i,.iter (some (nm i)) (since i) (seen i++[e.1]) (c i)),(nm i,.map (es i) (c i))]:Hp) (nm i)).isSome=true:=by rw[aa];split<;>simp[aa]
   simp only[bU,dy,h1,h2,if_true,dx,Bool.false_eq_true,if_false];rw[sI (hM i)]
  refine bq.runs (dQ:=[]) (st':=⟨(b,.d (.bool true))::(a,.de [.d (.bool true),e.2.1,e.2.2])::(I i).env,gA (I i).hp (uc i) (.iter (some (nm i)) (since i) (seen i++[e.1]) (c i)),(I i).k⟩) (ob:=True/\True) (ts:=[(true,[])]) ?_ ⟨trivial,trivial⟩ ?_
  .simp only[Go.Sl.runs,gi,fu,dK,l9,ev,List.lookup,BEq.rfl,dA,hh,Nat.add_zero,List.getElem?_cons_zero,BT,iA,List.map_nil,List.append_nil]
  .refine SW.seq (SW.cond (b:=true) ?_ (λ _=>SW.skip ?_) (λ h=>by cases h))
   .simp only[ev,List.lookup,BEq.rfl]
   .exact step i e he hs
end
end
end Go.Sl
namespace Go.Sl
theorem aB.MY (v:aB){r:Nat}(hr:r<8):(v.set r (v.get r+1)).count=v.count+1:=by
 match r,hr with
 | 0,_=>simp[aB.count,aB.set,aB.of,aB.get];omega
 | 1,_=>simp[aB.count,aB.set,aB.of,aB.get];omega
 | 2,_=>simp[aB.count,aB.set,aB.of,aB.get];omega
 | 3,_=>simp[aB.count,aB.set,aB.of,aB.get];omega
 | 4,_=>simp[aB.count,aB.set,aB.of,aB.get];omega
 | 5,_=>simp[aB.count,aB.set,aB.of,aB.get];omega
 | 6,_=>simp[aB.count,aB.set,aB.of,aB.get];omega
 | 7,_=>simp[aB.count,aB.set,aB.of,aB.get];omega
theorem yb {P:Program}{d:Nat}{t:TypeId}{k:IntKind}{ds:List DV}(ht:P.underlying t=some (.int k))(h:Fit P (d+1) t ds):∃ n,ds=[.int k n]/\(Lit.int k n).wf=true:=by
 rw[Fit,ht] at h;exact h
theorem wf_u32 {n:Int}(h:(Lit.int .u32 n).wf=true):∃ m:Nat,n=(m:Int)/\m<4294967296:=by
 simp[Lit.wf,IntKind.min,IntKind.max,IntKind.signed,IntKind.bits] at h;exact⟨n.toNat,by omega,by omega⟩
theorem wf_u64 {n:Int}(h:(Lit.int .u64 n).wf=true):∃ m:Nat,n=(m:Int)/\m<18446744073709551616:=by
 simp[Lit.wf,IntKind.min,IntKind.max,IntKind.signed,IntKind.bits] at h;exact⟨n.toNat,by omega,by omega⟩
theorem wf_u8 {n:Int}(h:(Lit.int .u8 n).wf=true):∃ m:Nat,n=(m:Int)/\m<256:=by
 simp[Lit.wf,IntKind.min,IntKind.max,IntKind.signed,IntKind.bits] at h;exact⟨n.toNat,by omega,by omega⟩
theorem nX {P:Program}{d:Nat}{t:TypeId}{ds:List DV}(ht:P.underlying t=some (.int .u32))(h:Fit P (d+1) t ds):∃ m:Nat,m<4294967296/\ds=[.int .u32 m]:=by
 obtain⟨n,rfl,hw⟩:=yb ht h;obtain⟨m,rfl,hm⟩:=wf_u32 hw;exact⟨m,hm,rfl⟩
theorem BU {P:Program}{d:Nat}{t:TypeId}{ds:List DV}(ht:P.underlying t=some (.int .u64))(h:Fit P (d+1) t ds):∃ m:Nat,m<18446744073709551616/\ds=[.int .u64 m]:=by
 obtain⟨n,rfl,hw⟩:=yb ht h;obtain⟨m,rfl,hm⟩:=wf_u64 hw;exact⟨m,hm,rfl⟩
theorem yc {P:Program}{d:Nat}{t:TypeId}{ds:List DV}(ht:P.underlying t=some (.int .u8))(h:Fit P (d+1) t ds):∃ m:Nat,m<256/\ds=[.int .u8 m]:=by
 obtain⟨n,rfl,hw⟩:=yb ht h;obtain⟨m,rfl,hm⟩:=wf_u8 hw;exact⟨m,hm,rfl⟩
theorem A2 {ds:List DV}{o:Nat}{x:DV}(h:(ds.drop o).take 1=[x]):ds[o]? =some x:=by
 have:=congrArg (·[0]?) h
 simpa[List.getElem?_take] using this
theorem Iz {P:Program}{d:Nat}{t e:TypeId}{ds:List DV}(ht:P.underlying t=some (.array 8 e))(he:P.underlying e=some (.int .u32))(hc:P.cellsOf t=8)(hce:P.cellsOf e=1)(h:Fit P (d+2) t ds):∃ v:aB,v.wf/\ds=v.ds:=by
 rw[Fit,ht] at h;dsimp only at h;obtain⟨hl,hi⟩:=h;rw[hc] at hl;rw[hce] at hi;have key:∀ i,i<8->∃ m:Nat,m<4294967296/\ds[i]? =some (.int .u32 m):=λ i hlt=>by
  obtain⟨m,hm,e1⟩:=nX (d:=d) he (hi i hlt);exact⟨m,hm,A2 (by simpa using e1)⟩
 obtain⟨m0,h0,e0⟩:=key 0 (by omega);obtain⟨m1,h1,e1⟩:=key 1 (by omega);obtain⟨m2,h2,e2⟩:=key 2 (by omega);obtain⟨m3,h3,e3⟩:=key 3 (by omega);obtain⟨m4,h4,e4⟩:=key 4 (by omega);obtain⟨m5,h5,e5⟩:=key 5 (by omega);obtain⟨m6,h6,e6⟩:=key 6 (by omega);obtain⟨m7,h7,e7⟩:=key 7 (by omega);refine⟨⟨m0,m1,m2,m3,m4,m5,m6,m7⟩,λ r hr=> ?_,List.ext_getElem? λ i=> ?_⟩
 .match r,hr with
  | 0,_=>exact h0
  | 1,_=>exact h1
  | 2,_=>exact h2
  | 3,_=>exact h3
  | 4,_=>exact h4
  | 5,_=>exact h5
  | 6,_=>exact h6
  | 7,_=>exact h7
 .match i with
  | 0=>rw[e0];rfl
  | 1=>rw[e1];rfl
  | 2=>rw[e2];rfl
  | 3=>rw[e3];rfl
  | 4=>rw[e4];rfl
  | 5=>rw[e5];rfl
  | 6=>rw[e6];rfl
  | 7=>rw[e7];rfl
  | i+8=>rw[List.getElem?_eq_none (by omega),List.getElem?_eq_none (by simp[aB.ds])]
theorem bV {P:Program}{d:Nat}{t:TypeId}{fs:Array Field}{ds:List DV}(ht:P.underlying t=some (.struct fs))(h:Fit P (d+1) t ds)(i:Nat)(f:Field)(hf:fs[i]? =some f):
  Fit P d f.type ((ds.drop f.offset).take (P.cellsOf f.type)):=by
 rw[Fit,ht] at h;dsimp only at h;exact h.2 f (by simpa using Array.mem_of_getElem? hf)
theorem yd {P:Program}{d:Nat}{t:TypeId}{fs:Array Field}{ds:List DV}(ht:P.underlying t=some (.struct fs))(h:Fit P (d+1) t ds):ds.length=P.cellsOf t:=by
 rw[Fit,ht] at h;dsimp only at h;exact h.1
theorem IA {P:Program}{d:Nat}{t:TypeId}{fs:Array Field}{fR fN:Field}{ds:List DV}(ht:P.underlying t=some (.struct fs))(h0:fs[0]? =some fR)(h1:fs[1]? =some fN)(o0:fR.offset=0)(o1:fN.offset=1)
  (t0:P.underlying fR.type=some (.int .u8)) (t1:P.underlying fN.type=some (.int .u32)) (hc:P.cellsOf t=2) (c0:P.cellsOf fR.type=1) (c1:P.cellsOf fN.type=1) (h:Fit P (d+2) t ds):∃ x:Dt,x.wf/\ds=x.ds:=by
 have f0:=bV ht h 0 fR h0;have f1:=bV ht h 1 fN h1;have hl:=yd ht h;rw[hc] at hl;rw[o0,c0] at f0;rw[o1,c1] at f1;obtain⟨a,ha,ea⟩:=yc t0 f0;obtain⟨b,hb,eb⟩:=nX t1 f1;have ea:=A2 ea;have eb:=A2 eb;refine⟨⟨a,b⟩,⟨ha,hb⟩,List.ext_getElem? λ i=> ?_⟩
 match i with
 | 0=>rw[ea];rfl
 | 1=>rw[eb];rfl
 | i+2=>rw[List.getElem?_eq_none (by omega),List.getElem?_eq_none (by simp)]
theorem xk {P:Program}{d:Nat}{t e:TypeId}{ds:List DV}{α:Type}(f:α->List DV)(ok:α->Prop)(ht:P.underlying t=some (.slice e))(hp:∀ ds,Fit P d e ds->∃ x,ok x/\ds=f x)
  (h:Fit P (d+1) t ds):(ds=[.aG])\/∃ l:List α,(∀ x∈l,ok x)/\l.length<=9223372036854775807/\ds=[.sl l.length (l.flatMap f)]:=by
 rw[Fit,ht] at h;dsimp only at h;rcases h with h|⟨n,cs,rfl,hn,hl,hi⟩
 .exact .inl h
 .refine .inr ?_
  have key:∀ k,k<=n->∃ l:List α,(∀ x∈l,ok x)/\l.length=k/\cs.take (k*P.cellsOf e)=l.flatMap f:=by
   intro k
   induction k with
   | zero=>intro _;exact⟨[],by simp,rfl,by simp⟩
   | succ k ih=>
    intro hk;obtain⟨l,a1,a2,a3⟩:=ih (by omega);obtain⟨x,b1,b2⟩:=hp _ (hi k hk);refine⟨l++[x],λ y hy=> ?_,by simp[a2],?_⟩
    .rcases List.mem_append.1 hy with h|h
     .exact a1 y h
     .simp at h;subst h;exact b1
    .rw[Nat.succ_mul,List.take_add,a3,b2];simp
  obtain⟨l,a1,a2,a3⟩:=key n (Nat.le_refl _);rw[List.take_of_length_le (by omega)] at a3;exact⟨l,a1,by omega,by rw[a2,a3]⟩
end Go.Sl
namespace Go.Sl
open Go.RowKit
section
structure Cm where
 line:Dt
 j5:Dt
 deriving DecidableEq
def Cm.ds (x:Cm):List DV:=x.line.ds++x.j5.ds
def Cm.wf (x:Cm):Prop:=x.line.wf/\x.j5.wf
@[simp] theorem IB (l:List Cm):(l.flatMap Cm.ds).length=l.length*4:=dU Cm.ds 4 (λ _=>rfl) l
def zy:List DV->List Cm
 | .int _ a:: .int _ b:: .int _ c:: .int _ d::r=>⟨⟨a.toNat,b.toNat⟩,⟨c.toNat,d.toNat⟩⟩::zy r
 | _=>[]
theorem u6:∀ l:List Cm,zy (l.flatMap Cm.ds)=l
 | []=>rfl
 | x::l=>by
  have:=u6 l;show zy (.int .u8 x.line.r:: .int .u32 x.line.n:: .int .u8 x.j5.r:: .int .u32 x.j5.n::l.flatMap Cm.ds)=_;rw[zy,this];rfl
def KC:DV->List Cm
 | .sl _ cs=>zy cs
 | _=>[]
theorem E2 (n:Nat)(l:List Cm):KC (.sl n (l.flatMap Cm.ds))=l:=u6 l
def ag.cl (o:ag):List Cm:=KC o.lines
structure ag.mZ (o:ag):Prop where
 eq:o.lines= .sl o.cl.length (o.cl.flatMap Cm.ds)
 le:o.cl.length<=9223372036854775807
theorem ag.mZ.of {o:ag}{l:List Cm}(h:o.lines= .sl l.length (l.flatMap Cm.ds))(hl:l.length<=9223372036854775807):o.mZ/\o.cl=l:=by
 have e:o.cl=l:=by unfold ag.cl;rw[h];exact E2 _ _
 exact⟨⟨by rw[e];exact h,by rw[e];exact hl⟩,e⟩
def aJ (l:List ag)(d:Dt):Option ag:=l.find? λ o=>decide (o.dot=d)
theorem gd {l:List ag}{d:Dt}{o:ag}(h:aJ l d=some o):o∈l/\o.dot=d:=by
 unfold aJ at h;have h2:=List.find?_some h;simp only[decide_eq_true_eq] at h2;exact⟨List.mem_of_find?_eq_some h,h2⟩
theorem u7 {l:List ag}{d:Dt}:aJ l d=none↔∀ o,o∈l->o.dot≠d:=by
 unfold aJ;rw[List.find?_eq_none];simp
theorem nY {l:List ag}{d:Dt}:(aJ l d).isSome=true↔∃ o,o∈l/\o.dot=d:=by
 cases h:aJ l d with
 | none=>
  rw[u7] at h;constructor
  .intro h;cases h
  .rintro⟨o,ho,e⟩;exact absurd e (h o ho)
 | some o=>exact⟨λ _=>⟨o,gd h⟩,λ _=>rfl⟩
def qC (l:List ag):Prop:=(l.map (·.dot)).Nodup
theorem qC.inj {l:List ag}(h:qC l){a b:ag}(ha:a∈l)(hb:b∈l)(e:a.dot=b.dot):a=b:=by
 induction l with
 | nil=>cases ha
 | cons x l ih=>
  unfold qC at h;rw[List.map_cons,List.nodup_cons] at h;rcases List.mem_cons.1 ha with ea|ha'
  .rcases List.mem_cons.1 hb with eb|hb'
   .rw[ea,eb]
   .exact absurd (List.mem_map.2 ⟨b,hb',by rw[<- e,ea]⟩) h.1
  .rcases List.mem_cons.1 hb with eb|hb'
   .exact absurd (List.mem_map.2 ⟨a,ha',by rw[e,eb]⟩) h.1
   .exact ih h.2 ha' hb'
theorem qC.find {l:List ag}(h:qC l){o:ag}(ho:o∈l):aJ l o.dot=some o:=by
 cases hf:aJ l o.dot with
 | none=>exact absurd rfl (u7.1 hf o ho)
 | some x=>
  obtain⟨h1,h2⟩:=gd hf;rw[h.inj h1 ho h2]
theorem qC.sub {l m:List ag}(h:qC l)(hs:m.Sublist l):qC m:=List.Nodup.sublist (hs.map _) h
end
section
def nz:DV->DV
 | .aG=> .sl 0 []
 | x=>x
theorem bQ.nz {M:Mem}{v:Value}{x:DV}(h:bQ M x v):bQ M (Go.Sl.nz x) v:=by
 cases x with
 | aG=>exact h.l_
 | _=>exact h
theorem dD.nz {M:Mem}{b:Nat}:∀ (cs:List DV) (o:Nat),dD M b o cs->dD M b o (cs.map Go.Sl.nz)
 | [],o,h=>by simp[dD]
 | c::cs,o,h=>by
  simp only[dD,List.map_cons] at h ⊢;obtain⟨⟨u,h1,h2⟩,h3⟩:=h;exact⟨⟨u,h1,h2.nz⟩,dD.nz cs (o+1) h3⟩
theorem bQ.PD {M:Mem}{v:Value}{n:Nat}{cs:List DV}(h:bQ M (.sl n cs) v):bQ M (.sl n (cs.map Go.Sl.nz)) v:=by
 simp only[bQ] at h ⊢;obtain⟨A,c,h1,h2,h3,h4⟩:=h;refine⟨A,c,h1,h2,λ hn=>by rw[h3 hn];rfl,λ hn=> ?_⟩;obtain⟨b,o,h5,h6⟩:=h4 hn;exact⟨b,o,h5,dD.nz cs o h6⟩
theorem IC {p:Nat->Prop}{μ:Nat->Nm}{M:Mem}{n:Nat}{cs:List DV}{r r':List SV}(hr:∀ vs,aV p μ M r' vs->aV p μ M r vs)(vs:List Value)(h:aV p μ M (.d (.sl n cs)::r') vs):aV p μ M (.d (.sl n (cs.map Go.Sl.nz))::r) vs:=by
 obtain⟨u,us,rfl,h1,h2⟩:=aV.aD.1 h;exact aV.aD.2 ⟨u,us,rfl,Rp.cI.2 (Rp.cI.1 h1).PD,hr us h2⟩
theorem zz {p:Nat->Prop}{μ:Nat->Nm}{M:Mem}{r r':List SV}(hr:∀ vs,aV p μ M r' vs->aV p μ M r vs)(vs:List Value)(h:aV p μ M (.d .aG::r') vs):aV p μ M (.d (.sl 0 [])::r) vs:=by
 obtain⟨u,us,rfl,h1,h2⟩:=aV.aD.1 h;exact aV.aD.2 ⟨u,us,rfl,l_ p μ M u h1,hr us h2⟩
def ag.nz (o:ag):ag:={ o with lines:=Go.Sl.nz o.lines}
theorem ag.Nz (o:ag):o.nz.ds=o.ds.map Go.Sl.nz:=rfl
theorem E3 (l:List ag):((l.map ag.nz).flatMap ag.ds)=(l.flatMap ag.ds).map Go.Sl.nz:=by
 induction l with
 | nil=>rfl
 | cons o l ih=>simp only[List.map_cons,List.flatMap_cons,List.map_append,ih,ag.Nz]
theorem nZ {ds x:List DV}{a n b:Nat}(h:(ds.drop a).take n=x)(hb:a+n=b):ds.drop a=x++ds.drop b:=by
 rw[<- h,<- hb,<- List.drop_drop,List.take_append_drop]
end
section
variable {P:Program}
theorem bq.NA {N k0:Nat}{st:St}{K:St->Prop}{si:SI}{r:List SI}{t:Nat}{b:Bool}{F:Hp}{nk:Nat}{Q:SV->Hp->Prop}(hg:si.g=some (t,b))(OW:st.env.lookup t=some (.d (.bool b)))(hq:∀ o:Oper,cO P o.op=some si.op->nW P o (λ t=>st.env.lookup t) (lk st.hp) st.k nk F Q)
  (hro:dA si.op=false) (h:∀ v F',Q v F'->bq P N k0 r (l9 st si ⟨v,F,F',nk,True⟩) K):bq P N k0 (si::r) st K:=by
 refine bq.cons λ ops o hc hN rd cF M0 w0 c0 a w fM i ho Q' KK EX=> ?_
 obtain⟨g1,g2,g3⟩:=gT hc;obtain⟨lW,hdf,hsz,μ,M,fq,hS,hE⟩:=fM;have fM:iC N cF M0 w0 c0 k0 st a w:=⟨lW,hdf,hsz,μ,M,fq,hS,hE⟩;have hw:Region.wanted o (yielded ops a.tmps)=true:=by
  rcases g3 with⟨_,h'⟩|⟨j,w,t',hg',hd,h'⟩
  .rw[hg] at h';cases h'
  .rw[hg] at h'
   injection h' with h';injection h' with e1 e2;subst e1;subst e2;have hv:=Rp.bD.1 (fq t _ OW);simp only[Region.wanted,hg',iK hd hv];simp
 unfold wpOpIn;simp only[ho,hw,if_true];exact(iC.step g2 (λ d hd=>hN d (by rw[g2];exact hd)) (hq o g1) (λ v F' _ hr=>by rw[hro] at hr;cases hr) fM λ v F' hQ a' w' hSt'=>EX _ a' w' (h v F' hQ) hSt')
theorem bq.A3 {N k0:Nat}{st:St}{K:St->Prop}{d:Option Nat}{r:List SI}{f:X}{args:List X}{t:Nat}{b:Bool}{nl:Nat}{as:List SV}{F:Hp}{nk:Nat}{Q:SV->Hp->Prop}(OW:st.env.lookup t=some (.d (.bool b)))
  (h1:ev (λ t=>st.env.lookup t) f=some (.yl nl)) (h2:qc (λ t=>st.env.lookup t) args=some as) (hF:lk F nl≠none) (Ny:SY P nl as F st.k nk Q) (hsub:HSub F st.hp)
  (h:∀ v F',Q v F'->bq P N k0 r (l9 st ⟨d,.call f args,some (t,b)⟩ ⟨v,F,F',nk,True⟩) K):bq P N k0 (⟨d,.call f args,some (t,b)⟩::r) st K:=
 bq.NA rfl OW (λ o hc=>zx hc h1 h2 hF Ny hsub) rfl h
theorem iC.ye {N k0:Nat}{st:St}{cF:Nat->Nm}{M0:Mem}{w0:World}{c0:Nat->Option Ob}{a:Act}{w:World}(x ty:Nat)(e sz:Nat)(ht:lk st.hp x=some (.box ty [.d .aG]))(h:iC N cF M0 w0 c0 k0 st a w):
    iC N cF M0 w0 c0 k0 ⟨st.env,(x,.box ty [.gs st.k 0])::(st.k,.arr e sz 0 [])::st.hp,st.k+1⟩ a w:=by
  obtain⟨lW,hdf,hsz,μ,M,fq,hS,hE⟩:=h;have hmu:=uu (μ:=μ) (m:=⟨0,0,false⟩) (p:=(· <st.k)) (k:=st.k) (Nat.lt_irrefl _);have hup:∀ n,n<st.k->n<st.k+1:=λ n h=>by omega
  have hlt:∀ n ob,lk st.hp n=some ob->n<st.k:=λ n ob h=>(hS.obs n ob h).1
  have hxk:=hlt x _ ht;have hne:∀ n,n≠st.k->lk ((x,.box ty [.gs st.k 0])::(st.k,.arr e sz 0 [])::st.hp) n≠none->lk st.hp n≠none:=λ n h1 h2=>by
    rw[aa] at h2
    split at h2
    . rename_i e1;rw[e1,ht];simp
    . rw[aa,if_neg h1] at h2;exact h2
  refine⟨by show k0<=st.k+1;omega,hdf,hsz,yW μ st.k ⟨0,0,false⟩,M,λ u s hs=> ?_,⟨hS.mem,λ n ob hn=> ?_,λ n m hn hm ln lm e=> ?_⟩,⟨λ n hn=> ?_,hE.mem,hE.frame,hE.size,λ n hn=> ?_,hE.os,hE.tape,hE.output⟩⟩
  . exact(fq u s hs).more hup hmu (Mem.le_refl M)
  . rw[aa] at hn
    split at hn
    . rename_i e1
      subst e1;injection hn with hn;subst hn;obtain⟨a1,⟨hl,vs,hb,hr⟩,a3⟩:=hS.obs n _ ht;rw[hmu n a1];refine⟨hup n a1,⟨hl,vs,hb,?_⟩,a3⟩;obtain⟨v,vs',e,h1,h2⟩:=aV.aD.1 hr;rw[e];refine aV.aD.2 ⟨v,vs',rfl,?_,aV.aQ.2 (aV.aQ.1 h2)⟩;have h1:=h1.rep;simp only[dh,bQ] at h1;intro ν ic;simp only[dh];rw[ic st.k (Nat.lt_succ_self _),bz];exact .inr ⟨rfl,trivial,none,h1⟩
    . rw[aa] at hn
      split at hn
      . rename_i e1
        subst e1;injection hn with hn;subst hn;rw[bz];exact⟨Nat.lt_succ_self _,.inl ⟨rfl,rfl,rfl⟩,λ h=>by cases h⟩
      . obtain⟨a1,a2,a3⟩:=hS.obs n ob hn
        rw[hmu n a1];exact⟨hup n a1,a2.more hup hmu (Mem.le_refl M) λ _=>rfl,a3⟩
  . by_cases e1:n=st.k
    . subst e1;rw[bz] at ln;cases ln
    . by_cases e2:m=st.k
      . subst e2;rw[bz] at lm;cases lm
      . have hn:=hne n e1 hn
        have hm:=hne m e2 hm;obtain⟨o1,ho1⟩:=Option.ne_none_iff_exists'.1 hn;obtain⟨o2,ho2⟩:=Option.ne_none_iff_exists'.1 hm;rw[hmu n (hlt n o1 ho1)] at e ln;rw[hmu m (hlt m o2 ho2)] at e lm;exact hS.inj n m hn hm ln lm e
  . simp only at hn
    by_cases e1:n=st.k
    . subst e1;omega
    . rw[eU _ _ _ e1];exact hE.old n (by omega)
  . by_cases e1:n=st.k
    . subst e1
      rw[bz];exact .inl ⟨⟨by omega,Nat.lt_succ_self _⟩,λ h=>by cases h⟩
    . have hn:=hne n e1 hn
      obtain⟨o1,ho1⟩:=Option.ne_none_iff_exists'.1 hn;rw[hmu n (hlt n o1 ho1)];rcases hE.names n hn with⟨b1,b2⟩|⟨b1,b2⟩
      . exact .inl ⟨⟨b1.1,by have:=b1.2;show n<st.k+1;omega⟩,b2⟩
      . refine .inr ⟨λ h=> ?_,b2⟩
        have:n<st.k:=hlt n o1 ho1;exact b1 ⟨h.1,this⟩
theorem SW.ye {N k0:Nat}{st:St}{Q:Exit->St->Prop}{s:bK}(x ty:Nat)(e sz:Nat)(ht:lk st.hp x=some (.box ty [.d .aG]))(h:SW P N k0 s ⟨st.env,(x,.box ty [.gs st.k 0])::(st.k,.arr e sz 0 [])::st.hp,st.k+1⟩ Q):SW P N k0 s st Q:=
 λ c hc rd hrf cF M0 w0 c0 a w fM=>h c hc rd hrf cF M0 w0 c0 a w (fM.ye x ty e sz ht)
end
end Go.Sl
