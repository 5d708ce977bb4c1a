/-
 Small lemmas for walks.
-/
import Derived.ProofKit
import Derived.OpenShut
import Derived.Carry
import Derived.ShutString
import Derived.Maps.RangeRun
import Derived.Test.YtaelhkkjgfobhaaGreatR3
set_option linter.unusedSimpArgs false
set_option linter.unusedSectionVars false
set_option linter.unusedVariables false
namespace Go.Sl
open Go.RowKit
abbrev u32 (n:Nat):SV:= .d (.int .u32 (n:Int))
abbrev u64 (n:Nat):SV:= .d (.int .u64 (n:Int))
abbrev u8 (n:Nat):SV:= .d (.int .u8 (n:Int))
abbrev i64 (n:Int):SV:= .d (.int .i64 n)
abbrev bl (b:Bool):SV:= .d (.bool b)
mutual
theorem SV.oV:∀ s:SV,s.aC id=s
 | .d _ | .ptr _ _ | .gs _ _ | .bs _ _ _ | .vp _ _ | .mp _ | .it _ | .yl _ | .any=>rfl
 | .fn f a c=>by simp only[SV.aC,SV.bS a,SV.bS c]
 | .agg cs=>by simp only[SV.aC,SV.bS cs]
 | .dL cs=>by simp only[SV.aC,SV.bS cs]
theorem SV.bS:∀ s:List SV,SV.aN id s=s
 | []=>rfl
 | c::cs=>by simp only[SV.aN,SV.oV c,SV.bS cs]
end
theorem Ob.oV (o:Ob):o.aC id=o:=by
 cases o<;>simp[Ob.aC,SV.bS,SV.oV]
section
variable {P:Program} {N k0:Nat} {st:St} {Q:Exit->St->Prop}
end
theorem vf {α β:Type}(f:α->List β)(sz:Nat)(hf:∀ x,(f x).length=sz):∀ (l:List α) (i j:Nat) (x:α),l[i]? =some x->j<sz->(l.flatMap f)[i*sz+j]? =(f x)[j]?
 | [],i,j,x,h,_=>by simp at h
 | y::l,0,j,x,h,hj=>by
  simp at h;subst h;rw[List.flatMap_cons,List.getElem?_append_left (by rw[hf];omega)];simp
 | y::l,i+1,j,x,h,hj=>by
  simp at h;rw[List.flatMap_cons,List.getElem?_append_right (by rw[hf,Nat.add_mul];omega),hf];rw[show(i+1)*sz+j - sz=i*sz+j by rw[Nat.add_mul];omega];exact vf f sz hf l i j x h hj
theorem jG {α β:Type}(f:α->List β)(sz:Nat)(hf:∀ x,(f x).length=sz):∀ (l:List α) (i:Nat) (x:α),l[i]? =some x->((l.flatMap f).drop (i*sz)).take sz=f x
 | [],i,x,h=>by simp at h
 | y::l,0,x,h=>by
  simp at h;subst h;simp[List.flatMap_cons,List.take_left' (hf y)]
 | y::l,i+1,x,h=>by
  simp at h;rw[List.flatMap_cons,Nat.add_mul,Nat.one_mul,Nat.add_comm,<- List.drop_drop,List.drop_left' (hf y)];exact jG f sz hf l i x h
theorem eC {α β:Type}(f:α->List β)(sz:Nat)(hf:∀ x,(f x).length=sz)(l:List α):(l.flatMap f).length=l.length*sz:=by
 induction l with
 | nil=>simp
 | cons x l ih=>simp[List.flatMap_cons,hf,ih,Nat.add_mul,Nat.add_comm]
theorem yP (n:Int)(h: -9223372036854775808<=n)(h':n<9223372036854775808):IntKind.i64.wrap n=n:=by
 simp[IntKind.wrap,IntKind.bits,IntKind.signed];omega
theorem HSub.nil (h:Hp):HSub [] h:=λ n ob hn=>by simp[bA] at hn
def Pure (P:Program)(f:FuncId)(args:List SV)(v:SV):Prop:=SB P f args [] 0 0 λ r F=>r=v/\F=[]
theorem SV.xN {ρ:Nat->Nat}(s:SV):s.ok (λ n=>decide (n<0))=true->s.aC ρ=s:=
 SV.rec (motive_1:=λ s=>s.ok (λ n=>decide (n<0))=true->s.aC ρ=s) (motive_2:=λ l=>SV.ax (λ n=>decide (n<0)) l=true->SV.aN ρ l=l)
  (λ _ _=>rfl) (λ _ _ h=>by simp[SV.ok] at h) (λ _ _ h=>by simp[SV.ok] at h) (λ _ _ _ h=>by simp[SV.ok] at h) (λ _ _ _=>rfl) (λ _ h=>by simp[SV.ok] at h) (λ _ h=>by simp[SV.ok] at h) (λ _ h=>by simp[SV.ok] at h)
  (λ f a c h1 h2 h=>by simp only[SV.ok,Bool.and_eq_true] at h;simp only[SV.aC,h1 h.1,h2 h.2])
  (λ cs h1 h=>by simp only[SV.ok] at h;simp only[SV.aC,h1 h]) (λ cs h1 h=>by simp only[SV.ok] at h;simp only[SV.aC,h1 h]) (λ _=>rfl)
  (λ _=>rfl) (λ c cs h1 h2 h=>by simp only[SV.ax,Bool.and_eq_true] at h;simp only[SV.aN,h1 h.1,h2 h.2]) s
theorem Pure.sc {P:Program}{f:FuncId}{args:List SV}{v:SV}(h:Pure P f args v)(hv:v.ok (λ n=>decide (n<0))=true)(k:Nat):aH P f args [] k 0 v []:=by
 have:=SB.at h id k (λ n m hn=>absurd hn (Nat.not_lt_zero n)) (λ n hn=>absurd hn (Nat.not_lt_zero n)) (λ i hi=>absurd hi (Nat.not_lt_zero i));rw[SV.bS] at this;refine this.mono ?_;rintro r F' ⟨r0,F0,⟨rfl,rfl⟩,rfl,rfl⟩;exact⟨SV.xN _ hv,rfl⟩
structure ay where
 (a0 a1 a2 a3 a4 a5 a6 a7:Nat)
 deriving DecidableEq
def ay.get (v:ay):Nat->Nat
 | 0=>v.a0|1=>v.a1|2=>v.a2|3=>v.a3|4=>v.a4|5=>v.a5|6=>v.a6|7=>v.a7|_=>0
def ay.of (f:Nat->Nat):ay:=⟨f 0,f 1,f 2,f 3,f 4,f 5,f 6,f 7⟩
theorem ay.sW (f:Nat->Nat){r:Nat}(h:r<8):(ay.of f).get r=f r:=by
 match r,h with
 | 0,_|1,_|2,_|3,_|4,_|5,_|6,_|7,_=>rfl
theorem ay.ext' {a b:ay}(h:∀ r,r<8->a.get r=b.get r):a=b:=by
 obtain⟨a0,a1,a2,a3,a4,a5,a6,a7⟩:=a;obtain⟨b0,b1,b2,b3,b4,b5,b6,b7⟩:=b;have h0:a0=b0:=h 0 (by omega);have h1:a1=b1:=h 1 (by omega);have h2:a2=b2:=h 2 (by omega);have h3:a3=b3:=h 3 (by omega);have h4:a4=b4:=h 4 (by omega);have h5:a5=b5:=h 5 (by omega);have h6:a6=b6:=h 6 (by omega);have h7:a7=b7:=h 7 (by omega);subst h0 h1 h2 h3 h4 h5 h6 h7;rfl
def ay.ds (v:ay):List DV:=[.int .u32 v.a0,.int .u32 v.a1,.int .u32 v.a2,.int .u32 v.a3,.int .u32 v.a4,.int .u32 v.a5,.int .u32 v.a6,.int .u32 v.a7]
def ay.cells (v:ay):List SV:=[u32 v.a0,u32 v.a1,u32 v.a2,u32 v.a3,u32 v.a4,u32 v.a5,u32 v.a6,u32 v.a7]
theorem ay.sX (v:ay):v.ds.map .d=v.cells:=rfl
theorem ay.nJ (v:ay):v.ds.length=8:=rfl
theorem ay.eE (v:ay){r:Nat}(h:r<8):v.cells[r]? =some (u32 (v.get r)):=by
 match r,h with
 | 0,_|1,_|2,_|3,_|4,_|5,_|6,_|7,_=>rfl
theorem ay.cells_one (v:ay):v.cells.all SV.dX=true:=rfl
theorem ay.jH (v:ay):v.cells.length=8:=rfl
theorem ay.ah (v:ay)(q:Nat->Bool):SV.ax q v.cells=true:=rfl
def ay.set (v:ay)(i x:Nat):ay:=ay.of λ r=>if r=i then x else v.get r
theorem ay.xO (v:ay){i:Nat}(h:i<8)(x:Nat):v.cells.set i (u32 x)=(v.set i x).cells:=by
 match i,h with
 | 0,_|1,_|2,_|3,_|4,_|5,_|6,_|7,_=>rfl
def ay.wf (v:ay):Prop:=∀ r,r<8->v.get r<4294967296
theorem ay.rj (a b:ay):jF (rep 8 [true]) a.cells b.cells=some (decide (a=b)):=by
 have h:jF (rep 8 [true]) a.cells b.cells=some (((a.a0:Int) == b.a0) && (((a.a1:Int) == b.a1) && (((a.a2:Int) == b.a2) && (((a.a3:Int) == b.a3) && (((a.a4:Int) == b.a4) && (((a.a5:Int) == b.a5) && (((a.a6:Int) == b.a6) && (((a.a7:Int) == b.a7) && true)))))))):=by
  simp[jF,IL,rep,ay.cells]
 rw[h]
 congr 1
 obtain⟨a0,a1,a2,a3,a4,a5,a6,a7⟩:=a;obtain⟨b0,b1,b2,b3,b4,b5,b6,b7⟩:=b;rw[Bool.eq_iff_iff];simp;omega
end Go.Sl
namespace Go.Sl
open Go.RowKit Go.ChangeShapes Go.WideShapes
def Ag (P:Program):Nat->List Field->Option Nat
 | o,[]=>some o
 | o,f::fs=>if f.offset=o then Ag P (o+P.cellsOf f.type) fs else none
def Fit (P:Program):Nat->TypeId->List DV->Prop
 | 0,_,_=>False
 | d+1,t,ds=>match P.underlying t with
  | some .bool=>∃ b,ds=[.bool b]
  | some (.int k)=>∃ n,ds=[.int k n]/\(Lit.int k n).wf=true
  | some (.struct fs)=>ds.length=P.cellsOf t/\∀ f∈fs.toList,Fit P d f.type ((ds.drop f.offset).take (P.cellsOf f.type))
  | some (.array n e)=>ds.length=P.cellsOf t/\∀ i,i<n->Fit P d e ((ds.drop (i*P.cellsOf e)).take (P.cellsOf e))
  | some (.slice e)=>ds=[.aL]\/∃ n cs,ds=[.sl n cs]/\n<=9223372036854775807/\cs.length=n*P.cellsOf e/\∀ i,i<n->Fit P d e ((cs.drop (i*P.cellsOf e)).take (P.cellsOf e))
  | _=>False
def jx (P:Program):Nat->TypeId->Bool
 | 0,_=>false
 | d+1,t=>match P.underlying t with
  | some .bool=>P.cellsOf t == 1
  | some (.int _)=>P.cellsOf t == 1
  | some (.struct fs)=>(Ag P 0 fs.toList == some (P.cellsOf t)) && fs.toList.all λ f=>jx P d f.type
  | some (.array n e)=>(P.cellsOf t == n*P.cellsOf e) && jx P d e
  | some (.slice e)=>(P.cellsOf t == 1) && jx P d e && decide (0<P.cellsOf e) && decide (0<P.bytesOf e)
  | _=>false
def kY (w:World):Mem:=λ b o=>w.cell? ⟨b,o,none⟩
def Cells (M:Mem):List Value->List DV->Prop
 | [],[]=>True
 | v::vs,d::ds=>bQ M d v/\Cells M vs ds
 | _,_=>False
theorem Cells.length {M:Mem}:∀ {vs:List Value} {ds:List DV},Cells M vs ds->vs.length=ds.length
 | [],[],_=>rfl
 | v::vs,d::ds,h=>by simp only[Cells] at h;simp[h.2.length]
 | [],d::ds,h=>by simp[Cells] at h
 | v::vs,[],h=>by simp[Cells] at h
theorem Cells.append {M:Mem}:∀ {vs us:List Value} {ds es:List DV},Cells M vs ds->Cells M us es->Cells M (vs++us) (ds++es)
 | [],us,[],es,_,h=>by simpa using h
 | v::vs,us,d::ds,es,h,k=>by simp only[Cells] at h;simp only[List.cons_append,Cells];exact⟨h.1,h.2.append k⟩
 | [],us,d::ds,es,h,_=>by simp[Cells] at h
 | v::vs,us,[],es,h,_=>by simp[Cells] at h
theorem Cells.P_ {M:Mem}{p:Nat->Prop}{μ:Nat->Nm}:∀ {vs:List Value} {ds:List DV},Cells M vs ds->aS p μ M (ds.map .d) vs
 | [],[],_=>aS.aQ.2 rfl
 | v::vs,d::ds,h=>by simp only[Cells] at h;exact aS.aD.2 ⟨v,vs,rfl,Rp.cB.2 h.1,h.2.P_⟩
 | [],d::ds,h=>by simp[Cells] at h
 | v::vs,[],h=>by simp[Cells] at h
theorem Cells.NY {w:World}{b:Nat}:∀ {vs:List Value} {ds:List DV} (q:Nat),Cells (kY w) vs ds->(∀ (i:Nat) (v:Value),vs[i]? =some v->w.cell? ⟨b,q+i,none⟩=some v)->dm (kY w) b q ds
 | [],[],q,_,_=>by simp[dm]
 | v::vs,d::ds,q,h,hc=>by
  simp only[Cells] at h;simp only[dm];refine⟨⟨v,by simpa[kY] using hc 0 v rfl,h.1⟩,Cells.NY (q+1) h.2 λ i u hi=> ?_⟩;have:=hc (i+1) u (by simpa using hi)
  rwa [show q+(i+1)=q+1+i by omega] at this
 | [],d::ds,q,h,_=>by simp[Cells] at h
 | v::vs,[],q,h,_=>by simp[Cells] at h
section
variable {H:Type} {enc:TypeId×Value->H} {P:Program} {w:World} {sp:Nat->Bool} {held:Bool}
theorem xP:∀ {d:Nat} {t:TypeId} {ds:List DV},jx P d t=true->Fit P d t ds->ds.length=P.cellsOf t
 | 0,t,ds,h,_=>by simp[jx] at h
 | d +1,t,ds,h,hf=>by
  simp only[jx] at h;simp only[Fit] at hf
  split at h
  .rename_i hu;rw[hu] at hf;obtain⟨b,rfl⟩:=hf;simp at h;simp[h]
  .rename_i hu;rw[hu] at hf;obtain⟨b,rfl,_⟩:=hf;simp at h;simp[h]
  .rename_i hu;rw[hu] at hf;exact hf.1
  .rename_i hu;rw[hu] at hf;exact hf.1
  .rename_i hu;rw[hu] at hf
   simp at h;rcases hf with rfl|⟨n,cs,rfl,_⟩<;>simp[h.1.1.1]
  .cases h
theorem CS:∀ {fs:List Field} {o n:Nat},Ag P o fs=some n->o<=n
 | [],o,n,h=>by simp[Ag] at h;omega
 | f::fs,o,n,h=>by
  simp only[Ag] at h
  split at h
  .have:=CS h;omega
  .cases h
mutual
def DV.small (B:Nat):DV->Prop
 | .sl n cs=>n<=B/\ew B cs
 | _=>True
def ew (B:Nat):List DV->Prop
 | []=>True
 | c::cs=>c.small B/\ew B cs
end
theorem ew.append {B:Nat}:∀ {cs ds:List DV},ew B cs->ew B ds->ew B (cs++ds)
 | [],_,_,h=>h
 | _::_,_,h,k=>by
  simp only[List.cons_append,ew] at h ⊢;exact⟨h.1,h.2.append k⟩
theorem vg {B:Nat}:∀ {cs:List DV},ew B cs↔∀ c,c∈cs->c.small B
 | []=>by simp[ew]
 | c::cs=>by simp[ew,vg (cs:=cs)]
def Bx (P:Program)(B:Nat)(t:TypeId)(y:DataW H):Prop:=∀ n,n∈y.weights P t->n<=B
def Sm (P:Program)(t:TypeId)(ds:List DV)(y:DataW H):Prop:=∀ (B:Nat),Bx P B t y->ew B ds
theorem kZ {P:Program}{e:TypeId}{n:Nat}:∀ {xs:List (DataW H)} {x:DataW H},x∈xs->n∈x.weights P e->n∈DataW.weightsAll P e xs
 | [],_,h,_=>by cases h
 | y::ys,x,h,hn=>by
  simp only[DataW.weightsAll,List.mem_append];rcases List.mem_cons.1 h with rfl|h
  .exact .inl hn
  .exact .inr (kZ h hn)
theorem oF {P:Program}{n:Nat}:∀ {ts:List TypeId} {xs:List (DataW H)} {j:Nat} {t:TypeId} {x:DataW H},ts[j]? =some t->xs[j]? =some x->n∈x.weights P t->n∈DataW.weightsEach P ts xs
 | t0::ts,x0::xs,0,t,x,ht,hx,hn=>by
  simp at ht hx;subst ht;subst hx;simp only[DataW.weightsEach,List.mem_append];exact .inl hn
 | t0::ts,x0::xs,j+1,t,x,ht,hx,hn=>by
  simp at ht hx;simp only[DataW.weightsEach,List.mem_append];exact .inr (oF ht hx hn)
 | [],_,_,_,_,ht,_,_=>by simp at ht
 | _::_,[],_,_,_,_,hx,_=>by simp at hx
theorem Bx.slice {P:Program}{B:Nat}{t e:TypeId}{es sp:List (DataW H)}(hu:P.underlying t=some (.slice e))(h:Bx P B t (.slice es sp)):(0<P.bytesOf e->es.length<=B)/\∀ x,x∈es->Bx P B e x:=by
 constructor
 .intro hp
  have:=h ((es.length+sp.length)*P.bytesOf e) (by simp[DataW.weights,hu]);have h2:es.length*1<=(es.length+sp.length)*P.bytesOf e:=Nat.mul_le_mul (by omega) hp;omega
 .intro x hx n hn
  exact h n (by simp only[DataW.weights,hu,List.mem_cons,List.mem_append];exact .inr (.inl (kZ hx hn)))
theorem Bx.struct {P:Program}{B:Nat}{t:TypeId}{fs:Array Field}{xs:List (DataW H)}(hu:P.underlying t=some (.struct fs))(h:Bx P B t (.agg xs)){i:Nat}{f:Field}{x:DataW H}(hf:fs.toList[i]? =some f)(hx:xs[i]? =some x):Bx P B f.type x:=λ n hn=>
 h n (by simp only[DataW.weights,hu];exact oF (j:=i) (by rw[List.getElem?_map,hf];rfl) hx hn)
theorem Bx.array {P:Program}{B:Nat}{t e:TypeId}{k:Nat}{xs:List (DataW H)}(hu:P.underlying t=some (.array k e))(h:Bx P B t (.agg xs)){x:DataW H}(hx:x∈xs):Bx P B e x:=λ n hn=>
 h n (by simp only[DataW.weights,hu];exact kZ hx hn)
theorem vh (d fuel:Nat)(cs:List Value)(Q:Field->DataW H->Prop)(part:∀ f:Field,jx P d f.type=true->∀ x,DataW.trod enc P w 0 sp held fuel f.type ((cs.drop f.offset).take (P.cellsOf f.type))=some x->
   ∃ ds,Fit P d f.type ds/\Cells (kY w) ((cs.drop f.offset).take (P.cellsOf f.type)) ds/\Sm P f.type ds x.1):
  ∀ (fs:List Field) (o n:Nat),Ag P o fs=some n->n<=cs.length->(∀ f∈fs,jx P d f.type=true/\∃ x,DataW.trod enc P w 0 sp held fuel f.type ((cs.drop f.offset).take (P.cellsOf f.type))=some x/\Q f x.1)->
   ∃ ds,ds.length=n - o/\Cells (kY w) ((cs.drop o).take (n - o)) ds/\(∀ f∈fs,o<=f.offset/\Fit P d f.type ((ds.drop (f.offset - o)).take (P.cellsOf f.type)))/\∀ (B:Nat),(∀ f x,Q f x->Bx P B f.type x)->ew B ds
 | [],o,n,h,_,_=>by
  simp[Ag] at h;subst h;exact⟨[],by simp,by simp[Cells],by simp,λ _ _=>trivial⟩
 | f ::fs,o,n,h,hn,hf=>by
  simp only[Ag] at h
  split at h<;>try (cases h;done)
  rename_i ho;have hle:=CS h;obtain⟨ds2,l2,c2,f2,s2⟩:=vh d fuel cs Q part fs _ n h hn λ g hg=>hf g (by simp[hg])
  obtain⟨x1,hx1,hq1⟩:=(hf f (by simp)).2;obtain⟨ds1,f1,c1,s1⟩:=part f (hf f (by simp)).1 x1 hx1;have l1:=xP (hf f (by simp)).1 f1;refine⟨ds1++ds2,by simp[l1,l2];omega,?_,?_,λ B hq=>(s1 B (hq _ _ hq1)).append (s2 B hq)⟩
  .have:=c1.append c2
   rw[ho] at this;have e:(cs.drop o).take (n - o)=(cs.drop o).take (P.cellsOf f.type)++(cs.drop (o+P.cellsOf f.type)).take (n - (o+P.cellsOf f.type)):=by
    rw[<- List.drop_drop,show n - o=P.cellsOf f.type+(n - (o+P.cellsOf f.type)) by omega,List.take_add]
   rw[e];exact this
  .intro g hg
   rcases List.mem_cons.1 hg with rfl|hg
   .refine⟨by omega,?_⟩
    rw[show g.offset - o=0 by omega,List.drop_zero,List.take_left' l1];exact f1
   .obtain⟨q1,q2⟩:=f2 g hg
    refine⟨by omega,?_⟩;rw[List.drop_append,List.drop_eq_nil_of_le (by omega),List.nil_append,l1,show g.offset - o - P.cellsOf f.type=g.offset - (o+P.cellsOf f.type) by omega];exact q2
theorem sY (d:Nat)(e:TypeId)(he:jx P d e=true)(cell:Nat->List Value)(Q:DataW H->Prop):∀ (n k:Nat),(∀ i,i<n->∃ ds,Fit P d e ds/\Cells (kY w) (cell (k+i)) ds/\∃ x,Q x/\Sm P e ds x)->
  ∃ ds,ds.length=n*P.cellsOf e/\Cells (kY w) ((List.range' k n).flatMap cell) ds/\(∀ i,i<n->Fit P d e ((ds.drop (i*P.cellsOf e)).take (P.cellsOf e)))/\∀ (B:Nat),(∀ x,Q x->Bx P B e x)->ew B ds
 | 0,k,_=>⟨[],by simp,by simp[Cells],by omega,λ _ _=>trivial⟩
 | n + 1,k,h=>by
  obtain⟨ds1,f1,c1,x1,hq1,s1⟩:=h 0 (by omega);have l1:=xP he f1;obtain⟨ds2,l2,c2,f2,s2⟩:=sY d e he cell Q n (k+1) λ i hi=>by
   have:=h (i+1) (by omega)
   rwa [show k+(i+1)=k+1+i by omega] at this
  refine⟨ds1++ds2,by simp[l1,l2,Nat.add_mul];omega,?_,λ i hi=> ?_,λ B hq=>(s1 B (hq _ hq1)).append (s2 B hq)⟩
  .rw[List.range'_succ,List.flatMap_cons]
   exact c1.append c2
  .cases i with
   | zero=>simp[List.take_left' l1];exact f1
   | succ i=>
    rw[Nat.add_mul,Nat.one_mul,Nat.add_comm,<- List.drop_drop,List.drop_left' l1];exact f2 i (by omega)
theorem eE {b o n:Nat}{base:Nat}{cs:List Value}(h:w.cells? base ⟨b,o,none⟩ n=some cs):cs.length=n/\∀ (i:Nat) (v:Value),cs[i]? =some v->w.cell? ⟨b,o+i,none⟩=some v:=by
 obtain⟨_,h1,h2⟩:=World.cells?_some h;refine⟨h1,λ i v hi=> ?_⟩;have hlt:i<n:=by
  have:=(List.getElem?_eq_some_iff.1 hi).1;omega
 have:=h2 i hlt;rw[d_] at this;rw[this];exact hi
theorem FH : ∀ (d fuel:Nat) (t:TypeId) (cs:List Value) (x:DataW H×List MemPlace),jx P d t=true->DataW.trod enc P w 0 sp held fuel t cs=some x->∃ ds,Fit P d t ds/\Cells (kY w) cs ds/\Sm P t ds x.1:=by
  intro d
  induction d with
  | zero=>intro fuel t cs x h;simp[jx] at h
  | succ d ih =>
    intro fuel t cs x h hx;simp only[jx] at h;simp only[Fit]
    split at h
    . rename_i hu
      (try rw[hu])
      obtain⟨b,rfl,_⟩:=DataW.trod_bool hu hx;exact⟨[.bool b],⟨b,rfl⟩,by simp[Cells,bQ],λ _ _=>by simp[ew,DV.small]⟩
    . rename_i k hu
      (try rw[hu])
      obtain⟨n,rfl,_,hw⟩:=DataW.trod_int hu hx;exact⟨[.int k n],⟨n,rfl,hw⟩,by simp[Cells,bQ],λ _ _=>by simp[ew,DV.small]⟩
    . rename_i fs hu
      (try rw[hu])
      simp only[Bool.and_eq_true,beq_iff_eq,List.all_eq_true] at h;obtain⟨xs,n,hn,hxe,hl,hxl,hf⟩:=DataW.trod_struct hu hx;obtain⟨ds,l1,c1,f1,s1⟩:=vh d n cs (λ f x=>∃ i,fs.toList[i]? =some f/\(xs.map (·.1))[i]? =some x) (λ f hft y hy=>ih n f.type _ y hft hy) fs.toList 0 (P.cellsOf t) h.1 (by omega) λ f hf'=>by
        refine⟨h.2 f hf',?_⟩;obtain⟨i,hi,e⟩:=List.getElem_of_mem hf';have hfi:fs[i]? =some f:=by
          have hi':i<fs.size:=by simpa using hi
          rw[Array.getElem?_eq_getElem hi'];simpa using e
        have:=hf i f hfi;have hix:i<xs.length:=by rw[hxl];simpa using hi
        exact⟨_,this.trans (List.getElem?_eq_getElem hix),i,by rw[Array.getElem?_toList];exact hfi,by rw[List.getElem?_map,List.getElem?_eq_getElem hix];rfl⟩
      refine⟨ds,⟨by simpa using l1,λ f hf'=>by simpa using(f1 f hf').2⟩,?_,λ B hq=>s1 B λ f x ⟨i,h1,h2⟩=>Bx.struct hu (by rw[hxe] at hq;exact hq) h1 h2⟩;rw[List.drop_zero,Nat.sub_zero,List.take_of_length_le (by omega)] at c1;exact c1
    . rename_i n e hu
      (try rw[hu])
      simp only[Bool.and_eq_true,beq_iff_eq] at h;obtain⟨xs,m,hm,hxe,hl,hxl,hf⟩:=DataW.trod_array hu hx;obtain⟨ds,l1,c1,f1,s1⟩:=sY d e h.2 (λ i=>(cs.drop (i*P.cellsOf e)).take (P.cellsOf e)) (λ x=>x∈xs.map (·.1)) n 0 λ i hi=>by
        have:=hf i hi;have hix:i<xs.length:=by omega
        rw[Nat.zero_add];obtain⟨ds,a1,a2,a3⟩:=ih m e _ _ h.2 (this.trans (List.getElem?_eq_getElem hix));exact⟨ds,a1,a2,_,List.mem_map.2 ⟨_,List.getElem_mem hix,rfl⟩,a3⟩
      have hfl:∀ (n k:Nat) (cs:List Value),(k+n)*P.cellsOf e<=cs.length->(List.range' k n).flatMap (λ i=>(cs.drop (i*P.cellsOf e)).take (P.cellsOf e))=(cs.drop (k*P.cellsOf e)).take (n*P.cellsOf e):=by
        intro n
        induction n with
        | zero=>intro k cs _;simp
        | succ n ihn=>
          intro k cs hk;rw[List.range'_succ,List.flatMap_cons,ihn (k+1) cs (by rwa [show k+1+n=k+(n+1) by omega])];rw[show(n+1)*P.cellsOf e=P.cellsOf e+n*P.cellsOf e by rw[Nat.add_mul];omega,List.take_add,List.drop_drop];rw[show k*P.cellsOf e+P.cellsOf e=(k+1)*P.cellsOf e by rw[Nat.add_mul];omega]
      refine⟨ds,⟨by rw[l1,h.1],f1⟩,?_,λ B hq=>s1 B λ x hx'=>Bx.array hu (by rw[hxe] at hq;exact hq) hx'⟩;rw[hfl n 0 cs (by rw[hl,h.1];simp)] at c1;rw[Nat.zero_mul,List.drop_zero,List.take_of_length_le (by rw[hl,h.1];exact Nat.le_refl _)] at c1;exact c1
    . rename_i e hu
      (try rw[hu])
      simp only[Bool.and_eq_true,beq_iff_eq,decide_eq_true_eq] at h;rcases DataW.trod_slice hu hx with⟨rfl,_⟩|⟨a,len,cap,elems,rest,n,hn,rfl,hxe,_,hlc,FI,hel,hf,_⟩
      . exact⟨[.aL],.inl rfl,by simp[Cells,bQ],λ _ _=>by simp[ew,DV.small]⟩
      . have hspot:0<len->a.spot=none:=by
          intro hpos;have:=hf 0 hpos;rw[show elems[0]? =some (elems[0]'(by omega)) from List.getElem?_eq_getElem (by omega)] at this;obtain⟨c0,h0,_⟩:=Option.bind_eq_some_iff.1 this;obtain⟨_,h1,h2⟩:=World.cells?_some h0;have h3:=h2 0 h.1.2;simp only[Nat.zero_mul] at h3;have e0:(a.add 0).add 0=a:=by simp[Addr.add]
          rw[e0] at h3;have hsome:c0[0]? =some (c0[0]'(by omega)):=List.getElem?_eq_getElem (by omega);rw[hsome] at h3;unfold World.cell? at h3
          split at h3
          . split at h3
            . cases h3
            . rename_i hs;simpa using hs
          . cases h3
        have hA:0<len->a=⟨a.block,a.off,none⟩:=λ hpos=>by
          have:=hspot hpos;obtain⟨b,o,s⟩:=a;simp at this;subst this;rfl
        have hcell:∀ i,i<len->∃ c,w.cells? 0 (a.add (i*P.cellsOf e)) (P.cellsOf e)=some c/\∃ ds,Fit P d e ds/\Cells (kY w) c ds/\∃ x,x∈elems.map (·.1)/\Sm P e ds x:=by
          intro i hi;have:=hf i hi;rw[List.getElem?_eq_getElem (show i<elems.length by omega)] at this;obtain⟨c,h0,h1⟩:=Option.bind_eq_some_iff.1 this;obtain⟨ds,a1,a2,a3⟩:=ih n e c _ h.1.1.2 h1;exact⟨c,h0,ds,a1,a2,_,List.mem_map.2 ⟨_,List.getElem_mem (by omega),rfl⟩,a3⟩
        let cell:Nat->List Value:=λ i=>((w.cells? 0 (a.add (i*P.cellsOf e)) (P.cellsOf e)).getD [])
        have mz:∀ i,i<len->w.cells? 0 (a.add (i*P.cellsOf e)) (P.cellsOf e)=some (cell i):=λ i hi=>by
          obtain⟨c,h0,_⟩:=hcell i hi;simp only[cell];rw[h0];rfl
        obtain⟨ds,l1,c1,f1,s1⟩:=sY d e h.1.1.2 cell (λ x=>x∈elems.map (·.1)) len 0 λ i hi=>by
          obtain⟨c,h0,h1⟩:=hcell i hi;rw[Nat.zero_add];simp only[cell];rw[h0];exact h1
        refine⟨[.sl len ds],.inr ⟨len,ds,rfl,by unfold maxLen at FI;omega,l1,f1⟩,?_,λ B hq=> ?_⟩;rotate_left
        . rw[hxe] at hq
          simp only[ew,DV.small,and_true];obtain⟨g1,g2⟩:=Bx.slice hu hq;have:=g1 h.2;rw[List.length_map,hel] at this;exact⟨this,s1 B λ x hx'=>g2 x hx'⟩
        simp only[Cells,bQ,and_true];refine⟨some a,cap,rfl,hlc,λ h0=> ?_,λ hpos=>⟨a.block,a.off,by rw[<- hA hpos],?_⟩⟩
        . subst h0;simp at l1;exact l1
        . refine Cells.NY a.off c1 λ i v hi=> ?_
          have key:∀ (n k i:Nat) (v:Value),k+n<=len->((List.range' k n).flatMap cell)[i]? =some v->w.cell? ⟨a.block,a.off+k*P.cellsOf e+i,none⟩=some v:=by
            intro n
            induction n with
            | zero=>intro k i v _ h;simp at h
            | succ n ihn=>
              intro k i v hk hv;rw[List.range'_succ,List.flatMap_cons] at hv;have hck:=mz k (by omega);rw[hA (by omega),d_] at hck;obtain⟨g1,g2⟩:=eE hck
              by_cases hlt:i<(cell k).length
              . rw[List.getElem?_append_left hlt] at hv
                exact g2 i v hv
              . rw[List.getElem?_append_right (by omega),g1] at hv
                have:=ihn (k+1) (i - P.cellsOf e) v (by omega) hv
                rwa [show a.off+(k+1)*P.cellsOf e+(i - P.cellsOf e)=a.off+k*P.cellsOf e+i by rw[Nat.add_mul];omega] at this
          have:=key len 0 i v (by omega) hi
          simpa using this
    . cases h
def kB (P:Program)(t:TypeId)(ds:List DV):SV:=
 match dS P t with
 | some (some _)=> .agg (ds.map .d)
 | _=> .d (ds.headD .dZ)
def mB (P:Program)(d:Nat):List TypeId->List (List DV)->Prop
 | [],[]=>True
 | t::ts,x::xs=>Fit P d t x/\mB P d ts xs
 | _,_=>False
def nL (P:Program):List TypeId->List (List DV)->List SV
 | t::ts,x::xs=>kB P t x::nL P ts xs
 | _,_=>[]
def qJ (P:Program)(d:Nat)(ts:List TypeId):Bool:=ts.all λ t=>jx P d t && (P.readableRec t && decide (t<P.types.size))
theorem Jk {t:TypeId}{v:Value}{d:Nat}{x:DataW H}{ps:List MemPlace}{r:Reach}{b0:Nat}(hf:jx P d t=true)(hv:Value.okWide P w r b0 t v)(h:DataW.Trod enc P w 0 sp held t v x ps)(p:Nat->Prop)(μ:Nat->Nm):
  ∃ ds,Fit P d t ds/\Rp p μ (kY w) (kB P t ds) v/\Sm P t ds x:=by
 obtain⟨fuel,hx⟩:=h;obtain⟨ds,h1,h2,h3⟩:=FH d fuel t _ _ hf hx;refine⟨ds,h1,?_,h3⟩;have hinfo:∃ i,P.info? t=some i:=by
  cases hi:P.info? t with
  | some i=>exact⟨i,rfl⟩
  | none=>
   exfalso
   cases d with
   | zero=>simp[jx] at hf
   | succ d=>simp[jx,Program.underlying,hi] at hf
 obtain⟨i,hi⟩:=hinfo;have one:∀ (hs:dS P t=some none) (NZ:v.cells.toList=[v]),Rp p μ (kY w) (kB P t ds) v:=by
  intro hs NZ;rw[NZ] at h2
  match ds,h2 with
  | [y],h2=>
   simp only[Cells] at h2;simp only[kB,hs,List.headD_cons];exact Rp.cB.2 h2.1
  | [],h2=>simp[Cells] at h2
  | y::z::r,h2=>simp[Cells] at h2
 have agg:∀ (n:Nat) (hs:dS P t=some (some n)) (cs:Array Value) (NZ:v= .agg cs),Rp p μ (kY w) (kB P t ds) v:=by
  intro n hs cs NZ;subst NZ;simp only[kB,hs];exact Rp.eO.2 ⟨cs,rfl,Cells.P_ h2⟩
 cases d with
 | zero=>simp[jx] at hf
 | succ d=>
  simp only[jx] at hf
  split at hf
  .rename_i hu
   obtain⟨b,rfl⟩:=okWide_bool hu hv;exact one (by simp[dS,hu,hi]) rfl
  .rename_i hu
   obtain⟨b,rfl⟩:=okWide_int hu hv;exact one (by simp[dS,hu,hi]) rfl
  .rename_i fs hu
   obtain⟨cs,rfl,_⟩:=okWide_struct hu hv;exact agg i.size (by simp[dS,hu,hi]) cs rfl
  .rename_i n e hu
   unfold Value.okWide at hv;rw[hu] at hv;obtain⟨cs,rfl,_⟩:=hv;exact agg i.size (by simp[dS,hu,hi]) cs rfl
  .rename_i e hu
   obtain⟨a,len,cap,rfl⟩:=okWide_slice hu hv;exact one (by simp[dS,hu,hi]) rfl
  .cases hf
theorem Ah {d:Nat}{r:Reach}{b0:Nat}(p:Nat->Prop)(μ:Nat->Nm):∀ (ts:List TypeId) (vs:List Value) (xs:List (DataW H)) (ps:List MemPlace),qJ P d ts=true->DataW.TrodAll enc P w 0 sp held ts vs xs ps->
  (∀ (j:Nat) t v,ts[j]? =some t->vs[j]? =some v->Value.okWide P w r b0 t v)->∃ nu,mB P d ts nu/\aS p μ (kY w) (nL P ts nu) vs/\xs.length=ts.length/\∀ (B:Nat),(∀ n,n∈DataW.weightsEach P ts xs->n<=B)->∀ ds,ds∈nu->ew B ds
 | [],vs,xs,ps,_,h,_=>by
  obtain⟨rfl,rfl,_⟩:=trodAll_nil h;exact⟨[],trivial,aS.aQ.2 rfl,rfl,λ _ _ _ h=>by cases h⟩
 | t::ts,vs,xs,ps,hf,h,hv=>by
  obtain⟨v,vs',x,xs',p1,p2,rfl,rfl,rfl,h1,h2⟩:=trodAll_cons h;simp only[qJ,List.all_cons,Bool.and_eq_true] at hf;obtain⟨ds,a1,a2,a3⟩:=Jk (P:=P) hf.1.1 (hv 0 t v rfl rfl) h1 p μ;obtain⟨nu,b1,b2,b3,b4⟩:=Ah p μ ts vs' xs' p2 (by simpa[qJ] using hf.2) h2 λ j t' v' ht hv'=>hv (j+1) t' v' (by simpa using ht) (by simpa using hv')
  refine⟨ds::nu,⟨a1,b1⟩,aS.aD.2 ⟨v,vs',rfl,a2,b2⟩,by simp[b3],λ B hq ds' hd=> ?_⟩;rcases List.mem_cons.1 hd with rfl|hd
  .exact a3 B λ n hn=>hq n (by simp only[DataW.weightsEach,List.mem_append];exact .inl hn)
  .exact b4 B (λ n hn=>hq n (by simp only[DataW.weightsEach,List.mem_append];exact .inr hn)) ds' hd
theorem qy {d:Nat}(hl:laidOutB P=true){W W':World}{sp':Nat->Bool}:∀ (ts:List TypeId) (vs:List Value) (xs:List (DataW H)) (ps:List MemPlace),qJ P d ts=true->DataW.TrodAll enc P W 0 (λ _=>true) true ts vs xs ps->
  (∀ x∈ps,W.sameAt W' x)->(∀ x∈ps,sp' x.block=true)->DataW.TrodAll enc P W' 0 sp' true ts vs xs ps
 | [],vs,xs,ps,_,h,_,_=>by
  obtain⟨rfl,rfl,rfl⟩:=trodAll_nil h;exact trodAll_mk0
 | t ::ts,vs,xs,ps,hf,h,hs,hp=>by
  obtain⟨v,vs',x,xs',p1,p2,rfl,rfl,rfl,h1,h2⟩:=trodAll_cons h;simp only[qJ,List.all_cons,Bool.and_eq_true,decide_eq_true_eq] at hf
  exact trodAll_cons_mk (WideElems.Trod_stays hl hf.1.2.1 hf.1.2.2 h1 (λ q hq=>hs q (by simp[hq])) (λ q hq=>hp q (by simp[hq])))
   (qy hl ts vs' xs' p2 (by simpa[qJ] using hf.2) h2 (λ q hq=>hs q (by simp[hq])) (λ q hq=>hp q (by simp[hq])))
theorem xd {f:Func}{s:ChangeSpec}{apart fresh handsOn again:Bool}{W W':World}{args:Array Value}{v:Value}{ds gs:List (DataW H)}{before pa pv:List MemPlace}
  (hW:DataW.Whole enc P f.params.toList s.vars apart W args.toList ds gs before)
  (hres:∀ (b:Nat) (sp:Nat->Bool) (hd:Bool),DataW.TrodAll enc P W' b sp hd f.resultTypes.toList (v.resultList f.resultTypes.size) (s.fn H (ds++gs)).results [])
  (hargs:∀ sp:Nat->Bool,(∀ p∈before,sp p.block=true)->DataW.TrodAll enc P W' 0 sp true f.params.toList args.toList (s.fn H (ds++gs)).args pa)
  (hvars:∀ sp:Nat->Bool,(∀ p∈before,sp p.block=true)->DataW.TrodVars enc P W' sp s.vars (s.fn H (ds++gs)).vars pv)
  (hps:before=pa++pv) (hb:Below W.heap.size W W')
  (hok:∀ (j:Nat) (t:TypeId) (r:Value),f.resultTypes[j]? =some t->(v.resultList f.resultTypes.size)[j]? =some r->Value.okWide P W' .any 0 t r):
  s.post enc P f apart fresh handsOn again W args v W':=by
 have hlt:∀ p∈before,p.block<W.heap.size:=λ p hp=>hW.lt p hp
 have hold:∀ p∈before,(λ b=>decide (b<W.heap.size)) p.block=true:=λ p hp=>by simpa using hlt p hp
 refine⟨ds,gs,before,[],pa,pv,hW,hres _ _ _,hargs _ hold,hvars _ hold,World.keptBut_mono (λ p hp=>⟨hp,?_⟩) (hb.frame (· ∈before)),λ _=> ?_⟩
 .rw[hps,List.mem_append] at hp
  exact Or.inr hp
 .obtain⟨_,_,_,_,_,hz,hn⟩:=hW
  refine⟨hok,_,_,([]++pa)++pv,⟨[]++pa,pv,trodAll_append (hargs _ (λ _ _=>rfl)) (hres _ _ _),hvars _ (λ _ _=>rfl),rfl,?_,?_⟩,?_⟩
  .intro b off hp
   have hin:MemPlace.cell b off∈before:=by rw[hps];simpa using hp
   rw[hb.frozen (hlt _ hin)];exact hz b off hin
  .intro ha
   have:=hn ha;rw[hps] at this
   simpa using this
  .intro p hp _
   rw[hps]
   simpa using hp
theorem sZ {f:FuncId}{fn:Func}{spec:ChangeSpec}{tb:TypeId}(d:Nat)(hl:laidOutB P=true)(hts:qJ P d fn.params.toList=true)(hres:fn.resultTypes= #[tb])(htb:P.underlying tb=some .bool)(hvars:spec.vars=[])
  (N0:∀ ds:List (DataW H),ds.length=fn.params.toList.length->(spec.fn H ds).results=[.lit (.bool true)]/\(spec.fn H ds).args=ds/\(spec.fn H ds).vars=[])
  (B:Nat)
  (Pq:∀ nu,mB P d fn.params.toList nu->(∀ ds,ds∈nu->ew B ds)->SB P f (nL P fn.params.toList nu) [] 0 0 λ r F=>r=bl true)
  (W:World) (base:Nat) (args:Array Value) (ds gs:List (DataW H)) (before:List MemPlace)
  (hval:∀ (j:Nat) t v,fn.params[j]? =some t->args[j]? =some v->Value.okWide P W .any base t v)
  (hW:DataW.Whole enc P fn.params.toList spec.vars false W args.toList ds gs before) (hG:qC (kY W)) (hB:∀ n,n∈DataW.weightsEach P fn.params.toList ds->n<=B):
  Calls P f args W λ e W'=>∃ v,e= .returned v/\spec.post enc P fn false true false false W args v W':=by
 have hW':=hW;obtain⟨p,q,hA,hV,rfl,hfz,oM⟩:=hW;rw[hvars] at hV;obtain⟨rfl,rfl⟩:=trodVars_none hV;obtain⟨nu,h1,h2,h3,h4⟩:=Ah (P:=P) (d:=d) (λ n=>n<0) (λ _=>⟨0,0,true⟩) fn.params.toList args.toList ds p hts hA λ j t v ht hv=>hval j t v (by simpa using ht) (by simpa using hv)
 refine((Pq nu h1 (h4 B hB)).2.2.2 (λ _=>⟨0,0,true⟩) (kY W) W args h2 ⟨⟨λ b o v h=>h,hG⟩,λ n ob h=>by simp[bA] at h,λ n m h=>by simp[bA] at h⟩).mono ?_;rintro e W' ⟨r,F',bh,M',u,rfl,rfl,_,_,hr,_,hE⟩;have hu:u= .bool true:=by simpa[cW,bQ] using hr
 subst hu;have hb:Below W.heap.size W W':=⟨hE.os,hE.tape.1,hE.output,hE.size,λ b hb=>(hE.frame b hb λ n hn=>by simp[bA] at hn).1⟩;obtain⟨s1,s2,s3⟩:=N0 (ds++[]) (by simpa using h3);refine⟨_,rfl,xd (pa:=p) (pv:=[]) hW' (λ b sp hd=> ?_) (λ sp hsp=> ?_) (λ sp hsp=> ?_) rfl hb ?_⟩
 .rw[s1,hres]
  exact trodAll_cons_mk (shut_bool htb _) trodAll_mk0
 .rw[s2]
  simp only[List.append_nil] at hsp ⊢;exact qy hl _ _ _ _ hts hA (λ x hx=>hb.same (hW'.lt x (by simpa using hx))) hsp
 .rw[hvars,s3]
  rfl
 .exact ok_one hres rfl (okWide_bool_mk htb _)
end
end Go.Sl
namespace Go.Sl
open Go.RowKit
mutual
def SV.iJ (n len:Nat)(ds:List DV):SV->SV
 | .gs m l=>if m=n then (if l=len then .d (.sl len ds) else .any) else .gs m l
 | .agg cs=> .agg (SV.j4 n len ds cs)
 | .dL cs=> .dL (SV.j4 n len ds cs)
 | s=>s
def SV.j4 (n len:Nat)(ds:List DV):List SV->List SV
 | []=>[]
 | c::cs=>c.iJ n len ds::SV.j4 n len ds cs
end
def k9 (n len:Nat)(ds:List DV)(env:List (Nat×SV)):List (Nat×SV):=env.map λ x=>(x.1,x.2.iJ n len ds)
theorem k_ (n len:Nat)(ds:List DV):∀ (env:List (Nat×SV)) (t:Nat),(k9 n len ds env).lookup t=(env.lookup t).map (SV.iJ n len ds)
 | [],t=>rfl
 | (q,s)::env,t=>by
  simp only[k9,List.map_cons,List.lookup];cases t == q
  .exact k_ n len ds env t
  .rfl
mutual
theorem SV.pT {p:Nat->Prop}{μ:Nat->Nm}{M:Mem}{n len:Nat}{ds:List DV}(hg:∀ v,Rp p μ M (.gs n len) v->Rp p μ M (.d (.sl len ds)) v):∀ (s:SV) (v:Value),Rp p μ M s v->Rp p μ M (s.iJ n len ds) v
 | .gs m l,v,h=>by
  simp only[SV.iJ]
  split
  .rename_i e;subst e
   split
   .rename_i e;subst e
    exact hg v h
   .exact Rp.any
  .exact h
 | .agg cs,v,h=>by
  obtain⟨vs,e,h1⟩:=Rp.eO.1 h;simp only[SV.iJ];exact Rp.eO.2 ⟨vs,e,SV.oW hg cs _ h1⟩
 | .dL cs,v,h=>by
  obtain⟨vs,e,h1⟩:=Rp.eP.1 h;simp only[SV.iJ];exact Rp.eP.2 ⟨vs,e,SV.oW hg cs _ h1⟩
 | .d _,v,h=>h
 | .ptr _ _,v,h=>h
 | .vp _ _,v,h=>h
 | .bs _ _ _,v,h=>h
 | .mp _,v,h=>h
 | .it _,v,h=>h
 | .yl _,v,h=>h
 | .fn _ _ _,v,h=>h
 | .any,v,h=>h
theorem SV.oW {p:Nat->Prop}{μ:Nat->Nm}{M:Mem}{n len:Nat}{ds:List DV}(hg:∀ v,Rp p μ M (.gs n len) v->Rp p μ M (.d (.sl len ds)) v):∀ (s:List SV) (v:List Value),aS p μ M s v->aS p μ M (SV.j4 n len ds s) v
 | [],v,h=>h
 | c::cs,v,h=>by
  obtain⟨u,us,e,h1,h2⟩:=aS.aD.1 h;simp only[SV.j4];exact aS.aD.2 ⟨u,us,e,SV.pT hg c u h1,SV.oW hg cs us h2⟩
end
theorem aS.K4 {p:Nat->Prop}{μ:Nat->Nm}{M:Mem}{ds:List DV}{vs:List Value}(h:aS p μ M (ds.map .d) vs){i:Nat}{x:DV}(hi:ds[i]? =some x):∃ u,vs[i]? =some u/\bQ M x u:=by
 obtain⟨u,hu,hr⟩:=h.get (i:=i) (c:= .d x) (by simp[hi]);exact⟨u,hu,Rp.cB.1 hr⟩
section
variable {P:Program} {N k0:Nat} {st:St} {Q:Exit->St->Prop}
theorem iF.freeze {cq:Nat->Nm}{M0:Mem}{w0:World}{c0:Nat->Option Ob}{a:Act}{w:World}(n:Nat){e sz len:Nat}{cs:List SV}{ds:List DV}(hn:lk st.hp n=some (.arr e sz len cs))(hcs:cs=ds.map .d)
    (h:iF N cq M0 w0 c0 k0 st a w):iF N cq M0 w0 c0 k0 ⟨k9 n len ds st.env,c_ st.hp n,st.k⟩ a w:=by
  subst hcs;obtain⟨nI,hdf,hsz,μ,M,gL,hS,hE⟩:=h;obtain⟨hpn,bt,hMn⟩:=hS.obs n _ hn;rcases bt with⟨hdead,hl0,hds⟩|⟨hlive,vs,hb,hl1,hl2,Nu,hl4,hr⟩
  . have hd0:ds=[]:=by simpa using hds
    subst hd0;subst hl0;have hg:∀ v,Rp (· <st.k) μ M (.gs n 0) v->Rp (· <st.k) μ M (.d (.sl 0 [])) v:=λ v hv=>by
      refine Rp.cB.2 ?_;simp only[bQ];obtain⟨h,_⟩|⟨_,_,A,e1⟩:=hv.lY
      . rw[hdead] at h;cases h
      . exact⟨A,0,e1,Nat.le_refl _,λ _=>trivial,λ h=>absurd h (Nat.lt_irrefl _)⟩
    have hsub:∀ m ob,lk (c_ st.hp n) m=some ob->lk st.hp m=some ob:=λ m ob hm=>by
      rw[dx] at hm
      split at hm
      . cases hm
      . exact hm
    refine⟨nI,hdf,hsz,μ,M,λ t s hs=> ?_,hS.sub hsub,hE.zM λ m hm=> ?_⟩
    . rw[k_] at hs
      obtain⟨s',hs',rfl⟩:=Option.map_eq_some_iff.1 hs;exact SV.pT hg s' _ (gL t s' hs')
    . obtain⟨o1,ho1⟩:=Option.ne_none_iff_exists'.1 hm
      rw[hsub m o1 ho1];simp
  have hMn:=hMn hlive;have hlen:ds.length=len*sz:=by simpa using hl1
  let M':Mem:=λ b o=>if b=(μ n).blk then (if o<len*sz then vs[o]? else none) else M b o
  have hne:∀ b,b≠(μ n).blk->∀ o,M' b o=M b o:=λ b hb o=>by simp[M',hb]
  have hle:Mem.le M M':=λ b o v hv=>by
    have:b≠(μ n).blk:=λ e=>by rw[e,hMn] at hv;cases hv
    rw[hne b this];exact hv
  have hoth:∀ m,lk st.hp m≠none->m≠n->(μ m).live=true->(μ m).blk≠(μ n).blk:=λ m hm hmn lm e=>hmn (hS.inj m n hm (by rw[hn];simp) lm hlive e)
  have hsub:∀ m ob,lk (c_ st.hp n) m=some ob->lk st.hp m=some ob/\m≠n:=λ m ob hm=>by
    rw[dx] at hm
    split at hm
    . cases hm
    . rename_i e;exact⟨hm,e⟩
  have hg:∀ v,Rp (· <st.k) μ M' (.gs n len) v->Rp (· <st.k) μ M' (.d (.sl len ds)) v:=λ v hv=>by
    obtain⟨_,e1⟩|⟨h,_⟩:=hv.lY
    rotate_left
    . rw[hlive] at h;cases h
    refine Rp.cB.2 ?_;simp only[bQ];refine⟨_,_,e1,hl2,λ h0=> ?_,λ _=>⟨_,_,rfl,dm.mk λ i c hi=> ?_⟩⟩
    . subst h0
      simp at hlen;exact hlen
    . obtain⟨u,hu,hru⟩:=hr.K4 hi
      have hil:i<len*sz:=by rw[<- hlen];exact(List.getElem?_eq_some_iff.1 hi).1
      refine⟨u,?_,bQ.mono hle _ _ hru⟩;rw[List.getElem?_take_of_lt hil] at hu;simp only[M',if_true,Nat.zero_add,hil]
      simpa using hu
  refine⟨nI,hdf,hsz,μ,M',λ t s hs=> ?_,⟨⟨λ b o v hv=> ?_,hS.mem.kP.le hle⟩,λ m ob hm=> ?_,λ m m' hm hm' lm lm' e=> ?_⟩,⟨hE.old,Mem.le_trans hE.mem hle,λ b hb0 hf=> ?_,hE.size,λ m hm=> ?_,hE.os,hE.tape,hE.output⟩⟩
  . rw[k_] at hs
    obtain⟨s',hs',rfl⟩:=Option.map_eq_some_iff.1 hs;exact SV.pT hg s' _ ((gL t s' hs').more (λ _ h=>h) (λ _ _=>rfl) hle)
  . by_cases hbn:b=(μ n).blk
    . subst hbn
      simp only[M',if_true] at hv
      split at hv
      . rw[cell_of hb];exact hv
      . cases hv
    . rw[hne b hbn] at hv
      exact hS.mem b o v hv
  . obtain⟨hm1,hmn⟩:=hsub m ob hm
    obtain⟨a1,a2,a3⟩:=hS.obs m ob hm1;refine⟨a1,a2.more (λ _ h=>h) (λ _ _=>rfl) hle λ _=>rfl,λ lm o=> ?_⟩;rw[hne _ (hoth m (by rw[hm1];simp) hmn lm)];exact a3 lm o
  . obtain⟨o1,ho1⟩:=Option.ne_none_iff_exists'.1 hm
    obtain⟨o2,ho2⟩:=Option.ne_none_iff_exists'.1 hm';exact hS.inj m m' (by rw[(hsub m o1 ho1).1];simp) (by rw[(hsub m' o2 ho2).1];simp) lm lm' e
  . have hbn:b≠(μ n).blk:=λ e=>by
      rcases hE.names n (by rw[hn];simp) with⟨_,hh⟩|⟨h,h'⟩
      . rcases hh hlive with h|⟨m,hm,lm,e'⟩
        . omega
        . exact hf m hm lm (e'.trans e.symm)
      . rw[hE.old n h] at e hlive
        exact hf n h' hlive e.symm
    obtain⟨f1,f2⟩:=hE.frame b hb0 hf;exact⟨f1,λ o=>by rw[hne b hbn];exact f2 o⟩
  . obtain⟨o1,ho1⟩:=Option.ne_none_iff_exists'.1 hm
    exact hE.names m (by rw[(hsub m o1 ho1).1];simp)
theorem SW.freeze {s:bP}(n:Nat){e sz len:Nat}{cs:List SV}(ds:List DV)(hn:lk st.hp n=some (.arr e sz len cs))(hcs:cs=ds.map .d)(h:SW P N k0 s ⟨k9 n len ds st.env,c_ st.hp n,st.k⟩ Q):SW P N k0 s st Q:=
 λ c hc rd hrf cq M0 w0 c0 a w fJ=>h c hc rd hrf cq M0 w0 c0 a w (fJ.freeze n hn hcs)
theorem iF.qK {cq:Nat->Nm}{M0:Mem}{w0:World}{c0:Nat->Option Ob}{a:Act}{w:World}(t:Nat)(e sz:Nat)(ht:st.env.lookup t=some (.d .aL))(h:iF N cq M0 w0 c0 k0 st a w):
    iF N cq M0 w0 c0 k0 ⟨(t,.gs st.k 0)::st.env,(st.k,.arr e sz 0 [])::st.hp,st.k+1⟩ a w:=by
  obtain⟨nI,hdf,hsz,μ,M,gL,hS,hE⟩:=h;have hmu:=uX (μ:=μ) (m:=⟨0,0,false⟩) (p:=(· <st.k)) (k:=st.k) (Nat.lt_irrefl _);have hup:∀ n,n<st.k->n<st.k+1:=λ n h=>by omega
  have hlt:∀ n ob,lk st.hp n=some ob->n<st.k:=λ n ob h=>(hS.obs n ob h).1
  refine⟨by show k0<=st.k+1;omega,hdf,hsz,zN μ st.k ⟨0,0,false⟩,M,λ u s hs=> ?_,⟨hS.mem,λ n ob hn=> ?_,λ n m hn hm ln lm e=> ?_⟩,⟨λ n hn=> ?_,hE.mem,hE.frame,hE.size,λ n hn=> ?_,hE.os,hE.tape,hE.output⟩⟩
  . rw[nG] at hs
    split at hs
    . rename_i e1
      subst e1;injection hs with hs;subst hs;have h1:=(gL t _ ht).rep;simp only[cW,bQ] at h1;intro ν ig;simp only[cW];rw[ig st.k (Nat.lt_succ_self _),bz];exact .inr ⟨rfl,trivial,none,h1⟩
    . exact(gL u s hs).more hup hmu (Mem.le_refl M)
  . rw[af] at hn
    split at hn
    . rename_i e1
      subst e1;injection hn with hn;subst hn;rw[bz];exact⟨Nat.lt_succ_self _,.inl ⟨rfl,rfl,rfl⟩,λ h=>by cases h⟩
    . obtain⟨a1,a2,a3⟩:=hS.obs n ob hn
      rw[hmu n a1];exact⟨hup n a1,a2.more hup hmu (Mem.le_refl M) λ _=>rfl,a3⟩
  . rw[af] at hn hm
    by_cases e1:n=st.k
    . subst e1;rw[bz] at ln;cases ln
    . by_cases e2:m=st.k
      . subst e2;rw[bz] at lm;cases lm
      . rw[if_neg e1] at hn
        rw[if_neg e2] at hm;obtain⟨o1,ho1⟩:=Option.ne_none_iff_exists'.1 hn;obtain⟨o2,ho2⟩:=Option.ne_none_iff_exists'.1 hm;rw[hmu n (hlt n o1 ho1)] at e ln;rw[hmu m (hlt m o2 ho2)] at e lm;exact hS.inj n m hn hm ln lm e
  . simp only at hn
    by_cases e1:n=st.k
    . subst e1;omega
    . rw[eV _ _ _ e1];exact hE.old n (by omega)
  . rw[af] at hn
    by_cases e1:n=st.k
    . subst e1
      rw[bz];exact .inl ⟨⟨by omega,Nat.lt_succ_self _⟩,λ h=>by cases h⟩
    . rw[if_neg e1] at hn
      obtain⟨o1,ho1⟩:=Option.ne_none_iff_exists'.1 hn;rw[hmu n (hlt n o1 ho1)];rcases hE.names n hn with⟨b1,b2⟩|⟨b1,b2⟩
      . exact .inl ⟨⟨b1.1,by have:=b1.2;show n<st.k+1;omega⟩,b2⟩
      . refine .inr ⟨λ h=> ?_,b2⟩
        have:n<st.k:=hlt n o1 ho1;exact b1 ⟨h.1,this⟩
theorem SW.qK {s:bP}(t:Nat)(e sz:Nat)(ht:st.env.lookup t=some (.d .aL))(h:SW P N k0 s ⟨(t,.gs st.k 0)::st.env,(st.k,.arr e sz 0 [])::st.hp,st.k+1⟩ Q):SW P N k0 s st Q:=
 λ c hc rd hrf cq M0 w0 c0 a w fJ=>h c hc rd hrf cq M0 w0 c0 a w (fJ.qK t e sz ht)
theorem bQ.pU {M:Mem}{v:Value}(h:bQ M .aL v):bQ M (.sl 0 []) v:=by
 simp only[bQ] at h ⊢;exact⟨none,0,h,Nat.le_refl _,λ _=>trivial,λ h=>absurd h (Nat.lt_irrefl _)⟩
theorem SC.args {f:FuncId}{args args':List SV}{F:Hp}{k nk:Nat}{Q:SV->Hp->Prop}(ha:∀ (p:Nat->Prop) μ M vs,aS p μ M args' vs->aS p μ M args vs)(h:SC P f args F k nk Q):SC P f args' F k nk Q:=
 ⟨h.1,λ p μ M w vals h1 h2 h3=>h.2 p μ M w vals h1 (ha p μ M _ h2) h3⟩
end
theorem SV.xQ {ρ:Nat->Nat}:∀ {l:List SV},SV.ax (λ n=>decide (n<0)) l=true->SV.aN ρ l=l
 | [],_=>rfl
 | c::cs,h=>by
  simp only[SV.ax,Bool.and_eq_true] at h;simp only[SV.aN,SV.xN c h.1,SV.xQ h.2]
def eu (ns:List Nat)(k:Nat)(i:Nat):Nat:=match ns[i]? with
 | some n=>n
 | none=>i - ns.length+k
theorem FJ:∀ {h:Hp} {n:Nat} {ob:Ob},(n,ob)∈h->∃ kR,lk h n=some kR
 | [],n,ob,h=>by simp at h
 | (m,o)::h,n,ob,hm=>by
  rw[af]
  by_cases e:n=m
  .exact⟨o,by simp[e]⟩
  .rw[if_neg e]
   rcases List.mem_cons.1 hm with h1|h1
   .injection h1 with h1 _;exact absurd h1 e
   .exact FJ h1
theorem SB.lR {P:Program}{f:FuncId}{args:List SV}{F F':Hp}{nk:Nat}{r:SV}(ns:List Nat)(h:SB P f args F ns.length nk λ r' F1=>r'=r/\F1=F')(hd:ns.Nodup)(hF:∀ i,i<ns.length->lk F i≠none)(k:Nat):
  aH P f (SV.aN (eu ns k) args) (F.aC (eu ns k)) k nk (r.aC (eu ns k)) (F'.aC (eu ns k)):=by
 have hlt:∀ i,i<ns.length->ns[i]? =some (eu ns k i):=λ i hi=>by simp[eu,hi]
 have:=SB.at h (eu ns k) k (λ n m hn hm e=> ?_) (λ n hn p μ M w vals _ hS=> ?_) (λ i hi=> ?_)
 .refine this.mono ?_
  rintro r' F1 ⟨r0,F0,⟨rfl,rfl⟩,rfl,rfl⟩;exact⟨rfl,rfl⟩
 .have h1:=hlt n hn
  have h2:=hlt m hm;rw[e] at h1;exact(List.getElem?_inj hn hd).1 (h1.trans h2.symm)
 .obtain⟨ob,ho⟩:=Option.ne_none_iff_exists'.1 (hF n hn)
  have hm:(eu ns k n,ob.aC (eu ns k))∈F.aC (eu ns k):=List.mem_map.2 ⟨(n,ob),kV ho,rfl⟩;obtain⟨kR,ho'⟩:=FJ hm;exact(hS.obs _ _ ho').1
 .simp[eu];omega
theorem SB.new {P:Program}{f:FuncId}{args:List SV}{F':Hp}{nk:Nat}{r:SV}(h:SB P f args [] 0 nk λ r' F1=>r'=r/\F1=F')(k:Nat):
  aH P f args [] k nk (r.aC (eu [] k)) (F'.aC (eu [] k)):=by
 have:=SB.lR [] h (by simp) (λ i hi=>absurd hi (Nat.not_lt_zero i)) k
 rwa [SV.xQ h.2.1] at this
@[simp] theorem N1 (h:Hp):HSub [] h↔True:=⟨λ _=>trivial,λ _=>HSub.nil h⟩
@[simp] theorem N2 (h:Hp) (n:Nat) (ob:Ob):HSub [(n,ob)] h↔lk h n=some ob:=by
 refine⟨λ hs=>hs n ob (by simp[cI]),λ hs m kR hm=> ?_⟩;rw[cI] at hm
 split at hm
 .rename_i e;subst e;simp at hm;subst hm;exact hs
 .cases hm
def ay.zero:ay:=⟨0,0,0,0,0,0,0,0⟩
theorem ay.aM:[SV.d (.int .u32 0),.d (.int .u32 0),.d (.int .u32 0),.d (.int .u32 0),.d (.int .u32 0),.d (.int .u32 0),.d (.int .u32 0),.d (.int .u32 0)]=ay.zero.cells:=rfl
@[simp] theorem ay.bk (v:ay):v.cells.take 8=v.cells:=rfl
theorem ay.bB (u v:ay):b_ u.cells 0 v.cells=v.cells:=rfl
theorem ay.CT (v:ay){i:Nat}(h:i<8)(x:Nat):b_ v.cells i [.d (.int .u32 (x:Int))]=(v.set i x).cells:=ay.xO v h x
attribute [simp] ay.jH ay.nJ ay.ah ay.sX
theorem ay.aq (v:ay)(ρ:Nat->Nat):SV.aN ρ v.cells=v.cells:=rfl
theorem ay.FK (r:Nat):ay.zero.get r=0:=by
 match r with
 | 0|1|2|3|4|5|6|7|_+8=>rfl
def ay.zip (f:Nat->Nat->Nat)(a b:ay):ay:=ay.of λ r=>f (a.get r) (b.get r)
def ay.upto (i:Nat)(a b:ay):ay:=ay.of λ r=>if r<i then a.get r else b.get r
theorem ay.DR (a b:ay):ay.upto 0 a b=b:=ay.ext' λ r hr=>by simp[ay.upto,ay.sW _ hr]
theorem ay.FL (a b:ay):ay.upto 8 a b=a:=ay.ext' λ r hr=>by simp[ay.upto,ay.sW _ hr,hr]
theorem ay.DS (a b:ay){i:Nat}(h:i<8):(ay.upto i a b).set i (a.get i)=ay.upto (i+1) a b:=ay.ext' λ r hr=>by
 simp only[ay.set,ay.upto,ay.sW _ hr]
 by_cases e:r=i
 .subst e;simp
 .by_cases e2:r<i
  .simp[e,e2,show r<i+1 by omega]
  .simp[e,e2,show ¬ r<i+1 by omega]
@[simp] theorem N3 (l:List ay):(l.flatMap ay.ds).length=l.length*8:=eC ay.ds 8 (λ _=>rfl) l
theorem dY {α:Type}{l:List α}{i:Nat}{x:α}(h:l[i]? =some x):l.take (i+1)=l.take i++[x]:=by
 rw[List.take_add_one,h];rfl
theorem cU {α:Type}{l:List α}{i:Nat}{x:α}(h:l[i]? =some x):i<l.length:=(List.getElem?_eq_some_iff.1 h).1
theorem aX {α:Type}{l:List α}{i:Nat}(h:i<l.length):∃ x,l[i]? =some x:=⟨_,List.getElem?_eq_getElem h⟩
theorem ay.Ai (a b:ay):jF [true,true,true,true,true,true,true,true] a.cells b.cells=some (decide (a=b)):=ay.rj a b
structure Dt where
 (r n:Nat)
 deriving DecidableEq
def Dt.ds (d:Dt):List DV:=[.int .u8 d.r,.int .u32 d.n]
def Dt.cells (d:Dt):List SV:=[u8 d.r,u32 d.n]
theorem Dt.sX (d:Dt):d.ds.map .d=d.cells:=rfl
@[simp] theorem Dt.nJ (d:Dt):d.ds.length=2:=rfl
@[simp] theorem Dt.jH (d:Dt):d.cells.length=2:=rfl
@[simp] theorem Dt.ah (d:Dt) (q:Nat->Bool):SV.ax q d.cells=true:=rfl
theorem Dt.aq (d:Dt)(ρ:Nat->Nat):SV.aN ρ d.cells=d.cells:=rfl
@[simp] theorem Dt.bk (d:Dt):d.cells.take 2=d.cells:=rfl
theorem Dt.Bz (d:Dt):d.cells[0]? =some (u8 d.r):=rfl
theorem Dt.BA (d:Dt):d.cells[1]? =some (u32 d.n):=rfl
theorem Dt.bB (c d:Dt):b_ c.cells 0 d.cells=d.cells:=rfl
theorem Dt.aM:[SV.d (.int .u8 0),.d (.int .u32 0)]=(Dt.mk 0 0).cells:=rfl
theorem Dt.fC (c:Dt)(a b:Nat):b_ (b_ c.cells 0 [.d (.int .u8 (a:Int))]) 1 [.d (.int .u32 (b:Int))]=(Dt.mk a b).cells:=rfl
@[simp] theorem K5 (cs:List SV) (o:Nat) (c:SV):(b_ cs o [c]).length=cs.length:=by simp[b_]
theorem CU (cs:List SV)(o:Nat)(c:SV):b_ cs o [c]=cs.set o c:=rfl
theorem Dt.cells_one (d:Dt):d.cells.all SV.dX=true:=rfl
theorem Dt.rj (a b:Dt):jF [true,true] a.cells b.cells=some (decide (a=b)):=by
 have h:jF [true,true] a.cells b.cells=some (((a.r:Int) == b.r) && (((a.n:Int) == b.n) && true)):=by simp[jF,IL,Dt.cells]
 rw[h]
 congr 1
 obtain⟨a0,a1⟩:=a;obtain⟨b0,b1⟩:=b;rw[Bool.eq_iff_iff];simp;omega
abbrev Dt.zero:Dt:=⟨0,0⟩
def Dt.may (d:Dt):Bool:=decide (d.r<8) && decide (0<d.n)
def Dt.wf (d:Dt):Prop:=d.r<256/\d.n<4294967296
abbrev bN (l:List Dt):SV:= .d (.sl l.length (l.flatMap Dt.ds))
@[simp] theorem mP (l:List Dt):(l.flatMap Dt.ds).length=l.length*2:=eC Dt.ds 2 (λ _=>rfl) l
theorem jI {l:List Dt}{i:Nat}{x:Dt}(h:l[i]? =some x):List.take 2 (List.drop (i*2) (List.map SV.d (l.flatMap Dt.ds)))=x.cells:=by
 rw[<- List.map_drop,<- List.map_take,jG Dt.ds 2 (λ _=>rfl) l i x h];rfl
section
variable {P:Program} {N k0:Nat} {st:St} {Q:Exit->St->Prop}
theorem SW.slot {c:bP}(t:Nat){s:SV}(s':SV)(hl:st.env.lookup t=some s)(hs:∀ (p:Nat->Prop) μ M v,Rp p μ M s v->Rp p μ M s' v)(h:SW P N k0 c ⟨(t,s')::st.env,st.hp,st.k⟩ Q):SW P N k0 c st Q:=by
 refine λ cc hc rd hrf cq M0 w0 c0 a w fJ=>h cc hc rd hrf cq M0 w0 c0 a w ?_
 obtain⟨nI,hdf,hsz,μ,M,gL,hS,hE⟩:=fJ;refine⟨nI,hdf,hsz,μ,M,λ q x hq=> ?_,hS,hE⟩;simp only[List.lookup] at hq
 split at hq
 .rename_i e
  have e:q=t:=by simpa using e
  injection hq with hq;subst e;subst hq;exact hs _ _ _ _ (gL q s hl)
 .exact gL q x hq
theorem pU (p:Nat->Prop)(μ:Nat->Nm)(M:Mem)(v:Value)(h:Rp p μ M (.d .aL) v):Rp p μ M (.d (.sl 0 [])) v:=Rp.cB.2 (Rp.cB.1 h).pU
theorem SW.aL {c:bP}(t:Nat)(hl:st.env.lookup t=some (.d .aL))(h:SW P N k0 c ⟨(t,.d (.sl 0 []))::st.env,st.hp,st.k⟩ Q):SW P N k0 c st Q:=SW.slot t _ hl pU h
end
end Go.Sl
namespace Go.Sl
section
namespace Co
def M (d s:Nat):SI:=⟨some d,.mv (.t s),none⟩
def G (d s g:Nat)(b:Bool):SI:=⟨some d,.mv (.t s),some (g,b)⟩
def J (d:Nat)(o:SO):SI:=⟨some d,o,none⟩
def H (d:Nat)(o:SO)(g:Nat)(b:Bool):SI:=⟨some d,o,some (g,b)⟩
def N (o:SO):SI:=⟨none,o,none⟩
def F (l:List SI)(n:Nat):bP:= .e_ l (oD n) false
def C (f:FuncId):X:= .k (.fn (.func f) [] [])
def Z (n:Int):X:= .k (.d (.int .i64 n))
def B (b:Bool):X:= .k (.d (.bool b))
def b8 (n:Int):SV:= .d (.int .u8 n)
def aB (n:Int):SV:= .d (.int .u32 n)
def bE (n:Int):SV:= .d (.int .u64 n)
def i6 (n:Int):SV:= .d (.int .i64 n)
def z8:List SV:=[.d (.int .u32 0),.d (.int .u32 0),.d (.int .u32 0),.d (.int .u32 0),.d (.int .u32 0),.d (.int .u32 0),.d (.int .u32 0),.d (.int .u32 0)]
def bH:List SV:=[.d (.int .u8 0),.d (.int .u32 0),.d (.int .u32 0),.d (.int .u32 0),.d (.int .u32 0),.d (.int .u32 0),.d (.int .u32 0),.d (.int .u32 0),.d (.int .u32 0),.d (.int .u32 0),.d (.int .u64 0),.d (.int .u32 0),.d (.int .u8 0),.d (.int .u32 0),.d (.int .u8 0),.d (.int .u8 0),.d (.int .u32 0),.d (.int .u32 0),.d (.int .u8 0),.d (.int .u8 0),.d (.int .u64 0),.d (.int .u8 0),.d (.int .u32 0),.d (.int .u8 0),.d (.int .u32 0),.d (.int .u32 0),.d (.int .u32 0),.d (.int .u32 0),.d .aL]
def T (d a:Nat):SI:=⟨some d,.load none (.t a),none⟩
def K (d n a:Nat):SI:=⟨some d,.load (some n) (.t a),none⟩
def E (d i a:Nat):SI:=⟨some d,.ext i (.t a),none⟩
def L (d a:Nat):SI:=⟨some d,.len (.t a),none⟩
def P (d f a:Nat):SI:=⟨some d,.call (.k (.fn (.func f) [] [])) [.t a],none⟩
def Q (d f a b:Nat):SI:=⟨some d,.call (.k (.fn (.func f) [] [])) [.t a,.t b],none⟩
def R (d f a b c:Nat):SI:=⟨some d,.call (.k (.fn (.func f) [] [])) [.t a,.t b,.t c],none⟩
def x (d n a:Nat):SI:=⟨some d,.box n (.t a),none⟩
def W (n a b:Nat):SI:=⟨none,.store n (.t a) (.t b),none⟩
def Y (d:Nat)(o:BinOp)(a:Nat)(n:Int):SI:=⟨some d,.bin o (.t a) (.k (.d (.int .i64 n))),none⟩
def V (d:Nat)(o:BinOp)(a b:Nat):SI:=⟨some d,.bin o (.t a) (.t b),none⟩
def U (d a b:Nat):SI:=⟨some d,.pick (.t a) (.t b) (.k (.d (.bool false))),none⟩
def O (d a:Nat):SI:=⟨some d,.not (.t a),none⟩
def D (d o a:Nat):SI:=⟨some d,.aT o (.t a),none⟩
def A (d a:Nat):SI:=⟨some d,.dA (.t a),none⟩
def I (d n a b:Nat):SI:=⟨some d,.dF n (.t a) (.t b),none⟩
def S (a b:bP):bP:= .seq a b
end Co
def En (P:Program)(f:FuncId)(N:Nat)(s:bP)(rv:List RV):Prop:=
 ∀ {args:List SV} {F:Hp} {k nk:Nat} {Q:SV->Hp->Prop} (_:SV.ax (λ n=>decide (n<k)) args=true) (_:F.ok (λ n=>decide (n<k))=true) (_:args.length<=N)
  (_:SW P N k s ⟨lT 0 args,F,k⟩ λ e st'=>match e with | .normal=>Fin k nk rv Q st' | .ret=>Fin k nk rv Q st'|_=>False),SB P f args F k nk Q
theorem En.mk {P:Program}{f N:Nat}{fn:Func}{c:Code}{s:bP}{rv:List RV}(hf:P.funcs[f]? =some fn)(hN:fn.ntmps=N:=by rfl)(hb:fn.body=some c:=by kernel_rfl)(hc:cK P fn.ntmps c=some s:=by kernel_rfl)(hr:Ji P fn.results.toList=some rv:=by kernel_rfl)(ha:jZ P f=true:=by kernel_rfl):En P f N s rv:=by
 subst hN;intro args F k nk Q h1 h2 h3 h;exact SB.Jj hf hb hc hr ha h1 h2 h3 h
end
section
def ay.aU (v:ay)(d:Dt):Bool:=d.may && decide (d.n<=v.get d.r)
def ay.above (a b:ay):Bool:=(List.range 8).all λ r=>decide (b.get r<=a.get r)
theorem ay.ir {a b:ay}:a.above b=true↔∀ r,r<8->b.get r<=a.get r:=by simp[ay.above]
theorem ay.CV (f:Nat->Nat->Nat)(a b:ay){r:Nat}(h:r<8):(ay.zip f a b).get r=f (a.get r) (b.get r):=by simp[ay.zip,ay.sW _ h]
theorem ay.Aj (a b:ay):decide (ay.zip max a b=a)=a.above b:=by
 rw[Bool.eq_iff_iff,decide_eq_true_eq,ay.ir];constructor
 .intro h r hr
  have:=ay.CV max a b hr;rw[h] at this;omega
 .intro h
  exact ay.ext' λ r hr=>by rw[ay.CV _ _ _ hr];have:=h r hr;omega
def ay.count (v:ay):Nat:=v.a0+v.a1+v.a2+v.a3+v.a4+v.a5+v.a6+v.a7
theorem ay.pV (a:ay)(i x:Nat){r:Nat}(h:r<8):(a.set i x).get r=if r=i then x else a.get r:=by simp[ay.set,ay.sW _ h]
def ay.next (v:ay)(r:Nat):Dt×Nat:=if 8<=r then (Dt.zero,2) else if v.get r=4294967295 then (Dt.zero,6) else (⟨r,v.get r+1⟩,0)
def ay.put (v:ay)(d:Dt):ay×Nat:=if d.may=false then (ay.zero,2) else if d.n≠v.get d.r+1 then (ay.zero,9) else (v.set d.r d.n,0)
theorem wrap_u32 (n:Nat)(h:n<4294967296):IntKind.u32.wrap (n:Int)=n:=by
 simp[IntKind.wrap,IntKind.bits,IntKind.signed];omega
theorem wrap_u64 (n:Nat)(h:n<18446744073709551616):IntKind.u64.wrap (n:Int)=n:=by
 simp[IntKind.wrap,IntKind.bits,IntKind.signed];omega
theorem wrap_u8 (n:Nat)(h:n<256):IntKind.u8.wrap (n:Int)=n:=by
 simp[IntKind.wrap,IntKind.bits,IntKind.signed];omega
theorem ay.qL (a b c d e f g h:SV)(r:List SV)(v:ay):b_ (a::b::c::d::e::f::g::h::r) 0 v.cells=v.cells++r:=rfl
theorem ay.BB (u v:ay)(r:List SV):b_ (u.cells++r) 8 v.cells=u.cells++b_ r 0 v.cells:=rfl
theorem ay.vi (u v:ay)(r:List SV):b_ (u.cells++r) 16 v.cells=u.cells++b_ r 8 v.cells:=rfl
theorem ay.vj (u v:ay)(r:List SV):b_ (u.cells++r) 24 v.cells=u.cells++b_ r 16 v.cells:=rfl
theorem ay.dM (u:ay)(r:List SV):fF (u.cells++r)=match fF r with|some x=>some (u.ds++x)|none=>none:=by
 cases h:fF r<;>simp[ay.cells,fF,h,ay.ds]
theorem ay.dN (u:ay):fF u.cells=some u.ds:=rfl
theorem Dt.qL (a b:SV)(r:List SV)(v:Dt):b_ (a::b::r) 0 v.cells=v.cells++r:=rfl
theorem Dt.BC (u v:Dt)(r:List SV):b_ (u.cells++r) 2 v.cells=u.cells++b_ r 0 v.cells:=rfl
theorem Dt.dM (u:Dt)(r:List SV):fF (u.cells++r)=match fF r with|some x=>some (u.ds++x)|none=>none:=by
 cases h:fF r<;>simp[Dt.cells,fF,h,Dt.ds]
theorem Dt.dN (u:Dt):fF u.cells=some u.ds:=rfl
theorem nM (l:List DV):(l.map SV.d).all SV.dX=true:=by simp[SV.dX]
theorem yQ (a b:Nat)(h:a+b<4294967296):IntKind.u32.wrap ((a:Int)+b)=((a+b:Nat):Int):=wrap_u32 (a+b) h
theorem xe (a:Nat)(h:a+1<4294967296):IntKind.u32.wrap ((a:Int)+1)=((a+1:Nat):Int):=wrap_u32 (a+1) h
theorem rO (a b:Nat)(h:a+b<18446744073709551616):IntKind.u64.wrap ((a:Int)+b)=((a+b:Nat):Int):=wrap_u64 (a+b) h
def FM (r a c:Nat):List Dt:=(List.range c).map λ i=>⟨r,a+i⟩
@[simp] theorem L8 (r a c:Nat):(FM r a c).length=c:=by simp[FM]
theorem SV.l7 (ρ:Nat->Nat):∀ (a b:List SV),SV.aN ρ (a++b)=SV.aN ρ a++SV.aN ρ b
 | [],b=>rfl
 | x::a,b=>by simp[SV.aN,SV.l7 ρ a b]
theorem SV.lg (q:Nat->Bool):∀ (a b:List SV),SV.ax q (a++b)=(SV.ax q a && SV.ax q b)
 | [],b=>rfl
 | x::a,b=>by simp[SV.ax,SV.lg q a b,Bool.and_assoc]
theorem FN {α:Type}{l m:List α}(hl:l.length=m.length)(h:∀ j,j<l.length->l[j]? =m[j]?):l=m:=by
 apply List.ext_getElem?;intro j
 by_cases hj:j<l.length
 .exact h j hj
 .rw[List.getElem?_eq_none (by omega),List.getElem?_eq_none (by omega)]
theorem vk:(false == true)=false:=rfl
theorem vm:(true == false)=false:=rfl
end
section
theorem iP (es:List (Nat×SV×SV))(c:Nat)(k v:SV):kA es c k v none= .map (es++[(c,k,v)]) (c+1):=rfl
theorem iQ (es:List (Nat×SV×SV))(c:Nat)(k v:SV)(i:Nat):kA es c k v (some i)= .map (es.modify i λ e=>(e.1,e.2.1,v)) c:=rfl
theorem iR (es:List (Nat×SV×SV))(c:Nat):zP es c none= .map es c:=rfl
theorem iS (es:List (Nat×SV×SV))(c i:Nat):zP es c (some i)= .map (es.eraseIdx i) c:=rfl
theorem iT (es:List (Nat×SV×SV))(z:SV):fG es z none=z:=rfl
theorem iU (es:List (Nat×SV×SV))(z:SV)(i:Nat):fG es z (some i)=match es[i]? with
 | some e=>e.2.2
 | none=>z:=rfl
section
variable {K V:Type} [DecidableEq K]
abbrev MM (K V:Type):=List (Nat×K×V)
def MM.idx (L:MM K V)(a:K):Option Nat:=L.findIdx? λ x=>decide (a=x.2.1)
def MM.get (L:MM K V)(a:K):Option V:=(L.find? λ x=>decide (a=x.2.1)).map (·.2.2)
def MM.has (L:MM K V)(a:K):Bool:=(MM.get L a).isSome
def MM.keys (L:MM K V):List K:=L.map (·.2.1)
def MM.put (L:MM K V)(c:Nat)(a:K)(v:V):MM K V:=match MM.idx L a with
 | some i=>L.modify i λ x=>(x.1,x.2.1,v)
 | none=>L++[(c,a,v)]
def MM.jy (L:MM K V)(c:Nat)(a:K):Nat:=if MM.has L a then c else c+1
def MM.del (L:MM K V)(a:K):MM K V:=match MM.idx L a with
 | some i=>L.eraseIdx i
 | none=>L
structure MM.wf (L:MM K V)(c:Nat):Prop where
 keys:(MM.keys L).Nodup
 times:(L.map (·.1)).Nodup
 old:∀ x,x∈L->x.1<c
theorem MM.lp {L:MM K V}{a:K}:MM.idx L a=none↔MM.get L a=none:=by
 unfold MM.idx MM.get
 induction L with
 | nil=>simp
 | cons x L ih=>
  simp only[List.findIdx?_cons,List.find?_cons]
  by_cases h:a=x.2.1
  .simp[h]
  .simp only[h,decide_false,Bool.false_eq_true,if_false,Option.map_eq_none_iff] at ih ⊢
   exact ih
theorem MM.eL {L:MM K V}{a:K}:(MM.idx L a).isSome=MM.has L a:=by
 unfold MM.has;rw[Bool.eq_iff_iff,Option.isSome_iff_ne_none,Option.isSome_iff_ne_none,ne_eq,ne_eq,MM.lp]
theorem MM.uG:∀ {L:MM K V} {a:K} {i:Nat},MM.idx L a=some i->∃ x,L[i]? =some x/\x.2.1=a/\MM.get L a=some x.2.2
 | [],a,i,h=>by simp[MM.idx] at h
 | x ::L,a,i,h=>by
  unfold MM.idx at h;unfold MM.get;simp only[List.findIdx?_cons,List.find?_cons] at h ⊢
  by_cases e:a=x.2.1
  .simp only[e,decide_true,if_true] at h ⊢
   injection h with h;subst h;exact⟨x,rfl,rfl,rfl⟩
  .simp only[e,decide_false,Bool.false_eq_true,if_false,Option.map_eq_some_iff] at h ⊢
   obtain⟨j,hj,rfl⟩:=h;obtain⟨y,h1,h2,h3⟩:=MM.uG (L:=L) (a:=a) (i:=j) hj;exact⟨y,by simpa using h1,h2,by simpa[MM.get] using h3⟩
theorem MM.get_mem:∀ {L:MM K V} {a:K} {v:V},MM.get L a=some v->∃ t,(t,a,v)∈L
 | [],a,v,h=>by simp[MM.get] at h
 | x ::L,a,v,h=>by
  unfold MM.get at h;simp only[List.find?_cons] at h
  by_cases e:a=x.2.1
  .simp only[e,decide_true,Option.map_some,Option.some.injEq] at h
   refine⟨x.1,?_⟩;subst h;rw[e];simp
  .simp only[e,decide_false] at h
   obtain⟨t,ht⟩:=MM.get_mem (L:=L) (a:=a) (v:=v) h;exact⟨t,by simp[ht]⟩
theorem MM.iu {L:MM K V}{a:K}:MM.has L a=true↔a∈MM.keys L:=by
 unfold MM.has MM.get MM.keys
 induction L with
 | nil=>simp
 | cons x L ih=>
  simp only[List.find?_cons,List.map_cons,List.mem_cons]
  by_cases e:a=x.2.1
  .simp[e]
  .simp only[e,decide_false,false_or];exact ih
theorem MM.get_of_mem:∀ {L:MM K V} (h:(MM.keys L).Nodup) {t:Nat} {a:K} {v:V},(t,a,v)∈L->MM.get L a=some v
 | [],_,t,a,v,h=>by cases h
 | x ::L,hn,t,a,v,h=>by
  unfold MM.get;simp only[MM.keys,List.map_cons,List.nodup_cons] at hn;simp only[List.find?_cons];rcases List.mem_cons.1 h with rfl|h
  .simp
  .have:a≠x.2.1:=λ e=>hn.1 (by rw[<- e];exact List.mem_map.2 ⟨_,h,rfl⟩)
   simp only[this,decide_false];exact MM.get_of_mem (L:=L) hn.2 h
theorem MM.rP {L:MM K V}{c:Nat}{a:K}{v:V}:MM.keys (MM.put L c a v)=if MM.has L a then MM.keys L else MM.keys L++[a]:=by
 unfold MM.put;rw[<- MM.eL]
 split
 .rename_i i h
  rw[h];simp only[Option.isSome_some,if_true,MM.keys];apply List.ext_getElem?;intro j;simp only[List.getElem?_map,List.getElem?_modify];cases L[j]? with
  | none=>simp
  | some x=>by_cases e:i=j<;>simp[e]
 .rename_i h
  rw[h];simp[MM.keys]
theorem MM.xR {L:MM K V}{c:Nat}{a:K}{v:V}:(MM.put L c a v).map (·.1)=if MM.has L a then L.map (·.1) else L.map (·.1)++[c]:=by
 unfold MM.put;rw[<- MM.eL]
 split
 .rename_i i h
  rw[h];simp only[Option.isSome_some,if_true];apply List.ext_getElem?;intro j;simp only[List.getElem?_map,List.getElem?_modify];cases L[j]? with
  | none=>simp
  | some x=>by_cases e:i=j<;>simp[e]
 .rename_i h
  rw[h];simp
theorem MM.nN {L:MM K V}{c:Nat}{a b:K}{v:V}:MM.has (MM.put L c a v) b=(decide (b=a) || MM.has L b):=by
 rw[Bool.eq_iff_iff,MM.iu,MM.rP]
 split
 .rename_i h
  simp only[Bool.or_eq_true,decide_eq_true_eq,MM.iu];refine⟨.inr,λ h'=> ?_⟩;rcases h' with rfl|h'
  .exact MM.iu.1 h
  .exact h'
 .simp only[List.mem_append,List.mem_singleton,Bool.or_eq_true,decide_eq_true_eq,MM.iu]
  exact Or.comm
theorem MM.dP {L:MM K V}{c:Nat}{a b:K}{v:V}:MM.get (MM.put L c a v) b=if b=a then some v else MM.get L b:=by
 unfold MM.put
 split
 .rename_i i h
  revert i h
  induction L with
  | nil=>intro i h;simp[MM.idx] at h
  | cons x L ih=>
   intro i h;unfold MM.idx at h;simp only[List.findIdx?_cons] at h
   by_cases e:a=x.2.1
   .simp only[e,decide_true,if_true] at h
    injection h with h;subst h;simp only[MM.get,List.modify_zero_cons,List.find?_cons]
    by_cases eb:b=x.2.1
    .simp[eb,e]
    .simp[eb,e]
   .simp only[e,decide_false,Bool.false_eq_true,if_false,Option.map_eq_some_iff] at h
    obtain⟨j,hj,rfl⟩:=h;have:=ih j hj;simp only[MM.get,List.modify_succ_cons,List.find?_cons] at this ⊢
    by_cases eb:b=x.2.1
    .simp only[eb,decide_true]
     rw[if_neg (λ h=>e h.symm)]
    .simp only[eb,decide_false]
     exact this
 .rename_i h
  have hn:=MM.lp.1 h;unfold MM.get at hn ⊢;rw[List.find?_append]
  by_cases eb:b=a
  .subst eb
   have:List.find? (λ x=>decide (b=x.2.1)) L=none:=by simpa using hn
   rw[this];simp
  .simp only[List.find?_cons,eb,decide_false,List.find?_nil,Option.or_none,if_false]
theorem MM.gx {L:MM K V}{c:Nat}(h:MM.wf L c)(a:K)(v:V):MM.wf (MM.put L c a v) (MM.jy L c a):=by
 refine⟨?_,?_,λ x hx=> ?_⟩
 .rw[MM.rP]
  split
  .exact h.keys
  .rename_i hh
   rw[List.nodup_append];refine⟨h.keys,by simp,λ x hx y hy=> ?_⟩;simp only[List.mem_singleton] at hy;subst hy;intro e;subst e;exact hh (MM.iu.2 hx)
 .rw[MM.xR]
  split
  .exact h.times
  .rw[List.nodup_append]
   refine⟨h.times,by simp,λ x hx y hy=> ?_⟩;simp only[List.mem_singleton] at hy;obtain⟨z,hz,rfl⟩:=List.mem_map.1 hx;have:=h.old z hz;omega
 .have hm:x.1∈(MM.put L c a v).map (·.1):=List.mem_map.2 ⟨x,hx,rfl⟩
  rw[MM.xR] at hm;unfold MM.jy
  split at hm
  .rename_i hh
   obtain⟨z,hz,e⟩:=List.mem_map.1 hm;rw[if_pos hh,<- e];exact h.old z hz
  .rename_i hh
   rw[if_neg hh];rcases List.mem_append.1 hm with hm|hm
   .obtain⟨z,hz,e⟩:=List.mem_map.1 hm
    have:=h.old z hz;omega
   .simp only[List.mem_singleton] at hm
    omega
theorem MM.lu:MM.wf ([]:MM K V) 0:=⟨by simp[MM.keys],by simp,by simp⟩
theorem MM.s4 {L:MM K V}(h:(L.map (·.1)).Nodup){x:Nat×K×V}(hx:x∈L):L.find? (λ y=>y.1 == x.1)=some x:=by
 induction L with
 | nil=>cases hx
 | cons y L ih=>
  simp only[List.map_cons,List.nodup_cons] at h;simp only[List.find?_cons];rcases List.mem_cons.1 hx with rfl|hx
  .simp
  .have:y.1≠x.1:=λ e=>h.1 (by rw[e];exact List.mem_map.2 ⟨x,hx,rfl⟩)
   rw[show(y.1 == x.1)=false by simpa using this];exact ih h.2 hx
theorem xS {α β:Type}(f:α->β):∀ (l:List α) (i:Nat),(l.map f).eraseIdx i=(l.eraseIdx i).map f
 | [],i=>by simp
 | x::l,0=>by simp
 | x::l,i+1=>by simp[xS f l i]
theorem MM.rQ {L:MM K V}(h:(L.map (·.1)).Nodup){x y:Nat×K×V}(hx:x∈L)(hy:y∈L)(e:x.1=y.1):x=y:=by
 have h1:=MM.s4 h hx;have h2:=MM.s4 h hy;rw[e,h2] at h1;exact(Option.some.inj h1).symm
def au (kc:K->List SV)(vs:V->SV)(L:MM K V):List (Nat×SV×SV):=L.map λ x=>(x.1,SV.agg (kc x.2.1),vs x.2.2)
variable {kc:K->List SV} {vs:V->SV}
theorem s6 {ks:List Bool}(heq:∀ a b,jF ks (kc a) (kc b)=some (decide (a=b)))(a:K):∀ (L:MM K V) (i:Nat),jb ks true (.agg (kc a)) (au kc vs L) i=some ((MM.idx L a).map (· +i))
 | [],i=>by simp[au,jb,MM.idx]
 | x ::L,i=>by
  have ih:=s6 heq a L (i+1);have hk:ja ks true (.agg (kc x.2.1))=true:=by simp[ja,kS,SV.cells,heq]
  unfold au at ih ⊢;simp only[List.map_cons,jb,hk,if_true,SV.cells,heq];unfold MM.idx at ih ⊢;simp only[List.findIdx?_cons]
  by_cases e:a=x.2.1
  .simp[e]
  .simp only[e,decide_false,Bool.false_eq_true,if_false]
   rw[ih];cases List.findIdx? (λ x=>decide (a=x.2.1)) L with
   | none=>rfl
   | some j=>simp;omega
theorem nO (d:Dt)(vs:V->SV)(L:MM Dt V):jb [true,true] true (.agg d.cells) (au Dt.cells vs L) 0=some (MM.idx L d):=by
 rw[s6 Dt.rj d L 0];cases MM.idx L d<;>rfl
theorem nP (d:ay)(vs:V->SV)(L:MM ay V):jb [true,true,true,true,true,true,true,true] true (.agg d.cells) (au ay.cells vs L) 0=some (MM.idx L d):=by
 rw[s6 ay.Ai d L 0];cases MM.idx L d<;>rfl
theorem jd (z:V)(L:MM K V)(a:K):fG (au kc vs L) (vs z) (MM.idx L a)=vs ((MM.get L a).getD z):=by
 cases h:MM.idx L a with
 | none=>rw[MM.lp.1 h];rfl
 | some i=>
  obtain⟨x,h1,h2,h3⟩:=MM.uG h;rw[h3];simp[fG,au,h1]
def iv (n:Int):SV:= .d (.int .i64 n)
theorem lz (L:MM K Int)(a:K):fG (au kc iv L) (.d (.int .i64 0)) (MM.idx L a)= .d (.int .i64 ((MM.get L a).getD 0)):=jd (vs:=iv) 0 L a
theorem jJ (L:MM K V)(c:Nat)(a:K)(v:V):kA (au kc vs L) c (.agg (kc a)) (vs v) (MM.idx L a)= .map (au kc vs (MM.put L c a v)) (MM.jy L c a):=by
 unfold MM.put MM.jy;rw[<- MM.eL];cases h:MM.idx L a with
 | none=>simp[kA,au]
 | some i=>
  simp only[kA,Option.isSome_some,if_true,Ob.map.injEq,and_true,au];apply List.ext_getElem?;intro j;simp only[List.getElem?_map,List.getElem?_modify];cases L[j]? with
  | none=>simp
  | some x=>by_cases e:i=j<;>simp[e]
theorem lB (L:MM K Int)(c:Nat)(a:K)(n:Int):kA (au kc iv L) c (.agg (kc a)) (.d (.int .i64 n)) (MM.idx L a)= .map (au kc iv (MM.put L c a n)) (MM.jy L c a):=jJ (vs:=iv) L c a n
def MM.yR (L:MM K V)(c:Nat)(a:K)(z:V):MM K V:=match MM.idx L a with
 | some _=>L
 | none=>L++[(c,a,z)]
def MM.N4 (L:MM K V)(c:Nat)(a:K):Nat:=match MM.idx L a with
 | some i=>((L[i]?).map (·.1)).getD 0
 | none=>c
def MM.pos (L:MM K V)(a:K):Nat:=(MM.idx L a).getD L.length
theorem oZ (L:MM K V)(c:Nat)(a:K):zQ (au kc vs L) c (MM.idx L a)=MM.N4 L c a:=by
 unfold MM.N4;cases h:MM.idx L a with
 | none=>rfl
 | some i=>
  simp only[zQ,au,List.getElem?_map];cases L[i]?<;>rfl
theorem vn (L:MM K V)(c:Nat)(a:K)(z:V):rA (au kc vs L) c (.agg (kc a)) (vs z) (MM.idx L a)= .map (au kc vs (MM.yR L c a z)) (MM.jy L c a):=by
 unfold MM.yR MM.jy;rw[<- MM.eL];cases h:MM.idx L a with
 | none=>simp[rA,au]
 | some i=>simp[rA]
theorem uH {L:MM K V}{c:Nat}(hw:MM.wf L c)(a:K)(z:V):(au kc vs (MM.yR L c a z)).findIdx? (λ e=>(e.1:Int) == ((MM.N4 L c a:Nat):Int))=some (MM.pos L a):=by
 unfold MM.yR MM.N4 MM.pos;have key:∀ (l:MM K V) (i:Nat) (x:Nat×K×V),(l.map (·.1)).Nodup->l[i]? =some x->(au kc vs l).findIdx? (λ e=>(e.1:Int) == ((x.1:Nat):Int))=some i:=by
  intro l
  induction l with
  | nil=>intro i x _ h;simp at h
  | cons y l ih=>
   intro i x hn h;rw[List.map_cons,List.nodup_cons] at hn;simp only[au,List.map_cons,List.findIdx?_cons];cases i with
   | zero=>simp at h;subst h;simp
   | succ i=>
    simp at h;have hne:((y.1:Int) == (x.1:Int))=false:=by
     have:y.1≠x.1:=λ e=>hn.1 (by rw[e];exact List.mem_map.2 ⟨x,List.mem_of_getElem? h,rfl⟩)
     simpa using λ h:(y.1:Int)=x.1=>this (by omega)
    rw[hne];have:=ih i x hn.2 h;simp only[au] at this;simp[this]
 cases h:MM.idx L a with
 | none=>
  refine key (L++[(c,a,z)]) L.length (c,a,z) ?_ (by simp);rw[List.map_append,List.nodup_append];refine⟨hw.times,by simp,λ x hx y hy e=> ?_⟩;simp at hy;obtain⟨q,hq,rfl⟩:=List.mem_map.1 hx;have:=hw.old q hq;omega
 | some i=>
  obtain⟨x,h1,_⟩:=MM.uG h;simp only[h1,Option.map_some,Option.getD_some];exact key L i x hw.times h1
theorem kL (L:MM K V)(c:Nat)(a:K)(z v:V):(au kc vs (MM.yR L c a z)).modify (MM.pos L a) (λ e=>(e.1,e.2.1,vs v))=au kc vs (MM.put L c a v):=by
 unfold MM.yR MM.pos MM.put;have key:∀ (l:MM K V) (i:Nat),(au kc vs l).modify i (λ e=>(e.1,e.2.1,vs v))=au kc vs (l.modify i λ x=>(x.1,x.2.1,v)):=λ l i=>by
  unfold au;apply List.ext_getElem?;intro j;simp only[List.getElem?_map,List.getElem?_modify];cases l[j]? with
  | none=>simp
  | some x=>by_cases e:i=j<;>simp[e]
 cases h:MM.idx L a with
 | none=>
  simp only[Option.getD_none];rw[key]
  congr 1
  apply List.ext_getElem?;intro j;simp only[List.getElem?_modify,List.getElem?_append]
  by_cases h1:j<L.length
  .simp[h1,show ¬ L.length=j by omega]
  .simp only[h1,if_false]
   by_cases h2:L.length=j
   .subst h2;simp
   .simp[show ¬ j - L.length=0 by omega,show j - L.length≠0 by omega]
 | some i=>exact key L i
theorem jK (L:MM K V)(c:Nat)(a:K):zP (au kc vs L) c (MM.idx L a)= .map (au kc vs (MM.del L a)) c:=by
 unfold MM.del;cases h:MM.idx L a with
 | none=>rfl
 | some i=>simp only[zP,au,xS]
theorem lC (L:MM K V):(au kc vs L).length=L.length:=by simp[au]
theorem eM {L:MM K V}{e:Nat×SV×SV}(h:e∈au kc vs L):∃ x,x∈L/\e=(x.1,SV.agg (kc x.2.1),vs x.2.2):=by
 obtain⟨x,hx,rfl⟩:=List.mem_map.1 h;exact⟨x,hx,rfl⟩
theorem kM {L:MM K V}(h:(L.map (·.1)).Nodup){x:Nat×K×V}(hx:x∈L):(au kc vs L).find? (λ e=>e.1 == x.1)=some (x.1,SV.agg (kc x.2.1),vs x.2.2):=by
 unfold au;rw[List.find?_map];have:=MM.s4 h hx;simp only[Function.comp_def,this,Option.map_some]
theorem lD (ρ:Nat->Nat)(L:MM K V)(hk:∀ a,SV.aN ρ (kc a)=kc a)(hv:∀ v,(vs v).aC ρ=vs v):(au kc vs L).map (λ e=>(e.1,e.2.1.aC ρ,e.2.2.aC ρ))=au kc vs L:=by
 unfold au;rw[List.map_map];refine List.map_congr_left λ x _=> ?_
 simp[SV.aC,hk,hv]
theorem nQ (q:Nat->Bool)(L:MM K V)(hk:∀ a,SV.ax q (kc a)=true)(hv:∀ v,(vs v).ok q=true):((au kc vs L).all λ e=>e.2.1.ok q && e.2.2.ok q)=true:=by
 unfold au;simp[SV.ok,hk,hv]
end
theorem FO (ρ:Nat->Nat)(n:Int):(iv n).aC ρ=iv n:=rfl
theorem K6 (q:Nat->Bool)(n:Int):(iv n).ok q=true:=rfl
abbrev ji:=MM Dt Int
theorem fc (ρ:Nat->Nat)(L:ji):(au Dt.cells iv L).map (λ e=>(e.1,e.2.1.aC ρ,e.2.2.aC ρ))=au Dt.cells iv L:=lD ρ L (λ a=>Dt.aq a ρ) (FO ρ)
theorem bL (q:Nat->Bool)(L:ji):((au Dt.cells iv L).all λ e=>e.2.1.ok q && e.2.2.ok q)=true:=nQ q L (λ a=>Dt.ah a q) (K6 q)
theorem vq (ρ:Nat->Nat)(L:MM ay Int):(au ay.cells iv L).map (λ e=>(e.1,e.2.1.aC ρ,e.2.2.aC ρ))=au ay.cells iv L:=lD ρ L (λ a=>ay.aq a ρ) (FO ρ)
theorem yS (q:Nat->Bool)(L:MM ay Int):((au ay.cells iv L).all λ e=>e.2.1.ok q && e.2.2.ok q)=true:=nQ q L (λ a=>ay.ah a q) (K6 q)
end
end Go.Sl
namespace Go.Sl
open Go.RowKit
section
structure ag where
 dot:Dt
 dep:ay
 time:Nat
 who:Nat
 aK:Dt
 kind:Nat
 aP:Dt
 to:Nat
 bn:Nat
 depth:Nat
 cap:Nat
 at_:Dt
 jA:Dt
 item:Nat
 uu:Nat
 ff:Nat
 lines:DV
def ag.ds (o:ag):List DV:=
 .int .u8 o.dot.r:: .int .u32 o.dot.n::(o.dep.ds++(.int .u64 o.time:: .int .u32 o.who:: .int .u8 o.aK.r:: .int .u32 o.aK.n:: .int .u8 o.kind:: .int .u8 o.aP.r:: .int .u32 o.aP.n:: .int .u32 o.to:: .int .u8 o.bn:: .int .u8 o.depth:: .int .u64 o.cap::
  .int .u8 o.at_.r:: .int .u32 o.at_.n:: .int .u8 o.jA.r:: .int .u32 o.jA.n:: .int .u32 o.item:: .int .u32 o.uu:: .int .u32 o.ff::[o.lines]))
def ag.cells (o:ag):List SV:=o.ds.map .d
@[simp] theorem ag.nJ (o:ag):o.ds.length=29:=rfl
@[simp] theorem ag.jH (o:ag):o.cells.length=29:=rfl
@[simp] theorem ag.ah (o:ag) (q:Nat->Bool):SV.ax q o.cells=true:=SV.aW _
@[simp] theorem ag.aq (o:ag) (ρ:Nat->Nat):SV.aN ρ o.cells=o.cells:=SV.dy _
theorem ag.cells_one (o:ag):o.cells.all SV.dX=true:=by simp[ag.cells,SV.dX]
@[simp] theorem ag.bk (o:ag):o.cells.take 29=o.cells:=rfl
theorem ag.lE (o:ag):o.cells.take 2=o.dot.cells:=rfl
theorem ag.BD (o:ag):(o.cells.drop 2).take 8=o.dep.cells:=rfl
theorem ag.vt (o:ag):o.cells[10]? =some (u64 o.time):=rfl
theorem ag.BE (o:ag):o.cells[11]? =some (u32 o.who):=rfl
theorem ag.lF (o:ag):(o.cells.drop 12).take 2=o.aK.cells:=rfl
theorem ag.vu (o:ag):o.cells[14]? =some (u8 o.kind):=rfl
theorem ag.vv (o:ag):(o.cells.drop 15).take 2=o.aP.cells:=rfl
theorem ag.L9 (o:ag):o.cells[17]? =some (u32 o.to):=rfl
theorem ag.iV (o:ag):o.cells[18]? =some (u8 o.bn):=rfl
theorem ag.iW (o:ag):o.cells[19]? =some (u8 o.depth):=rfl
theorem ag.qM (o:ag):o.cells[20]? =some (u64 o.cap):=rfl
theorem ag.L_ (o:ag):(o.cells.drop 21).take 2=o.at_.cells:=rfl
theorem ag.BF (o:ag):(o.cells.drop 23).take 2=o.jA.cells:=rfl
theorem ag.vw (o:ag):o.cells[25]? =some (u32 o.item):=rfl
theorem ag.BG (o:ag):o.cells[26]? =some (u32 o.uu):=rfl
theorem ag.qN (o:ag):o.cells[27]? =some (u32 o.ff):=rfl
theorem ag.qO (o:ag):o.cells[28]? =some (.d o.lines):=rfl
theorem ag.vz (o:ag):o.cells[0]? =some (u8 o.dot.r):=rfl
theorem ag.vA (o:ag):o.cells[1]? =some (u32 o.dot.n):=rfl
theorem ag.bB (c o:ag):b_ c.cells 0 o.cells=o.cells:=rfl
def ag.before (a b:ag):Bool:=b.dep.aU a.dot
abbrev BH:List SV:=[.d (.int .u8 0),.d (.int .u32 0),.d (.int .u32 0),.d (.int .u32 0),.d (.int .u32 0),.d (.int .u32 0),.d (.int .u32 0),.d (.int .u32 0),.d (.int .u32 0),.d (.int .u32 0),.d (.int .u64 0),.d (.int .u32 0),.d (.int .u8 0),.d (.int .u32 0),.d (.int .u8 0),
 .d (.int .u8 0),.d (.int .u32 0),.d (.int .u32 0),.d (.int .u8 0),.d (.int .u8 0),.d (.int .u64 0),.d (.int .u8 0),.d (.int .u32 0),.d (.int .u8 0),.d (.int .u32 0),.d (.int .u32 0),.d (.int .u32 0),.d (.int .u32 0),.d .aL]
def ag.zero:ag:=⟨⟨0,0⟩,ay.zero,0,0,⟨0,0⟩,0,⟨0,0⟩,0,0,0,0,⟨0,0⟩,⟨0,0⟩,0,0,0,.aL⟩
theorem ag.aM:([.d (.int .u8 0),.d (.int .u32 0),.d (.int .u32 0),.d (.int .u32 0),.d (.int .u32 0),.d (.int .u32 0),.d (.int .u32 0),.d (.int .u32 0),.d (.int .u32 0),.d (.int .u32 0),.d (.int .u64 0),.d (.int .u32 0),.d (.int .u8 0),.d (.int .u32 0),.d (.int .u8 0),
 .d (.int .u8 0),.d (.int .u32 0),.d (.int .u32 0),.d (.int .u8 0),.d (.int .u8 0),.d (.int .u64 0),.d (.int .u8 0),.d (.int .u32 0),.d (.int .u8 0),.d (.int .u32 0),.d (.int .u32 0),.d (.int .u32 0),.d (.int .u32 0),.d .aL]:List SV)=ag.zero.cells:=rfl
abbrev ops (l:List ag):SV:= .d (.sl l.length (l.flatMap ag.ds))
abbrev jT (l:List ag):List SV:=List.map SV.d (l.flatMap ag.ds)
@[simp] theorem fV (l:List ag):(l.flatMap ag.ds).length=l.length*29:=eC ag.ds 29 (λ _=>rfl) l
theorem gW {l:List ag}{i:Nat}{x:ag}(h:l[i]? =some x):List.take 29 (List.drop (i*29) (List.map SV.d (l.flatMap ag.ds)))=x.cells:=by
 rw[<- List.map_drop,<- List.map_take,jG ag.ds 29 (λ _=>rfl) l i x h];rfl
theorem vB {l:List ag}{i:Nat}{x:ag}(h:l[i]? =some x){j:Nat}(hj:j<29):(List.map SV.d (l.flatMap ag.ds))[i*29+j]? =x.cells[j]? :=by
 rw[List.getElem?_map,vf ag.ds 29 (λ _=>rfl) l i j x h hj,ag.cells,List.getElem?_map]
theorem CW {l:List ag}{i:Nat}{x:ag}(h:l[i]? =some x){j n:Nat}(hj:j+n<=29):List.take n (List.drop (i*29+j) (List.map SV.d (l.flatMap ag.ds)))=(x.cells.drop j).take n:=by
 rw[<- gW h,List.drop_take,List.drop_drop,List.take_take,Nat.min_eq_left (by omega)]
theorem Jl {l:List ag}{i j n:Nat}{x:ag}(h:l[i]? =some x)(hj:j+n<=29):(i*29+j+n<=(List.map SV.d (l.flatMap ag.ds)).length)=True:=eq_true (by
 have:=cU h;rw[List.length_map,fV];omega)
theorem cF {l:List ag}{i:Nat}{x:ag}(h:l[i]? =some x):(i*29+29<=(List.map SV.d (l.flatMap ag.ds)).length)=True:=eq_true (by
 have:=cU h;rw[List.length_map,fV];omega)
theorem CX {α:Type}(f:α->List DV)(sz:Nat)(hs:0<sz)(hf:∀ x,(f x).length=sz)(l:List α)(i:Nat)(x:α)(h:i<l.length):b_ (List.map SV.d (l.flatMap f)) (i*sz) ((f x).map .d)=List.map SV.d ((l.set i x).flatMap f):=by
 have hl:=eC f sz hf l;have hle:i*sz+sz<=l.length*sz:=by rw[<- Nat.succ_mul];exact Nat.mul_le_mul_right sz h
 rw[qD (by rw[List.length_map,List.length_map,hf,hl];exact hle)];rw[List.length_map,hf,<- List.map_take,<- List.map_drop,<- List.map_append,<- List.map_append]
 congr 1
 induction l generalizing i with
 | nil=>simp at h
 | cons y l ih=>
  cases i with
  | zero=>
   simp[hf,List.drop_append,List.drop_of_length_le (Nat.le_of_eq (hf y))]
  | succ i=>
   have:=ih i (by simpa using h) (eC f sz hf l) (by
    have h2:i<l.length:=by simpa using h
    rw[<- Nat.succ_mul];exact Nat.mul_le_mul_right sz h2)
   rw[Nat.succ_mul];simp only[List.flatMap_cons,List.set_cons_succ];rw[List.take_append,List.drop_append,hf,List.take_of_length_le (by rw[hf];omega),List.drop_of_length_le (by rw[hf];omega)];rw[show i*sz+sz - sz=i*sz by omega,show i*sz+sz+sz - sz=i*sz+sz by omega,<- this];simp
theorem Ma {l:List ag}{i:Nat}(x:ag)(h:i<l.length):b_ (List.map SV.d (l.flatMap ag.ds)) (i*29) x.cells=List.map SV.d ((l.set i x).flatMap ag.ds):=CX ag.ds 29 (by omega) (λ _=>rfl) l i x h
structure Cr where
 dot:Dt
 aK:Dt
 par:Dt
 hold:Nat
 bn:Nat
 depth:Nat
 cap:Nat
 level:Int
 deriving DecidableEq
def Cr.ds (o:Cr):List DV:=[.int .u8 o.dot.r,.int .u32 o.dot.n,.int .u8 o.aK.r,.int .u32 o.aK.n,.int .u8 o.par.r,.int .u32 o.par.n,.int .u32 o.hold,.int .u8 o.bn,.int .u8 o.depth,.int .u64 o.cap,.int .i64 o.level]
def Cr.cells (o:Cr):List SV:=o.ds.map .d
@[simp] theorem Cr.nJ (o:Cr):o.ds.length=11:=rfl
@[simp] theorem Cr.jH (o:Cr):o.cells.length=11:=rfl
@[simp] theorem Cr.ah (o:Cr) (q:Nat->Bool):SV.ax q o.cells=true:=SV.aW _
@[simp] theorem Cr.aq (o:Cr) (ρ:Nat->Nat):SV.aN ρ o.cells=o.cells:=SV.dy _
theorem Cr.cells_one (o:Cr):o.cells.all SV.dX=true:=rfl
@[simp] theorem Cr.bk (o:Cr):o.cells.take 11=o.cells:=rfl
theorem Cr.lE (o:Cr):o.cells.take 2=o.dot.cells:=rfl
theorem Cr.lF (o:Cr):(o.cells.drop 2).take 2=o.aK.cells:=rfl
theorem Cr.BI (o:Cr):(o.cells.drop 4).take 2=o.par.cells:=rfl
theorem Cr.vC (o:Cr):o.cells[6]? =some (u32 o.hold):=rfl
theorem Cr.iV (o:Cr):o.cells[7]? =some (u8 o.bn):=rfl
theorem Cr.iW (o:Cr):o.cells[8]? =some (u8 o.depth):=rfl
theorem Cr.qM (o:Cr):o.cells[9]? =some (u64 o.cap):=rfl
theorem Cr.qP (o:Cr):o.cells[10]? =some (i64 o.level):=rfl
theorem Cr.bB (c o:Cr):b_ c.cells 0 o.cells=o.cells:=rfl
def Cr.zero:Cr:=⟨⟨0,0⟩,⟨0,0⟩,⟨0,0⟩,0,0,0,0,0⟩
theorem Cr.aM:([.d (.int .u8 0),.d (.int .u32 0),.d (.int .u8 0),.d (.int .u32 0),.d (.int .u8 0),.d (.int .u32 0),.d (.int .u32 0),.d (.int .u8 0),.d (.int .u8 0),.d (.int .u64 0),.d (.int .i64 0)]:List SV)=Cr.zero.cells:=rfl
theorem Cr.rj (a b:Cr):jF [true,true,true,true,true,true,true,true,true,true,true] a.cells b.cells=some (decide (a=b)):=by
 have h:jF [true,true,true,true,true,true,true,true,true,true,true] a.cells b.cells=some (((a.dot.r:Int) == b.dot.r) && (((a.dot.n:Int) == b.dot.n) && (((a.aK.r:Int) == b.aK.r) && (((a.aK.n:Int) == b.aK.n) && (((a.par.r:Int) == b.par.r) && (((a.par.n:Int) == b.par.n) &&
   (((a.hold:Int) == b.hold) && (((a.bn:Int) == b.bn) && (((a.depth:Int) == b.depth) && (((a.cap:Int) == b.cap) && ((a.level == b.level) && true))))))))))):=by simp[jF,IL,Cr.cells,Cr.ds]
 rw[h]
 congr 1
 obtain⟨⟨a0,a1⟩,⟨a2,a3⟩,⟨a4,a5⟩,a6,a7,a8,a9,a10⟩:=a;obtain⟨⟨b0,b1⟩,⟨b2,b3⟩,⟨b4,b5⟩,b6,b7,b8,b9,b10⟩:=b;rw[Bool.eq_iff_iff];simp;omega
abbrev dK (l:List Cr):SV:= .d (.sl l.length (l.flatMap Cr.ds))
@[simp] theorem O7 (l:List Cr):(l.flatMap Cr.ds).length=l.length*11:=eC Cr.ds 11 (λ _=>rfl) l
def ov (o:ag):SV:= .agg o.cells
def cv (o:Cr):SV:= .agg o.cells
section
variable {K:Type} [DecidableEq K] {kc:K->List SV}
theorem nR (L:MM K ag)(a:K):fG (au kc ov L) (.agg ag.zero.cells) (MM.idx L a)= .agg ((MM.get L a).getD ag.zero).cells:=jd (vs:=ov) ag.zero L a
theorem nS (L:MM K Cr)(a:K):fG (au kc cv L) (.agg Cr.zero.cells) (MM.idx L a)= .agg ((MM.get L a).getD Cr.zero).cells:=jd (vs:=cv) Cr.zero L a
theorem nT (L:MM K ag)(c:Nat)(a:K):rA (au kc ov L) c (.agg (kc a)) (.agg ag.zero.cells) (MM.idx L a)= .map (au kc ov (MM.yR L c a ag.zero)) (MM.jy L c a):=vn (vs:=ov) L c a ag.zero
theorem nU (L:MM K Cr)(c:Nat)(a:K):rA (au kc cv L) c (.agg (kc a)) (.agg Cr.zero.cells) (MM.idx L a)= .map (au kc cv (MM.yR L c a Cr.zero)) (MM.jy L c a):=vn (vs:=cv) L c a Cr.zero
theorem nV (L:MM K Int)(c:Nat)(a:K):rA (au kc iv L) c (.agg (kc a)) (.d (.int .i64 0)) (MM.idx L a)= .map (au kc iv (MM.yR L c a 0)) (MM.jy L c a):=vn (vs:=iv) L c a 0
theorem nW (L:MM K ag)(c:Nat)(a:K)(z v:ag):(au kc ov (MM.yR L c a z)).modify (MM.pos L a) (λ e=>(e.1,e.2.1,.agg v.cells))=au kc ov (MM.put L c a v):=kL (vs:=ov) L c a z v
theorem nX (L:MM K Cr)(c:Nat)(a:K)(z v:Cr):(au kc cv (MM.yR L c a z)).modify (MM.pos L a) (λ e=>(e.1,e.2.1,.agg v.cells))=au kc cv (MM.put L c a v):=kL (vs:=cv) L c a z v
theorem nY (L:MM K Int)(c:Nat)(a:K)(z v:Int):(au kc iv (MM.yR L c a z)).modify (MM.pos L a) (λ e=>(e.1,e.2.1,.d (.int .i64 v)))=au kc iv (MM.put L c a v):=kL (vs:=iv) L c a z v
theorem cG (ρ:Nat->Nat)(L:MM Dt ag):(au Dt.cells ov L).map (λ e=>(e.1,e.2.1.aC ρ,e.2.2.aC ρ))=au Dt.cells ov L:=lD ρ L (λ a=>Dt.aq a ρ) (λ v=>by simp[ov,SV.aC])
theorem bG (q:Nat->Bool)(L:MM Dt ag):((au Dt.cells ov L).all λ e=>e.2.1.ok q && e.2.2.ok q)=true:=nQ q L (λ a=>Dt.ah a q) (λ v=>by simp[ov,SV.ok])
theorem j5 (ρ:Nat->Nat)(L:MM Dt Cr):(au Dt.cells cv L).map (λ e=>(e.1,e.2.1.aC ρ,e.2.2.aC ρ))=au Dt.cells cv L:=lD ρ L (λ a=>Dt.aq a ρ) (λ v=>by simp[cv,SV.aC])
theorem kG (q:Nat->Bool)(L:MM Dt Cr):((au Dt.cells cv L).all λ e=>e.2.1.ok q && e.2.2.ok q)=true:=nQ q L (λ a=>Dt.ah a q) (λ v=>by simp[cv,SV.ok])
end
end
section
def uv (n:Nat):SV:= .d (.int .u64 (n:Int))
section
variable {K:Type} [DecidableEq K] {kc:K->List SV}
theorem nZ (L:MM K Nat)(a:K):fG (au kc uv L) (.d (.int .u64 0)) (MM.idx L a)= .d (.int .u64 (((MM.get L a).getD 0:Nat):Int)):=jd (vs:=uv) 0 L a
theorem n9 (L:MM K Nat)(c:Nat)(a:K)(n:Nat):kA (au kc uv L) c (.agg (kc a)) (.d (.int .u64 (n:Int))) (MM.idx L a)= .map (au kc uv (MM.put L c a n)) (MM.jy L c a):=jJ (vs:=uv) L c a n
theorem n_ (L:MM K Nat)(c:Nat)(a:K):rA (au kc uv L) c (.agg (kc a)) (.d (.int .u64 0)) (MM.idx L a)= .map (au kc uv (MM.yR L c a 0)) (MM.jy L c a):=vn (vs:=uv) L c a 0
theorem od (L:MM K Nat)(c:Nat)(a:K)(z v:Nat):(au kc uv (MM.yR L c a z)).modify (MM.pos L a) (λ e=>(e.1,e.2.1,.d (.int .u64 (v:Int))))=au kc uv (MM.put L c a v):=kL (vs:=uv) L c a z v
end
structure Sp where
 d:Dt
 n:Nat
 deriving DecidableEq
def Sp.ds (x:Sp):List DV:=[.int .u8 x.d.r,.int .u32 x.d.n,.int .u64 x.n]
def Sp.cells (x:Sp):List SV:=x.ds.map .d
@[simp] theorem Sp.nJ (x:Sp):x.ds.length=3:=rfl
@[simp] theorem Sp.jH (x:Sp):x.cells.length=3:=rfl
@[simp] theorem Sp.ah (x:Sp) (q:Nat->Bool):SV.ax q x.cells=true:=SV.aW _
@[simp] theorem Sp.aq (x:Sp) (ρ:Nat->Nat):SV.aN ρ x.cells=x.cells:=SV.dy _
theorem Sp.cells_one (x:Sp):x.cells.all SV.dX=true:=rfl
@[simp] theorem Sp.bk (x:Sp):x.cells.take 3=x.cells:=rfl
theorem Sp.lE (x:Sp):x.cells.take 2=x.d.cells:=rfl
theorem Sp.gN (x:Sp):x.cells[2]? =some (u64 x.n):=rfl
theorem Sp.bB (c x:Sp):b_ c.cells 0 x.cells=x.cells:=rfl
def Sp.zero:Sp:=⟨⟨0,0⟩,0⟩
theorem Sp.aM:([.d (.int .u8 0),.d (.int .u32 0),.d (.int .u64 0)]:List SV)=Sp.zero.cells:=rfl
theorem Sp.fC (d:Dt)(n:Nat):b_ (b_ Sp.zero.cells 0 d.cells) 2 [.d (.int .u64 (n:Int))]=(Sp.mk d n).cells:=rfl
theorem Sp.rj (a b:Sp):jF [true,true,true] a.cells b.cells=some (decide (a=b)):=by
 have h:jF [true,true,true] a.cells b.cells=some (((a.d.r:Int) == b.d.r) && (((a.d.n:Int) == b.d.n) && (((a.n:Int) == b.n) && true))):=by simp[jF,IL,Sp.cells,Sp.ds]
 rw[h]
 congr 1
 obtain⟨⟨a0,a1⟩,a2⟩:=a;obtain⟨⟨b0,b1⟩,b2⟩:=b;rw[Bool.eq_iff_iff];simp;omega
@[simp] theorem O8 (l:List Sp):(l.flatMap Sp.ds).length=l.length*3:=eC Sp.ds 3 (λ _=>rfl) l
theorem oe (x:Cr):fF x.cells=some x.ds:=rfl
theorem og (x:Sp):fF x.cells=some x.ds:=rfl
end
end Go.Sl
namespace Go.Sl
section
variable {P:Program}
def RW (P:Program)(cZ:List SI)(st:St)(K:St->List (Bool×List Nat)->Prop):Prop:=
 ∃ dK st' ob ts,runs P cZ st dK=some (st',ob,ts)/\ob/\K st' ts
def gX:SO->Bool
 | .call .. =>true
 | _=>false
def xT:SO->Bool
 | .mK .. =>true
 | _=>false
def seg (P:Program):List SI->St->Option (List SI×St×Prop×List (Bool×List Nat))
  | [],st=>some ([],st,True,[])
  | si :: r,st=>match si.g with
    | none=>match gX si.op with
      | true=>some (si::r,st,True,[])
      | false=>match fA P st si.op [] with
        | some (e,_)=>match seg P r (l6 st si e) with
          | some (rest,st',ob,ts)=>some (rest,st',e.ob/\ob,iC si e::ts)
          | none=>none
        | none=>none
    | some (t,w)=>match st.env.lookup t with
      | some (.d (.bool b))=>match b == w with
        | true=>match gX si.op with
          | true=>some (si::r,st,True,[])
          | false=>match fA P st si.op [] with
            | some (e,_)=>match seg P r (l6 st si e) with
              | some (rest,st',ob,ts)=>some (rest,st',e.ob/\ob,iC si e::ts)
              | none=>none
            | none=>none
        | false=>match seg P r (l6 st si ⟨.dL [],[],[],0,True⟩) with
          | some (rest,st',ob,ts)=>some (rest,st',ob,iC si ⟨.dL [],[],[],0,True⟩::ts)
          | none=>none
      | some (.dL [])=>match seg P r (l6 st si ⟨.dL [],[],[],0,True⟩) with
          | some (rest,st',ob,ts)=>some (rest,st',ob,iC si ⟨.dL [],[],[],0,True⟩::ts)
          | none=>none
      | _=>none
theorem DT {st:St}{so:SO}{e:mH}{c2:List CR}(hc:gX so=false)(h:fA P st so []=some (e,c2)):c2=[]/\(xT so=false->∀ dK,fA P st so dK=some (e,dK))/\(xT so=true->∀ dK,fA P st so (.iJ::dK)=some (e,dK)):=by
 cases so<;>simp only[gX,Bool.true_eq_false] at hc<;>simp only[fA] at h<;>split at h<;>try (cases h;done)
 all_goals
  rename_i hs;injection h with h;injection h with h h';subst h;subst h';refine⟨rfl,λ hb dK=> ?_,λ hb dK=> ?_⟩
  all_goals first
   | (simp[xT] at hb;done)
   | simp only[fA,hs]
theorem RW.nil {st:St}{K:St->List (Bool×List Nat)->Prop}(h:K st []):RW P [] st K:=⟨[],st,True,[],rfl,trivial,h⟩
theorem RW.cons {si:SI}{r:List SI}{st:St}{K:St->List (Bool×List Nat)->Prop}{e:mH}(h1:∀ dK,∃ c0,gd P st si c0=some (e,dK))(bt:e.ob)(h:RW P r (l6 st si e) λ st' ts=>K st' (iC si e::ts)):RW P (si::r) st K:=by
 obtain⟨dK,st',ob,ts,hr,ho,hk⟩:=h;obtain⟨c0,hc0⟩:=h1 dK;refine⟨c0,st',e.ob/\ob,iC si e::ts,?_,⟨bt,ho⟩,hk⟩;simp only[runs,hc0,hr]
theorem Ak {st:St}{so:SO}{e:mH}{c2:List CR}(hc:gX so=false)(h:fA P st so []=some (e,c2))(dK:List CR):∃ c0,fA P st so c0=some (e,dK):=by
 obtain⟨_,h1,h2⟩:=DT hc h;cases hb:xT so with
 | false=>exact⟨dK,h1 hb dK⟩
 | true=>exact⟨.iJ::dK,h2 hb dK⟩
theorem RW.call {d:Option Nat}{f:X}{args:List X}{g:Option (Nat×Bool)}{r:List SI}{st:St}{K:St->List (Bool×List Nat)->Prop}{fid:FuncId}{as first cap as':List SV}{F F':Hp}{v:SV}{nk:Nat}
  (hf:ev (λ t=>st.env.lookup t) f=some (.fn (.func fid) first cap)) (ha:qu (λ t=>st.env.lookup t) args=some as) (has:first++as++cap=as') (hc:aH P fid as' F st.k nk v F') (hs:HSub F st.hp)
  (hg:g=none\/∃ t w,g=some (t,w)/\st.env.lookup t=some (.d (.bool w)))
  (h:RW P r (l6 st ⟨d,.call f args,g⟩ ⟨v,F,F',nk,True⟩) λ st' ts=>K st' (iC ⟨d,.call f args,g⟩ ⟨v,F,F',nk,True⟩::ts)):RW P (⟨d,.call f args,g⟩::r) st K:=by
 refine RW.cons (e:=⟨v,F,F',nk,aH P fid (first++as++cap) F st.k nk v F'/\HSub F st.hp⟩) (λ dK=>⟨.call F v F' nk::dK,?_⟩) ⟨by rw[has];exact hc,hs⟩ h;rcases hg with rfl|⟨t,w,rfl,hl⟩
 .simp only[gd,fA,hf,ha]
 .simp[gd,hl,fA,hf,ha]
theorem SW.Pr {N k0:Nat}{st:St}{Q:Exit->St->Prop}{cZ:List SI}{bs:List Nat}{draw:Bool}(hm:P.follows .mixedOrders=true)(h:RW P cZ st λ st' ts=>(!draw || mA bs ts)=true/\Q .normal st'):SW P N k0 (.e_ cZ bs draw) st Q:=by
 obtain⟨dK,st',ob,ts,hr,ho,hn,hk⟩:=h;exact SW.e_ dK hm hr ho hn hk
theorem fW {st:St}{d:Option Nat}{op:SO}{g:Option (Nat×Bool)}{dK:List CR}{e:mH}{c2:List CR}(hg:g=none\/∃ t w,g=some (t,w)/\st.env.lookup t=some (.d (.bool w)))(h:fA P st op dK=some (e,c2)):gd P st ⟨d,op,g⟩ dK=some (e,c2):=by
 rcases hg with rfl|⟨t,w,rfl,hl⟩
 .simp only[gd,h]
 .simp[gd,hl,h]
theorem RW.FP {d:Nat}{op:SO}{g:Option (Nat×Bool)}{r:List SI}{K:St->List (Bool×List Nat)->Prop}{env:List (Nat×SV)}{hp F F':Hp}{k:Nat}{v:SV}{nk:Nat}{ob:Prop}
  (hr:dh op=true) (hc:gX op=false) (hb:xT op=false) (hg:g=none\/∃ t w,g=some (t,w)/\env.lookup t=some (.d (.bool w))) (he:fA P ⟨env,hp,k⟩ op []=some (⟨v,F,F',nk,ob⟩,[])) (bt:ob) (hk:nk=0)
  (h:RW P r ⟨(d,v)::env,hp,k⟩ λ st' ts=>K st' ((true,F.map (·.1)++F'.map (·.1))::ts)):RW P (⟨some d,op,g⟩::r) ⟨env,hp,k⟩ K:=by
 subst hk;refine RW.cons (e:=⟨v,F,F',0,ob⟩) (λ dK=> ?_) bt ?_
 .obtain⟨c0,h0⟩:=Ak hc he dK
  exact⟨c0,fW hg h0⟩
 .simpa only[l6,iC,hr,bU,if_true,Nat.add_zero] using h
def rR:Option Nat->SV->List (Nat×SV)->List (Nat×SV)
 | some d,v,env=>(d,v)::env
 | none,_,env=>env
theorem iX {d:Option Nat}{op:SO}{g:Option (Nat×Bool)}{env:List (Nat×SV)}{hp:Hp}{k:Nat}{e:mH}:l6 ⟨env,hp,k⟩ ⟨d,op,g⟩ e=⟨rR d e.v env,bU (dh op) hp e.F e.F',k+e.nk⟩:=by
 cases d<;>rfl
theorem RW.FQ {d:Option Nat}{op:SO}{g:Option (Nat×Bool)}{r:List SI}{K:St->List (Bool×List Nat)->Prop}{env:List (Nat×SV)}{hp oL F F':Hp}{k k':Nat}{v:SV}{nk:Nat}{ob:Prop}
  (hc:gX op=false) (hg:g=none\/∃ t w,g=some (t,w)/\env.lookup t=some (.d (.bool w))) (he:fA P ⟨env,hp,k⟩ op []=some (⟨v,F,F',nk,ob⟩,[])) (bt:ob) (hh:bU (dh op) hp F F'=oL) (hk:k+nk=k')
  (h:RW P r ⟨rR d v env,oL,k'⟩ λ st' ts=>K st' ((dh op,F.map (·.1)++F'.map (·.1))::ts)):RW P (⟨d,op,g⟩::r) ⟨env,hp,k⟩ K:=by
 refine RW.cons (e:=⟨v,F,F',nk,ob⟩) (λ dK=> ?_) bt ?_
 .obtain⟨c0,h0⟩:=Ak hc he dK
  exact⟨c0,fW hg h0⟩
 .rw[iX,hh,hk];exact h
theorem RW.Jm {d:Option Nat}{e sz len:Nat}{z:List SV}{parts:List (Nat×Nat×X)}{g:Option (Nat×Bool)}{r:List SI}{K:St->List (Bool×List Nat)->Prop}{env:List (Nat×SV)}{hp oL F F':Hp}{k k':Nat}{v:SV}{nk:Nat}{ob:Prop}
  (hg:g=none\/∃ t w,g=some (t,w)/\env.lookup t=some (.d (.bool w))) (he:fA P ⟨env,hp,k⟩ (.mK e sz len z parts) [.own]=some (⟨v,F,F',nk,ob⟩,[])) (bt:ob) (hh:bU false hp F F'=oL) (hk:k+nk=k')
  (h:RW P r ⟨rR d v env,oL,k'⟩ λ st' ts=>K st' ((false,F.map (·.1)++F'.map (·.1))::ts)):RW P (⟨d,.mK e sz len z parts,g⟩::r) ⟨env,hp,k⟩ K:=by
 refine RW.cons (e:=⟨v,F,F',nk,ob⟩) (λ dK=>⟨.own::dK,fW hg ?_⟩) bt ?_
 .simp only[fA] at he ⊢
  split at he<;>try (cases he;done)
  rename_i hs;injection he with he;injection he with he _;subst he;rfl
 .rw[iX]
  show RW P r ⟨rR d v env,bU false hp F F',k+nk⟩ _;rw[hh,hk];exact h
theorem RW.FR {d:Nat}{op:SO}{t:Nat}{w:Bool}{r:List SI}{K:St->List (Bool×List Nat)->Prop}{env:List (Nat×SV)}{hp:Hp}{k:Nat}{s:SV}(hg:env.lookup t=some s)(hs:mO w s=true)
  (h:RW P r ⟨(d,.dL [])::env,hp,k⟩ λ st' ts=>K st' ((dh op,[])::ts)):RW P (⟨some d,op,some (t,w)⟩::r) ⟨env,hp,k⟩ K:=by
 have hh:bU (dh op) hp [] []=hp:=by unfold bU;split<;>rfl
 refine RW.cons (e:=⟨.dL [],[],[],0,True⟩) (λ dK=>⟨dK,?_⟩) trivial ?_
 .unfold mO at hs
  split at hs
  .simp only[gd,hg];rw[if_neg (by simpa using hs)]
  .simp only[gd,hg]
  .cases hs
 .rw[iX]
  show RW P r ⟨(d,.dL [])::env,bU (dh op) hp [] [],k+0⟩ _;rw[hh];exact h
theorem RW.DU {op:SO}{t:Nat}{w:Bool}{r:List SI}{K:St->List (Bool×List Nat)->Prop}{env:List (Nat×SV)}{hp:Hp}{k:Nat}{s:SV}(hg:env.lookup t=some s)(hs:mO w s=true)
  (h:RW P r ⟨env,hp,k⟩ λ st' ts=>K st' ((dh op,[])::ts)):RW P (⟨none,op,some (t,w)⟩::r) ⟨env,hp,k⟩ K:=by
 have hh:bU (dh op) hp [] []=hp:=by unfold bU;split<;>rfl
 refine RW.cons (e:=⟨.dL [],[],[],0,True⟩) (λ dK=>⟨dK,?_⟩) trivial ?_
 .unfold mO at hs
  split at hs
  .simp only[gd,hg];rw[if_neg (by simpa using hs)]
  .simp only[gd,hg]
  .cases hs
 .rw[iX]
  show RW P r ⟨env,bU (dh op) hp [] [],k+0⟩ _;rw[hh];exact h
theorem RW.FT {d:Option Nat}{f:X}{args:List X}{g:Option (Nat×Bool)}{r:List SI}{K:St->List (Bool×List Nat)->Prop}{fid:FuncId}{as first cap as':List SV}{env:List (Nat×SV)}{hp F F':Hp}{k:Nat}{v:SV}{nk:Nat}
  (hf:ev (λ t=>env.lookup t) f=some (.fn (.func fid) first cap)) (ha:qu (λ t=>env.lookup t) args=some as) (has:first++as++cap=as') (hc:aH P fid as' F k nk v F') (hs:HSub F hp)
  (hg:g=none\/∃ t w,g=some (t,w)/\env.lookup t=some (.d (.bool w)))
  (h:RW P r ⟨rR d v env,bU false hp F F',k+nk⟩ λ st' ts=>K st' ((false,F.map (·.1)++F'.map (·.1))::ts)):RW P (⟨d,.call f args,g⟩::r) ⟨env,hp,k⟩ K:=by
 refine RW.call (st:=⟨env,hp,k⟩) hf ha has hc hs hg ?_;rw[iX];exact h
end
section
variable {P:Program}
def oh (P:Program)(o:Oper)(E:Nat->Option SV)(H:Nat->Option Ob)(k nk:Nat)(F:Hp)(Q:SV->Hp->Prop):Prop:=
 (∀ n ob,lk F n=some ob->H n=some ob)/\
 ∀ (rd:Option Nat) (p:Nat->Prop) (μ:Nat->Nm) (M:Mem) (a:Act) (w:World) (K:Act->World->Prop) (QQ:Exit->Act->World->Prop),(∀ n,(k<=n/\n<k+nk)-> ¬ p n)->iG E o.op.operands p μ M a->bR p μ M (lk F) w->
  (∀ r F' u bh M' w',Q r F'->Rp (λ n=>p n\/(k<=n/\n<k+nk)) bh M' r u->bR (λ n=>p n\/(k<=n/\n<k+nk)) bh M' (lk F') w'->Ev (lk F) (λ n=>k<=n/\n<k+nk) μ M w (lk F') bh M' w'->K (a.put o.dst u) w')->
  o.wpIn (jX rd) 0 P a w K QQ
theorem Sound.q {o:Oper}{E:Nat->Option SV}{H:Nat->Option Ob}{k:Nat}{e:mH}(h:Sound P o E H k e):oh P o E H k e.nk e.F (λ r F'=>r=e.v/\F'=e.F'):=
 ⟨h.2,λ rd p μ M a w K QQ h1 h2 h3 h4=>h.1 rd p μ M a w K QQ h1 h2 h3 λ u bh M' w' a1 a2 a3=>h4 _ _ u bh M' w' ⟨rfl,rfl⟩ a1 a2 a3⟩
theorem iF.step {N:Nat}{rd:Option Nat}{cq:Nat->Nm}{M0:Mem}{w0:World}{c0:Nat->Option Ob}{k0:Nat}{st:St}{a:Act}{w:World}{o:Oper}{si:SI}{F:Hp}{nk:Nat}{Q:SV->Hp->Prop}(hd:si.dst=o.dst)(hN:∀ d,o.dst=some d->d<N)
  (h:oh P o (λ t=>st.env.lookup t) (lk st.hp) st.k nk F Q) (hro:∀ r F',Q r F'->dh si.op=true->F'=F) (fJ:iF N cq M0 w0 c0 k0 st a w) {K:Act->World->Prop} {QQ:Exit->Act->World->Prop}
  (hK:∀ r F',Q r F'->∀ a' w',iF N cq M0 w0 c0 k0 (l6 st si ⟨r,F,F',nk,True⟩) a' w'->K a' w'):o.wpIn (jX rd) 0 P a w K QQ:=by
 obtain⟨nI,hdf,hsz,μ,M,gL,hS,hE⟩:=fJ;have hsub:∀ n ob,lk F n=some ob->lk st.hp n=some ob:=h.1;refine h.2 rd (· <st.k) μ M a w K QQ (λ n hn=>by omega) ⟨λ t _ s hs=>gL t s hs,hS.mem.kP⟩ (hS.sub hsub) λ r F' u bh M' w' hQ hu sJ hE'=>hK r F' hQ _ _ ?_
 have hp:(λ n=>n<st.k\/(st.k<=n/\n<st.k+nk))=(· <st.k+nk):=funext λ n=>propext ⟨λ h=>by rcases h with h|h<;>omega,λ h=>by show n<st.k\/_;omega⟩
 have hfr:=hS.Bp hsub (λ n hn=>by omega) hE' sJ λ n h=> .inl h
 rw[hp] at hu hfr;have hnew:∀ n,(k0<=n/\n<st.k)\/(st.k<=n/\n<st.k+nk)↔k0<=n/\n<st.k+nk:=λ n=>by omega
 have hlk:lk (bU (dh si.op) st.hp F F')=Bm (lk st.hp) (lk F) (lk F'):=iM hsub (hro r F' hQ);refine⟨by show k0<=st.k+nk;omega,by rw[l5];exact hdf.ev hS hfr.2,by rw[oT];exact hsz,bh,M',λ t s hs=> ?_,?_,?_⟩
 .have hold:∀ s,st.env.lookup t=some s->Rp (· <st.k+nk) bh M' s (a.tmps.getD t undef):=λ s h'=>
   (gL t s h').more (λ n h=>by omega) (λ n h=>hE'.old n λ h'=>by omega) hE'.mem
  simp only[l6,hd] at hs;cases hod:o.dst with
  | none=>rw[hod] at hs;exact hold s hs
  | some d=>
   rw[hod] at hs;simp only at hs;rw[nG] at hs
   by_cases hdt:d=t
   .subst hdt
    simp at hs;subst hs;rw[u_ (by rw[hsz];exact hN d hod)];exact hu
   .rw[if_neg hdt] at hs
    rw[pR (λ e=>hdt e.symm)];exact hold s hs
 .show bR _ _ _ (lk (bU (dh si.op) st.hp F F')) _
  rw[hlk];exact hfr.1
 .show Ev _ _ _ _ _ (lk (bU (dh si.op) st.hp F F')) _ _ _
  rw[hlk];exact(hE.trans hfr.2).uC λ n=>hnew n
theorem iF.skip {N:Nat}{cq:Nat->Nm}{M0:Mem}{w0:World}{c0:Nat->Option Ob}{k0:Nat}{st:St}{a:Act}{w:World}{si:SI}{d:Option Nat}(hd:si.dst=d)(hN:∀ x,d=some x->x<N)
  (fJ:iF N cq M0 w0 c0 k0 st a w):iF N cq M0 w0 c0 k0 (l6 st si ⟨.dL [],[],[],0,True⟩) (a.put d undef) w:=by
 obtain⟨nI,hdf,hsz,μ,M,gL,hS,hE⟩:=fJ;have hh:bU (dh si.op) st.hp [] []=st.hp:=by unfold bU;split<;>rfl
 refine⟨nI,by rw[l5];exact hdf,by rw[oT];exact hsz,μ,M,λ t s hs=> ?_,by simp only[l6,hh];exact hS,by simp only[l6,hh];exact hE⟩;simp only[l6,hd] at hs;cases d with
 | none=>exact gL t s hs
 | some d=>
  simp only at hs;rw[nG] at hs
  by_cases hdt:d=t
  .subst hdt
   simp at hs;subst hs;rw[xK];exact Rp.eP.2 ⟨#[],rfl,aS.aQ.2 rfl⟩
  .rw[if_neg hdt] at hs
   rw[pR (λ e=>hdt e.symm)];exact gL t s hs
def bq (P:Program)(N k0:Nat)(cZ:List SI)(st:St)(K:St->Prop):Prop:=
 ∀ (ops:Array Oper) (i:Nat),i+cZ.length=ops.size->(∀ j si,cZ[j]? =some si->∃ o,ops[i+j]? =some o/\qx P ops o=some si)->(∀ si∈cZ,∀ d,si.dst=some d->d<N)->
  ∀ (rd:Option Nat) (cq:Nat->Nm) (M0:Mem) (w0:World) (c0:Nat->Option Ob) (a:Act) (w:World),iF N cq M0 w0 c0 k0 st a w->∀ Q':Exit->Act->World->Prop,(∀ st' a' w',K st'->iF N cq M0 w0 c0 k0 st' a' w'->Q' .normal a' w')->
   wpOpsIn (jX rd) 0 P ops Q' (List.range' i cZ.length) a w
theorem bq.nil {N k0:Nat}{st:St}{K:St->Prop}(h:K st):bq P N k0 [] st K:=λ ops i _ _ _ rd cq M0 w0 c0 a w fJ Q' hQ=>hQ st a w h fJ
theorem bq.cons {N k0:Nat}{st:St}{K:St->Prop}{si:SI}{r:List SI}
  (h:∀ (ops:Array Oper) (o:Oper),qx P ops o=some si->(∀ d,si.dst=some d->d<N)->∀ (rd:Option Nat) (cq:Nat->Nm) (M0:Mem) (w0:World) (c0:Nat->Option Ob) (a:Act) (w:World),iF N cq M0 w0 c0 k0 st a w->
   ∀ (i:Nat),ops[i]? =some o->∀ (Q':Exit->Act->World->Prop) (KK:Act->World->Prop),(∀ st' a' w',bq P N k0 r st' K->iF N cq M0 w0 c0 k0 st' a' w'->KK a' w')->wpOpIn (jX rd) 0 P ops Q' i KK a w):bq P N k0 (si::r) st K:=by
 intro ops i hl kX hN rd cq M0 w0 c0 a w fJ Q' hQ;obtain⟨o,ho,hc⟩:=kX 0 si rfl;simp only[Nat.add_zero] at ho;rw[List.length_cons,List.range'_succ,wpOpsIn_cons];refine h ops o hc (λ d hd=>hN si (by simp) d hd) rd cq M0 w0 c0 a w fJ i ho Q' _ λ st' a' w' hn hSt'=> ?_
 exact hn ops (i+1) (by simp at hl;omega) (λ j sj hj=>by
  obtain⟨o',ho',hc'⟩:=kX (j+1) sj (by simpa using hj);exact⟨o',by rw[show i+1+j=i+(j+1) by omega];exact ho',hc'⟩) (λ s hs d hd=>hN s (by simp[hs]) d hd) rd cq M0 w0 c0 a' w' hSt' Q' hQ
theorem bq.many {N k0:Nat}{st:St}{K:St->Prop}{si:SI}{r:List SI}{F:Hp}{nk:Nat}{Q:SV->Hp->Prop}(hg:si.g=none)(hq:∀ o:Oper,cO P o.op=some si.op->oh P o (λ t=>st.env.lookup t) (lk st.hp) st.k nk F Q)
  (hro:dh si.op=false) (h:∀ v F',Q v F'->bq P N k0 r (l6 st si ⟨v,F,F',nk,True⟩) K):bq P N k0 (si::r) st K:=by
 refine bq.cons λ ops o hc hN rd cq M0 w0 c0 a w fJ i ho Q' KK FU=> ?_
 obtain⟨g1,g2,g3⟩:=gV hc;have hgn:o.guard=none:=by
  rcases g3 with⟨h,_⟩|⟨j,w,t,h,_,h'⟩
  .exact h
  .rw[hg] at h';cases h'
 unfold wpOpIn;simp only[ho,Region.wanted,hgn,if_true];exact(iF.step g2 (λ d hd=>hN d (by rw[g2];exact hd)) (hq o g1) (λ v F' _ hr=>by rw[hro] at hr;cases hr) fJ λ v F' hQ a' w' hSt'=>FU _ a' w' (h v F' hQ) hSt')
theorem bq.K7 {N k0:Nat}{K:St->Prop}{rest:List SI}:∀ {cZ:List SI} {st st':St} {dK:List CR} {ob:Prop} {ts:List (Bool×List Nat)},Go.Sl.runs P cZ st dK=some (st',ob,ts)->ob->bq P N k0 rest st' K->bq P N k0 (cZ++rest) st K:=by
 intro cZ
 induction cZ with
 | nil=>
  intro st st' dK ob ts h _ hk;simp only[Go.Sl.runs] at h;injection h with h;injection h with h1 _;subst h1;exact hk
 | cons si r ih=>
  intro st st' dK ob ts h bt hk;simp only[Go.Sl.runs] at h
  split at h<;>try (cases h;done)
  rename_i e crs' hop
  split at h<;>try (cases h;done)
  rename_i st2 I1 ts2 hr;injection h with h;injection h with h1 h;injection h with h2 h3;subst h1;subst h2;refine bq.cons λ ops o hc hN rd cq M0 w0 c0 a w fJ i ho Q' KK FU=> ?_
  obtain⟨b1,b2,b3⟩:=qI hc hop bt.1;obtain⟨g1,g2,g3⟩:=gV hc;have hnext:=ih hr bt.2 hk;have hu:l6 st si e=l6 st si ⟨e.v,e.F,e.F',e.nk,True⟩:=rfl;unfold wpOpIn;simp only[ho];obtain⟨nI,hdf,hsz,μ,M,gL,hS,hE⟩:=fJ;have fJ:iF N cq M0 w0 c0 k0 st a w:=⟨nI,hdf,hsz,μ,M,gL,hS,hE⟩;rcases b1 with⟨j,want,t,sv,hg,hd,hE',hb,e1,e2,e3,e4⟩|⟨hg,hs⟩
  .have hv:=gL t _ hE'
   have hw:Region.wanted o (yielded ops a.tmps)=false:=by
    simp only[Region.wanted,hg];unfold mO at hb
    split at hb
    .rw[iN hd (Rp.bF.1 hv)]
     simpa using hb
    .obtain⟨vs,e,hvs⟩:=Rp.eP.1 hv
     have hvs0:vs= #[]:=by have:=aS.aQ.1 hvs;simpa using this
     rw[qF hd (by rw[e,hvs0];rfl)];rfl
    .cases hb
   simp only[hw,Bool.false_eq_true,if_false];obtain⟨v,F,F',nk,eo⟩:=e;simp only at e1 e2 e3 e4;subst e1;subst e2;subst e3;subst e4;exact⟨λ _ _=>trivial,FU _ _ _ hnext (iF.skip g2 (λ d hd=>hN d (by rw[g2];exact hd)) fJ)⟩
  .have hw:Region.wanted o (yielded ops a.tmps)=true:=by
    rcases hg with hg|⟨j,want,t,hg,hd,hE'⟩
    .simp[Region.wanted,hg]
    .have hv:=Rp.bF.1 (gL t _ hE')
     simp only[Region.wanted,hg,iN hd hv];simp
   simp only[hw,if_true];exact(iF.step g2 (λ d hd=>hN d (by rw[g2];exact hd)) hs.q (λ v F' hQ hr=>by rw[hQ.2];exact b2 hr) fJ λ v F' hQ a' w' hSt'=>FU _ a' w' (by rw[hQ.1,hQ.2];exact hnext) hSt')
theorem bq.runs {N k0:Nat}{K:St->Prop}{cZ:List SI}{st st':St}{dK:List CR}{ob:Prop}{ts:List (Bool×List Nat)}(h:Go.Sl.runs P cZ st dK=some (st',ob,ts))(ho:ob)(hk:K st'):bq P N k0 cZ st K:=by
 have:=bq.K7 (N:=N) (k0:=k0) (rest:=[]) h ho (bq.nil hk)
 rwa [List.append_nil] at this
theorem bq.one {N k0:Nat}{K:St->Prop}{si:SI}{r:List SI}{st:St}{e:mH}{c2 dK:List CR}(h1:gd P st si dK=some (e,c2))(bt:e.ob)(h:bq P N k0 r (l6 st si e) K):bq P N k0 (si::r) st K:=
 bq.K7 (cZ:=[si]) (dK:=dK) (st':=l6 st si e) (ob:=e.ob/\True) (ts:=[iC si e]) (by simp only[Go.Sl.runs,h1]) ⟨bt,trivial⟩ h
theorem CY {o:Oper}{E:Nat->Option SV}{H:Nat->Option Ob}{k nk:Nat}{f:X}{args:List X}{fid:FuncId}{first cap as:List SV}{F:Hp}{Q:SV->Hp->Prop}(hc:cO P o.op=some (.call f args))
  (h1:ev E f=some (.fn (.func fid) first cap)) (h2:qu E args=some as) (E_:SC P fid (first++as++cap) F k nk Q) (hsub:∀ n ob,lk F n=some ob->H n=some ob):oh P o E H k nk F Q:=by
 obtain⟨c,fo,hop,bW,hf,ha⟩:=rK hc;exact⟨hsub,λ rd p μ M a w K QQ hnew hk hS hK=>yN hop bW hf ha h1 h2 E_ hnew hk hS hK⟩
theorem SW.Qv {N k0:Nat}{st:St}{cZ:List SI}{K:St->Prop}{st1:St}{ρ:Nat->Nat}(hw:aG k0 st st1 ρ)(h:bq P N k0 cZ st1 K):bq P N k0 cZ st K:=
 λ ops i h1 h2 h3 rd cq M0 w0 c0 a w fJ=>h ops i h1 h2 h3 rd cq M0 w0 c0 a w (fJ.weak hw)
theorem SW.xU {N k0:Nat}{st:St}{Q:Exit->St->Prop}{cZ:List SI}{bs:List Nat}(h:bq P N k0 cZ st (Q .normal)):SW P N k0 (.e_ cZ bs false) st Q:=by
 intro c hc rd hrf cq M0 w0 c0 a w fJ;cases c<;>simp only[cK] at hc<;>first
  | (cases hc;done)
  | (exfalso;split at hc<;>cases hc;done)
  | (exfalso;obtain⟨_,_,h'⟩:=Option.map_eq_some_iff.1 hc;cases h';done)
  | skip
 rename_i id ops draw
 split at hc<;>try (cases hc;done)
 rename_i sis' bs' hreg;injection hc with hc;injection hc with h1 h2 h3;subst h1;subst h3;unfold FA at hreg
 split at hreg<;>try (cases hreg;done)
 rename_i sis2 hsis
 split at hreg<;>try (cases hreg;done)
 rename_i hchk;injection hreg with hreg;injection hreg with hr1 hr2;subst hr1;simp only[Bool.and_eq_true] at hchk;obtain⟨_,hin⟩:=hchk;obtain⟨hlen,kX⟩:=nH hsis;refine wpIn_region ?_;rw[List.range_eq_range'];have hn:ops.size=sis2.length:=by simpa using hlen
 rw[hn];refine h ops 0 (by omega) (λ j si hj=> ?_) (λ si hs d hd=> ?_) rd cq M0 w0 c0 a w fJ _ λ st' a' w' hk hSt'=>⟨st',hk,hSt'⟩
 .have hj':j<ops.size:=by rw[hn];exact(List.getElem?_eq_some_iff.1 hj).1
  obtain⟨si',h1,h2⟩:=kX j ops[j] (by simp[hj']);rw[hj] at h1;injection h1 with h1;subst h1;exact⟨ops[j],by rw[Nat.zero_add];exact Array.getElem?_eq_getElem hj',h2⟩
 .have:=List.all_eq_true.1 hin si hs
  rw[hd] at this
  simpa using this
end
section
variable {P:Program}
theorem HSub.cons {F h:Hp}{n:Nat}{ob:Ob}(h1:lk h n=some ob)(h2:HSub F h):HSub ((n,ob)::F) h:=λ m kR hm=>by
 rw[af] at hm
 split at hm
 .rename_i e;subst e;injection hm with hm;subst hm;exact h1
 .exact h2 m kR hm
theorem wrap_i64 (n:Int)(h: -9223372036854775808<=n/\n<9223372036854775808):IntKind.i64.wrap n=n:=yP n h.1 h.2
theorem jL (n:Int)(h:0<=n/\n<18446744073709551616):IntKind.u64.wrap n=n:=by
 have:=wrap_u64 n.toNat (by omega)
 rwa [show((n.toNat:Nat):Int)=n by omega] at this
theorem wrap_u32' (n:Int)(h:0<=n/\n<4294967296):IntKind.u32.wrap n=n:=by
 have:=wrap_u32 n.toNat (by omega)
 rwa [show((n.toNat:Nat):Int)=n by omega] at this
theorem wrap_u8' (n:Int)(h:0<=n/\n<256):IntKind.u8.wrap n=n:=by
 have:=wrap_u8 n.toNat (by omega)
 rwa [show((n.toNat:Nat):Int)=n by omega] at this
theorem aa:(true == true)=true:=rfl
theorem vD:(false == false)=true:=rfl
theorem Dt.BJ (c:Dt)(a b:Int)(h:0<=a/\0<=b):b_ (b_ c.cells 0 [.d (.int .u8 a)]) 1 [.d (.int .u32 b)]=(Dt.mk a.toNat b.toNat).cells:=by
 have:=Dt.fC c a.toNat b.toNat
 rwa [show((a.toNat:Nat):Int)=a by omega,show((b.toNat:Nat):Int)=b by omega] at this
theorem Dt.BK (c:Dt)(b:Int)(h:0<=b):b_ c.cells 1 [.d (.int .u32 b)]=(Dt.mk c.r b.toNat).cells:=by
 rw[show b=((b.toNat:Nat):Int) by omega];rfl
theorem lG (n k:Nat):(n:Int)+(no_index (OfNat.ofNat k):Int)=((n+OfNat.ofNat k:Nat):Int):=rfl
theorem lH (n k:Nat):(n:Int)+(k:Int)=((n+k:Nat):Int):=rfl
def ak (L:List Nat)(st:St)(R:St->Prop):Prop:=R ⟨st.env.filter (λ x=>L.contains x.1),st.hp,st.k⟩
theorem ak.mk {L:List Nat}{env:List (Nat×SV)}{hp:Hp}{k:Nat}{R:St->Prop}{env':List (Nat×SV)}
  (he:env.filter (λ x=>L.contains x.1)=env':=by (simp only[lT,Nat.zero_add,Nat.reduceAdd,List.filter,List.contains_cons,List.contains_nil,Nat.reduceBEq,Bool.or_false,Bool.or_true,Bool.true_or,Bool.false_or,BEq.rfl,beq_self_eq_true]<;>with_reducible rfl)) (h:R ⟨env',hp,k⟩):ak L ⟨env,hp,k⟩ R:=by
 show R ⟨env.filter _,hp,k⟩;rw[he];exact h
theorem o6 (L : List Nat):∀ (env:List (Nat×SV)) (t:Nat) (s:SV),(env.filter (λ x=>L.contains x.1)).lookup t=some s->env.lookup t=some s
  | [],t,s,h=>by simp at h
  | (u, x) :: env,t,s,h=>by
    simp only[List.filter] at h
    by_cases hu:L.contains u=true
    . rw[hu] at h
      simp only[List.lookup] at h ⊢
      split at h
      . exact h
      . exact o6 L env t s h
    . rw[show L.contains u=false by simpa using hu] at h
      have h2:=o6 L env t s h;simp only[List.lookup]
      by_cases e:t=u
      . subst e
        exfalso
        have:∀ (env:List (Nat×SV)),(env.filter (λ x=>L.contains x.1)).lookup t=none:=by
          intro env
          induction env with
          | nil=>rfl
          | cons y env ih=>
            simp only[List.filter]
            by_cases hy:L.contains y.1=true
            . rw[hy]
              simp only[List.lookup];have:(t == y.1)=false:=by
                simp only[beq_eq_false_iff_ne];intro e;rw[<- e] at hy;exact hu hy
              rw[this];exact ih
            . rw[show L.contains y.1=false by simpa using hy];exact ih
        rw[this] at h;cases h
      . rw[show(t == u)=false by simpa using e];exact h2
theorem SW.di {N k0:Nat}{st:St}{Q:Exit->St->Prop}{cZ:List SI}{bs:List Nat}{draw:Bool}(L:List Nat)(hm:P.follows .mixedOrders=true)(h:RW P cZ st λ st' ts=>(!draw || mA bs ts)=true/\ak L st' (Q .normal)):SW P N k0 (.e_ cZ bs draw) st Q:=by
 have h':RW P cZ st λ st' ts=>(!draw || mA bs ts)=true/\(λ e st'=>∃ st2,Q e st2/\st2=⟨st'.env.filter (λ x=>L.contains x.1),st'.hp,st'.k⟩) Exit.normal st':=by
  obtain⟨dK,st',ob,ts,hr,ho,hn,hk⟩:=h;exact⟨dK,st',ob,ts,hr,ho,hn,_,hk,rfl⟩
 have:=SW.Pr (N:=N) (k0:=k0) (bs:=bs) (draw:=draw) (Q:=λ e st'=>∃ st2,Q e st2/\st2=⟨st'.env.filter (λ x=>L.contains x.1),st'.hp,st'.k⟩) hm h';intro c hc rd hrf cq M0 w0 c0 a w fJ;refine wpIn_mono (this c hc rd hrf cq M0 w0 c0 a w fJ) ?_;rintro e a' w' ⟨st',⟨st2,hq,rfl⟩,hst'⟩;obtain⟨h1,h2,h3,μ,M,h4,h5,h6⟩:=hst';exact⟨_,hq,h1,h2,h3,μ,M,λ t s hl=>h4 t s (o6 L _ t s hl),h5,h6⟩
theorem SW.cut {N k0:Nat}{st:St}{Q:Exit->St->Prop}{x y:bP}(stM:St)(ρ:Nat->Nat)(h1:SW P N k0 x st λ e st'=>match e with | .normal=>aG k0 st' stM ρ|_=>False)(h2:SW P N k0 y stM Q):SW P N k0 (.seq x y) st Q:=by
 refine SW.seq (h1.mono λ e st' h=> ?_);cases e<;>first|exact h.elim|exact SW.weak ρ h h2
section
variable {cZ rest r:List SI} {st st':St} {ob:Prop} {ts:List (Bool×List Nat)} {K:St->List (Bool×List Nat)->Prop}
theorem gZ0{p:Prop}(h:p:=by
   intro φ;simp(disch:=omega) only[Go.Sl.seg,lT,gX,fA,dI,ev,qu,zK,l6,List.lookup,Nat.reduceBEq,Nat.reduceAdd,Nat.reduceMul,Nat.zero_add,SV.cells,if_true,if_false,reduceIte,Bool.false_eq_true,dh,bU,de,dg,gf,gJ,c_,lk,List.filter,Nat.reduceBNe,bne_self_eq_false,eq_self,Bq,zJ,gC,wY,wZ,Fj,ay.cells_one,BEq.rfl,beq_self_eq_true,Bool.true_or,Nat.reduceEqDiff,List.map_cons,List.map_nil,List.nil_append,List.cons_append,List.append_nil,Int.toNat_natCast,Nat.mul_one,Nat.add_zero,jb,ja,kS,iP,iQ,iR,iS,iT,iU,kT,Option.isSome_some,Option.isSome_none,Option.isNone_some,Option.isNone_none,Nat.zero_ne_one,Nat.one_ne_zero,Bool.and_false,Bool.and_true,List.drop_zero,ay.aM,ay.bk,ay.bB,Dt.cells_one,Dt.bk,Dt.Bz,Dt.BA,Dt.bB,Dt.aM,Dt.BJ,Dt.BK,nB,fF,w_,uZ,List.all_cons,List.all_nil,SV.dX,Int.cast_ofNat_Int,Int.reduceBNe,Int.reduceBEq,Int.reduceLT,Int.reduceLE,Int.reduceGT,Int.reduceGE,nM,vk,vm,Bool.not_true,Bool.not_false,Bool.or_false,Bool.or_true,Bool.false_or,Bool.or_self,ay.qL,ay.BB,ay.vi,ay.vj,ay.dM,ay.dN,Dt.qL,Dt.BC,Dt.dM,Dt.dN,List.all_append,ay.Ai,Dt.rj,Bool.cond_true,Bool.cond_false,wrap_i64,jL,wrap_u32',wrap_u8',aa,vD,lG,lH,Int.reduceToNat,List.length_nil,List.getElem?_cons_zero,List.getElem?_cons_succ,List.take_succ_cons,List.take_zero,List.drop_succ_cons,decide_true,decide_false,Bool.true_and,Bool.and_self,Bool.false_and,nO,nP,lz,lB,jK,MM.eL,lC,oZ,nV,nY,nT,nW,nU,nX,nR,nS,ag.cells_one,ag.bk,ag.lE,ag.BD,ag.vt,ag.BE,ag.lF,ag.vu,ag.vv,ag.L9,ag.iV,ag.iW,ag.qM,ag.L_,ag.BF,ag.vw,ag.BG,ag.qN,ag.qO,ag.vz,ag.vA,ag.bB,ag.aM,Cr.cells_one,Cr.bk,Cr.lE,Cr.lF,Cr.BI,Cr.vC,Cr.iV,Cr.iW,Cr.qM,Cr.qP,Cr.bB,Cr.aM,Cr.rj,nZ,n9,n_,od,Sp.cells_one,Sp.bk,Sp.lE,Sp.gN,Sp.bB,Sp.aM,Sp.fC,Sp.rj,og,oe,φ]
   with_reducible rfl):p:=h
theorem gZ1{p:Prop}(h:p:=by (intro φ;simp only[φ,dh,bU,de,dg,gf,gJ,c_,lk,List.lookup,Nat.reduceBEq,BEq.rfl,beq_self_eq_true,if_true,if_false,reduceIte,Nat.reduceEqDiff,Bool.false_eq_true,Option.isSome_some,Option.isSome_none]<;>with_reducible rfl)):p:=h
theorem gZ2{p:Prop}(h:p:=by first|trivial|(repeat' (first|exact trivial|omega|apply Zq|(simp[-List.length_flatMap,-Int.natCast_add];done)|(simp[-List.length_flatMap,-Int.natCast_add]<;>omega)))):p:=h
theorem gZ3{p:Prop}(h:p:=by intro φ;simp[Go.Sl.aG,aJ,sV,FF,SV.aC,SV.aN,SV.ok,SV.ax,Ob.aC,Ob.ok,lk,List.lookup,ay.aq,Dt.aq,SV.dy,SV.aW,SV.l7,SV.lg,ay.ah,fc,bL,vq,yS,lT,φ]):p:=h
theorem RW.ro {d:Nat}{op:SO}{g:Option (Nat×Bool)}{env:List (Nat×SV)}{hp F F':Hp}{k:Nat}{v:SV}{nk:Nat}{ob:Prop}{Φ:Prop}(φ:Φ)
  (hr:dh op=true:=by rfl) (hc:gX op=false:=by rfl) (hb:xT op=false:=by rfl)
  (hg:g=none\/∃ t w,g=some (t,w)/\env.lookup t=some (.d (.bool w)):=by first|exact .inl rfl|exact .inr ⟨_,_,rfl,rfl⟩)
  (he:Φ->fA P ⟨env,hp,k⟩ op []=some (⟨v,F,F',nk,ob⟩,[]):=by exact gZ0)
  (bt:ob:=by exact gZ2)
  (hk:nk=0:=by rfl)
  (h:RW P r ⟨(d,v)::env,hp,k⟩ λ st' ts=>K st' ((true,F.map (·.1)++F'.map (·.1))::ts)):RW P (⟨some d,op,g⟩::r) ⟨env,hp,k⟩ K:=RW.FP hr hc hb hg (he φ) bt hk h
theorem RW.op {d:Nat}{op:SO}{g:Option (Nat×Bool)}{env:List (Nat×SV)}{hp oL F F':Hp}{k k':Nat}{v:SV}{nk:Nat}{ob:Prop}{Φ:Prop}(φ:Φ)
  (hc:gX op=false:=by rfl)
  (hg:g=none\/∃ t w,g=some (t,w)/\env.lookup t=some (.d (.bool w)):=by first|exact .inl rfl|exact .inr ⟨_,_,rfl,rfl⟩)
  (he:Φ->fA P ⟨env,hp,k⟩ op []=some (⟨v,F,F',nk,ob⟩,[]):=by exact gZ0)
  (bt:ob:=by exact gZ2)
  (hh:Φ->bU (dh op) hp F F'=oL:=by exact gZ1)
  (hk:k+nk=k':=by first|(simp only[Nat.add_zero,Nat.reduceAdd]<;>rfl)|rfl)
  (h:RW P r ⟨(d,v)::env,oL,k'⟩ λ st' ts=>K st' ((dh op,F.map (·.1)++F'.map (·.1))::ts)):RW P (⟨some d,op,g⟩::r) ⟨env,hp,k⟩ K:=RW.FQ hc hg (he φ) bt (hh φ) hk h
theorem RW.dV {op:SO}{g:Option (Nat×Bool)}{env:List (Nat×SV)}{hp oL F F':Hp}{k k':Nat}{v:SV}{nk:Nat}{ob:Prop}{Φ:Prop}(φ:Φ)
  (hc:gX op=false:=by rfl)
  (hg:g=none\/∃ t w,g=some (t,w)/\env.lookup t=some (.d (.bool w)):=by first|exact .inl rfl|exact .inr ⟨_,_,rfl,rfl⟩)
  (he:Φ->fA P ⟨env,hp,k⟩ op []=some (⟨v,F,F',nk,ob⟩,[]):=by exact gZ0)
  (bt:ob:=by exact gZ2)
  (hh:Φ->bU (dh op) hp F F'=oL:=by exact gZ1)
  (hk:k+nk=k':=by first|(simp only[Nat.add_zero,Nat.reduceAdd]<;>rfl)|rfl)
  (h:RW P r ⟨env,oL,k'⟩ λ st' ts=>K st' ((dh op,F.map (·.1)++F'.map (·.1))::ts)):RW P (⟨none,op,g⟩::r) ⟨env,hp,k⟩ K:=RW.FQ hc hg (he φ) bt (hh φ) hk h
theorem RW.lit {d:Nat}{e sz len:Nat}{z:List SV}{parts:List (Nat×Nat×X)}{g:Option (Nat×Bool)}{env:List (Nat×SV)}{hp oL F F':Hp}{k k':Nat}{v:SV}{nk:Nat}{ob:Prop}{Φ:Prop}(φ:Φ)
  (hg:g=none\/∃ t w,g=some (t,w)/\env.lookup t=some (.d (.bool w)):=by first|exact .inl rfl|exact .inr ⟨_,_,rfl,rfl⟩)
  (he:Φ->fA P ⟨env,hp,k⟩ (.mK e sz len z parts) [.own]=some (⟨v,F,F',nk,ob⟩,[]):=by exact gZ0)
  (bt:ob:=by exact gZ2)
  (hh:Φ->bU false hp F F'=oL:=by exact gZ1)
  (hk:k+nk=k':=by first|(simp only[Nat.add_zero,Nat.reduceAdd]<;>rfl)|rfl)
  (h:RW P r ⟨(d,v)::env,oL,k'⟩ λ st' ts=>K st' ((false,F.map (·.1)++F'.map (·.1))::ts)):RW P (⟨some d,.mK e sz len z parts,g⟩::r) ⟨env,hp,k⟩ K:=RW.Jm hg (he φ) bt (hh φ) hk h
theorem RW.skip {d:Nat}{op:SO}{t:Nat}{w:Bool}{env:List (Nat×SV)}{hp:Hp}{k:Nat}{s:SV}
  (hg:env.lookup t=some s:=by rfl) (hs:mO w s=true:=by rfl)
  (h:RW P r ⟨(d,.dL [])::env,hp,k⟩ λ st' ts=>K st' ((dh op,[])::ts)):RW P (⟨some d,op,some (t,w)⟩::r) ⟨env,hp,k⟩ K:=RW.FR hg hs h
theorem RW.br {op:SO}{t:Nat}{w:Bool}{env:List (Nat×SV)}{hp:Hp}{k:Nat}{s:SV}
  (hg:env.lookup t=some s:=by rfl) (hs:mO w s=true:=by rfl)
  (h:RW P r ⟨env,hp,k⟩ λ st' ts=>K st' ((dh op,[])::ts)):RW P (⟨none,op,some (t,w)⟩::r) ⟨env,hp,k⟩ K:=RW.DU hg hs h
def aj (P:Program)(fid:FuncId)(as':List SV)(d:Option Nat)(r:List SI)(env:List (Nat×SV))(hp:Hp)(k:Nat)(K:St->List (Bool×List Nat)->Prop):Prop:=
 ∃ F F' v nk,aH P fid as' F k nk v F'/\HSub F hp/\RW P r ⟨rR d v env,bU false hp F F',k+nk⟩ λ st' ts=>K st' ((false,F.map (·.1)++F'.map (·.1))::ts)
theorem RW.bC {d:Option Nat}{f:X}{args:List X}{g:Option (Nat×Bool)}{fid:FuncId}{as first cap as':List SV}{env:List (Nat×SV)}{hp:Hp}{k:Nat}
  (hf:ev (λ t=>env.lookup t) f=some (.fn (.func fid) first cap):=by (simp only[ev,List.lookup,Nat.reduceBEq]<;>rfl))
  (ha:qu (λ t=>env.lookup t) args=some as:=by (simp only[ev,qu,List.lookup,Nat.reduceBEq]<;>rfl))
  (has:first++as++cap=as':=by first|(simp only[List.nil_append,List.cons_append,List.append_nil]<;>rfl)|rfl)
  (hg:g=none\/∃ t w,g=some (t,w)/\env.lookup t=some (.d (.bool w)):=by first|exact .inl rfl|exact .inr ⟨_,_,rfl,rfl⟩)
  (h:aj P fid as' d r env hp k K):RW P (⟨d,.call f args,g⟩::r) ⟨env,hp,k⟩ K:=by
 obtain⟨F,F',v,nk,hc,hs,h⟩:=h;exact RW.FT hf ha has hc hs hg h
theorem aj.mk {fid:FuncId}{as':List SV}{F F' oL:Hp}{v v':SV}{nk k':Nat}{d:Nat}{env:List (Nat×SV)}{hp:Hp}{k:Nat}{Φ:Prop}(φ:Φ)
  (hs:HSub F hp:=by first|exact HSub.nil _|(repeat (first|exact HSub.nil _|refine HSub.cons (by rfl) ?_)))
  (hc:aH P fid as' F k nk v F')
  (hv:Φ->v=v':=by intro φ;first|((simp only[φ])<;>with_reducible rfl)|with_reducible rfl)
  (hh:Φ->bU false hp F F'=oL:=by exact gZ1)
  (hk:k+nk=k':=by first|(simp only[Nat.add_zero,Nat.reduceAdd]<;>rfl)|rfl)
  (h:RW P r ⟨(d,v')::env,oL,k'⟩ λ st' ts=>K st' ((false,F.map (·.1)++F'.map (·.1))::ts)):aj P fid as' (some d) r env hp k K:=⟨F,F',v,nk,hc,hs,by rw[hv φ,hh φ,hk];exact h⟩
end
section
variable {N k0:Nat} {r:List SI} {K:St->Prop}
theorem bq.op {d:Nat}{op:SO}{g:Option (Nat×Bool)}{env:List (Nat×SV)}{hp oL F F':Hp}{k k':Nat}{v:SV}{nk:Nat}{ob:Prop}{Φ:Prop}(φ:Φ)
  (hg:g=none\/∃ t w,g=some (t,w)/\env.lookup t=some (.d (.bool w)):=by first|exact .inl rfl|exact .inr ⟨_,_,rfl,rfl⟩)
  (he:Φ->fA P ⟨env,hp,k⟩ op []=some (⟨v,F,F',nk,ob⟩,[]):=by exact gZ0)
  (bt:ob:=by exact gZ2)
  (hh:Φ->bU (dh op) hp F F'=oL:=by exact gZ1)
  (hk:k+nk=k':=by first|(simp only[Nat.add_zero,Nat.reduceAdd]<;>rfl)|rfl)
  (h:bq P N k0 r ⟨(d,v)::env,oL,k'⟩ K):bq P N k0 (⟨some d,op,g⟩::r) ⟨env,hp,k⟩ K:=by
 refine bq.one (fW hg (he φ)) bt ?_;rw[iX,hh φ,hk];exact h
theorem bq.dV {op:SO}{g:Option (Nat×Bool)}{env:List (Nat×SV)}{hp oL F F':Hp}{k k':Nat}{v:SV}{nk:Nat}{ob:Prop}{Φ:Prop}(φ:Φ)
  (hg:g=none\/∃ t w,g=some (t,w)/\env.lookup t=some (.d (.bool w)):=by first|exact .inl rfl|exact .inr ⟨_,_,rfl,rfl⟩)
  (he:Φ->fA P ⟨env,hp,k⟩ op []=some (⟨v,F,F',nk,ob⟩,[]):=by exact gZ0)
  (bt:ob:=by exact gZ2)
  (hh:Φ->bU (dh op) hp F F'=oL:=by exact gZ1)
  (hk:k+nk=k':=by first|(simp only[Nat.add_zero,Nat.reduceAdd]<;>rfl)|rfl)
  (h:bq P N k0 r ⟨env,oL,k'⟩ K):bq P N k0 (⟨none,op,g⟩::r) ⟨env,hp,k⟩ K:=by
 refine bq.one (fW hg (he φ)) bt ?_;rw[iX,hh φ,hk];exact h
theorem bq.skip {d:Nat}{op:SO}{t:Nat}{w:Bool}{env:List (Nat×SV)}{hp:Hp}{k:Nat}{s:SV}
  (hg:env.lookup t=some s:=by rfl) (hs:mO w s=true:=by rfl)
  (h:bq P N k0 r ⟨(d,.dL [])::env,hp,k⟩ K):bq P N k0 (⟨some d,op,some (t,w)⟩::r) ⟨env,hp,k⟩ K:=by
 have hh:bU (dh op) hp [] []=hp:=by unfold bU;split<;>rfl
 refine bq.one (e:=⟨.dL [],[],[],0,True⟩) (dK:=[]) (c2:=[]) ?_ trivial ?_
 .unfold mO at hs
  split at hs
  .simp only[gd,hg];rw[if_neg (by simpa using hs)]
  .simp only[gd,hg]
  .cases hs
 .rw[iX]
  show bq P N k0 r ⟨(d,.dL [])::env,bU (dh op) hp [] [],k+0⟩ _;rw[hh];exact h
theorem bq.bC {d:Nat}{f:X}{args:List X}{fid:FuncId}{as first cap as':List SV}{env:List (Nat×SV)}{hp F:Hp}{k nk:Nat}{Q:SV->Hp->Prop}
  (hsc:SC P fid as' F k nk Q) (hs:HSub F hp)
  (hf:ev (λ t=>env.lookup t) f=some (.fn (.func fid) first cap):=by (simp only[ev,List.lookup,Nat.reduceBEq]<;>rfl))
  (ha:qu (λ t=>env.lookup t) args=some as:=by (simp only[ev,qu,List.lookup,Nat.reduceBEq]<;>rfl))
  (has:first++as++cap=as':=by first|(simp only[List.nil_append,List.cons_append,List.append_nil]<;>rfl)|rfl)
  (h:∀ v F',Q v F'->bq P N k0 r ⟨(d,v)::env,bU false hp F F',k+nk⟩ K):bq P N k0 (⟨some d,.call f args,none⟩::r) ⟨env,hp,k⟩ K:=by
 refine bq.many (st:=⟨env,hp,k⟩) rfl (λ o hc=>CY hc hf ha (by rw[has];exact hsc) hs) rfl λ v F' hq=> ?_
 rw[iX];exact h v F' hq
theorem bq.o7 {d:Nat}{f:X}{args:List X}{fid:FuncId}{as first cap as':List SV}{env:List (Nat×SV)}{hp oL F F':Hp}{k k' nk:Nat}{v v':SV}{Φ:Prop}(φ:Φ)
  (hsc:aH P fid as' F k nk v F')
  (hs:HSub F hp:=by first|exact HSub.nil _|(repeat (first|exact HSub.nil _|refine HSub.cons (by rfl) ?_)))
  (hf:ev (λ t=>env.lookup t) f=some (.fn (.func fid) first cap):=by (simp only[ev,List.lookup,Nat.reduceBEq]<;>rfl))
  (ha:qu (λ t=>env.lookup t) args=some as:=by (simp only[ev,qu,List.lookup,Nat.reduceBEq]<;>rfl))
  (has:first++as++cap=as':=by first|(simp only[List.nil_append,List.cons_append,List.append_nil]<;>rfl)|rfl)
  (hv:Φ->v=v':=by intro φ;first|((simp only[φ])<;>with_reducible rfl)|with_reducible rfl)
  (hh:Φ->bU false hp F F'=oL:=by exact gZ1)
  (hk:k+nk=k':=by first|(simp only[Nat.add_zero,Nat.reduceAdd]<;>rfl)|rfl)
  (h:bq P N k0 r ⟨(d,v')::env,oL,k'⟩ K):bq P N k0 (⟨some d,.call f args,none⟩::r) ⟨env,hp,k⟩ K:=by
 refine bq.many (st:=⟨env,hp,k⟩) rfl (λ o hc=>CY hc hf ha (by rw[has];exact hsc) hs) rfl λ w G hq=> ?_
 obtain⟨rfl,rfl⟩:=hq;rw[iX];obtain rfl:=hv φ;obtain rfl:=hh φ;obtain rfl:=hk;exact h
end
theorem SB.mono {f:FuncId}{args:List SV}{F:Hp}{k nk:Nat}{Q Q':SV->Hp->Prop}(h:SB P f args F k nk Q)(hq:∀ r F,Q r F->Q' r F):SB P f args F k nk Q':=
 ⟨h.1,h.2.1,h.2.2.1,λ μ M w vals h1 h2=>(h.2.2.2 μ M w vals h1 h2).mono λ _ _ ⟨r,F',bh,M',u,e,hQ,x⟩=>⟨r,F',bh,M',u,e,hq r F' hQ,x⟩⟩
theorem SB.args {f:FuncId}{args args':List SV}{F:Hp}{k nk:Nat}{Q:SV->Hp->Prop}(h:SB P f args F k nk Q)(hok:SV.ax (λ n=>decide (n<k)) args'=true)
  (ha:∀ (p:Nat->Prop) (μ:Nat->Nm) (M:Mem) (vs:List Value),aS p μ M args' vs->aS p μ M args vs):SB P f args' F k nk Q:=
 ⟨h.1,hok,h.2.2.1,λ μ M w vals h1 h2=>h.2.2.2 μ M w vals (ha _ μ M _ h1) h2⟩
theorem End.mk {k nk:Nat}{rM:List RV}{Q:SV->Hp->Prop}{st:St}{ss:List SV}{ob:Prop}(F':Hp)
  (h1:Fb st rM=some (ss,ob):=by rfl)
  (h2:ob:=by simp[zJ])
  (h3:HSub F' st.hp:=by first|exact HSub.nil _|(repeat (first|exact HSub.nil _|refine HSub.cons (by rfl) ?_)))
  (h4:Q (fB ss) F')
  (h5:(fB ss).ok (λ n=>decide (n<k+nk))=true:=by first|rfl|simp[fB,SV.ok,SV.ax,ay.ah,SV.aW])
  (h6:F'.ok (λ n=>decide (n<k+nk))=true:=by first|rfl|simp[Hp.ok,Ob.ok,SV.ok,SV.ax,ay.ah,SV.aW])
  (h7:k+nk<=st.k:=by simp):Go.Sl.Fin k nk rM Q st:=⟨ss,ob,F',h1,h2,h3,h4,h5,h6,h7⟩
theorem SW.ai {N k0:Nat}{st:St}{Q:Exit->St->Prop}{x:X}{y z:bP}(hx:ev (λ t=>st.env.lookup t) x=some (.d (.bool true)))(h1:SW P N k0 y st Q):SW P N k0 (.cond x y z) st Q:=
 SW.cond hx (λ _=>h1) (λ h=>by cases h)
theorem SW.an {N k0:Nat}{st:St}{Q:Exit->St->Prop}{x:X}{y z:bP}(hx:ev (λ t=>st.env.lookup t) x=some (.d (.bool false)))(h1:SW P N k0 z st Q):SW P N k0 (.cond x y z) st Q:=
 SW.cond hx (λ h=>by cases h) (λ _=>h1)
theorem SW.j6 {N k0:Nat}{st:St}{Q:Exit->St->Prop}{α:Type}{x:bP}(I:α->St)(m:α->Nat)(i0:α)(L7:Nat->Nat){Φ:Prop}(φ:Φ)
  (h0:Φ->aG k0 st (I i0) L7:=by exact gZ3)
  (round:∀ i,SW P N k0 x (I i) λ e st'=>match e with | .normal=>∃ j ρ,m j<m i/\aG k0 st' (I j) ρ|e=>Q e st'):SW P N k0 (.loop x) st Q:=SW.loop I m i0 L7 (h0 φ) round
theorem aG.mk {k0:Nat}{st st1:St}{ρ:Nat->Nat}{Φ:Prop}(φ:Φ)(h0:Φ->aG k0 st st1 ρ:=by exact gZ3):aG k0 st st1 ρ:=h0 φ
theorem Next.mk {k0:Nat}{st':St}{α:Type}{I:α->St}{m:α->Nat}{i:α}(j:α)(ρ:Nat->Nat){Φ:Prop}(φ:Φ)
  (hm:m j<m i:=by first|omega|(simp;done)|(simp;omega))
  (h0:Φ->aG k0 st' (I j) ρ:=by exact gZ3):∃ j ρ,m j<m i/\aG k0 st' (I j) ρ:=⟨j,ρ,hm,h0 φ⟩
end
end Go.Sl
namespace Go.Sl
open Go.RowKit
section
set_option maxHeartbeats 1000000
variable {P:Program}
theorem ez {n:Nat}{ob:Ob}{h:Hp}:lk ((n,ob)::h) n=some ob:=by rw[af,if_pos rfl]
theorem bI {n m:Nat}{ob:Ob}{h:Hp}(e:m≠n):lk ((n,ob)::h) m=lk h m:=by rw[af,if_neg e]
mutual
theorem SV.fD {q q':Nat->Bool}(h:∀ n,q n=true->q' n=true):∀ s:SV,s.ok q=true->s.ok q'=true
 | .d _,_=>rfl
 | .ptr n _,hs=>h n hs
 | .gs n _,hs=>h n hs
 | .vp _ _,_=>rfl
 | .bs n _ _,hs=>h n hs
 | .mp n,hs=>h n hs
 | .it n,hs=>h n hs
 | .yl n,hs=>h n hs
 | .fn _ a c,hs=>by
  simp only[SV.ok,Bool.and_eq_true] at hs ⊢;exact⟨SV.j7 h a hs.1,SV.j7 h c hs.2⟩
 | .agg cs,hs=>SV.j7 h cs hs
 | .dL cs,hs=>SV.j7 h cs hs
 | .any,_=>rfl
theorem SV.j7 {q q':Nat->Bool}(h:∀ n,q n=true->q' n=true):∀ s:List SV,SV.ax q s=true->SV.ax q' s=true
 | [],_=>rfl
 | c::cs,hs=>by
  simp only[SV.ax,Bool.and_eq_true] at hs ⊢;exact⟨SV.fD h c hs.1,SV.j7 h cs hs.2⟩
end
theorem FV {k nk K:Nat}{F hp F':Hp}{μ yI:Nat->Nm}{M M1:Mem}{w w':World}(wV:bR (· <K) yI M1 (lk hp) w')(oE:Ev (lk F) (λ n=>k<=n/\n<K) μ M w (lk hp) yI M1 w')
    (h3:HSub F' hp) (h6:F'.ok (λ n=>decide (n<k+nk))=true):
    bR (· <k+nk) (λ n=>if n<k+nk then yI n else μ n) M1 (lk F') w'/\Ev (lk F) (λ n=>k<=n/\n<k+nk) μ M w (lk F') (λ n=>if n<k+nk then yI n else μ n) M1 w':=by
  refine⟨⟨wV.mem,λ n ob hn=> ?_,λ n m hn hm ln lm e=> ?_⟩,⟨λ n hn=> ?_,oE.mem,oE.frame,oE.size,λ n hn=> ?_,oE.os,oE.tape,oE.output⟩⟩
  . obtain⟨a1,a2⟩:=Hp.fu h6 hn
    simp only[decide_eq_true_eq] at a1;obtain⟨_,b1,b2⟩:=wV.obs n ob (h3 n ob hn);simp only[if_pos a1];refine⟨a1,?_,b2⟩;have hb':bZ (· <K) (λ n=>yI (id n)) M1 w' (yI n) (ob.aC id):=by rw[Ob.oV];exact b1
    exact bZ.to a2 (λ m hm=>by simpa using hm) (λ m hm=>by simp only[decide_eq_true_eq] at hm;simp[hm]) hb'
  . obtain⟨o1,ho1⟩:=Option.ne_none_iff_exists'.1 hn
    obtain⟨o2,ho2⟩:=Option.ne_none_iff_exists'.1 hm;have a1:=(Hp.fu h6 ho1).1;have a2:=(Hp.fu h6 ho2).1;simp only[decide_eq_true_eq] at a1 a2;rw[if_pos a1] at e ln;rw[if_pos a2] at e lm;exact wV.inj n m (by rw[h3 n o1 ho1];simp) (by rw[h3 m o2 ho2];simp) ln lm e
  . by_cases hnk:n<k+nk
    . simp only[if_pos hnk]
      by_cases hK:k<=n
      . exact absurd ⟨hK,hnk⟩ hn
      . exact oE.old n (λ hh=>hK hh.1)
    . simp only[if_neg hnk]
  . obtain⟨o1,ho1⟩:=Option.ne_none_iff_exists'.1 hn
    have a1:=(Hp.fu h6 ho1).1;simp only[decide_eq_true_eq] at a1;simp only[if_pos a1];rcases oE.names n (by rw[h3 n o1 ho1];simp) with⟨b1,b2⟩|⟨b1,b2⟩
    . exact .inl ⟨⟨b1.1,a1⟩,b2⟩
    . exact .inr ⟨λ hh=>b1 ⟨hh.1,by
        by_cases hK:n<K
        . exact hK
        . exact absurd (wV.obs n o1 (h3 n o1 ho1)).1 hK⟩,b2⟩
theorem Al {p:Nat->Prop}{μ:Nat->Nm}{M:Mem}:∀ (ps:List Nat) (args:List SV) (vals:List Value) (tm:Array Value) (env:List (Nat×SV)),aS p μ M args vals->ps.length=args.length->
  (∀ t s,env.lookup t=some s->Rp p μ M s (tm.getD t undef))->(∀ q,q∈ps->q<tm.size)->
  ∀ t s,((ps.zip args).reverse++env).lookup t=some s->Rp p μ M s (((ps.zip vals).foldl (λ tmps (x:Nat×Value)=>tmps.setIfInBounds x.1 x.2) tm).getD t undef)
 | [],args,vals,tm,env,hr,hl,he,hq,t,s,h=>by simpa using he t s (by simpa using h)
 | q::ps,[],vals,tm,env,hr,hl,he,hq,t,s,h=>by simp at hl
 | q ::ps,x::args,vals,tm,env,hr,hl,he,hq,t,s,h=>by
  obtain⟨u,us,rfl,h1,h2⟩:=aS.aD.1 hr;simp only[List.zip_cons_cons,List.reverse_cons,List.append_assoc,List.singleton_append] at h;simp only[List.zip_cons_cons,List.foldl_cons];refine Al ps args us (tm.setIfInBounds q u) ((q,x)::env) h2 (by simpa using hl) (λ t' s' h'=> ?_) (λ q' hq'=>by simpa using hq q' (by simp[hq'])) t s h;have hqs:=hq q (by simp);simp only[List.lookup] at h'
  split at h'
  .rename_i e
   have e:t'=q:=by simpa using e
   subst e;injection h' with h';subst h';have:(tm.setIfInBounds t' u).getD t' undef=u:=by simp[Array.getD,hqs]
   rw[this];exact h1
  .rename_i e
   have e:t'≠q:=by simpa using e
   have:(tm.setIfInBounds q u).getD t' undef=tm.getD t' undef:=by
    simp[Array.getD_eq_getD_getElem?,Array.getElem?_setIfInBounds_ne (Ne.symm e)]
   rw[this];exact he t' s' h'
theorem xV:∀ (xs:List (Nat×Value)) (tm:Array Value),(xs.foldl (λ tmps (x:Nat×Value)=>tmps.setIfInBounds x.1 x.2) tm).size=tm.size
 | [],tm=>rfl
 | x::xs,tm=>by simp[xV xs]
def Left:Exit->Option Code->Bool->Prop
 | .normal,pe,b=>pe=none/\b=true
 | .ret,pe,b=>pe=some .ret/\b=false
 | .exit id,pe,b=>pe=some (.exit id)/\b=false
 | _,_,_=>False
def mQ (pe:Option Code):LoopState:=if pe.isNone then .ready else .done
def Qw (nl N:Nat)(ts:List Nat)(cs:List SV)(ps:List Nat)(ca cb:Code)(k nk:Nat)(Q:SV->Hp->Prop)(e:Exit)(st2:St):Prop:=
 ∃ pe b F',Left e pe b/\HSub F' st2.hp/\F'.ok (λ n=>decide (n<k+nk))=true/\k+nk<=st2.k/\Q (.d (.bool b)) ((nl,.qo N ts cs ps ca cb (mQ pe) pe)::F')
theorem vE {p:Nat->Prop}{μ:Nat->Nm}{M:Mem}{f:Nat->Value}:∀ {ts:List Nat} {cs:List SV},aS p μ M cs (ts.map f)->∀ t s,(ts.zip cs).lookup t=some s->Rp p μ M s (f t)
 | [],_,_,t,s,h=>by simp at h
 | t'::ts,[],_,t,s,h=>by simp at h
 | t'::ts,c::cs,hr,t,s,h=>by
  obtain⟨u,us,e,h1,h2⟩:=aS.aD.1 hr;injection e with e1 e2;subst e1;subst e2;simp only[List.zip_cons_cons,List.lookup] at h
  split at h
  .rename_i e
   have e:t=t':=by simpa using e
   injection h with h;subst h;subst e;exact h1
  .exact vE h2 t s h
theorem Fa.uI {nl N k nk:Nat}{ts:List Nat}{cs:List SV}{ps:List Nat}{ca cb:Code}{sa sb:bP}{args:List SV}{H:Hp}{Q:SV->Hp->Prop}
    (hca:cK P N ca=some sa) (hcb:cK P N cb=some sb) (Qx:sa.rf=false) (hrb:sb.rf=false) (hlen:ps.length=args.length) (Qy:∀ q,q∈ps->q<N) (hnl:nl<k) (hH:lk H nl=none)
    (hargs:SV.ax (λ n=>decide (n<k)) args=true) (Qz:H.ok (λ n=>decide (n<k))=true) (hcs:SV.ax (λ n=>decide (n<k)) cs=true)
    (h:SW P N k sa ⟨(ps.zip args).reverse++ts.zip cs,H,k⟩ λ e st1=>e= .normal/\SW P N k sb st1 (Qw nl N ts cs ps ca cb k nk Q)):
    Fa P nl args ((nl,.qo N ts cs ps ca cb .ready none)::H) k nk Q:=by
  refine⟨hargs,by simp only[Hp.ok,List.all_cons,Ob.ok,hcs,Bool.and_eq_true];exact⟨by simpa using hnl,Qz⟩,λ μ M w vals hr hS=> ?_⟩;obtain⟨_,⟨hlive,r,hb,hcsr,hN,hps,has,hbd,hst,hpe⟩,hMn⟩:=hS.obs nl _ ez;generalize hl:(μ nl).blk=l at*;have hMn:=hMn hlive;have hsub:∀ n ob,lk H n=some ob->lk ((nl,.qo N ts cs ps ca cb .ready none)::H) n=some ob:=λ n ob hn=>by
    rw[bI (λ e=>by rw[e,hH] at hn;cases hn)];exact hn
  have hSH:bR (· <k) μ M (lk H) w:=hS.sub hsub;have hltl:l<w.heap.size:=(Array.getElem?_eq_some_iff.1 hb).1;have hnot:∀ n,lk H n≠none->(μ n).live=true->(μ n).blk≠l:=λ n hn ln e=>by
    obtain⟨ob,ho⟩:=Option.ne_none_iff_exists'.1 hn;have:=hS.inj n nl (by rw[hsub n ob ho];simp) (by rw[ez];simp) ln hlive (by rw[hl];exact e);subst this;rw[hH] at hn;exact hn rfl
  have hvs:vals.size=r.params.size:=by
    have h1:vals.size=args.length:=by simpa using hr.length
    have h2:r.params.size=ps.length:=by rw[<- hps];simp
    omega
  refine⟨_,_,_,_,run_yield hb hvs,roundIn_of_wpIn trivial ?_⟩;have hfold:(r.params.zip vals).foldl (λ tmps (x:Nat×Value)=>tmps.setIfInBounds x.1 x.2) r.tmps=(ps.zip vals.toList).foldl (λ tmps (x:Nat×Value)=>tmps.setIfInBounds x.1 x.2) r.tmps:=by
    rw[<- hps,<- Array.foldl_toList,Array.toList_zip]
  have fJ:iF N μ M w (lk H) k ⟨(ps.zip args).reverse++ts.zip cs,H,k⟩ { tmps:=(ps.zip vals.toList).foldl (λ tmps (x:Nat×Value)=>tmps.setIfInBounds x.1 x.2) r.tmps,defers:=[]} w:=by
    refine⟨Nat.le_refl _,trivial,by rw[xV];exact hN,μ,M,?_,hSH,Ev.refl _ _ _ _ _ λ n hn hh=>absurd hh.2 (Nat.not_lt.2 hh.1)⟩;exact Al ps args vals.toList r.tmps (ts.zip cs) hr hlen (vE (f:=λ t=>r.tmps.getD t undef) hcsr) (λ q hq=>by rw[hN];exact Qy q hq)
  have hfold':(r.params.zip vals).foldl (λ tmps (x:Tmp×Value)=>match x with|(t,a)=>tmps.setIfInBounds t a) r.tmps=(ps.zip vals.toList).foldl (λ tmps (x:Nat×Value)=>tmps.setIfInBounds x.1 x.2) r.tmps:=hfold;rw[hfold',has,hbd];show ca.wpIn (jX (some l)) 0 P _ _ w;refine wpIn_mono (h ca hca (some l) (λ e=>by rw[Qx] at e;cases e) μ M w (lk H) _ w fJ) ?_;rintro e a1 w1 ⟨st1,⟨rfl,hbody⟩,hk1,hdf1,hsz1,yI,M1,hsl1,wV,oE⟩;have hw1:w1.heap[l]? =some (.loop r):=by rw[(oE.frame l hltl hnot).1];exact hb
  refine⟨_,run_beginRound hw1 hst,?_⟩;have hnot1:∀ n,lk st1.hp n≠none->(yI n).live=true->(yI n).blk≠l:=λ n hn ln e=>by
    rcases oE.names n hn with⟨_,hh⟩|⟨h1,h2⟩
    . rcases hh ln with h'|⟨m,hm,lm,e'⟩
      . omega
      . exact hnot m hm lm (e'.trans e)
    . rw[oE.old n h1] at e ln
      exact hnot n h2 ln e
  have hM1:∀ o,M1 l o=none:=λ o=>by rw[(oE.frame l hltl hnot).2];exact hMn o
  have hS2:bR (· <st1.k) yI M1 (lk st1.hp) (w1.putObj l (.loop { r with state:= .busy})):=by
    refine⟨⟨λ b o v hv=> ?_,wV.mem.kP⟩,λ n ob hn=> ?_,wV.inj⟩
    . have yT:b≠l:=λ e=>by rw[e,hM1] at hv;cases hv
      have:=wV.mem b o v hv;simp only[World.cell?,World.putObj_heap_other yT] at this ⊢;exact this
    . obtain⟨q1,q2,q3⟩:=wV.obs n ob hn
      exact⟨q1,q2.more (λ _ h=>h) (λ _ _=>rfl) (Mem.le_refl _) (λ ln=>World.putObj_heap_other (hnot1 n (by rw[hn];simp) ln)),q3⟩
  have hE2:Ev (lk H) (λ n=>k<=n/\n<st1.k) μ M (w.putObj l (.loop { r with state:= .busy})) (lk st1.hp) yI M1 (w1.putObj l (.loop { r with state:= .busy})):=by
    refine⟨oE.old,oE.mem,λ b hb' hn=> ?_,by simpa using oE.size,by simpa using oE.names,oE.os,oE.tape,oE.output⟩;rw[World.putObj_size] at hb';refine⟨?_,(oE.frame b hb' hn).2⟩
    by_cases e:b=l
    . subst e
      rw[World.putObj_heap_same hltl,World.putObj_heap_same (Array.getElem?_eq_some_iff.1 hw1).1]
    . rw[World.putObj_heap_other e,World.putObj_heap_other e];exact(oE.frame b hb' hn).1
  have hdf2:Marks (w.putObj l (.loop { r with state:= .busy})) (w1.putObj l (.loop { r with state:= .busy})) a1.defers:=by
    have key:∀ df,Marks w w1 df->Marks (w.putObj l (.loop { r with state:= .busy})) (w1.putObj l (.loop { r with state:= .busy})) df:=by
      intro df
      induction df with
      | nil=>intro _;trivial
      | cons d ds ih=>
        rintro⟨⟨q,g1,g2,g3,g4⟩,g5⟩;refine⟨⟨q,g1,by simpa using g2,?_,g4⟩,ih g5⟩;rw[World.putObj_heap_other (λ e=>by rw[e,hw1] at g3;cases g3)];exact g3
    exact key _ hdf1
  show cb.wpIn (jX (some l)) 0 P _ _ _;refine wpIn_mono (hbody cb hcb (some l) (λ e=>by rw[hrb] at e;cases e) μ M _ (lk H) a1 _ ⟨hk1,hdf2,hsz1,yI,M1,hsl1,hS2,hE2⟩) ?_;rintro e a2 w3 ⟨st2,⟨pe,b,F',hleft,hF',FD,hkk,hQ⟩,hk2,_,_,KU,M2,_,hS3,hE3⟩;have hlt':l<(w.putObj l (.loop { r with state:= .busy})).heap.size:=by simpa using hltl
  have hw3:w3.heap[l]? =some (.loop { r with state:= .busy}):=by rw[(hE3.frame l hlt' hnot).1];exact World.putObj_heap_same hltl
  have hnot3:∀ n,lk st2.hp n≠none->(KU n).live=true->(KU n).blk≠l:=λ n hn ln e=>by
    rcases hE3.names n hn with⟨_,hh⟩|⟨h1,h2⟩
    . rcases hh ln with h'|⟨m,hm,lm,e'⟩
      . omega
      . exact hnot m hm lm (e'.trans e)
    . rw[hE3.old n h1] at e ln
      exact hnot n h2 ln e
  have hM3:∀ o,M2 l o=none:=λ o=>by rw[(hE3.frame l hlt' hnot).2];exact hMn o
  have hnl2:lk st2.hp nl=none:=by
    cases hc:lk st2.hp nl with
    | none=>rfl
    | some ob=>
      rcases hE3.names nl (by rw[hc];simp) with⟨h1,_⟩|⟨_,h2⟩
      . omega
      . exact absurd hH h2
  have hmu:KU nl=μ nl:=hE3.old nl (by omega)
  have fin:∃ w4,(Instr.endRound l pe).run P w3= .ok (.bool pe.isNone) w4/\∃ r F' bh M' u,Ending.returned (.bool pe.isNone)= .returned u/\Q r F'/\r.ok (λ n=>decide (n<k+nk))=true/\F'.ok (λ n=>decide (n<k+nk))=true/\cW bh M' r u/\bR (· <k+nk) bh M' (lk F') w4/\
      Ev (lk ((nl,.qo N ts cs ps ca cb .ready none)::H)) (λ n=>k<=n/\n<k+nk) μ M w (lk F') bh M' w4:=by
    refine⟨_,run_endRound pe hw3,?_⟩;have hbp:b=pe.isNone:=by cases e<;>simp only[Left] at hleft<;>first|(obtain⟨rfl,rfl⟩:=hleft;rfl)|exact hleft.elim
    have hS4:bR (· <st2.k) KU M2 (lk ((nl,.qo N ts cs ps ca cb (mQ pe) pe)::st2.hp)) (w3.putObj l (.loop { r with state:=if pe.isNone then .ready else .done,pending:=pe})):=by
      refine⟨⟨λ b o v hv=> ?_,hS3.mem.kP⟩,λ n ob hn=> ?_,λ n m hn hm ln lm e=> ?_⟩
      . have yT:b≠l:=λ e=>by rw[e,hM3] at hv;cases hv
        have:=hS3.mem b o v hv;simp only[World.cell?,World.putObj_heap_other yT] at this ⊢;exact this
      . by_cases en:n=nl
        . subst en
          rw[ez] at hn;injection hn with hn;subst hn;rw[hmu];refine⟨by omega,⟨hlive,{ r with state:=if pe.isNone then .ready else .done,pending:=pe},by rw[hl];exact World.putObj_heap_same (Array.getElem?_eq_some_iff.1 hw3).1,?_,hN,hps,has,hbd,rfl,rfl⟩,λ _=>by rw[hl];exact hM3⟩;exact hcsr.more (λ n hn=>by show n<st2.k;have:n<k:=hn;omega) (λ n hn=>hE3.old n (by have:n<k:=hn;omega)) hE3.mem
        . rw[bI en] at hn
          obtain⟨q1,q2,q3⟩:=hS3.obs n ob hn;exact⟨q1,q2.more (λ _ h=>h) (λ _ _=>rfl) (Mem.le_refl _) (λ ln=>World.putObj_heap_other (hnot3 n (by rw[hn];simp) ln)),q3⟩
      . by_cases en:n=nl<;>by_cases em:m=nl
        . rw[en,em]
        . subst en
          rw[bI em] at hm;rw[hmu,hl] at e;exact absurd e.symm (hnot3 m hm lm)
        . subst em
          rw[bI en] at hn;rw[hmu,hl] at e;exact absurd e (hnot3 n hn ln)
        . rw[bI en] at hn
          rw[bI em] at hm;exact hS3.inj n m hn hm ln lm e
    have hE4:Ev (lk ((nl,.qo N ts cs ps ca cb .ready none)::H)) (λ n=>k<=n/\n<st2.k) μ M w (lk ((nl,.qo N ts cs ps ca cb (mQ pe) pe)::st2.hp)) KU M2 (w3.putObj l (.loop { r with state:=if pe.isNone then .ready else .done,pending:=pe})):=by
      have hsz:=hE3.size;rw[World.putObj_size] at hsz;refine⟨hE3.old,hE3.mem,λ b hb' hn=> ?_,by simpa using hsz,λ n hn=> ?_,hE3.os,hE3.tape,hE3.output⟩
      . have yT:b≠l:=λ e=>hn nl (by rw[ez];simp) hlive (by rw[hl];exact e.symm)
        have hnH:∀ n,lk H n≠none->(μ n).live=true->(μ n).blk≠b:=λ n h1 h2=>by
          obtain⟨ob,ho⟩:=Option.ne_none_iff_exists'.1 h1;exact hn n (by rw[hsub n ob ho];simp) h2
        have:=hE3.frame b (by simpa using hb') hnH;refine⟨?_,this.2⟩;rw[World.putObj_heap_other yT,this.1,World.putObj_heap_other yT]
      . by_cases en:n=nl
        . subst en
          exact .inr ⟨by omega,by rw[ez];simp⟩
        . rw[bI en] at hn
          rw[bI en];rcases hE3.names n hn with⟨h1,h2⟩|h1
          . refine .inl ⟨h1,λ ln=> ?_⟩
            rcases h2 ln with h2|⟨m,hm,lm,e⟩
            . exact .inl (by simpa using h2)
            . obtain⟨ob,ho⟩:=Option.ne_none_iff_exists'.1 hm
              exact .inr ⟨m,by rw[hsub m ob ho];simp,lm,e⟩
          . exact .inr h1
    have hsub':HSub ((nl,.qo N ts cs ps ca cb (mQ pe) pe)::F') ((nl,.qo N ts cs ps ca cb (mQ pe) pe)::st2.hp):=λ n ob hn=>by
      by_cases en:n=nl
      . subst en;rw[ez] at hn ⊢;exact hn
      . rw[bI en] at hn ⊢;exact hF' n ob hn
    have hok':Hp.ok (λ n=>decide (n<k+nk)) ((nl,.qo N ts cs ps ca cb (mQ pe) pe)::F')=true:=by
      have hcs':SV.ax (λ n=>decide (n<k+nk)) cs=true:=by
        rw[SV.yO] at hcs ⊢;intro c hc;exact SV.fD (λ n hn=>by simp only[decide_eq_true_eq] at hn ⊢;omega) c (hcs c hc)
      simp only[Hp.ok,List.all_cons,Ob.ok,hcs',Bool.and_eq_true];exact⟨⟨by simp;omega,trivial⟩,FD⟩
    obtain⟨z1,z2⟩:=FV (nk:=nk) hS4 hE4 hsub' hok';exact⟨_,_,_,M2,_,rfl,hQ,rfl,hok',by rw[hbp];simp[cW,bQ],z1,z2⟩
  obtain⟨w4,he,hfin⟩:=fin;cases e<;>simp only[Left] at hleft<;>first
    | exact hleft.elim
    | (obtain⟨rfl,rfl⟩:=hleft;exact⟨_,w4,he,hfin⟩)
def DW (env:List (Nat×SV)):List Nat->List SV->Prop
 | [],[]=>True
 | t::ts,c::cs=>env.lookup t=some c/\DW env ts cs
 | _,_=>False
theorem DW.rep {p:Nat->Prop}{μ:Nat->Nm}{M:Mem}{env:List (Nat×SV)}{f:Nat->Value}(h:∀ t s,env.lookup t=some s->Rp p μ M s (f t)):∀ {ts:List Nat} {cs:List SV},DW env ts cs->aS p μ M cs (ts.map f)
 | [],[],_=>aS.aQ.2 rfl
 | t::ts,c::cs,⟨h1,h2⟩=>aS.aD.2 ⟨_,_,rfl,h t c h1,DW.rep h h2⟩
 | [],_::_,h=>h.elim
 | _::_,[],h=>h.elim
def RQ (Q:Exit->St->Prop)(pe:Option Code)(st:St):Prop:=
 match pe with
 | none=>Q .normal st
 | some .ret=>Q .ret st
 | some (.exit id)=>Q (.exit id) st
 | _=>False
theorem Marks.lt {w0 w:World}:∀ {df:List Deferred},Marks w0 w df->∀ d,d∈df->∃ r,d=⟨.collected r,#[]⟩/\r<w.heap.size
 | [],_,d,h=>by simp at h
 | d::ds,⟨⟨r,h1,h2,h3,h4⟩,h5⟩,d',h=>by
  rcases List.mem_cons.1 h with rfl|h
  .exact⟨r,h1,(Array.getElem?_eq_some_iff.1 h3).1⟩
  .exact Marks.lt h5 d' h
theorem Marks.alloc {w0 w:World}(o:Obj):∀ {df:List Deferred},Marks w0 w df->Marks w0 (w.alloc o) df
 | [],_=>trivial
 | d::ds,⟨⟨r,h1,h2,h3,h4⟩,h5⟩=>⟨⟨r,h1,h2,(jY w o (Array.getElem?_eq_some_iff.1 h3).1).trans h3,h4⟩,Marks.alloc o h5⟩
theorem SW.sU {N k0 nk:Nat}{st:St}{Q:Exit->St->Prop}{g:X}{ps:List Nat}{sa sb:bP}{f:FuncId}{first cap:List SV}(ts:List Nat)(cs:List SV)(hg:ev (λ t=>st.env.lookup t) g=some (.fn (.func f) first cap))(hts:DW st.env ts cs)
    (h:∀ ca cb,cK P N ca=some sa->cK P N cb=some sb->SC P f (first++[.yl st.k]++cap) ((st.k,.qo N ts cs ps ca cb .ready none)::st.hp) (st.k+1) nk λ _ F'=>
      ∃ pe,lk F' st.k=some (.qo N ts cs ps ca cb (mQ pe) pe)/\RQ Q pe ⟨st.env,c_ F' st.k,st.k+1+nk⟩):SW P N k0 (.sU g ps sa sb) st Q:=by
  intro c hc rd hrf cq M0 w0 c0 a w fJ;obtain rfl:=hrf rfl;cases c<;>simp only[cK] at hc<;>first
    | (cases hc;done)
    | (exfalso;obtain⟨_,_,hh⟩:=Option.map_eq_some_iff.1 hc;cases hh;done)
    | skip
  case rangeFunc g' ps' ca cb=>
    split at hc<;>try (cases hc;done)
    rename_i g'' sa' sb' hg' hca hcb;injection hc with hc;injection hc with e1 e2 e3 e4;subst e1;subst e2;subst e3;subst e4;obtain⟨nI,hdf,hsz,μ,M,gL,hS,hE⟩:=fJ;have hk:iG (λ t=>st.env.lookup t) #[g'] (· <st.k) μ M a:=⟨λ t _ s hs=>gL t s hs,hS.mem.kP⟩;obtain⟨as,cs',ef,r1,r2⟩:=Rp.sI.1 (hk.get (by simp) hg' hg);have hlt:∀ n,lk st.hp n≠none->n<st.k:=λ n hn=>by
      obtain⟨ob,ho⟩:=Option.ne_none_iff_exists'.1 hn;exact(hS.obs n ob ho).1
    refine wpIn_rangeFunc λ fn _=> ?_
    let rr:Loop:={ state:= .ready,pending:=none,fn:=fn,tmps:=a.tmps,params:=ps',assign:=ca,body:=cb,defers:=w.heap.size}
    let wA:=w.alloc (.deferred (some []))
    let wB:=wA.alloc (.loop rr)
    have hAs:wA.heap.size=w.heap.size+1:=World.size_alloc _ _;have hBs:wB.heap.size=w.heap.size+2:=by show(wA.alloc _).heap.size=_;rw[World.size_alloc,hAs]
    have hB1:wB.heap[w.heap.size+1]? =some (.loop rr):=by rw[<- hAs];exact gR wA _
    have hB0:wB.heap[w.heap.size]? =some (.deferred (some [])):=by rw[jY wA _ (by omega)];exact gR w _
    have hBo:∀ b,b<w.heap.size->wB.heap[b]? =w.heap[b]? :=λ b hb=>by rw[jY wA _ (by omega),jY w _ hb]
    let nm:Nm:=⟨w.heap.size+1,0,true⟩
    let μB:=zN μ st.k nm
    have hold:∀ n,n<st.k->μB n=μ n:=λ n hn=>eV _ _ _ (by omega)
    have hup:∀ n,n<st.k->n<st.k+1:=λ n hn=>by omega
    have hMl:∀ o,M (w.heap.size+1) o=none:=uY hS.mem (by omega);have hSB:bR (· <st.k+1) μB M (lk ((st.k,.qo N ts cs ps'.toList ca cb .ready none)::st.hp)) wB:=by
      refine⟨mL _ (mL _ hS.mem),λ n ob hn=> ?_,λ n m hn hm ln lm e=> ?_⟩
      . by_cases en:n=st.k
        . subst en
          rw[ez] at hn;injection hn with hn;subst hn;have e:μB st.k=nm:=bz _ _ _;rw[e];refine⟨Nat.lt_succ_self _,⟨rfl,rr,hB1,?_,hsz,rfl,rfl,rfl,rfl,rfl⟩,λ _=>hMl⟩;exact(DW.rep (f:=λ t=>a.tmps.getD t undef) gL hts).more hup hold (Mem.le_refl _)
        . rw[bI en] at hn
          obtain⟨q1,q2,q3⟩:=hS.obs n ob hn;rw[hold n q1];exact⟨hup n q1,q2.more hup hold (Mem.le_refl _) (λ ln=>hBo _ (q2.lt ln)),q3⟩
      . have KT:∀ n,lk st.hp n≠none->(μB n).live=true->(μB n).blk≠w.heap.size+1:=λ n hn ln e=>by
          rw[hold n (hlt n hn)] at ln e;have:=hS.lt hn ln;omega
        have e0:(μB st.k).blk=w.heap.size+1:=by show(zN μ st.k nm st.k).blk=_;rw[bz]
        by_cases en:n=st.k<;>by_cases em:m=st.k
        . rw[en,em]
        . subst en
          rw[bI em] at hm;exact absurd (e.symm.trans e0) (KT m hm lm)
        . subst em
          rw[bI en] at hn;exact absurd (e.trans e0) (KT n hn ln)
        . rw[bI en] at hn
          rw[bI em] at hm;rw[hold n (hlt n hn)] at ln e;rw[hold m (hlt m hm)] at lm e;exact hS.inj n m hn hm ln lm e
    have hEB:Ev (lk st.hp) (λ n=>st.k<=n/\n<st.k+1) μ M w (lk ((st.k,.qo N ts cs ps'.toList ca cb .ready none)::st.hp)) μB M wB:=by
      refine⟨λ n hn=>eV _ _ _ (λ e=>hn (by omega)),Mem.le_refl _,λ b hb _=>⟨hBo b hb,λ _=>rfl⟩,by omega,λ n hn=> ?_,rfl,⟨rfl,Nat.le_refl _⟩,rfl⟩
      by_cases en:n=st.k
      . subst en
        exact .inl ⟨⟨Nat.le_refl _,Nat.lt_succ_self _⟩,λ _=> .inl (by show _<=(zN μ st.k nm st.k).blk;rw[bz];exact Nat.le_succ _)⟩
      . rw[bI en] at hn
        have:=hlt n hn;exact .inr ⟨by omega,hn⟩
    have hargs:aS (· <st.k+1) μB M (first++[.yl st.k]++cap) (as++ #[Value.func (.yield (w.heap.size+1)) #[] #[]]++cs').toList:=by
      have hy:aS (· <st.k+1) μB M [.yl st.k] [Value.func (.yield (w.heap.size+1)) #[] #[]]:=by
        refine aS.aD.2 ⟨_,_,rfl,λ bh kD=> ?_,aS.aQ.2 rfl⟩;have:bh st.k=nm:=(kD st.k (Nat.lt_succ_self _)).trans (bz _ _ _);simp[cW,this,nm]
      simpa using((r1.more hup hold (Mem.le_refl _)).append hy).append (r2.more hup hold (Mem.le_refl _))
    obtain⟨bW,hcalls⟩:=h ca cb hca hcb;refine⟨w.heap.size+1,[{ target:= .collected w.heap.size,args:= #[]}],wB,{ target:= .fn (.func f) cs',args:=as++ #[Value.func (.yield (w.heap.size+1)) #[] #[]]},wB,f,as++ #[Value.func (.yield (w.heap.size+1)) #[] #[]]++cs',wB,?_,?_,λ _ _=>trivial,?_,(λ e=>by cases e),?_⟩
    . exact run_enterLoop_outer fn a.tmps ps' ca cb
    . have e1:(#[Operand.const (.func (.yield (w.heap.size+1)) #[] #[])]:Array Operand).map a.eval= #[Value.func (.yield (w.heap.size+1)) #[] #[]]:=by simp[Act.eval]
      simp only[resolve,rangeCall,e1,ef,Deferred.ofValue,Sem.run_pure]
    . simp only[invoke,nF bW]
    . refine sK.2 ((hcalls (· <st.k+1) μB M wB _ (λ n hn=>by omega) hargs hSB).mono ?_)
      rintro e w3 ⟨r,F',bh,M',u,rfl,⟨pe,hrec,hRQ⟩,_,hS3,hE3⟩;have hp:(λ n=>n<st.k+1\/(st.k+1<=n/\n<st.k+1+nk))=(· <st.k+1+nk):=funext λ n=>propext ⟨λ h=>by rcases h with h|h<;>omega,λ h=>by show n<st.k+1\/_;omega⟩
      rw[hp] at hS3;have hmk:bh st.k=nm:=(hE3.old st.k (by omega)).trans (bz _ _ _);obtain⟨_,⟨_,r3,hb3,_,_,_,_,_,hst3,hpe3⟩,hM3⟩:=hS3.obs st.k _ hrec;rw[hmk] at hb3 hM3;have hb3:w3.heap[w.heap.size+1]? =some (.loop r3):=hb3;have hM3:∀ o,M' (w.heap.size+1) o=none:=hM3 rfl;refine⟨_,_,run_endLoop hb3 (by rw[hst3];unfold mQ;split<;>simp),?_⟩;rw[hpe3];have hnot:∀ n,lk (c_ F' st.k) n≠none->(bh n).live=true->(bh n).blk≠w.heap.size+1:=λ n hn ln e=>by
        rw[dx] at hn
        split at hn
        . exact hn rfl
        . rename_i en
          exact en (hS3.inj n st.k hn (by rw[hrec];simp) ln (by rw[hmk]) (by rw[hmk];exact e))
      have hSt':iF N cq M0 w0 c0 k0 ⟨st.env,c_ F' st.k,st.k+1+nk⟩ { a with defers:={ target:= .collected w.heap.size,args:= #[]}::a.defers} (w3.putObj (w.heap.size+1) (.loop { r3 with state:= .exhausted,pending:=pe})):=by
        refine⟨by show k0<=st.k+1+nk;omega,⟨⟨w.heap.size,rfl,hE.size,?_,λ d' hd e=> ?_⟩,?_⟩,hsz,bh,M',λ t s hs=> ?_,⟨⟨λ b o v hv=> ?_,hS3.mem.kP⟩,λ n ob hn=> ?_,λ n m hn hm=> ?_⟩,?_⟩
        . rw[World.putObj_heap_other (by omega)]
          exact hE3.keeps hSB hB0 rfl
        . obtain⟨q,e',hq⟩:=hdf.lt d' hd
          rw[e'] at e;injection e with e _;injection e with e;omega
        . refine Marks.put _ _ (λ d' hd e=> ?_) ((hdf.alloc _).alloc _ |>.ev hSB hE3)
          obtain⟨q,e',hq⟩:=hdf.lt d' hd;rw[e'] at e;injection e with e _;injection e with e;omega
        . exact(gL t s hs).more (λ n hn=>by show n<st.k+1+nk;have:n<st.k:=hn;omega) (λ n hn=>by have:n<st.k:=hn;rw[hE3.old n (by omega),hold n hn]) hE3.mem
        . have yT:b≠w.heap.size+1:=λ e=>by rw[e,hM3] at hv;cases hv
          have:=hS3.mem b o v hv;simp only[World.cell?,World.putObj_heap_other yT] at this ⊢;exact this
        . have hn':lk F' n=some ob:=by
            have:=hn;simp only[dx] at this
            split at this
            . cases this
            . exact this
          obtain⟨q1,q2,q3⟩:=hS3.obs n ob hn';exact⟨q1,q2.more (λ _ h=>h) (λ _ _=>rfl) (Mem.le_refl _) (λ ln=>World.putObj_heap_other (hnot n (by rw[hn];simp) ln)),q3⟩
        . refine hS3.inj n m (λ e=>hn ?_) (λ e=>hm ?_)
          . show lk (c_ F' st.k) n=none;rw[dx,e];split<;>rfl
          . show lk (c_ F' st.k) m=none;rw[dx,e];split<;>rfl
        . refine Ev.put ?_ _ (by have:=hE.size;omega)
          refine(((hE.trans hEB).trans hE3).uC λ n=> ?_).zM λ n hn e=>hn ?_
          . show _↔(k0<=n/\n<st.k+1+nk);omega
          . show lk (c_ F' st.k) n=none;rw[dx,e];split<;>rfl
      cases pe with
      | none=>exact⟨_,hRQ,hSt'⟩
      | some c=>
        cases c<;>simp only[RQ] at hRQ<;>first
          | exact hRQ.elim
          | exact wpIn_ret ⟨_,hRQ,hSt'⟩
          | exact wpIn_exit ⟨_,hRQ,hSt'⟩
  all_goals (exfalso;split at hc<;>cases hc)
end
section
open Go.ChangeMaps (setBlock)
variable {P:Program}
theorem gA.mem {p:Nat->Prop}{μ:Nat->Nm}{M:Mem}:∀ {es:List (Nat×SV×SV)} {dJ:List MapEntry},gA p μ M es dJ->∀ x,x∈dJ->∃ e,e∈es/\x.born=e.1/\Rp p μ M e.2.1 x.key/\Rp p μ M e.2.2 x.val
 | [],dJ,h,x,hx=>by simp only[gA] at h;subst h;simp at hx
 | (b,k,v)::r,dJ,h,x,hx=>by
  obtain⟨e,es',rfl,h1,h2,h3,h4⟩:=h;rcases List.mem_cons.1 hx with rfl|hx
  .exact⟨(b,k,v),by simp,h1,h2,h3⟩
  .obtain⟨e,he,h⟩:=gA.mem h4 x hx
   exact⟨e,by simp[he],h⟩
theorem gA.mem' {p:Nat->Prop}{μ:Nat->Nm}{M:Mem}:∀ {es:List (Nat×SV×SV)} {dJ:List MapEntry},gA p μ M es dJ->∀ e,e∈es->∃ x,x∈dJ/\x.born=e.1
 | [],dJ,h,e,he=>by simp at he
 | (b,k,v)::r,dJ,h,e,he=>by
  obtain⟨x,es',rfl,h1,h2,h3,h4⟩:=h;rcases List.mem_cons.1 he with rfl|he
  .exact⟨x,by simp,h1⟩
  .obtain⟨x',hx,h⟩:=gA.mem' h4 e he
   exact⟨x',by simp[hx],h⟩
theorem Jn {op:Op}{x':X}(hc:cO P op=some (.kQ x')):∃ it,op= .next it false/\cX it=some x':=by
 cases op<;>simp only[cO] at hc<;>try (cases hc;done)
 case next it s=>
  cases s
  .simp only[Bool.false_eq_true,if_false] at hc
   obtain⟨y,hy,e⟩:=Option.map_eq_some_iff.1 hc;injection e with e;subst e;exact⟨it,rfl,hy⟩
  .simp at hc
 all_goals (repeat' (first|contradiction|(cases hc;done)|(obtain⟨_,_,hh⟩:=Option.map_eq_some_iff.1 hc;cases hh;done)|split at hc))
def K8 (n m since:Nat)(seen:List Nat)(st:Nat)(es:List (Nat×SV×SV))(c:Nat)(r:SV)(F':Hp):Prop:=
 (r= .dL [.d (.bool false)]/\F'=[(n,.iter (some m) since seen st),(m,.map es c)]/\∀ e,e∈es->seen.contains e.1=true)\/
 ∃ e,e∈es/\seen.contains e.1=false/\r= .dL [.d (.bool true),e.2.1,e.2.2]/\F'=[(n,.iter (some m) since (seen++[e.1]) c),(m,.map es c)]
theorem FW {o:Oper}{E:Nat->Option SV}{H:Nat->Option Ob}{k:Nat}{x':X}{n m since st c:Nat}{seen:List Nat}{es:List (Nat×SV×SV)}(hc:cO P o.op=some (.kQ x'))(h1:ev E x'=some (.it n))
  (hH:H n=some (.iter (some m) since seen st)) (hM:H m=some (.map es c)) (hnm:n≠m) (hold:∀ e,e∈es->e.1<since) (hst:since<=st):
  oh P o E H k 0 [(n,.iter (some m) since seen st),(m,.map es c)] (K8 n m since seen st es c):=by
 obtain⟨it,ho,hx⟩:=Jn hc;refine⟨?_,?_⟩
 .intro q ob hq
  rw[af,cI] at hq
  split at hq
  .rename_i e;subst e;simp at hq;subst hq;exact hH
  .split at hq
   .rename_i e;subst e;simp at hq;subst hq;exact hM
   .cases hq
 intro rd p μ M a w K QQ hnew hk hS hK;have ln:lk [(n,Ob.iter (some m) since seen st),(m,.map es c)] n=some (.iter (some m) since seen st):=by simp[af]
 have lm:lk [(n,Ob.iter (some m) since seen st),(m,.map es c)] m=some (.map es c):=by rw[af,if_neg (λ h=>hnm h.symm),cI,if_pos rfl]
 obtain⟨hpn,⟨hlv,hpm,hb⟩,hMn⟩:=hS.obs n _ ln;obtain⟨hpm',⟨hlv2,dJ,IN,hre⟩,hMm⟩:=hS.obs m _ lm;simp only[Option.map_some] at hb;have e1:=(hk.get (by simp[ho,Op.operands]) hx h1).KZ;have hpk:∀ q,p q->(λ q=>p q\/(k<=q/\q<k+0)) q:=λ q hq=> .inl hq
 have hold':∀ x∈dJ.toList,x.born<since:=λ x hx=>by
  obtain⟨e,he,h,_⟩:=hre.mem x hx;rw[h];exact hold e he
 rcases run_next_at (P:=P) w o.type (μ n).blk (μ m).blk since st seen.toArray dJ c hb IN hold' hst with⟨h0,hrun⟩|⟨x,hx,w1,hw1,hrun⟩
 .have hrun':(execOp a.eval o).run P w= .ok (.value (.tuple #[.bool false])) w:=by simp[execOp,ho,e1,hrun]
  refine iH hrun' (hK _ _ _ μ M w (.inl ⟨rfl,rfl,λ e he=> ?_⟩) ?_ (hS.more hpk) (Ev.refl _ _ _ _ _ λ q _ h=>by omega))
  .obtain⟨x,hx,hb'⟩:=hre.mem' e he
   have hnil:leftOf dJ seen.toArray= #[]:=Array.eq_empty_of_size_eq_zero h0;unfold leftOf at hnil;rw[Array.filter_eq_empty_iff] at hnil;have:=hnil x (by simpa using hx)
   simpa[hb'] using this
  .exact Rp.eP.2 ⟨_,rfl,aS.aD.2 ⟨_,_,rfl,Rp.bF.2 rfl,aS.aQ.2 rfl⟩⟩
 .have hx':x∈dJ.toList/\seen.contains x.born=false:=by
   unfold leftOf at hx
   simpa using hx
  obtain⟨e,he,hb',hrk,Nv⟩:=hre.mem x hx'.1;have hrun':(execOp a.eval o).run P w= .ok (.value (.tuple #[.bool true,x.key,x.val])) (setBlock w1 (μ n).blk (.mapIter (some (μ m).blk) since (seen.toArray.push x.born) c)):=by simp[execOp,ho,e1,hrun]
  have hh:w1.heap=w.heap:=by rcases hw1 with rfl|rfl<;>rfl
  have hsz:(setBlock w1 (μ n).blk (.mapIter (some (μ m).blk) since (seen.toArray.push x.born) c)).heap.size=w.heap.size:=by simp[setBlock,hh]
  have hoth:∀ b,b≠(μ n).blk->(setBlock w1 (μ n).blk (.mapIter (some (μ m).blk) since (seen.toArray.push x.born) c)).heap[b]? =w.heap[b]? :=λ b hb=>by
   simp[setBlock,hh,Array.getElem?_setIfInBounds_ne (Ne.symm hb)]
  have hsame:(setBlock w1 (μ n).blk (.mapIter (some (μ m).blk) since (seen.toArray.push x.born) c)).heap[(μ n).blk]? =some (.mapIter (some (μ m).blk) since (seen.toArray.push x.born) c):=by
   have:(μ n).blk<w.heap.size:=(Array.getElem?_eq_some_iff.1 hb).1;simp[setBlock,hh,this]
  have hne:(μ m).blk≠(μ n).blk:=λ e=>hnm (hS.inj n m (by rw[ln];simp) (by rw[lm];simp) hlv hlv2 e.symm)
  refine iH hrun' (hK _ _ _ μ M _ (.inr ⟨e,he,by rw[<- hb'];exact hx'.2,rfl,rfl⟩) ?_ ⟨⟨λ b o v hv=> ?_,hS.mem.kP⟩,λ q ob hq=> ?_,λ q q' hq hq' lq lq' ee=> ?_⟩ ⟨λ _ _=>rfl,Mem.le_refl _,λ b hb hf=>⟨hoth b λ ee=>hf n (by rw[ln];simp) hlv ee.symm,λ _=>rfl⟩,by rw[hsz];exact Nat.le_refl _,λ q hq=> ?_,?_,?_,?_⟩)
  .exact(Rp.eP.2 ⟨_,rfl,aS.aD.2 ⟨_,_,rfl,Rp.bF.2 rfl,aS.aD.2 ⟨_,_,rfl,hrk,aS.aD.2 ⟨_,_,rfl,Nv,aS.aQ.2 rfl⟩⟩⟩⟩:Rp p μ M _ _).more hpk (λ _ _=>rfl) (Mem.le_refl _)
  .have yT:b≠(μ n).blk:=λ ee=>by rw[ee,hMn hlv] at hv;cases hv
   rw[<- hS.mem b o v hv];unfold World.cell?;rw[hoth b yT]
  .rw[af,cI] at hq
   split at hq
   .rename_i e';subst e';simp at hq;subst hq
    refine⟨.inl hpn,⟨hlv,λ q hq=> .inl (hpm q hq),?_⟩,hMn⟩
    simpa[hb'] using hsame
   .split at hq
    .rename_i e';subst e';simp at hq;subst hq
     refine⟨.inl hpm',⟨hlv2,dJ,(hoth _ hne).trans IN,hre.more hpk (λ _ _=>rfl) (Mem.le_refl _)⟩,hMm⟩
    .cases hq
  .have dom:∀ q,lk [(n,Ob.iter (some m) since (seen++[e.1]) c),(m,.map es c)] q≠none->lk [(n,Ob.iter (some m) since seen st),(m,.map es c)] q≠none:=λ q hq=>by
    rw[af,cI] at hq ⊢
    split at hq
    .rename_i e';rw[if_pos e'];simp
    .rename_i e';rw[if_neg e'];split at hq<;>simp_all
   exact hS.inj q q' (dom q hq) (dom q' hq') lq lq' ee
  .refine .inr ⟨by omega,?_⟩
   rw[af,cI] at hq ⊢
   split at hq
   .rename_i e';rw[if_pos e'];simp
   .rename_i e';rw[if_neg e'];split at hq<;>simp_all
  .rcases hw1 with rfl|rfl<;>rfl
  .rcases hw1 with rfl|rfl
   .exact⟨rfl,Nat.le_refl _⟩
   .exact⟨rfl,Nat.le_succ _⟩
  .rcases hw1 with rfl|rfl<;>rfl
theorem Am {o:Oper}{E:Nat->Option SV}{H:Nat->Option Ob}{k nk:Nat}{f:X}{args:List X}{nl:Nat}{as:List SV}{F:Hp}{Q:SV->Hp->Prop}(hc:cO P o.op=some (.call f args))
  (h1:ev E f=some (.yl nl)) (h2:qu E args=some as) (hF:lk F nl≠none) (N5:SY P nl as F k nk Q) (hsub:∀ n ob,lk F n=some ob->H n=some ob):oh P o E H k nk F Q:=by
 obtain⟨c,fo,hop,bW,hf,ha⟩:=rK hc;exact⟨hsub,λ rd p μ M a w K QQ hnew hk hS hK=>zZ hop bW hf ha h1 h2 hF N5 hnew hk hS hK⟩
theorem bq.yield {N k0:Nat}{st:St}{K:St->Prop}{d:Option Nat}{r:List SI}{f:X}{args:List X}{nl:Nat}{as:List SV}{F:Hp}{nk:Nat}{Q:SV->Hp->Prop}
  (h1:ev (λ t=>st.env.lookup t) f=some (.yl nl)) (h2:qu (λ t=>st.env.lookup t) args=some as) (hF:lk F nl≠none) (N5:SY P nl as F st.k nk Q) (hsub:HSub F st.hp)
  (h:∀ v F',Q v F'->bq P N k0 r (l6 st ⟨d,.call f args,none⟩ ⟨v,F,F',nk,True⟩) K):bq P N k0 (⟨d,.call f args,none⟩::r) st K:=
 bq.many rfl (λ o hc=>Am hc h1 h2 hF N5 hsub) rfl h
theorem bq.kQ {N k0:Nat}{st:St}{K:St->Prop}{d:Option Nat}{r:List SI}{x:X}{n m since s c:Nat}{seen:List Nat}{es:List (Nat×SV×SV)}
  (h1:ev (λ t=>st.env.lookup t) x=some (.it n)) (hH:lk st.hp n=some (.iter (some m) since seen s)) (hM:lk st.hp m=some (.map es c)) (hnm:n≠m) (hold:∀ e,e∈es->e.1<since) (hs:since<=s)
  (h:∀ v F',K8 n m since seen s es c v F'->bq P N k0 r (l6 st ⟨d,.kQ x,none⟩ ⟨v,[(n,.iter (some m) since seen s),(m,.map es c)],F',0,True⟩) K):bq P N k0 (⟨d,.kQ x,none⟩::r) st K:=
 bq.many rfl (λ o hc=>FW hc h1 hH hM hnm hold hs) rfl h
end
section
variable {P:Program}
theorem xW {args:List SV}{F:Hp}{k nk:Nat}{Q:SV->Hp->Prop}(q:Nat->Bool)(hao:SV.ax q args=true)(FD:F.ok q=true)(hk:F.ok (λ n=>decide (n<k))=true)(Nw:∀ n,q n=true->lk F n≠none)
    (hQ:∀ r F',Q r F'->r.ok (λ n=>decide (n<k+nk))=true->F'.ok (λ n=>decide (n<k+nk))=true->r.ok (λ n=>q n || (decide (k<=n) && decide (n<k+nk)))=true/\F'.ok (λ n=>q n || (decide (k<=n) && decide (n<k+nk)))=true)
    {p:Nat->Prop} {μ:Nat->Nm} {M:Mem} {w:World} {vals:Array Value} (hp:∀ n,(k<=n/\n<k+nk)-> ¬ p n) (hr:aS p μ M args vals.toList) (hS:bR p μ M (lk F) w):
    aS (· <k) μ M args vals.toList/\bR (· <k) μ M (lk F) w/\∀ e w',
      (∃ r F' bh M' u,e=Ending.returned u/\Q r F'/\r.ok (λ n=>decide (n<k+nk))=true/\F'.ok (λ n=>decide (n<k+nk))=true/\cW bh M' r u/\bR (· <k+nk) bh M' (lk F') w'/\
        Ev (lk F) (λ n=>k<=n/\n<k+nk) μ M w (lk F') bh M' w')->
      ∃ r F' bh M' u,e=Ending.returned u/\Q r F'/\Rp (λ n=>p n\/(k<=n/\n<k+nk)) bh M' r u/\bR (λ n=>p n\/(k<=n/\n<k+nk)) bh M' (lk F') w'/\
        Ev (lk F) (λ n=>k<=n/\n<k+nk) μ M w (lk F') bh M' w':=by
  have hlt:∀ n,q n=true->n<k:=λ n h=>by
    obtain⟨ob,ho⟩:=Option.ne_none_iff_exists'.1 (Nw n h)
    simpa using(Hp.fu hk ho).1
  have hqP:∀ n,q n=true->p n:=λ n h=>by
    obtain⟨ob,ho⟩:=Option.ne_none_iff_exists'.1 (Nw n h);exact(hS.obs n ob ho).1
  refine⟨aS.CP hao hlt hr.wX,⟨hS.mem,λ n ob hn=> ?_,hS.inj⟩,?_⟩
  . obtain⟨a1,a2⟩:=Hp.fu FD hn
    obtain⟨_,b1,b2⟩:=hS.obs n ob hn;have hb':bZ p (λ n=>μ (id n)) M w (μ n) (ob.aC id):=by rw[Ob.oV];exact b1
    exact⟨hlt n a1,bZ.to a2 hlt (λ _ _=>rfl) hb',b2⟩
  . rintro e w' ⟨r,F',bh,M',u,rfl,hq,hr1,hr2,hru,sJ,hE⟩
    obtain⟨h1,h2⟩:=hQ r F' hq hr1 hr2;have hq2:∀ n,(q n || (decide (k<=n) && decide (n<k+nk)))=true->(p n\/(k<=n/\n<k+nk)):=λ n hn=>by
      simp only[Bool.or_eq_true,Bool.and_eq_true,decide_eq_true_eq] at hn;exact hn.imp (hqP n) id
    refine⟨r,F',bh,M',u,rfl,hq,Rp.FB h1 hq2 hru,⟨sJ.mem,λ n ob hn=> ?_,sJ.inj⟩,hE⟩;obtain⟨a1,a2⟩:=Hp.fu h2 hn;obtain⟨_,b1,b2⟩:=sJ.obs n ob hn;have hb':bZ (· <k+nk) (λ n=>bh (id n)) M' w' (bh n) (ob.aC id):=by rw[Ob.oV];exact b1
    exact⟨hq2 n a1,bZ.to a2 hq2 (λ _ _=>rfl) hb',b2⟩
theorem SB.here {f:FuncId}{args:List SV}{F:Hp}{k nk:Nat}{Q:SV->Hp->Prop}(q:Nat->Bool)(h:SB P f args F k nk Q)(Nw:∀ n,q n=true->lk F n≠none)(hao:SV.ax q args=true)(FD:F.ok q=true)
  (hQ:∀ r F',Q r F'->r.ok (λ n=>decide (n<k+nk))=true->F'.ok (λ n=>decide (n<k+nk))=true->r.ok (λ n=>q n || (decide (k<=n) && decide (n<k+nk)))=true/\F'.ok (λ n=>q n || (decide (k<=n) && decide (n<k+nk)))=true):SC P f args F k nk Q:=by
 refine⟨h.1,λ p μ M w vals hp hr hS=> ?_⟩;obtain⟨h1,h2,h3⟩:=xW q hao FD h.2.2.1 Nw hQ hp hr hS;exact(h.2.2.2 μ M w vals h1 h2).mono h3
theorem Fa.here {nl:Nat}{args:List SV}{F:Hp}{k nk:Nat}{Q:SV->Hp->Prop}(q:Nat->Bool)(h:Fa P nl args F k nk Q)(Nw:∀ n,q n=true->lk F n≠none)(hao:SV.ax q args=true)(FD:F.ok q=true)
  (hQ:∀ r F',Q r F'->r.ok (λ n=>decide (n<k+nk))=true->F'.ok (λ n=>decide (n<k+nk))=true->r.ok (λ n=>q n || (decide (k<=n) && decide (n<k+nk)))=true/\F'.ok (λ n=>q n || (decide (k<=n) && decide (n<k+nk)))=true):SY P nl args F k nk Q:=by
 intro p μ M w vals hp _ hr hS;obtain⟨h1,h2,h3⟩:=xW q hao FD h.2.1 Nw hQ hp hr hS;obtain⟨fn,tmps,assign,body,hy,hround⟩:=h.2.2 μ M w vals h1 h2;exact⟨fn,tmps,assign,body,hy,hround.mono h3⟩
theorem SC.frame {f:FuncId}{args:List SV}{F H:Hp}{k nk:Nat}{Q:SV->Hp->Prop}(h:SC P f args F k nk Q)(hs:HSub F H):SC P f args H k nk λ r F'=>∃ F1,Q r F1/\F'=bU false H F F1:=by
 refine⟨h.1,λ p μ M w vals hp hr hS=>(h.2 p μ M w vals hp hr (hS.sub hs)).mono ?_⟩;rintro e w' ⟨r,F1,bh,M',u,rfl,hq,hru,sJ,hE⟩;obtain⟨z1,z2⟩:=hS.Bp hs hp hE sJ λ n h=> .inl h
 have hlk:lk (bU false H F F1)=Bm (lk H) (lk F) (lk F1):=iM hs (λ h=>by cases h);exact⟨r,_,bh,M',u,rfl,⟨F1,hq,rfl⟩,hru,by rw[hlk];exact z1,by rw[hlk];exact z2⟩
theorem xX:∀ {h:Hp} {n:Nat} {ob:Ob},lk h n=some ob->gJ h n ob=h
 | [],n,ob,h=>by simp[bA] at h
 | (m,o)::h,n,ob,hl=>by
  rw[af] at hl;simp only[gJ]
  by_cases e:m=n
  .subst e
   simp only[if_true] at hl ⊢;injection hl with hl;rw[hl]
  .rw[if_neg (λ h=>e h.symm)] at hl
   rw[if_neg e,xX hl]
theorem s7 {h:Hp}{n:Nat}{ob:Ob}(hl:lk h n=some ob):gf h n ob=h:=by
 unfold gf;rw[hl];exact xX hl
theorem je {h:Hp}{n:Nat}{o o':Ob}:gf ((n,o)::h) n o'=(n,o')::h:=by
 have:lk ((n,o)::h) n=some o:=ez;unfold gf;rw[this];simp[gJ]
theorem CZ {h F F':Hp}:bU true h F F'=h:=rfl
def gy (es:List (Nat×SV×SV))(seen:List Nat):Nat:=(es.filter λ e=> !seen.contains e.1).length
theorem kN {es:List (Nat×SV×SV)}{seen:List Nat}{e:Nat×SV×SV}(he:e∈es)(hs:seen.contains e.1=false):gy es (seen++[e.1])<gy es seen:=by
 induction es with
 | nil=>cases he
 | cons x es ih=>
  have hle:∀ l:List (Nat×SV×SV),gy l (seen++[e.1])<=gy l seen:=λ l=>by
   induction l with
   | nil=>exact Nat.le_refl _
   | cons y l ihl=>
    simp only[gy,List.filter,List.contains_append] at ihl ⊢;cases h1:seen.contains y.1
    .cases h2:[e.1].contains y.1
     .simp only[Bool.or_self,Bool.not_false,List.length_cons];omega
     .simp only[Bool.false_or,Bool.not_true,Bool.not_false,List.length_cons];omega
    .simp only[Bool.true_or,Bool.not_true];omega
  rcases List.mem_cons.1 he with rfl|he
  .have:=hle es
   simp only[gy,List.filter,List.contains_append,hs,Bool.false_or,List.contains_cons,List.contains_nil,BEq.rfl,Bool.true_or,Bool.not_true,Bool.not_false,List.length_cons] at this ⊢;omega
  .have:=ih he
   simp only[gy,List.filter,List.contains_append] at this ⊢;cases h1:seen.contains x.1
   .cases h2:[e.1].contains x.1
    .simp only[Bool.or_self,Bool.not_false,List.length_cons];omega
    .simp only[Bool.false_or,Bool.not_true,Bool.not_false,List.length_cons];omega
   .simp only[Bool.true_or,Bool.not_true];omega
theorem Hp.eA {q q':Nat->Bool}(h:∀ n,q n=true->q' n=true){F:Hp}(hF:F.ok q=true):F.ok q'=true:=by
 unfold Hp.ok at hF ⊢;rw[List.all_eq_true] at hF ⊢;intro x hx;have:=hF x hx;simp only[Bool.and_eq_true] at this ⊢;refine⟨h _ this.1,?_⟩;have h2:=this.2;generalize x.2=ob at h2 ⊢;cases ob<;>simp only[Ob.ok] at h2 ⊢
 .exact SV.j7 h _ h2
 .exact SV.j7 h _ h2
 .rw[List.all_eq_true] at h2 ⊢
  intro e he;have:=h2 e he;simp only[Bool.and_eq_true] at this ⊢;exact⟨SV.fD h _ this.1,SV.fD h _ this.2⟩
 .rename_i mo _ _ _
  cases mo with
  | none=>rfl
  | some n=>exact h n h2
 .exact SV.j7 h _ h2
theorem Hp.bJ {k k':Nat}(h:k<=k'){F:Hp}(hF:F.ok (λ n=>decide (n<k))=true):F.ok (λ n=>decide (n<k'))=true:=Hp.eA (λ n hn=>by simp at hn ⊢;omega) hF
theorem Hp.out {k n:Nat}{F:Hp}(hF:F.ok (λ n=>decide (n<k))=true)(h:k<=n):lk F n=none:=by
 cases hh:lk F n with
 | none=>rfl
 | some ob=>have:=(Hp.fu hF hh).1;simp at this;omega
theorem sV.K9 {k:Nat}{hp:Hp}:∀ {h:Hp},h.ok (λ n=>decide (n<k))=true->(∀ x,x∈h->lk hp x.1=some x.2)->sV id k hp h
 | [],_,_=>trivial
 | (n,ob)::r,hq,hl=>by
  unfold Hp.ok at hq;simp only[List.all_cons,Bool.and_eq_true,decide_eq_true_eq] at hq;refine⟨?_,hq.1.1,hq.1.2,sV.K9 (by unfold Hp.ok;exact hq.2) λ x hx=>hl x (by simp[hx])⟩;rw[Ob.oV];exact hl (n,ob) (by simp)
theorem aG.same {k0:Nat}{st st1:St}(h1:k0<=st1.k)(h2:aJ id st1.k st.env st1.env)(h3:st1.hp.ok (λ n=>decide (n<st1.k))=true)(h4:∀ x,x∈st1.hp->lk st.hp x.1=some x.2):aG k0 st st1 id:=
 ⟨h1,λ _ _=>rfl,h2,sV.K9 h3 h4,λ _ _ _ _ e=>e⟩
theorem bX {x y:Nat}(h:x≠y):(x == y)=false/\(y == x)=false/\(x=y)=False/\(y=x)=False:=
 ⟨by simpa using h,by simpa using Ne.symm h,eq_false h,eq_false (Ne.symm h)⟩
inductive lU {α σ:Type}(Step:σ->α->σ->Prop)(s:σ):List α->σ->Prop where
 | nil:lU Step s [] s
 | snoc {xs:List α} {s' s'':σ} {x:α}:lU Step s xs s'->Step s' x s''->lU Step s (xs++[x]) s''
structure pW {α σ:Type}(P:Program)(y:Nat)(enc:α->SV)(aV:Nat)(Fh:σ->Hp)(Step:σ->α->σ->Prop)(go:σ->Bool)(s0:σ)(B:Nat):Prop where
 vF:∀ s,lk (Fh s) y≠none
 nd:∀ s x,x∈Fh s->lk (Fh s) x.1=some x.2
 call:∀ s xs x k,lU Step s0 xs s->xs.length<B->(Fh s).ok (λ n=>decide (n<k))=true->go s=true->SY P y [enc x] (Fh s) k aV λ r F'=>∃ s',Step s x s'/\r= .d (.bool (go s'))/\F'=Fh s'/\
  (Fh s').ok (λ n=>decide (n<k+aV))=true/\∀ n,lk (Fh s') n≠none->lk (Fh s) n≠none\/(k<=n/\n<k+aV)
section
variable {N k0:Nat} {st:St} {Q:Exit->St->Prop}
theorem SW.pX {it a b id:Nat}{bs:List Nat}{body:bP}{α:Type}(I:α->St)(m:α->Nat)(i0:α)(L7:Nat->Nat)(uJ nm since BL c:α->Nat)(seen:α->List Nat)(es:α->List (Nat×SV×SV))
  (h0:aG k0 st (I i0) L7) (hit:∀ i,(I i).env.lookup it=some (.it (uJ i))) (hI:∀ i,lk (I i).hp (uJ i)=some (.iter (some (nm i)) (since i) (seen i) (BL i))) (hM:∀ i,lk (I i).hp (nm i)=some (.map (es i) (c i)))
  (hne:∀ i,uJ i≠nm i) (hold:∀ i e,e∈es i->e.1<since i) (hst:∀ i,since i<=BL i)
  (fin:∀ i,(∀ e,e∈es i->(seen i).contains e.1=true)->∃ st1 ρ,aG k0 ⟨(b,.d (.bool false))::(a,.dL [.d (.bool false)])::(I i).env,(I i).hp,(I i).k⟩ st1 ρ/\Q (.exit id) st1)
  (step:∀ i e,e∈es i->(seen i).contains e.1=false->SW P N k0 body ⟨(b,.d (.bool true))::(a,.dL [.d (.bool true),e.2.1,e.2.2])::(I i).env,gf (I i).hp (uJ i) (.iter (some (nm i)) (since i) (seen i++[e.1]) (c i)),(I i).k⟩
   λ ex st'=>match ex with | .normal=>∃ j ρ,m j<m i/\aG k0 st' (I j) ρ|e=>Q e st'):
  SW P N k0 (.loop (.seq (.e_ [⟨some a,.kQ (.t it),none⟩,⟨some b,.ext 0 (.t a),none⟩] bs false) (.seq (.cond (.t b) .skip (.exit id)) body))) st Q:=by
 refine SW.loop I m i0 L7 h0 λ i=>SW.seq (SW.xU (bq.kQ (hit i) (hI i) (hM i) (hne i) (hold i) (hst i) λ v F' hv=> ?_))
 have hmm:lk ([(uJ i,.iter (some (nm i)) (since i) (seen i) (BL i)),(nm i,.map (es i) (c i))]:Hp) (uJ i)=some (.iter (some (nm i)) (since i) (seen i) (BL i)):=by simp[af]
 rcases hv with⟨rfl,rfl,hall⟩|⟨e,he,hs,rfl,rfl⟩
 .have hh:bU false (I i).hp [(uJ i,.iter (some (nm i)) (since i) (seen i) (BL i)),(nm i,.map (es i) (c i))] [(uJ i,.iter (some (nm i)) (since i) (seen i) (BL i)),(nm i,.map (es i) (c i))]=(I i).hp:=by
   have h1:(lk ([(uJ i,.iter (some (nm i)) (since i) (seen i) (BL i)),(nm i,.map (es i) (c i))]:Hp) (uJ i)).isSome=true:=by simp[af]
   have h2:(lk ([(uJ i,.iter (some (nm i)) (since i) (seen i) (BL i)),(nm i,.map (es i) (c i))]:Hp) (nm i)).isSome=true:=by rw[af];split<;>simp[af]
   simp only[bU,dg,h1,h2,if_true,de,Bool.false_eq_true,if_false];rw[s7 (hM i),s7 (hI i)]
  refine bq.runs (dK:=[]) (st':=⟨(b,.d (.bool false))::(a,.dL [.d (.bool false)])::(I i).env,(I i).hp,(I i).k⟩) (ob:=True/\True) (ts:=[(true,[])]) ?_ ⟨trivial,trivial⟩ ?_
  .simp only[Go.Sl.runs,gd,fA,dI,l6,ev,List.lookup,BEq.rfl,dh,hh,Nat.add_zero,List.getElem?_cons_zero,CZ,iC,List.map_nil,List.append_nil]
  .obtain⟨st1,ρ,hw,hq⟩:=fin i hall
   refine SW.seq (SW.cond (b:=false) ?_ (λ h=>by cases h) (λ _=>SW.weak ρ hw (SW.exit hq)));simp only[ev,List.lookup,BEq.rfl]
 .have hh:bU false (I i).hp [(uJ i,.iter (some (nm i)) (since i) (seen i) (BL i)),(nm i,.map (es i) (c i))] [(uJ i,.iter (some (nm i)) (since i) (seen i++[e.1]) (c i)),(nm i,.map (es i) (c i))]=gf (I i).hp (uJ i) (.iter (some (nm i)) (since i) (seen i++[e.1]) (c i)):=by
   have h1:(lk ([(uJ i,.iter (some (nm i)) (since i) (seen i++[e.1]) (c i)),(nm i,.map (es i) (c i))]:Hp) (uJ i)).isSome=true:=by simp[af]
   have h2:(lk ([(uJ i,.iter (some (nm i)) (since i) (seen i++[e.1]) (c i)),(nm i,.map (es i) (c i))]:Hp) (nm i)).isSome=true:=by rw[af];split<;>simp[af]
   simp only[bU,dg,h1,h2,if_true,de,Bool.false_eq_true,if_false];rw[s7 (hM i)]
  refine bq.runs (dK:=[]) (st':=⟨(b,.d (.bool true))::(a,.dL [.d (.bool true),e.2.1,e.2.2])::(I i).env,gf (I i).hp (uJ i) (.iter (some (nm i)) (since i) (seen i++[e.1]) (c i)),(I i).k⟩) (ob:=True/\True) (ts:=[(true,[])]) ?_ ⟨trivial,trivial⟩ ?_
  .simp only[Go.Sl.runs,gd,fA,dI,l6,ev,List.lookup,BEq.rfl,dh,hh,Nat.add_zero,List.getElem?_cons_zero,CZ,iC,List.map_nil,List.append_nil]
  .refine SW.seq (SW.cond (b:=true) ?_ (λ _=>SW.skip ?_) (λ h=>by cases h))
   .simp only[ev,List.lookup,BEq.rfl]
   .exact step i e he hs
end
end
end Go.Sl
namespace Go.Sl
theorem ay.rS {a b:ay}(h:a.above b=true)(d:Dt)(hb:b.aU d=true):a.aU d=true:=by
 have h':=ay.ir.1 h;simp only[ay.aU,Bool.and_eq_true,decide_eq_true_eq] at*;have hr:d.r<8:=by have:=hb.1;simp[Dt.may] at this;exact this.1
 exact⟨hb.1,Nat.le_trans hb.2 (h' _ hr)⟩
theorem ay.Nx (v:ay){r:Nat}(hr:r<8):(v.set r (v.get r+1)).count=v.count+1:=by
 match r,hr with
 | 0,_=>simp[ay.count,ay.set,ay.of,ay.get];omega
 | 1,_=>simp[ay.count,ay.set,ay.of,ay.get];omega
 | 2,_=>simp[ay.count,ay.set,ay.of,ay.get];omega
 | 3,_=>simp[ay.count,ay.set,ay.of,ay.get];omega
 | 4,_=>simp[ay.count,ay.set,ay.of,ay.get];omega
 | 5,_=>simp[ay.count,ay.set,ay.of,ay.get];omega
 | 6,_=>simp[ay.count,ay.set,ay.of,ay.get];omega
 | 7,_=>simp[ay.count,ay.set,ay.of,ay.get];omega
theorem uK {P:Program}{d:Nat}{t:TypeId}{k:IntKind}{ds:List DV}(ht:P.underlying t=some (.int k))(h:Fit P (d+1) t ds):∃ n,ds=[.int k n]/\(Lit.int k n).wf=true:=by
 rw[Fit,ht] at h;exact h
theorem wf_u32 {n:Int}(h:(Lit.int .u32 n).wf=true):∃ m:Nat,n=(m:Int)/\m<4294967296:=by
 simp[Lit.wf,IntKind.min,IntKind.max,IntKind.signed,IntKind.bits] at h;exact⟨n.toNat,by omega,by omega⟩
theorem wf_u64 {n:Int}(h:(Lit.int .u64 n).wf=true):∃ m:Nat,n=(m:Int)/\m<18446744073709551616:=by
 simp[Lit.wf,IntKind.min,IntKind.max,IntKind.signed,IntKind.bits] at h;exact⟨n.toNat,by omega,by omega⟩
theorem wf_u8 {n:Int}(h:(Lit.int .u8 n).wf=true):∃ m:Nat,n=(m:Int)/\m<256:=by
 simp[Lit.wf,IntKind.min,IntKind.max,IntKind.signed,IntKind.bits] at h;exact⟨n.toNat,by omega,by omega⟩
theorem wf_i64 {n:Int}(h:(Lit.int .i64 n).wf=true): -9223372036854775808<=n/\n<9223372036854775808:=by
 simp[Lit.wf,IntKind.min,IntKind.max,IntKind.signed,IntKind.bits] at h;omega
theorem oo {P:Program}{d:Nat}{t:TypeId}{ds:List DV}(ht:P.underlying t=some (.int .u32))(h:Fit P (d+1) t ds):∃ m:Nat,m<4294967296/\ds=[.int .u32 m]:=by
 obtain⟨n,rfl,hw⟩:=uK ht h;obtain⟨m,rfl,hm⟩:=wf_u32 hw;exact⟨m,hm,rfl⟩
theorem C0 {P:Program}{d:Nat}{t:TypeId}{ds:List DV}(ht:P.underlying t=some (.int .u64))(h:Fit P (d+1) t ds):∃ m:Nat,m<18446744073709551616/\ds=[.int .u64 m]:=by
 obtain⟨n,rfl,hw⟩:=uK ht h;obtain⟨m,rfl,hm⟩:=wf_u64 hw;exact⟨m,hm,rfl⟩
theorem qQ {P:Program}{d:Nat}{t:TypeId}{ds:List DV}(ht:P.underlying t=some (.int .u8))(h:Fit P (d+1) t ds):∃ m:Nat,m<256/\ds=[.int .u8 m]:=by
 obtain⟨n,rfl,hw⟩:=uK ht h;obtain⟨m,rfl,hm⟩:=wf_u8 hw;exact⟨m,hm,rfl⟩
theorem yU {P:Program}{d:Nat}{t:TypeId}{ds:List DV}(ht:P.underlying t=some (.int .i64))(h:Fit P (d+1) t ds):∃ n:Int,(-9223372036854775808<=n/\n<9223372036854775808)/\ds=[.int .i64 n]:=by
 obtain⟨n,rfl,hw⟩:=uK ht h;exact⟨n,wf_i64 hw,rfl⟩
theorem vG {ds:List DV}{o:Nat}{x:DV}(h:(ds.drop o).take 1=[x]):ds[o]? =some x:=by
 have:=congrArg (·[0]?) h
 simpa[List.getElem?_take] using this
theorem Jo {P:Program}{d:Nat}{t e:TypeId}{ds:List DV}(ht:P.underlying t=some (.array 8 e))(he:P.underlying e=some (.int .u32))(hc:P.cellsOf t=8)(hce:P.cellsOf e=1)(h:Fit P (d+2) t ds):∃ v:ay,v.wf/\ds=v.ds:=by
 rw[Fit,ht] at h;dsimp only at h;obtain⟨hl,hi⟩:=h;rw[hc] at hl;rw[hce] at hi;have key:∀ i,i<8->∃ m:Nat,m<4294967296/\ds[i]? =some (.int .u32 m):=λ i hlt=>by
  obtain⟨m,hm,e1⟩:=oo (d:=d) he (hi i hlt);exact⟨m,hm,vG (by simpa using e1)⟩
 obtain⟨m0,h0,e0⟩:=key 0 (by omega);obtain⟨m1,h1,e1⟩:=key 1 (by omega);obtain⟨m2,h2,e2⟩:=key 2 (by omega);obtain⟨m3,h3,e3⟩:=key 3 (by omega);obtain⟨m4,h4,e4⟩:=key 4 (by omega);obtain⟨m5,h5,e5⟩:=key 5 (by omega);obtain⟨m6,h6,e6⟩:=key 6 (by omega);obtain⟨m7,h7,e7⟩:=key 7 (by omega);refine⟨⟨m0,m1,m2,m3,m4,m5,m6,m7⟩,λ r hr=> ?_,List.ext_getElem? λ i=> ?_⟩
 .match r,hr with
  | 0,_=>exact h0
  | 1,_=>exact h1
  | 2,_=>exact h2
  | 3,_=>exact h3
  | 4,_=>exact h4
  | 5,_=>exact h5
  | 6,_=>exact h6
  | 7,_=>exact h7
 .match i with
  | 0=>rw[e0];rfl
  | 1=>rw[e1];rfl
  | 2=>rw[e2];rfl
  | 3=>rw[e3];rfl
  | 4=>rw[e4];rfl
  | 5=>rw[e5];rfl
  | 6=>rw[e6];rfl
  | 7=>rw[e7];rfl
  | i+8=>rw[List.getElem?_eq_none (by omega),List.getElem?_eq_none (by simp[ay.ds])]
theorem bV {P:Program}{d:Nat}{t:TypeId}{fs:Array Field}{ds:List DV}(ht:P.underlying t=some (.struct fs))(h:Fit P (d+1) t ds)(i:Nat)(f:Field)(hf:fs[i]? =some f):
  Fit P d f.type ((ds.drop f.offset).take (P.cellsOf f.type)):=by
 rw[Fit,ht] at h;dsimp only at h;exact h.2 f (by simpa using Array.mem_of_getElem? hf)
theorem yV {P:Program}{d:Nat}{t:TypeId}{fs:Array Field}{ds:List DV}(ht:P.underlying t=some (.struct fs))(h:Fit P (d+1) t ds):ds.length=P.cellsOf t:=by
 rw[Fit,ht] at h;dsimp only at h;exact h.1
theorem Jp {P:Program}{d:Nat}{t:TypeId}{fs:Array Field}{fR fN:Field}{ds:List DV}(ht:P.underlying t=some (.struct fs))(h0:fs[0]? =some fR)(h1:fs[1]? =some fN)(o0:fR.offset=0)(o1:fN.offset=1)
  (t0:P.underlying fR.type=some (.int .u8)) (t1:P.underlying fN.type=some (.int .u32)) (hc:P.cellsOf t=2) (c0:P.cellsOf fR.type=1) (c1:P.cellsOf fN.type=1) (h:Fit P (d+2) t ds):∃ x:Dt,x.wf/\ds=x.ds:=by
 have f0:=bV ht h 0 fR h0;have f1:=bV ht h 1 fN h1;have hl:=yV ht h;rw[hc] at hl;rw[o0,c0] at f0;rw[o1,c1] at f1;obtain⟨a,ha,ea⟩:=qQ t0 f0;obtain⟨b,hb,eb⟩:=oo t1 f1;have ea:=vG ea;have eb:=vG eb;refine⟨⟨a,b⟩,⟨ha,hb⟩,List.ext_getElem? λ i=> ?_⟩
 match i with
 | 0=>rw[ea];rfl
 | 1=>rw[eb];rfl
 | i+2=>rw[List.getElem?_eq_none (by omega),List.getElem?_eq_none (by simp)]
theorem s8 {P:Program}{d:Nat}{t e:TypeId}{ds:List DV}{α:Type}(f:α->List DV)(ok:α->Prop)(ht:P.underlying t=some (.slice e))(hp:∀ ds,Fit P d e ds->∃ x,ok x/\ds=f x)
  (h:Fit P (d+1) t ds):(ds=[.aL])\/∃ l:List α,(∀ x∈l,ok x)/\l.length<=9223372036854775807/\ds=[.sl l.length (l.flatMap f)]:=by
 rw[Fit,ht] at h;dsimp only at h;rcases h with h|⟨n,cs,rfl,hn,hl,hi⟩
 .exact .inl h
 .refine .inr ?_
  have key:∀ k,k<=n->∃ l:List α,(∀ x∈l,ok x)/\l.length=k/\cs.take (k*P.cellsOf e)=l.flatMap f:=by
   intro k
   induction k with
   | zero=>intro _;exact⟨[],by simp,rfl,by simp⟩
   | succ k ih=>
    intro hk;obtain⟨l,a1,a2,a3⟩:=ih (by omega);obtain⟨x,b1,b2⟩:=hp _ (hi k hk);refine⟨l++[x],λ y hy=> ?_,by simp[a2],?_⟩
    .rcases List.mem_append.1 hy with h|h
     .exact a1 y h
     .simp at h;subst h;exact b1
    .rw[Nat.succ_mul,List.take_add,a3,b2];simp
  obtain⟨l,a1,a2,a3⟩:=key n (Nat.le_refl _);rw[List.take_of_length_le (by omega)] at a3;exact⟨l,a1,by omega,by rw[a2,a3]⟩
end Go.Sl
namespace Go.Sl
open Go.RowKit
section
structure Cm where
 line:Dt
 jA:Dt
 deriving DecidableEq
def Cm.ds (x:Cm):List DV:=x.line.ds++x.jA.ds
def Cm.wf (x:Cm):Prop:=x.line.wf/\x.jA.wf
@[simp] theorem yW (l:List Cm):(l.flatMap Cm.ds).length=l.length*4:=eC Cm.ds 4 (λ _=>rfl) l
def An:List DV->List Cm
 | .int _ a:: .int _ b:: .int _ c:: .int _ d::r=>⟨⟨a.toNat,b.toNat⟩,⟨c.toNat,d.toNat⟩⟩::An r
 | _=>[]
theorem vI:∀ l:List Cm,An (l.flatMap Cm.ds)=l
 | []=>rfl
 | x::l=>by
  have:=vI l;show An (.int .u8 x.line.r:: .int .u32 x.line.n:: .int .u8 x.jA.r:: .int .u32 x.jA.n::l.flatMap Cm.ds)=_;rw[An,this];rfl
def K_:DV->List Cm
 | .sl _ cs=>An cs
 | _=>[]
theorem FX (n:Nat)(l:List Cm):K_ (.sl n (l.flatMap Cm.ds))=l:=vI l
def ag.cl (o:ag):List Cm:=K_ o.lines
structure ag.mC (o:ag):Prop where
 eq:o.lines= .sl o.cl.length (o.cl.flatMap Cm.ds)
 le:o.cl.length<=9223372036854775807
theorem ag.mC.of {o:ag}{l:List Cm}(h:o.lines= .sl l.length (l.flatMap Cm.ds))(hl:l.length<=9223372036854775807):o.mC/\o.cl=l:=by
 have e:o.cl=l:=by unfold ag.cl;rw[h];exact FX _ _
 exact⟨⟨by rw[e];exact h,by rw[e];exact hl⟩,e⟩
def yX:List (List Nat):=[[],[99,116,114,100,112],[99,97],[99,105,113,101],[99,97,113],[99,97],[99,97,118],[99,97,118],[99,108]]
def aZ (kind:Nat):List Nat:=(yX[kind]?).getD []
def zeroV (s:List Nat)(o:ag)(nl:Nat):Bool:=(((((((((((decide (99∈s) || decide (o.aP=(⟨0,0⟩:Dt))) && (decide (116∈s) || ((o.to:Int) == 0))) && (decide (114∈s) || ((o.bn:Int) == 0))) && (decide (100∈s) || ((o.depth:Int) == 0))) && (decide (112∈s) || ((o.cap:Int) == 0))) && (decide (97∈s) || decide (o.at_=(⟨0,0⟩:Dt)))) && (decide (118∈s) || decide (o.jA=(⟨0,0⟩:Dt)))) && (decide (105∈s) || ((o.item:Int) == 0))) && (decide (113∈s) || ((o.uu:Int) == 0))) && (decide (101∈s) || ((o.ff:Int) == 0))) && (decide (108∈s) || ((nl:Int) == 0)))
def Mb (o:ag)(x:Cm)(pre:List Cm):Bool:=o.dep.aU x.line && o.dep.aU x.jA && pre.all λ y=> !decide (y.line=x.line)
def Jq (o:ag)(cl:List Cm)(i:Nat):Bool:=match cl[i]? with
 | some x=>Mb o x (cl.take i)
 | none=>true
def kf (o:ag)(cl:List Cm):Bool:=decide (1<=cl.length/\cl.length<=16) && (List.range cl.length).all (Jq o cl)
structure Form (n:Nat)(o:ag):Prop where
 r:o.dot.r<n
 pos:0<o.dot.n
 own:o.dep.get o.dot.r+1=o.dot.n
 t1:1<=o.time
 t2:o.time<=281474976710656
 who:0<o.who
 kind:o.kind<=8
 zero:zeroV (aZ o.kind) o o.cl.length=true
 KT:∀ r,n<=r->r<8->o.dep.get r=0
 gen:o.kind=0->o.aK=o.dot
 aK:o.kind≠0->o.dep.aU o.aK=true
 aP:99∈aZ o.kind->o.dep.aU o.aP=true
 at_:97∈aZ o.kind->o.dep.aU o.at_=true
 jA:118∈aZ o.kind->o.dep.aU o.jA=true
 Ao:116∈aZ o.kind->0<o.to/\1<=o.bn/\o.bn<=7/\o.depth<=7/\o.cap<=1099511627776
 uu:113∈aZ o.kind->1<=o.uu/\o.uu<=65535
 ff:o.ff<=16777215
 lines:108∈aZ o.kind->kf o o.cl=true
open Classical in
noncomputable def iD (n:Int)(o:ag):Int:=if n<1\/8<n then 2 else if Form n.toNat o then 0 else 5
theorem fh {n:Int}{o:ag}:iD n o=0↔1<=n/\n<=8/\Form n.toNat o:=by
 unfold iD
 by_cases h:n<1\/8<n
 .rw[if_pos h];constructor
  .intro h;cases h
  .intro hh;omega
 .rw[if_neg h]
  by_cases hf:Form n.toNat o
  .rw[if_pos hf];exact⟨λ _=>⟨by omega,by omega,hf⟩,λ _=>rfl⟩
  .rw[if_neg hf];exact⟨λ h=>(by cases h),λ h=>absurd h.2.2 hf⟩
def a_ (l:List ag)(d:Dt):Option ag:=l.find? λ o=>decide (o.dot=d)
def gY (l:List ag)(d:Dt):Nat:=l.countP λ o=>decide (o.dot=d)
theorem DX (l:List ag)(x:ag)(d:Dt):gY (l++[x]) d=if x.dot=d then gY l d+1 else gY l d:=by
 unfold gY;rw[List.countP_append]
 by_cases h:x.dot=d<;>simp[h]
theorem vJ {l:List ag}{d:Dt}:0<gY l d↔∃ o,o∈l/\o.dot=d:=by
 unfold gY;rw[List.countP_pos_iff];simp
theorem fZ {l:List ag}{d:Dt}{o:ag}(h:a_ l d=some o):o∈l/\o.dot=d:=by
 unfold a_ at h;have h2:=List.find?_some h;simp only[decide_eq_true_eq] at h2;exact⟨List.mem_of_find?_eq_some h,h2⟩
theorem vK {l:List ag}{d:Dt}:a_ l d=none↔∀ o,o∈l->o.dot≠d:=by
 unfold a_;rw[List.find?_eq_none];simp
theorem oq {l:List ag}{d:Dt}:(a_ l d).isSome=true↔∃ o,o∈l/\o.dot=d:=by
 cases h:a_ l d with
 | none=>
  rw[vK] at h;constructor
  .intro h;cases h
  .rintro⟨o,ho,e⟩;exact absurd e (h o ho)
 | some o=>exact⟨λ _=>⟨o,fZ h⟩,λ _=>rfl⟩
def j8 (l:List ag):Prop:=(l.map (·.dot)).Nodup
theorem j8.inj {l:List ag}(h:j8 l){a b:ag}(ha:a∈l)(hb:b∈l)(e:a.dot=b.dot):a=b:=by
 induction l with
 | nil=>cases ha
 | cons x l ih=>
  unfold j8 at h;rw[List.map_cons,List.nodup_cons] at h;rcases List.mem_cons.1 ha with ea|ha'
  .rcases List.mem_cons.1 hb with eb|hb'
   .rw[ea,eb]
   .exact absurd (List.mem_map.2 ⟨b,hb',by rw[<- e,ea]⟩) h.1
  .rcases List.mem_cons.1 hb with eb|hb'
   .exact absurd (List.mem_map.2 ⟨a,ha',by rw[e,eb]⟩) h.1
   .exact ih h.2 ha' hb'
theorem j8.find {l:List ag}(h:j8 l){o:ag}(ho:o∈l):a_ l o.dot=some o:=by
 cases hf:a_ l o.dot with
 | none=>exact absurd rfl (vK.1 hf o ho)
 | some x=>
  obtain⟨h1,h2⟩:=fZ hf;rw[h.inj h1 ho h2]
theorem j8.perm {l m:List ag}(h:j8 l)(hp:m.Perm l):j8 m:=(hp.map _).nodup_iff.2 h
theorem j8.sub {l m:List ag}(h:j8 l)(hs:m.Sublist l):j8 m:=List.Nodup.sublist (hs.map _) h
theorem j8.cnt {l:List ag}(h:∀ o,o∈l->gY l o.dot=1):j8 l:=by
 induction l with
 | nil=>exact List.nodup_nil
 | cons x l ih=>
  have hc:∀ (o:ag),gY (x::l) o.dot=gY l o.dot+if x.dot=o.dot then 1 else 0:=λ o=>by
   unfold gY;rw[List.countP_cons];simp
  have h0:gY l x.dot=0:=by
   have:=h x (by simp);rw[hc] at this;simp at this;exact this
  have hx:∀ o,o∈l->o.dot≠x.dot:=λ o ho e=>by
   have:0<gY l x.dot:=vJ.2 ⟨o,ho,e⟩;omega
  refine List.nodup_cons.2 ⟨λ hm=> ?_,ih λ o ho=> ?_⟩
  .obtain⟨o,ho,e⟩:=List.mem_map.1 hm
   exact hx o ho e
  .have:=h o (List.mem_cons_of_mem _ ho)
   rw[hc,if_neg λ e=>hx o ho e.symm] at this;omega
structure tW (l:List ag)(o:ag):Prop where
 self:gY l o.dot=1
 prev:1<o.dot.n->gY l ⟨o.dot.r,o.dot.n - 1⟩=1
 deps:∀ r,r<8->0<o.dep.get r->gY l ⟨r,o.dep.get r⟩=1
 uL:∀ a,a∈l->a.before o=true->a.time<o.time/\o.dep.above a.dep=true
open Classical in
noncomputable def mR (n:Int)(l:List ag):Int:=
 if n<1\/8<n then 2 else if ∀ o,o∈l->Form n.toNat o then if ∀ o,o∈l->tW l o then 0 else 9 else 5
structure o8 (n:Int)(l:List ag):Prop where
 n1:1<=n
 n8:n<=8
 form:∀ o,o∈l->Form n.toNat o
 one:∀ o,o∈l->tW l o
theorem qR {n:Int}{l:List ag}:mR n l=0↔o8 n l:=by
 unfold mR
 by_cases h:n<1\/8<n
 .rw[if_pos h];constructor
  .intro h;cases h
  .intro hh;have:=hh.n1;have:=hh.n8;omega
 .rw[if_neg h]
  by_cases hf:∀ o,o∈l->Form n.toNat o
  .rw[if_pos hf]
   by_cases ho:∀ o,o∈l->tW l o
   .rw[if_pos ho];exact⟨λ _=>⟨by omega,by omega,hf,ho⟩,λ _=>rfl⟩
   .rw[if_neg ho];exact⟨λ h=>(by cases h),λ h=>absurd h.one ho⟩
  .rw[if_neg hf];exact⟨λ h=>(by cases h),λ h=>absurd h.form hf⟩
theorem o8.uniq {n:Int}{l:List ag}(h:o8 n l):j8 l:=j8.cnt λ o ho=>(h.one o ho).self
theorem o8.there {n:Int}{l:List ag}(h:o8 n l){o:ag}(ho:o∈l){d:Dt}(hd:o.dep.aU d=true):∃ a,a∈l/\a.dot=d:=by
 have hd':=hd;simp only[ay.aU,Dt.may,Bool.and_eq_true,decide_eq_true_eq] at hd';obtain⟨⟨hr,hn⟩,hle⟩:=hd';have h0:∃ a,a∈l/\a.dot=⟨d.r,o.dep.get d.r⟩:=vJ.1 (by have:=(h.one o ho).deps d.r hr (by omega);omega);have key:∀ k,k<=o.dep.get d.r - d.n->∃ a,a∈l/\a.dot=⟨d.r,o.dep.get d.r - k⟩:=by
  intro k
  induction k with
  | zero=>intro _;exact h0
  | succ k ih=>
   intro hk;obtain⟨a,ha,e⟩:=ih (by omega);have e1:a.dot.r=d.r:=by rw[e]
   have e2:a.dot.n=o.dep.get d.r - k:=by rw[e]
   have:=(h.one a ha).prev (by omega);rw[e1,e2] at this;exact vJ.1 (by rw[show o.dep.get d.r - (k+1)=o.dep.get d.r - k - 1 by omega];omega)
 obtain⟨a,ha,e⟩:=key (o.dep.get d.r - d.n) (Nat.le_refl _);refine⟨a,ha,e.trans ?_⟩;rw[show o.dep.get d.r - (o.dep.get d.r - d.n)=d.n by omega]
theorem o8.Ap {n:Int}{l:List ag}(h:o8 n l){o:ag}(ho:o∈l):o.dot.r<8/\0<o.dot.n:=by
 have:=h.form o ho;have h8:=h.n8;have h1:=h.n1;have:=this.r;exact⟨by omega,(h.form o ho).pos⟩
theorem o8.may {n:Int}{l:List ag}(h:o8 n l){o:ag}(ho:o∈l):o.dot.may=true:=by
 have:=h.Ap ho;simp[Dt.may,this.1,this.2]
end
section
def nz:DV->DV
 | .aL=> .sl 0 []
 | x=>x
theorem bQ.nz {M:Mem}{v:Value}{x:DV}(h:bQ M x v):bQ M (Go.Sl.nz x) v:=by
 cases x with
 | aL=>exact h.pU
 | _=>exact h
theorem dm.nz {M:Mem}{b:Nat}:∀ (cs:List DV) (o:Nat),dm M b o cs->dm M b o (cs.map Go.Sl.nz)
 | [],o,h=>by simp[dm]
 | c::cs,o,h=>by
  simp only[dm,List.map_cons] at h ⊢;obtain⟨⟨u,h1,h2⟩,h3⟩:=h;exact⟨⟨u,h1,h2.nz⟩,dm.nz cs (o+1) h3⟩
theorem bQ.Qa {M:Mem}{v:Value}{n:Nat}{cs:List DV}(h:bQ M (.sl n cs) v):bQ M (.sl n (cs.map Go.Sl.nz)) v:=by
 simp only[bQ] at h ⊢;obtain⟨A,c,h1,h2,h3,h4⟩:=h;refine⟨A,c,h1,h2,λ hn=>by rw[h3 hn];rfl,λ hn=> ?_⟩;obtain⟨b,o,h5,h6⟩:=h4 hn;exact⟨b,o,h5,dm.nz cs o h6⟩
theorem C5 {p:Nat->Prop}{μ:Nat->Nm}{M:Mem}{n:Nat}{cs:List DV}{r r':List SV}(hr:∀ vs,aS p μ M r' vs->aS p μ M r vs)(vs:List Value)(h:aS p μ M (.d (.sl n cs)::r') vs):aS p μ M (.d (.sl n (cs.map Go.Sl.nz))::r) vs:=by
 obtain⟨u,us,rfl,h1,h2⟩:=aS.aD.1 h;exact aS.aD.2 ⟨u,us,rfl,Rp.cB.2 (Rp.cB.1 h1).Qa,hr us h2⟩
theorem tX {p:Nat->Prop}{μ:Nat->Nm}{M:Mem}{r r':List SV}(hr:∀ vs,aS p μ M r' vs->aS p μ M r vs)(vs:List Value)(h:aS p μ M (.d .aL::r') vs):aS p μ M (.d (.sl 0 [])::r) vs:=by
 obtain⟨u,us,rfl,h1,h2⟩:=aS.aD.1 h;exact aS.aD.2 ⟨u,us,rfl,pU p μ M u h1,hr us h2⟩
theorem Aq {p:Nat->Prop}{μ:Nat->Nm}{M:Mem}{x:SV}{r r':List SV}(hr:∀ vs,aS p μ M r' vs->aS p μ M r vs)(vs:List Value)(h:aS p μ M (x::r') vs):aS p μ M (x::r) vs:=by
 obtain⟨u,us,rfl,h1,h2⟩:=aS.aD.1 h;exact aS.aD.2 ⟨u,us,rfl,h1,hr us h2⟩
def ag.nz (o:ag):ag:={ o with lines:=Go.Sl.nz o.lines}
theorem ag.N6 (o:ag):o.nz.ds=o.ds.map Go.Sl.nz:=rfl
theorem BM (l:List ag):((l.map ag.nz).flatMap ag.ds)=(l.flatMap ag.ds).map Go.Sl.nz:=by
 induction l with
 | nil=>rfl
 | cons o l ih=>simp only[List.map_cons,List.flatMap_cons,List.map_append,ih,ag.N6]
theorem ot {ds x:List DV}{a n b:Nat}(h:(ds.drop a).take n=x)(hb:a+n=b):ds.drop a=x++ds.drop b:=by
 rw[<- h,<- hb,<- List.drop_drop,List.take_append_drop]
end
section
variable {P:Program}
theorem bq.N7 {N k0:Nat}{st:St}{K:St->Prop}{si:SI}{r:List SI}{t:Nat}{b:Bool}{F:Hp}{nk:Nat}{Q:SV->Hp->Prop}(hg:si.g=some (t,b))(Pt:st.env.lookup t=some (.d (.bool b)))(hq:∀ o:Oper,cO P o.op=some si.op->oh P o (λ t=>st.env.lookup t) (lk st.hp) st.k nk F Q)
  (hro:dh si.op=false) (h:∀ v F',Q v F'->bq P N k0 r (l6 st si ⟨v,F,F',nk,True⟩) K):bq P N k0 (si::r) st K:=by
 refine bq.cons λ ops o hc hN rd cq M0 w0 c0 a w fJ i ho Q' KK FU=> ?_
 obtain⟨g1,g2,g3⟩:=gV hc;obtain⟨nI,hdf,hsz,μ,M,gL,hS,hE⟩:=fJ;have fJ:iF N cq M0 w0 c0 k0 st a w:=⟨nI,hdf,hsz,μ,M,gL,hS,hE⟩;have hw:Region.wanted o (yielded ops a.tmps)=true:=by
  rcases g3 with⟨_,h'⟩|⟨j,w,t',hg',hd,h'⟩
  .rw[hg] at h';cases h'
  .rw[hg] at h'
   injection h' with h';injection h' with e1 e2;subst e1;subst e2;have hv:=Rp.bF.1 (gL t _ Pt);simp only[Region.wanted,hg',iN hd hv];simp
 unfold wpOpIn;simp only[ho,hw,if_true];exact(iF.step g2 (λ d hd=>hN d (by rw[g2];exact hd)) (hq o g1) (λ v F' _ hr=>by rw[hro] at hr;cases hr) fJ λ v F' hQ a' w' hSt'=>FU _ a' w' (h v F' hQ) hSt')
theorem bq.BN {N k0:Nat}{st:St}{K:St->Prop}{d:Option Nat}{r:List SI}{f:X}{args:List X}{t:Nat}{b:Bool}{nl:Nat}{as:List SV}{F:Hp}{nk:Nat}{Q:SV->Hp->Prop}(Pt:st.env.lookup t=some (.d (.bool b)))
  (h1:ev (λ t=>st.env.lookup t) f=some (.yl nl)) (h2:qu (λ t=>st.env.lookup t) args=some as) (hF:lk F nl≠none) (N5:SY P nl as F st.k nk Q) (hsub:HSub F st.hp)
  (h:∀ v F',Q v F'->bq P N k0 r (l6 st ⟨d,.call f args,some (t,b)⟩ ⟨v,F,F',nk,True⟩) K):bq P N k0 (⟨d,.call f args,some (t,b)⟩::r) st K:=
 bq.N7 rfl Pt (λ o hc=>Am hc h1 h2 hF N5 hsub) rfl h
theorem iF.yY {N k0:Nat}{st:St}{cq:Nat->Nm}{M0:Mem}{w0:World}{c0:Nat->Option Ob}{a:Act}{w:World}(x ty:Nat)(e sz:Nat)(ht:lk st.hp x=some (.box ty [.d .aL]))(h:iF N cq M0 w0 c0 k0 st a w):
    iF N cq M0 w0 c0 k0 ⟨st.env,(x,.box ty [.gs st.k 0])::(st.k,.arr e sz 0 [])::st.hp,st.k+1⟩ a w:=by
  obtain⟨nI,hdf,hsz,μ,M,gL,hS,hE⟩:=h;have hmu:=uX (μ:=μ) (m:=⟨0,0,false⟩) (p:=(· <st.k)) (k:=st.k) (Nat.lt_irrefl _);have hup:∀ n,n<st.k->n<st.k+1:=λ n h=>by omega
  have hlt:∀ n ob,lk st.hp n=some ob->n<st.k:=λ n ob h=>(hS.obs n ob h).1
  have hxk:=hlt x _ ht;have hne:∀ n,n≠st.k->lk ((x,.box ty [.gs st.k 0])::(st.k,.arr e sz 0 [])::st.hp) n≠none->lk st.hp n≠none:=λ n h1 h2=>by
    rw[af] at h2
    split at h2
    . rename_i e1;rw[e1,ht];simp
    . rw[af,if_neg h1] at h2;exact h2
  refine⟨by show k0<=st.k+1;omega,hdf,hsz,zN μ st.k ⟨0,0,false⟩,M,λ u s hs=> ?_,⟨hS.mem,λ n ob hn=> ?_,λ n m hn hm ln lm e=> ?_⟩,⟨λ n hn=> ?_,hE.mem,hE.frame,hE.size,λ n hn=> ?_,hE.os,hE.tape,hE.output⟩⟩
  . exact(gL u s hs).more hup hmu (Mem.le_refl M)
  . rw[af] at hn
    split at hn
    . rename_i e1
      subst e1;injection hn with hn;subst hn;obtain⟨a1,⟨hl,vs,hb,hr⟩,a3⟩:=hS.obs n _ ht;rw[hmu n a1];refine⟨hup n a1,⟨hl,vs,hb,?_⟩,a3⟩;obtain⟨v,vs',e,h1,h2⟩:=aS.aD.1 hr;rw[e];refine aS.aD.2 ⟨v,vs',rfl,?_,aS.aQ.2 (aS.aQ.1 h2)⟩;have h1:=h1.rep;simp only[cW,bQ] at h1;intro ν ig;simp only[cW];rw[ig st.k (Nat.lt_succ_self _),bz];exact .inr ⟨rfl,trivial,none,h1⟩
    . rw[af] at hn
      split at hn
      . rename_i e1
        subst e1;injection hn with hn;subst hn;rw[bz];exact⟨Nat.lt_succ_self _,.inl ⟨rfl,rfl,rfl⟩,λ h=>by cases h⟩
      . obtain⟨a1,a2,a3⟩:=hS.obs n ob hn
        rw[hmu n a1];exact⟨hup n a1,a2.more hup hmu (Mem.le_refl M) λ _=>rfl,a3⟩
  . by_cases e1:n=st.k
    . subst e1;rw[bz] at ln;cases ln
    . by_cases e2:m=st.k
      . subst e2;rw[bz] at lm;cases lm
      . have hn:=hne n e1 hn
        have hm:=hne m e2 hm;obtain⟨o1,ho1⟩:=Option.ne_none_iff_exists'.1 hn;obtain⟨o2,ho2⟩:=Option.ne_none_iff_exists'.1 hm;rw[hmu n (hlt n o1 ho1)] at e ln;rw[hmu m (hlt m o2 ho2)] at e lm;exact hS.inj n m hn hm ln lm e
  . simp only at hn
    by_cases e1:n=st.k
    . subst e1;omega
    . rw[eV _ _ _ e1];exact hE.old n (by omega)
  . by_cases e1:n=st.k
    . subst e1
      rw[bz];exact .inl ⟨⟨by omega,Nat.lt_succ_self _⟩,λ h=>by cases h⟩
    . have hn:=hne n e1 hn
      obtain⟨o1,ho1⟩:=Option.ne_none_iff_exists'.1 hn;rw[hmu n (hlt n o1 ho1)];rcases hE.names n hn with⟨b1,b2⟩|⟨b1,b2⟩
      . exact .inl ⟨⟨b1.1,by have:=b1.2;show n<st.k+1;omega⟩,b2⟩
      . refine .inr ⟨λ h=> ?_,b2⟩
        have:n<st.k:=hlt n o1 ho1;exact b1 ⟨h.1,this⟩
theorem SW.yY {N k0:Nat}{st:St}{Q:Exit->St->Prop}{s:bP}(x ty:Nat)(e sz:Nat)(ht:lk st.hp x=some (.box ty [.d .aL]))(h:SW P N k0 s ⟨st.env,(x,.box ty [.gs st.k 0])::(st.k,.arr e sz 0 [])::st.hp,st.k+1⟩ Q):SW P N k0 s st Q:=
 λ c hc rd hrf cq M0 w0 c0 a w fJ=>h c hc rd hrf cq M0 w0 c0 a w (fJ.yY x ty e sz ht)
end
end Go.Sl
