/-
 Small lemmas for walks.
-/
import Derived.ProofKit
import Derived.OpenShut
import Derived.Carry
import Derived.ShutString
import Derived.Maps.RangeRun
import Derived.Test.YtaelhkkjgfobhaaGreatU3
set_option linter.unusedSimpArgs false
set_option linter.unusedSectionVars false
set_option linter.unusedVariables false
namespace Go.Sl
open Go.RowKit
abbrev u32 (n:Nat):SV:= .d (.int .u32 (n:Int))
abbrev u64 (n:Nat):SV:= .d (.int .u64 (n:Int))
abbrev u8 (n:Nat):SV:= .d (.int .u8 (n:Int))
abbrev i64 (n:Int):SV:= .d (.int .i64 n)
abbrev bl (b:Bool):SV:= .d (.bool b)
mutual
theorem SV.oA:∀ s:SV,s.aA id=s
 | .d _ | .ptr _ _ | .gs _ _ | .bs _ _ _ | .vp _ _ | .mp _ | .it _ | .yl _ | .any=>rfl
 | .fn f a c=>by simp only [SV.aA,SV.bP a,SV.bP c]
 | .agg cs=>by simp only [SV.aA,SV.bP cs]
 | .eu cs=>by simp only [SV.aA,SV.bP cs]
theorem SV.bP:∀ s:List SV,SV.aQ id s=s
 | []=>rfl
 | c::cs=>by simp only [SV.aQ,SV.oA c,SV.bP cs]
end
theorem Ob.oA (o:Ob):o.aA id=o:=by
 cases o <;> simp [Ob.aA,SV.bP,SV.oA]
section
variable {P:Program} {N k0:Nat} {st:St} {Q:Exit->St->Prop}
end
theorem uL {α β:Type}(f:α->List β)(sz:Nat)(hf:∀ x,(f x).length=sz):∀ (l:List α) (i j:Nat) (x:α),l[i]? =some x->j<sz->(l.flatMap f)[i*sz+j]? =(f x)[j]?
 | [],i,j,x,h,_=>by simp at h
 | y::l,0,j,x,h,hj=>by
  simp at h;subst h;rw [List.flatMap_cons,List.getElem?_append_left (by rw [hf];omega)];simp
 | y::l,i+1,j,x,h,hj=>by
  simp at h;rw [List.flatMap_cons,List.getElem?_append_right (by rw [hf,Nat.add_mul];omega),hf];rw [show (i+1)*sz+j - sz=i*sz+j by rw [Nat.add_mul];omega];exact uL f sz hf l i j x h hj
theorem jr {α β:Type}(f:α->List β)(sz:Nat)(hf:∀ x,(f x).length=sz):∀ (l:List α) (i:Nat) (x:α),l[i]? =some x->((l.flatMap f).drop (i*sz)).take sz=f x
 | [],i,x,h=>by simp at h
 | y::l,0,x,h=>by
  simp at h;subst h;simp [List.flatMap_cons,List.take_left' (hf y)]
 | y::l,i+1,x,h=>by
  simp at h;rw [List.flatMap_cons,Nat.add_mul,Nat.one_mul,Nat.add_comm,<- List.drop_drop,List.drop_left' (hf y)];exact jr f sz hf l i x h
theorem ew {α β:Type}(f:α->List β)(sz:Nat)(hf:∀ x,(f x).length=sz)(l:List α):(l.flatMap f).length=l.length*sz:=by
 induction l with
 | nil=>simp
 | cons x l ih=>simp [List.flatMap_cons,hf,ih,Nat.add_mul,Nat.add_comm]
theorem x_ (n:Int)(h: -9223372036854775808<=n)(h':n<9223372036854775808):IntKind.i64.wrap n=n:=by
 simp [IntKind.wrap,IntKind.bits,IntKind.signed];omega
theorem HSub.nil (h:Hp):HSub [] h:=λ n ob hn=>by simp [bD] at hn
def Pure (P:Program)(f:FuncId)(args:List SV)(v:SV):Prop:=SB P f args [] 0 0 λ r F=>r=v/\F=[]
theorem SV.wK {ρ:Nat->Nat}(s:SV):s.ok (λ n=>decide (n<0))=true->s.aA ρ=s:=
 SV.rec (motive_1:=λ s=>s.ok (λ n=>decide (n<0))=true->s.aA ρ=s) (motive_2:=λ l=>SV.ay (λ n=>decide (n<0)) l=true->SV.aQ ρ l=l)
  (λ _ _=>rfl) (λ _ _ h=>by simp [SV.ok] at h) (λ _ _ h=>by simp [SV.ok] at h) (λ _ _ _ h=>by simp [SV.ok] at h) (λ _ _ _=>rfl) (λ _ h=>by simp [SV.ok] at h) (λ _ h=>by simp [SV.ok] at h) (λ _ h=>by simp [SV.ok] at h)
  (λ f a c h1 h2 h=>by simp only [SV.ok,Bool.and_eq_true] at h;simp only [SV.aA,h1 h.1,h2 h.2])
  (λ cs h1 h=>by simp only [SV.ok] at h;simp only [SV.aA,h1 h]) (λ cs h1 h=>by simp only [SV.ok] at h;simp only [SV.aA,h1 h]) (λ _=>rfl)
  (λ _=>rfl) (λ c cs h1 h2 h=>by simp only [SV.ay,Bool.and_eq_true] at h;simp only [SV.aQ,h1 h.1,h2 h.2]) s
theorem Pure.sc {P:Program}{f:FuncId}{args:List SV}{v:SV}(h:Pure P f args v)(hv:v.ok (λ n=>decide (n<0))=true)(k:Nat):aJ P f args [] k 0 v []:=by
 have:=SB.at h id k (λ n m hn=>absurd hn (Nat.not_lt_zero n)) (λ n hn=>absurd hn (Nat.not_lt_zero n)) (λ i hi=>absurd hi (Nat.not_lt_zero i));rw [SV.bP] at this;refine this.mono ?_;rintro r F' ⟨r0,F0,⟨rfl,rfl⟩,rfl,rfl⟩;exact ⟨SV.wK _ hv,rfl⟩
structure aD where
 (a0 a1 a2 a3 a4 a5 a6 a7:Nat)
 deriving DecidableEq
def aD.get (v:aD):Nat->Nat
 | 0=>v.a0 | 1=>v.a1 | 2=>v.a2 | 3=>v.a3 | 4=>v.a4 | 5=>v.a5 | 6=>v.a6 | 7=>v.a7 | _=>0
def aD.of (f:Nat->Nat):aD:=⟨f 0,f 1,f 2,f 3,f 4,f 5,f 6,f 7⟩
theorem aD.N5 (f:Nat->Nat){r:Nat}(h:r<8):(aD.of f).get r=f r:=by
 match r,h with
 | 0,_ | 1,_ | 2,_ | 3,_ | 4,_ | 5,_ | 6,_ | 7,_=>rfl
def aD.ds (v:aD):List DV:=[.int .u32 v.a0,.int .u32 v.a1,.int .u32 v.a2,.int .u32 v.a3,.int .u32 v.a4,.int .u32 v.a5,.int .u32 v.a6,.int .u32 v.a7]
def aD.cells (v:aD):List SV:=[u32 v.a0,u32 v.a1,u32 v.a2,u32 v.a3,u32 v.a4,u32 v.a5,u32 v.a6,u32 v.a7]
theorem aD.oB (v:aD):v.ds.map .d=v.cells:=rfl
theorem aD.j6 (v:aD):v.ds.length=8:=rfl
theorem aD.iQ (v:aD){r:Nat}(h:r<8):v.cells[r]? =some (u32 (v.get r)):=by
 match r,h with
 | 0,_ | 1,_ | 2,_ | 3,_ | 4,_ | 5,_ | 6,_ | 7,_=>rfl
theorem aD.cells_one (v:aD):v.cells.all SV.dJ=true:=rfl
theorem aD.js (v:aD):v.cells.length=8:=rfl
theorem aD.aq (v:aD)(q:Nat->Bool):SV.ay q v.cells=true:=rfl
def aD.set (v:aD)(i x:Nat):aD:=aD.of λ r=>if r=i then x else v.get r
def aD.wf (v:aD):Prop:=∀ r,r<8->v.get r<4294967296
theorem aD.r_ (a b:aD):jq (rep 8 [true]) a.cells b.cells=some (decide (a=b)):=by
 have h:jq (rep 8 [true]) a.cells b.cells=some (((a.a0:Int) == b.a0) && (((a.a1:Int) == b.a1) && (((a.a2:Int) == b.a2) && (((a.a3:Int) == b.a3) && (((a.a4:Int) == b.a4) && (((a.a5:Int) == b.a5) && (((a.a6:Int) == b.a6) && (((a.a7:Int) == b.a7) && true)))))))):=by
  simp [jq,Hv,rep,aD.cells]
 rw [h]
 congr 1
 obtain ⟨a0,a1,a2,a3,a4,a5,a6,a7⟩:=a;obtain ⟨b0,b1,b2,b3,b4,b5,b6,b7⟩:=b;rw [Bool.eq_iff_iff];simp;omega
end Go.Sl
namespace Go.Sl
open Go.RowKit Go.ChangeShapes Go.WideShapes
def zm (P:Program):Nat->List Field->Option Nat
 | o,[]=>some o
 | o,f::fs=>if f.offset=o then zm P (o+P.cellsOf f.type) fs else none
def Fit (P:Program):Nat->TypeId->List DV->Prop
 | 0,_,_=>False
 | d+1,t,ds=>match P.underlying t with
  | some .bool=>∃ b,ds=[.bool b]
  | some (.int k)=>∃ n,ds=[.int k n]/\(Lit.int k n).wf=true
  | some (.struct fs)=>ds.length=P.cellsOf t/\∀ f∈fs.toList,Fit P d f.type ((ds.drop f.offset).take (P.cellsOf f.type))
  | some (.array n e)=>ds.length=P.cellsOf t/\∀ i,i<n->Fit P d e ((ds.drop (i*P.cellsOf e)).take (P.cellsOf e))
  | some (.slice e)=>ds=[.aN]\/∃ n cs,ds=[.sl n cs]/\n<=9223372036854775807/\cs.length=n*P.cellsOf e/\∀ i,i<n->Fit P d e ((cs.drop (i*P.cellsOf e)).take (P.cellsOf e))
  | _=>False
def jk (P:Program):Nat->TypeId->Bool
 | 0,_=>false
 | d+1,t=>match P.underlying t with
  | some .bool=>P.cellsOf t == 1
  | some (.int _)=>P.cellsOf t == 1
  | some (.struct fs)=>(zm P 0 fs.toList == some (P.cellsOf t)) && fs.toList.all λ f=>jk P d f.type
  | some (.array n e)=>(P.cellsOf t == n*P.cellsOf e) && jk P d e
  | some (.slice e)=>(P.cellsOf t == 1) && jk P d e && decide (0<P.cellsOf e) && decide (0<P.bytesOf e)
  | _=>false
def kZ (w:World):Mem:=λ b o=>w.cell? ⟨b,o,none⟩
def Cells (M:Mem):List Value->List DV->Prop
 | [],[]=>True
 | v::vs,d::ds=>bY M d v/\Cells M vs ds
 | _,_=>False
theorem Cells.length {M:Mem}:∀ {vs:List Value} {ds:List DV},Cells M vs ds->vs.length=ds.length
 | [],[],_=>rfl
 | v::vs,d::ds,h=>by simp only [Cells] at h;simp [h.2.length]
 | [],d::ds,h=>by simp [Cells] at h
 | v::vs,[],h=>by simp [Cells] at h
theorem Cells.append {M:Mem}:∀ {vs us:List Value} {ds es:List DV},Cells M vs ds->Cells M us es->Cells M (vs++us) (ds++es)
 | [],us,[],es,_,h=>by simpa using h
 | v::vs,us,d::ds,es,h,k=>by simp only [Cells] at h;simp only [List.cons_append,Cells];exact ⟨h.1,h.2.append k⟩
 | [],us,d::ds,es,h,_=>by simp [Cells] at h
 | v::vs,us,[],es,h,_=>by simp [Cells] at h
theorem Cells.OX {M:Mem}{p:Nat->Prop}{μ:Nat->Nm}:∀ {vs:List Value} {ds:List DV},Cells M vs ds->aX p μ M (ds.map .d) vs
 | [],[],_=>aX.aT.2 rfl
 | v::vs,d::ds,h=>by simp only [Cells] at h;exact aX.aG.2 ⟨v,vs,rfl,Rp.cZ.2 h.1,h.2.OX⟩
 | [],d::ds,h=>by simp [Cells] at h
 | v::vs,[],h=>by simp [Cells] at h
theorem Cells.Mw {w:World}{b:Nat}:∀ {vs:List Value} {ds:List DV} (q:Nat),Cells (kZ w) vs ds->(∀ (i:Nat) (v:Value),vs[i]? =some v->w.cell? ⟨b,q+i,none⟩=some v)->dy (kZ w) b q ds
 | [],[],q,_,_=>by simp [dy]
 | v::vs,d::ds,q,h,hc=>by
  simp only [Cells] at h;simp only [dy];refine ⟨⟨v,by simpa [kZ] using hc 0 v rfl,h.1⟩,Cells.Mw (q+1) h.2 λ i u hi=> ?_⟩;have:=hc (i+1) u (by simpa using hi)
  rwa [show q+(i+1)=q+1+i by omega] at this
 | [],d::ds,q,h,_=>by simp [Cells] at h
 | v::vs,[],q,h,_=>by simp [Cells] at h
section
variable {H:Type} {enc:TypeId×Value->H} {P:Program} {w:World} {sp:Nat->Bool} {held:Bool}
theorem wM:∀ {d:Nat} {t:TypeId} {ds:List DV},jk P d t=true->Fit P d t ds->ds.length=P.cellsOf t
 | 0,t,ds,h,_=>by simp [jk] at h
 | d +1,t,ds,h,hf=>by
  simp only [jk] at h;simp only [Fit] at hf
  split at h
  .rename_i hu;rw [hu] at hf;obtain ⟨b,rfl⟩:=hf;simp at h;simp [h]
  .rename_i hu;rw [hu] at hf;obtain ⟨b,rfl,_⟩:=hf;simp at h;simp [h]
  .rename_i hu;rw [hu] at hf;exact hf.1
  .rename_i hu;rw [hu] at hf;exact hf.1
  .rename_i hu;rw [hu] at hf
   simp at h;rcases hf with rfl | ⟨n,cs,rfl,_⟩ <;> simp [h.1.1.1]
  .cases h
theorem BO:∀ {fs:List Field} {o n:Nat},zm P o fs=some n->o<=n
 | [],o,n,h=>by simp [zm] at h;omega
 | f::fs,o,n,h=>by
  simp only [zm] at h
  split at h
  .have:=BO h;omega
  .cases h
mutual
def DV.small (B:Nat):DV->Prop
 | .sl n cs=>n<=B/\eO B cs
 | _=>True
def eO (B:Nat):List DV->Prop
 | []=>True
 | c::cs=>c.small B/\eO B cs
end
theorem eO.append {B:Nat}:∀ {cs ds:List DV},eO B cs->eO B ds->eO B (cs++ds)
 | [],_,_,h=>h
 | _::_,_,h,k=>by
  simp only [List.cons_append,eO] at h ⊢;exact ⟨h.1,h.2.append k⟩
theorem uM {B:Nat}:∀ {cs:List DV},eO B cs↔∀ c,c∈cs->c.small B
 | []=>by simp [eO]
 | c::cs=>by simp [eO,uM (cs:=cs)]
def AL (P:Program)(B:Nat)(t:TypeId)(y:DataW H):Prop:=∀ n,n∈y.weights P t->n<=B
def Sm (P:Program)(t:TypeId)(ds:List DV)(y:DataW H):Prop:=∀ (B:Nat),AL P B t y->eO B ds
theorem k9 {P:Program}{e:TypeId}{n:Nat}:∀ {xs:List (DataW H)} {x:DataW H},x∈xs->n∈x.weights P e->n∈DataW.weightsAll P e xs
 | [],_,h,_=>by cases h
 | y::ys,x,h,hn=>by
  simp only [DataW.weightsAll,List.mem_append];rcases List.mem_cons.1 h with rfl | h
  .exact .inl hn
  .exact .inr (k9 h hn)
theorem oh {P:Program}{n:Nat}:∀ {ts:List TypeId} {xs:List (DataW H)} {j:Nat} {t:TypeId} {x:DataW H},ts[j]? =some t->xs[j]? =some x->n∈x.weights P t->n∈DataW.weightsEach P ts xs
 | t0::ts,x0::xs,0,t,x,ht,hx,hn=>by
  simp at ht hx;subst ht;subst hx;simp only [DataW.weightsEach,List.mem_append];exact .inl hn
 | t0::ts,x0::xs,j+1,t,x,ht,hx,hn=>by
  simp at ht hx;simp only [DataW.weightsEach,List.mem_append];exact .inr (oh ht hx hn)
 | [],_,_,_,_,ht,_,_=>by simp at ht
 | _::_,[],_,_,_,_,hx,_=>by simp at hx
theorem AL.slice {P:Program}{B:Nat}{t e:TypeId}{es sp:List (DataW H)}(hu:P.underlying t=some (.slice e))(h:AL P B t (.slice es sp)):(0<P.bytesOf e->es.length<=B)/\∀ x,x∈es->AL P B e x:=by
 constructor
 .intro hp
  have:=h ((es.length+sp.length)*P.bytesOf e) (by simp [DataW.weights,hu]);have h2:es.length*1<=(es.length+sp.length)*P.bytesOf e:=Nat.mul_le_mul (by omega) hp;omega
 .intro x hx n hn
  exact h n (by simp only [DataW.weights,hu,List.mem_cons,List.mem_append];exact .inr (.inl (k9 hx hn)))
theorem AL.struct {P:Program}{B:Nat}{t:TypeId}{fs:Array Field}{xs:List (DataW H)}(hu:P.underlying t=some (.struct fs))(h:AL P B t (.agg xs)){i:Nat}{f:Field}{x:DataW H}(hf:fs.toList[i]? =some f)(hx:xs[i]? =some x):AL P B f.type x:=λ n hn=>
 h n (by simp only [DataW.weights,hu];exact oh (j:=i) (by rw [List.getElem?_map,hf];rfl) hx hn)
theorem AL.array {P:Program}{B:Nat}{t e:TypeId}{k:Nat}{xs:List (DataW H)}(hu:P.underlying t=some (.array k e))(h:AL P B t (.agg xs)){x:DataW H}(hx:x∈xs):AL P B e x:=λ n hn=>
 h n (by simp only [DataW.weights,hu];exact k9 hx hn)
theorem uN (d fuel:Nat)(cs:List Value)(Q:Field->DataW H->Prop)(part:∀ f:Field,jk P d f.type=true->∀ x,DataW.trod enc P w 0 sp held fuel f.type ((cs.drop f.offset).take (P.cellsOf f.type))=some x->
   ∃ ds,Fit P d f.type ds/\Cells (kZ w) ((cs.drop f.offset).take (P.cellsOf f.type)) ds/\Sm P f.type ds x.1):
  ∀ (fs:List Field) (o n:Nat),zm P o fs=some n->n<=cs.length->(∀ f∈fs,jk P d f.type=true/\∃ x,DataW.trod enc P w 0 sp held fuel f.type ((cs.drop f.offset).take (P.cellsOf f.type))=some x/\Q f x.1)->
   ∃ ds,ds.length=n - o/\Cells (kZ w) ((cs.drop o).take (n - o)) ds/\(∀ f∈fs,o<=f.offset/\Fit P d f.type ((ds.drop (f.offset - o)).take (P.cellsOf f.type)))/\∀ (B:Nat),(∀ f x,Q f x->AL P B f.type x)->eO B ds
 | [],o,n,h,_,_=>by
  simp [zm] at h;subst h;exact ⟨[],by simp,by simp [Cells],by simp,λ _ _=>trivial⟩
 | f ::fs,o,n,h,hn,hf=>by
  simp only [zm] at h
  split at h <;> try (cases h;done)
  rename_i ho;have hle:=BO h;obtain ⟨ds2,l2,c2,f2,s2⟩:=uN d fuel cs Q part fs _ n h hn λ g hg=>hf g (by simp [hg])
  obtain ⟨x1,hx1,hq1⟩:=(hf f (by simp)).2;obtain ⟨ds1,f1,c1,s1⟩:=part f (hf f (by simp)).1 x1 hx1;have l1:=wM (hf f (by simp)).1 f1;refine ⟨ds1++ds2,by simp [l1,l2];omega,?_,?_,λ B hq=>(s1 B (hq _ _ hq1)).append (s2 B hq)⟩
  .have:=c1.append c2
   rw [ho] at this;have e:(cs.drop o).take (n - o)=(cs.drop o).take (P.cellsOf f.type)++(cs.drop (o+P.cellsOf f.type)).take (n - (o+P.cellsOf f.type)):=by
    rw [<- List.drop_drop,show n - o=P.cellsOf f.type+(n - (o+P.cellsOf f.type)) by omega,List.take_add]
   rw [e];exact this
  .intro g hg
   rcases List.mem_cons.1 hg with rfl | hg
   .refine ⟨by omega,?_⟩
    rw [show g.offset - o=0 by omega,List.drop_zero,List.take_left' l1];exact f1
   .obtain ⟨q1,q2⟩:=f2 g hg
    refine ⟨by omega,?_⟩;rw [List.drop_append,List.drop_eq_nil_of_le (by omega),List.nil_append,l1,show g.offset - o - P.cellsOf f.type=g.offset - (o+P.cellsOf f.type) by omega];exact q2
theorem sE (d:Nat)(e:TypeId)(he:jk P d e=true)(cell:Nat->List Value)(Q:DataW H->Prop):∀ (n k:Nat),(∀ i,i<n->∃ ds,Fit P d e ds/\Cells (kZ w) (cell (k+i)) ds/\∃ x,Q x/\Sm P e ds x)->
  ∃ ds,ds.length=n*P.cellsOf e/\Cells (kZ w) ((List.range' k n).flatMap cell) ds/\(∀ i,i<n->Fit P d e ((ds.drop (i*P.cellsOf e)).take (P.cellsOf e)))/\∀ (B:Nat),(∀ x,Q x->AL P B e x)->eO B ds
 | 0,k,_=>⟨[],by simp,by simp [Cells],by omega,λ _ _=>trivial⟩
 | n + 1,k,h=>by
  obtain ⟨ds1,f1,c1,x1,hq1,s1⟩:=h 0 (by omega);have l1:=wM he f1;obtain ⟨ds2,l2,c2,f2,s2⟩:=sE d e he cell Q n (k+1) λ i hi=>by
   have:=h (i+1) (by omega)
   rwa [show k+(i+1)=k+1+i by omega] at this
  refine ⟨ds1++ds2,by simp [l1,l2,Nat.add_mul];omega,?_,λ i hi=> ?_,λ B hq=>(s1 B (hq _ hq1)).append (s2 B hq)⟩
  .rw [List.range'_succ,List.flatMap_cons]
   exact c1.append c2
  .cases i with
   | zero=>simp [List.take_left' l1];exact f1
   | succ i=>
    rw [Nat.add_mul,Nat.one_mul,Nat.add_comm,<- List.drop_drop,List.drop_left' l1];exact f2 i (by omega)
theorem iQ {b o n:Nat}{base:Nat}{cs:List Value}(h:w.cells? base ⟨b,o,none⟩ n=some cs):cs.length=n/\∀ (i:Nat) (v:Value),cs[i]? =some v->w.cell? ⟨b,o+i,none⟩=some v:=by
 obtain ⟨_,h1,h2⟩:=World.cells?_some h;refine ⟨h1,λ i v hi=> ?_⟩;have hlt:i<n:=by
  have:=(List.getElem?_eq_some_iff.1 hi).1;omega
 have:=h2 i hlt;rw [dU] at this;rw [this];exact hi
theorem Es : ∀ (d fuel:Nat) (t:TypeId) (cs:List Value) (x:DataW H×List MemPlace),jk P d t=true->DataW.trod enc P w 0 sp held fuel t cs=some x->∃ ds,Fit P d t ds/\Cells (kZ w) cs ds/\Sm P t ds x.1:=by
  intro d
  induction d with
  | zero=>intro fuel t cs x h;simp [jk] at h
  | succ d ih =>
    intro fuel t cs x h hx;simp only [jk] at h;simp only [Fit]
    split at h
    . rename_i hu
      (try rw [hu])
      obtain ⟨b,rfl,_⟩:=DataW.trod_bool hu hx;exact ⟨[.bool b],⟨b,rfl⟩,by simp [Cells,bY],λ _ _=>by simp [eO,DV.small]⟩
    . rename_i k hu
      (try rw [hu])
      obtain ⟨n,rfl,_,hw⟩:=DataW.trod_int hu hx;exact ⟨[.int k n],⟨n,rfl,hw⟩,by simp [Cells,bY],λ _ _=>by simp [eO,DV.small]⟩
    . rename_i fs hu
      (try rw [hu])
      simp only [Bool.and_eq_true,beq_iff_eq,List.all_eq_true] at h;obtain ⟨xs,n,hn,hxe,hl,hxl,hf⟩:=DataW.trod_struct hu hx;obtain ⟨ds,l1,c1,f1,s1⟩:=uN d n cs (λ f x=>∃ i,fs.toList[i]? =some f/\(xs.map (·.1))[i]? =some x) (λ f hft y hy=>ih n f.type _ y hft hy) fs.toList 0 (P.cellsOf t) h.1 (by omega) λ f hf'=>by
        refine ⟨h.2 f hf',?_⟩;obtain ⟨i,hi,e⟩:=List.getElem_of_mem hf';have hfi:fs[i]? =some f:=by
          have hi':i<fs.size:=by simpa using hi
          rw [Array.getElem?_eq_getElem hi'];simpa using e
        have:=hf i f hfi;have hix:i<xs.length:=by rw [hxl];simpa using hi
        exact ⟨_,this.trans (List.getElem?_eq_getElem hix),i,by rw [Array.getElem?_toList];exact hfi,by rw [List.getElem?_map,List.getElem?_eq_getElem hix];rfl⟩
      refine ⟨ds,⟨by simpa using l1,λ f hf'=>by simpa using (f1 f hf').2⟩,?_,λ B hq=>s1 B λ f x ⟨i,h1,h2⟩=>AL.struct hu (by rw [hxe] at hq;exact hq) h1 h2⟩;rw [List.drop_zero,Nat.sub_zero,List.take_of_length_le (by omega)] at c1;exact c1
    . rename_i n e hu
      (try rw [hu])
      simp only [Bool.and_eq_true,beq_iff_eq] at h;obtain ⟨xs,m,hm,hxe,hl,hxl,hf⟩:=DataW.trod_array hu hx;obtain ⟨ds,l1,c1,f1,s1⟩:=sE d e h.2 (λ i=>(cs.drop (i*P.cellsOf e)).take (P.cellsOf e)) (λ x=>x∈xs.map (·.1)) n 0 λ i hi=>by
        have:=hf i hi;have hix:i<xs.length:=by omega
        rw [Nat.zero_add];obtain ⟨ds,a1,a2,a3⟩:=ih m e _ _ h.2 (this.trans (List.getElem?_eq_getElem hix));exact ⟨ds,a1,a2,_,List.mem_map.2 ⟨_,List.getElem_mem hix,rfl⟩,a3⟩
      have hfl:∀ (n k:Nat) (cs:List Value),(k+n)*P.cellsOf e<=cs.length->(List.range' k n).flatMap (λ i=>(cs.drop (i*P.cellsOf e)).take (P.cellsOf e))=(cs.drop (k*P.cellsOf e)).take (n*P.cellsOf e):=by
        intro n
        induction n with
        | zero=>intro k cs _;simp
        | succ n ihn=>
          intro k cs hk;rw [List.range'_succ,List.flatMap_cons,ihn (k+1) cs (by rwa [show k+1+n=k+(n+1) by omega])];rw [show (n+1)*P.cellsOf e=P.cellsOf e+n*P.cellsOf e by rw [Nat.add_mul];omega,List.take_add,List.drop_drop];rw [show k*P.cellsOf e+P.cellsOf e=(k+1)*P.cellsOf e by rw [Nat.add_mul];omega]
      refine ⟨ds,⟨by rw [l1,h.1],f1⟩,?_,λ B hq=>s1 B λ x hx'=>AL.array hu (by rw [hxe] at hq;exact hq) hx'⟩;rw [hfl n 0 cs (by rw [hl,h.1];simp)] at c1;rw [Nat.zero_mul,List.drop_zero,List.take_of_length_le (by rw [hl,h.1];exact Nat.le_refl _)] at c1;exact c1
    . rename_i e hu
      (try rw [hu])
      simp only [Bool.and_eq_true,beq_iff_eq,decide_eq_true_eq] at h;rcases DataW.trod_slice hu hx with ⟨rfl,_⟩ | ⟨a,len,cap,elems,rest,n,hn,rfl,hxe,_,hlc,Et,hel,hf,_⟩
      . exact ⟨[.aN],.inl rfl,by simp [Cells,bY],λ _ _=>by simp [eO,DV.small]⟩
      . have hspot:0<len->a.spot=none:=by
          intro hpos;have:=hf 0 hpos;rw [show elems[0]? =some (elems[0]'(by omega)) from List.getElem?_eq_getElem (by omega)] at this;obtain ⟨c0,h0,_⟩:=Option.bind_eq_some_iff.1 this;obtain ⟨_,h1,h2⟩:=World.cells?_some h0;have h3:=h2 0 h.1.2;simp only [Nat.zero_mul] at h3;have e0:(a.add 0).add 0=a:=by simp [Addr.add]
          rw [e0] at h3;have hsome:c0[0]? =some (c0[0]'(by omega)):=List.getElem?_eq_getElem (by omega);rw [hsome] at h3;unfold World.cell? at h3
          split at h3
          . split at h3
            . cases h3
            . rename_i hs;simpa using hs
          . cases h3
        have hA:0<len->a=⟨a.block,a.off,none⟩:=λ hpos=>by
          have:=hspot hpos;obtain ⟨b,o,s⟩:=a;simp at this;subst this;rfl
        have hcell:∀ i,i<len->∃ c,w.cells? 0 (a.add (i*P.cellsOf e)) (P.cellsOf e)=some c/\∃ ds,Fit P d e ds/\Cells (kZ w) c ds/\∃ x,x∈elems.map (·.1)/\Sm P e ds x:=by
          intro i hi;have:=hf i hi;rw [List.getElem?_eq_getElem (show i<elems.length by omega)] at this;obtain ⟨c,h0,h1⟩:=Option.bind_eq_some_iff.1 this;obtain ⟨ds,a1,a2,a3⟩:=ih n e c _ h.1.1.2 h1;exact ⟨c,h0,ds,a1,a2,_,List.mem_map.2 ⟨_,List.getElem_mem (by omega),rfl⟩,a3⟩
        let cell:Nat->List Value:=λ i=>((w.cells? 0 (a.add (i*P.cellsOf e)) (P.cellsOf e)).getD [])
        have mO:∀ i,i<len->w.cells? 0 (a.add (i*P.cellsOf e)) (P.cellsOf e)=some (cell i):=λ i hi=>by
          obtain ⟨c,h0,_⟩:=hcell i hi;simp only [cell];rw [h0];rfl
        obtain ⟨ds,l1,c1,f1,s1⟩:=sE d e h.1.1.2 cell (λ x=>x∈elems.map (·.1)) len 0 λ i hi=>by
          obtain ⟨c,h0,h1⟩:=hcell i hi;rw [Nat.zero_add];simp only [cell];rw [h0];exact h1
        refine ⟨[.sl len ds],.inr ⟨len,ds,rfl,by unfold maxLen at Et;omega,l1,f1⟩,?_,λ B hq=> ?_⟩;rotate_left
        . rw [hxe] at hq
          simp only [eO,DV.small,and_true];obtain ⟨g1,g2⟩:=AL.slice hu hq;have:=g1 h.2;rw [List.length_map,hel] at this;exact ⟨this,s1 B λ x hx'=>g2 x hx'⟩
        simp only [Cells,bY,and_true];refine ⟨some a,cap,rfl,hlc,λ h0=> ?_,λ hpos=>⟨a.block,a.off,by rw [<- hA hpos],?_⟩⟩
        . subst h0;simp at l1;exact l1
        . refine Cells.Mw a.off c1 λ i v hi=> ?_
          have key:∀ (n k i:Nat) (v:Value),k+n<=len->((List.range' k n).flatMap cell)[i]? =some v->w.cell? ⟨a.block,a.off+k*P.cellsOf e+i,none⟩=some v:=by
            intro n
            induction n with
            | zero=>intro k i v _ h;simp at h
            | succ n ihn=>
              intro k i v hk hv;rw [List.range'_succ,List.flatMap_cons] at hv;have hck:=mO k (by omega);rw [hA (by omega),dU] at hck;obtain ⟨g1,g2⟩:=iQ hck
              by_cases hlt:i<(cell k).length
              . rw [List.getElem?_append_left hlt] at hv
                exact g2 i v hv
              . rw [List.getElem?_append_right (by omega),g1] at hv
                have:=ihn (k+1) (i - P.cellsOf e) v (by omega) hv
                rwa [show a.off+(k+1)*P.cellsOf e+(i - P.cellsOf e)=a.off+k*P.cellsOf e+i by rw [Nat.add_mul];omega] at this
          have:=key len 0 i v (by omega) hi
          simpa using this
    . cases h
def lT (P:Program)(t:TypeId)(ds:List DV):SV:=
 match dM P t with
 | some (some _)=> .agg (ds.map .d)
 | _=> .d (ds.headD .kA)
def sF (P:Program)(d:Nat):List TypeId->List (List DV)->Prop
 | [],[]=>True
 | t::ts,x::xs=>Fit P d t x/\sF P d ts xs
 | _,_=>False
def uO (P:Program):List TypeId->List (List DV)->List SV
 | t::ts,x::xs=>lT P t x::uO P ts xs
 | _,_=>[]
def qC (P:Program)(d:Nat)(ts:List TypeId):Bool:=ts.all λ t=>jk P d t && (P.readableRec t && decide (t<P.types.size))
theorem H6 {t:TypeId}{v:Value}{d:Nat}{x:DataW H}{ps:List MemPlace}{r:Reach}{b0:Nat}(hf:jk P d t=true)(hv:Value.okWide P w r b0 t v)(h:DataW.Trod enc P w 0 sp held t v x ps)(p:Nat->Prop)(μ:Nat->Nm):
  ∃ ds,Fit P d t ds/\Rp p μ (kZ w) (lT P t ds) v/\Sm P t ds x:=by
 obtain ⟨fuel,hx⟩:=h;obtain ⟨ds,h1,h2,h3⟩:=Es d fuel t _ _ hf hx;refine ⟨ds,h1,?_,h3⟩;have hinfo:∃ i,P.info? t=some i:=by
  cases hi:P.info? t with
  | some i=>exact ⟨i,rfl⟩
  | none=>
   exfalso
   cases d with
   | zero=>simp [jk] at hf
   | succ d=>simp [jk,Program.underlying,hi] at hf
 obtain ⟨i,hi⟩:=hinfo;have one:∀ (hs:dM P t=some none) (Mx:v.cells.toList=[v]),Rp p μ (kZ w) (lT P t ds) v:=by
  intro hs Mx;rw [Mx] at h2
  match ds,h2 with
  | [y],h2=>
   simp only [Cells] at h2;simp only [lT,hs,List.headD_cons];exact Rp.cZ.2 h2.1
  | [],h2=>simp [Cells] at h2
  | y::z::r,h2=>simp [Cells] at h2
 have agg:∀ (n:Nat) (hs:dM P t=some (some n)) (cs:Array Value) (Mx:v= .agg cs),Rp p μ (kZ w) (lT P t ds) v:=by
  intro n hs cs Mx;subst Mx;simp only [lT,hs];exact Rp.fA.2 ⟨cs,rfl,Cells.OX h2⟩
 cases d with
 | zero=>simp [jk] at hf
 | succ d=>
  simp only [jk] at hf
  split at hf
  .rename_i hu
   obtain ⟨b,rfl⟩:=okWide_bool hu hv;exact one (by simp [dM,hu,hi]) rfl
  .rename_i hu
   obtain ⟨b,rfl⟩:=okWide_int hu hv;exact one (by simp [dM,hu,hi]) rfl
  .rename_i fs hu
   obtain ⟨cs,rfl,_⟩:=okWide_struct hu hv;exact agg i.size (by simp [dM,hu,hi]) cs rfl
  .rename_i n e hu
   unfold Value.okWide at hv;rw [hu] at hv;obtain ⟨cs,rfl,_⟩:=hv;exact agg i.size (by simp [dM,hu,hi]) cs rfl
  .rename_i e hu
   obtain ⟨a,len,cap,rfl⟩:=okWide_slice hu hv;exact one (by simp [dM,hu,hi]) rfl
  .cases hf
theorem zn {d:Nat}{r:Reach}{b0:Nat}(p:Nat->Prop)(μ:Nat->Nm):∀ (ts:List TypeId) (vs:List Value) (xs:List (DataW H)) (ps:List MemPlace),qC P d ts=true->DataW.TrodAll enc P w 0 sp held ts vs xs ps->
  (∀ (j:Nat) t v,ts[j]? =some t->vs[j]? =some v->Value.okWide P w r b0 t v)->∃ vQ,sF P d ts vQ/\aX p μ (kZ w) (uO P ts vQ) vs/\xs.length=ts.length/\∀ (B:Nat),(∀ n,n∈DataW.weightsEach P ts xs->n<=B)->∀ ds,ds∈vQ->eO B ds
 | [],vs,xs,ps,_,h,_=>by
  obtain ⟨rfl,rfl,_⟩:=trodAll_nil h;exact ⟨[],trivial,aX.aT.2 rfl,rfl,λ _ _ _ h=>by cases h⟩
 | t::ts,vs,xs,ps,hf,h,hv=>by
  obtain ⟨v,vs',x,xs',p1,p2,rfl,rfl,rfl,h1,h2⟩:=trodAll_cons h;simp only [qC,List.all_cons,Bool.and_eq_true] at hf;obtain ⟨ds,a1,a2,a3⟩:=H6 (P:=P) hf.1.1 (hv 0 t v rfl rfl) h1 p μ;obtain ⟨vQ,b1,b2,b3,b4⟩:=zn p μ ts vs' xs' p2 (by simpa [qC] using hf.2) h2 λ j t' v' ht hv'=>hv (j+1) t' v' (by simpa using ht) (by simpa using hv')
  refine ⟨ds::vQ,⟨a1,b1⟩,aX.aG.2 ⟨v,vs',rfl,a2,b2⟩,by simp [b3],λ B hq ds' hd=> ?_⟩;rcases List.mem_cons.1 hd with rfl | hd
  .exact a3 B λ n hn=>hq n (by simp only [DataW.weightsEach,List.mem_append];exact .inl hn)
  .exact b4 B (λ n hn=>hq n (by simp only [DataW.weightsEach,List.mem_append];exact .inr hn)) ds' hd
theorem qm {d:Nat}(hl:laidOutB P=true){W W':World}{sp':Nat->Bool}:∀ (ts:List TypeId) (vs:List Value) (xs:List (DataW H)) (ps:List MemPlace),qC P d ts=true->DataW.TrodAll enc P W 0 (λ _=>true) true ts vs xs ps->
  (∀ x∈ps,W.sameAt W' x)->(∀ x∈ps,sp' x.block=true)->DataW.TrodAll enc P W' 0 sp' true ts vs xs ps
 | [],vs,xs,ps,_,h,_,_=>by
  obtain ⟨rfl,rfl,rfl⟩:=trodAll_nil h;exact trodAll_mk0
 | t ::ts,vs,xs,ps,hf,h,hs,hp=>by
  obtain ⟨v,vs',x,xs',p1,p2,rfl,rfl,rfl,h1,h2⟩:=trodAll_cons h;simp only [qC,List.all_cons,Bool.and_eq_true,decide_eq_true_eq] at hf
  exact trodAll_cons_mk (WideElems.Trod_stays hl hf.1.2.1 hf.1.2.2 h1 (λ q hq=>hs q (by simp [hq])) (λ q hq=>hp q (by simp [hq])))
   (qm hl ts vs' xs' p2 (by simpa [qC] using hf.2) h2 (λ q hq=>hs q (by simp [hq])) (λ q hq=>hp q (by simp [hq])))
theorem vW {f:Func}{s:ChangeSpec}{apart fresh handsOn again:Bool}{W W':World}{args:Array Value}{v:Value}{ds gs:List (DataW H)}{before pa pv:List MemPlace}
  (hW:DataW.Whole enc P f.params.toList s.vars apart W args.toList ds gs before)
  (hres:∀ (b:Nat) (sp:Nat->Bool) (hd:Bool),DataW.TrodAll enc P W' b sp hd f.resultTypes.toList (v.resultList f.resultTypes.size) (s.fn H (ds++gs)).results [])
  (hargs:∀ sp:Nat->Bool,(∀ p∈before,sp p.block=true)->DataW.TrodAll enc P W' 0 sp true f.params.toList args.toList (s.fn H (ds++gs)).args pa)
  (hvars:∀ sp:Nat->Bool,(∀ p∈before,sp p.block=true)->DataW.TrodVars enc P W' sp s.vars (s.fn H (ds++gs)).vars pv)
  (hps:before=pa++pv) (hb:Below W.heap.size W W')
  (hok:∀ (j:Nat) (t:TypeId) (r:Value),f.resultTypes[j]? =some t->(v.resultList f.resultTypes.size)[j]? =some r->Value.okWide P W' .any 0 t r):
  s.post enc P f apart fresh handsOn again W args v W':=by
 have hlt:∀ p∈before,p.block<W.heap.size:=λ p hp=>hW.lt p hp
 have hold:∀ p∈before,(λ b=>decide (b<W.heap.size)) p.block=true:=λ p hp=>by simpa using hlt p hp
 refine ⟨ds,gs,before,[],pa,pv,hW,hres _ _ _,hargs _ hold,hvars _ hold,World.keptBut_mono (λ p hp=>⟨hp,?_⟩) (hb.frame (· ∈before)),λ _=> ?_⟩
 .rw [hps,List.mem_append] at hp
  exact Or.inr hp
 .obtain ⟨_,_,_,_,_,hz,hn⟩:=hW
  refine ⟨hok,_,_,([]++pa)++pv,⟨[]++pa,pv,trodAll_append (hargs _ (λ _ _=>rfl)) (hres _ _ _),hvars _ (λ _ _=>rfl),rfl,?_,?_⟩,?_⟩
  .intro b off hp
   have hin:MemPlace.cell b off∈before:=by rw [hps];simpa using hp
   rw [hb.frozen (hlt _ hin)];exact hz b off hin
  .intro ha
   have:=hn ha;rw [hps] at this
   simpa using this
  .intro p hp _
   rw [hps]
   simpa using hp
theorem CE {f:FuncId}{fn:Func}{spec:ChangeSpec}{tb:TypeId}(d:Nat)(hl:laidOutB P=true)(hts:qC P d fn.params.toList=true)(hres:fn.resultTypes= #[tb])(htb:P.underlying tb=some .bool)(hvars:spec.vars=[])
  (My:∀ ds:List (DataW H),ds.length=fn.params.toList.length->(spec.fn H ds).results=[.lit (.bool true)]/\(spec.fn H ds).args=ds/\(spec.fn H ds).vars=[])
  (B:Nat)
  (N6:∀ vQ,sF P d fn.params.toList vQ->(∀ ds,ds∈vQ->eO B ds)->SB P f (uO P fn.params.toList vQ) [] 0 0 λ r F=>r=bl true)
  (W:World) (base:Nat) (args:Array Value) (ds gs:List (DataW H)) (before:List MemPlace)
  (hval:∀ (j:Nat) t v,fn.params[j]? =some t->args[j]? =some v->Value.okWide P W .any base t v)
  (hW:DataW.Whole enc P fn.params.toList spec.vars false W args.toList ds gs before) (hG:qq (kZ W)) (hB:∀ n,n∈DataW.weightsEach P fn.params.toList ds->n<=B):
  Calls P f args W λ e W'=>∃ v,e= .returned v/\spec.post enc P fn false true false false W args v W':=by
 have hW':=hW;obtain ⟨p,q,hA,hV,rfl,hfz,ny⟩:=hW;rw [hvars] at hV;obtain ⟨rfl,rfl⟩:=trodVars_none hV;obtain ⟨vQ,h1,h2,h3,h4⟩:=zn (P:=P) (d:=d) (λ n=>n<0) (λ _=>⟨0,0,true⟩) fn.params.toList args.toList ds p hts hA λ j t v ht hv=>hval j t v (by simpa using ht) (by simpa using hv)
 refine ((N6 vQ h1 (h4 B hB)).2.2.2 (λ _=>⟨0,0,true⟩) (kZ W) W args h2 ⟨⟨λ b o v h=>h,hG⟩,λ n ob h=>by simp [bD] at h,λ n m h=>by simp [bD] at h⟩).mono ?_;rintro e W' ⟨r,F',bn,M',u,rfl,rfl,_,_,hr,_,hE⟩;have hu:u= .bool true:=by simpa [di,bY] using hr
 subst hu;have hb:Below W.heap.size W W':=⟨hE.os,hE.tape.1,hE.output,hE.size,λ b hb=>(hE.frame b hb λ n hn=>by simp [bD] at hn).1⟩;obtain ⟨s1,s2,s3⟩:=My (ds++[]) (by simpa using h3);refine ⟨_,rfl,vW (pa:=p) (pv:=[]) hW' (λ b sp hd=> ?_) (λ sp hsp=> ?_) (λ sp hsp=> ?_) rfl hb ?_⟩
 .rw [s1,hres]
  exact trodAll_cons_mk (shut_bool htb _) trodAll_mk0
 .rw [s2]
  simp only [List.append_nil] at hsp ⊢;exact qm hl _ _ _ _ hts hA (λ x hx=>hb.same (hW'.lt x (by simpa using hx))) hsp
 .rw [hvars,s3]
  rfl
 .exact ok_one hres rfl (okWide_bool_mk htb _)
end
end Go.Sl
namespace Go.Sl
open Go.RowKit
mutual
def SV.iB (n len:Nat)(ds:List DV):SV->SV
 | .gs m l=>if m=n then (if l=len then .d (.sl len ds) else .any) else .gs m l
 | .agg cs=> .agg (SV.jS n len ds cs)
 | .eu cs=> .eu (SV.jS n len ds cs)
 | s=>s
def SV.jS (n len:Nat)(ds:List DV):List SV->List SV
 | []=>[]
 | c::cs=>c.iB n len ds::SV.jS n len ds cs
end
def k_ (n len:Nat)(ds:List DV)(env:List (Nat×SV)):List (Nat×SV):=env.map λ x=>(x.1,x.2.iB n len ds)
theorem lg (n len:Nat)(ds:List DV):∀ (env:List (Nat×SV)) (t:Nat),(k_ n len ds env).lookup t=(env.lookup t).map (SV.iB n len ds)
 | [],t=>rfl
 | (q,s)::env,t=>by
  simp only [k_,List.map_cons,List.lookup];cases t == q
  .exact lg n len ds env t
  .rfl
mutual
theorem SV.o8 {p:Nat->Prop}{μ:Nat->Nm}{M:Mem}{n len:Nat}{ds:List DV}(hg:∀ v,Rp p μ M (.gs n len) v->Rp p μ M (.d (.sl len ds)) v):∀ (s:SV) (v:Value),Rp p μ M s v->Rp p μ M (s.iB n len ds) v
 | .gs m l,v,h=>by
  simp only [SV.iB]
  split
  .rename_i e;subst e
   split
   .rename_i e;subst e
    exact hg v h
   .exact Rp.any
  .exact h
 | .agg cs,v,h=>by
  obtain ⟨vs,e,h1⟩:=Rp.fA.1 h;simp only [SV.iB];exact Rp.fA.2 ⟨vs,e,SV.oC hg cs _ h1⟩
 | .eu cs,v,h=>by
  obtain ⟨vs,e,h1⟩:=Rp.eH.1 h;simp only [SV.iB];exact Rp.eH.2 ⟨vs,e,SV.oC hg cs _ h1⟩
 | .d _,v,h=>h
 | .ptr _ _,v,h=>h
 | .vp _ _,v,h=>h
 | .bs _ _ _,v,h=>h
 | .mp _,v,h=>h
 | .it _,v,h=>h
 | .yl _,v,h=>h
 | .fn _ _ _,v,h=>h
 | .any,v,h=>h
theorem SV.oC {p:Nat->Prop}{μ:Nat->Nm}{M:Mem}{n len:Nat}{ds:List DV}(hg:∀ v,Rp p μ M (.gs n len) v->Rp p μ M (.d (.sl len ds)) v):∀ (s:List SV) (v:List Value),aX p μ M s v->aX p μ M (SV.jS n len ds s) v
 | [],v,h=>h
 | c::cs,v,h=>by
  obtain ⟨u,us,e,h1,h2⟩:=aX.aG.1 h;simp only [SV.jS];exact aX.aG.2 ⟨u,us,e,SV.o8 hg c u h1,SV.oC hg cs us h2⟩
end
theorem aX.JH {p:Nat->Prop}{μ:Nat->Nm}{M:Mem}{ds:List DV}{vs:List Value}(h:aX p μ M (ds.map .d) vs){i:Nat}{x:DV}(hi:ds[i]? =some x):∃ u,vs[i]? =some u/\bY M x u:=by
 obtain ⟨u,hu,hr⟩:=h.get (i:=i) (c:= .d x) (by simp [hi]);exact ⟨u,hu,Rp.cZ.1 hr⟩
section
variable {P:Program} {N k0:Nat} {st:St} {Q:Exit->St->Prop}
theorem iJ.freeze {cR:Nat->Nm}{M0:Mem}{w0:World}{c0:Nat->Option Ob}{a:Act}{w:World}(n:Nat){e sz len:Nat}{cs:List SV}{ds:List DV}(hn:lk st.hp n=some (.arr e sz len cs))(hcs:cs=ds.map .d)
    (h:iJ N cR M0 w0 c0 k0 st a w):iJ N cR M0 w0 c0 k0 ⟨k_ n len ds st.env,cE st.hp n,st.k⟩ a w:=by
  subst hcs;obtain ⟨og,hdf,hsz,μ,M,gD,hS,hE⟩:=h;obtain ⟨hpn,bz,hMn⟩:=hS.obs n _ hn;rcases bz with ⟨hdead,hl0,hds⟩ | ⟨hlive,vs,hb,hl1,hl2,L2,hl4,hr⟩
  . have hd0:ds=[]:=by simpa using hds
    subst hd0;subst hl0;have hg:∀ v,Rp (· <st.k) μ M (.gs n 0) v->Rp (· <st.k) μ M (.d (.sl 0 [])) v:=λ v hv=>by
      refine Rp.cZ.2 ?_;simp only [bY];obtain ⟨h,_⟩ | ⟨_,_,A,e1⟩:=hv.lQ
      . rw [hdead] at h;cases h
      . exact ⟨A,0,e1,Nat.le_refl _,λ _=>trivial,λ h=>absurd h (Nat.lt_irrefl _)⟩
    have hsub:∀ m ob,lk (cE st.hp n) m=some ob->lk st.hp m=some ob:=λ m ob hm=>by
      rw [dg] at hm
      split at hm
      . cases hm
      . exact hm
    refine ⟨og,hdf,hsz,μ,M,λ t s hs=> ?_,hS.sub hsub,hE.yW λ m hm=> ?_⟩
    . rw [lg] at hs
      obtain ⟨s',hs',rfl⟩:=Option.map_eq_some_iff.1 hs;exact SV.o8 hg s' _ (gD t s' hs')
    . obtain ⟨o1,ho1⟩:=Option.ne_none_iff_exists'.1 hm
      rw [hsub m o1 ho1];simp
  have hMn:=hMn hlive;have hlen:ds.length=len*sz:=by simpa using hl1
  let M':Mem:=λ b o=>if b=(μ n).blk then (if o<len*sz then vs[o]? else none) else M b o
  have hne:∀ b,b≠(μ n).blk->∀ o,M' b o=M b o:=λ b hb o=>by simp [M',hb]
  have hle:Mem.le M M':=λ b o v hv=>by
    have:b≠(μ n).blk:=λ e=>by rw [e,hMn] at hv;cases hv
    rw [hne b this];exact hv
  have hoth:∀ m,lk st.hp m≠none->m≠n->(μ m).live=true->(μ m).blk≠(μ n).blk:=λ m hm hmn lm e=>hmn (hS.inj m n hm (by rw [hn];simp) lm hlive e)
  have hsub:∀ m ob,lk (cE st.hp n) m=some ob->lk st.hp m=some ob/\m≠n:=λ m ob hm=>by
    rw [dg] at hm
    split at hm
    . cases hm
    . rename_i e;exact ⟨hm,e⟩
  have hg:∀ v,Rp (· <st.k) μ M' (.gs n len) v->Rp (· <st.k) μ M' (.d (.sl len ds)) v:=λ v hv=>by
    obtain ⟨_,e1⟩ | ⟨h,_⟩:=hv.lQ
    rotate_left
    . rw [hlive] at h;cases h
    refine Rp.cZ.2 ?_;simp only [bY];refine ⟨_,_,e1,hl2,λ h0=> ?_,λ _=>⟨_,_,rfl,dy.mk λ i c hi=> ?_⟩⟩
    . subst h0
      simp at hlen;exact hlen
    . obtain ⟨u,hu,hru⟩:=hr.JH hi
      have hil:i<len*sz:=by rw [<- hlen];exact (List.getElem?_eq_some_iff.1 hi).1
      refine ⟨u,?_,bY.mono hle _ _ hru⟩;rw [List.getElem?_take_of_lt hil] at hu;simp only [M',if_true,Nat.zero_add,hil]
      simpa using hu
  refine ⟨og,hdf,hsz,μ,M',λ t s hs=> ?_,⟨⟨λ b o v hv=> ?_,hS.mem.mc.le hle⟩,λ m ob hm=> ?_,λ m m' hm hm' lm lm' e=> ?_⟩,⟨hE.old,Mem.le_trans hE.mem hle,λ b hb0 hf=> ?_,hE.size,λ m hm=> ?_,hE.os,hE.tape,hE.output⟩⟩
  . rw [lg] at hs
    obtain ⟨s',hs',rfl⟩:=Option.map_eq_some_iff.1 hs;exact SV.o8 hg s' _ ((gD t s' hs').more (λ _ h=>h) (λ _ _=>rfl) hle)
  . by_cases hbn:b=(μ n).blk
    . subst hbn
      simp only [M',if_true] at hv
      split at hv
      . rw [cell_of hb];exact hv
      . cases hv
    . rw [hne b hbn] at hv
      exact hS.mem b o v hv
  . obtain ⟨hm1,hmn⟩:=hsub m ob hm
    obtain ⟨a1,a2,a3⟩:=hS.obs m ob hm1;refine ⟨a1,a2.more (λ _ h=>h) (λ _ _=>rfl) hle λ _=>rfl,λ lm o=> ?_⟩;rw [hne _ (hoth m (by rw [hm1];simp) hmn lm)];exact a3 lm o
  . obtain ⟨o1,ho1⟩:=Option.ne_none_iff_exists'.1 hm
    obtain ⟨o2,ho2⟩:=Option.ne_none_iff_exists'.1 hm';exact hS.inj m m' (by rw [(hsub m o1 ho1).1];simp) (by rw [(hsub m' o2 ho2).1];simp) lm lm' e
  . have hbn:b≠(μ n).blk:=λ e=>by
      rcases hE.names n (by rw [hn];simp) with ⟨_,hh⟩ | ⟨h,h'⟩
      . rcases hh hlive with h | ⟨m,hm,lm,e'⟩
        . omega
        . exact hf m hm lm (e'.trans e.symm)
      . rw [hE.old n h] at e hlive
        exact hf n h' hlive e.symm
    obtain ⟨f1,f2⟩:=hE.frame b hb0 hf;exact ⟨f1,λ o=>by rw [hne b hbn];exact f2 o⟩
  . obtain ⟨o1,ho1⟩:=Option.ne_none_iff_exists'.1 hm
    exact hE.names m (by rw [(hsub m o1 ho1).1];simp)
theorem SW.freeze {s:cu}(n:Nat){e sz len:Nat}{cs:List SV}(ds:List DV)(hn:lk st.hp n=some (.arr e sz len cs))(hcs:cs=ds.map .d)(h:SW P N k0 s ⟨k_ n len ds st.env,cE st.hp n,st.k⟩ Q):SW P N k0 s st Q:=
 λ c hc rd hrf cR M0 w0 c0 a w fO=>h c hc rd hrf cR M0 w0 c0 a w (fO.freeze n hn hcs)
theorem iJ.oD {cR:Nat->Nm}{M0:Mem}{w0:World}{c0:Nat->Option Ob}{a:Act}{w:World}(t:Nat)(e sz:Nat)(ht:st.env.lookup t=some (.d .aN))(h:iJ N cR M0 w0 c0 k0 st a w):
    iJ N cR M0 w0 c0 k0 ⟨(t,.gs st.k 0)::st.env,(st.k,.arr e sz 0 [])::st.hp,st.k+1⟩ a w:=by
  obtain ⟨og,hdf,hsz,μ,M,gD,hS,hE⟩:=h;have hmu:=wm (μ:=μ) (m:=⟨0,0,false⟩) (p:=(· <st.k)) (k:=st.k) (Nat.lt_irrefl _);have hup:∀ n,n<st.k->n<st.k+1:=λ n h=>by omega
  have hlt:∀ n ob,lk st.hp n=some ob->n<st.k:=λ n ob h=>(hS.obs n ob h).1
  refine ⟨by show k0<=st.k+1;omega,hdf,hsz,AD μ st.k ⟨0,0,false⟩,M,λ u s hs=> ?_,⟨hS.mem,λ n ob hn=> ?_,λ n m hn hm ln lm e=> ?_⟩,⟨λ n hn=> ?_,hE.mem,hE.frame,hE.size,λ n hn=> ?_,hE.os,hE.tape,hE.output⟩⟩
  . rw [nJ] at hs
    split at hs
    . rename_i e1
      subst e1;injection hs with hs;subst hs;have h1:=(gD t _ ht).rep;simp only [di,bY] at h1;intro ν iw;simp only [di];rw [iw st.k (Nat.lt_succ_self _),bK];exact .inr ⟨rfl,trivial,none,h1⟩
    . exact (gD u s hs).more hup hmu (Mem.le_refl M)
  . rw [aa] at hn
    split at hn
    . rename_i e1
      subst e1;injection hn with hn;subst hn;rw [bK];exact ⟨Nat.lt_succ_self _,.inl ⟨rfl,rfl,rfl⟩,λ h=>by cases h⟩
    . obtain ⟨a1,a2,a3⟩:=hS.obs n ob hn
      rw [hmu n a1];exact ⟨hup n a1,a2.more hup hmu (Mem.le_refl M) λ _=>rfl,a3⟩
  . rw [aa] at hn hm
    by_cases e1:n=st.k
    . subst e1;rw [bK] at ln;cases ln
    . by_cases e2:m=st.k
      . subst e2;rw [bK] at lm;cases lm
      . rw [if_neg e1] at hn
        rw [if_neg e2] at hm;obtain ⟨o1,ho1⟩:=Option.ne_none_iff_exists'.1 hn;obtain ⟨o2,ho2⟩:=Option.ne_none_iff_exists'.1 hm;rw [hmu n (hlt n o1 ho1)] at e ln;rw [hmu m (hlt m o2 ho2)] at e lm;exact hS.inj n m hn hm ln lm e
  . simp only at hn
    by_cases e1:n=st.k
    . subst e1;omega
    . rw [fD _ _ _ e1];exact hE.old n (by omega)
  . rw [aa] at hn
    by_cases e1:n=st.k
    . subst e1
      rw [bK];exact .inl ⟨⟨by omega,Nat.lt_succ_self _⟩,λ h=>by cases h⟩
    . rw [if_neg e1] at hn
      obtain ⟨o1,ho1⟩:=Option.ne_none_iff_exists'.1 hn;rw [hmu n (hlt n o1 ho1)];rcases hE.names n hn with ⟨b1,b2⟩ | ⟨b1,b2⟩
      . exact .inl ⟨⟨b1.1,by have:=b1.2;show n<st.k+1;omega⟩,b2⟩
      . refine .inr ⟨λ h=> ?_,b2⟩
        have:n<st.k:=hlt n o1 ho1;exact b1 ⟨h.1,this⟩
theorem SW.oD {s:cu}(t:Nat)(e sz:Nat)(ht:st.env.lookup t=some (.d .aN))(h:SW P N k0 s ⟨(t,.gs st.k 0)::st.env,(st.k,.arr e sz 0 [])::st.hp,st.k+1⟩ Q):SW P N k0 s st Q:=
 λ c hc rd hrf cR M0 w0 c0 a w fO=>h c hc rd hrf cR M0 w0 c0 a w (fO.oD t e sz ht)
theorem bY.o9 {M:Mem}{v:Value}(h:bY M .aN v):bY M (.sl 0 []) v:=by
 simp only [bY] at h ⊢;exact ⟨none,0,h,Nat.le_refl _,λ _=>trivial,λ h=>absurd h (Nat.lt_irrefl _)⟩
theorem SC.args {f:FuncId}{args args':List SV}{F:Hp}{k nk:Nat}{Q:SV->Hp->Prop}(ha:∀ (p:Nat->Prop) μ M vs,aX p μ M args' vs->aX p μ M args vs)(h:SC P f args F k nk Q):SC P f args' F k nk Q:=
 ⟨h.1,λ p μ M w vals h1 h2 h3=>h.2 p μ M w vals h1 (ha p μ M _ h2) h3⟩
end
theorem SV.wN {ρ:Nat->Nat}:∀ {l:List SV},SV.ay (λ n=>decide (n<0)) l=true->SV.aQ ρ l=l
 | [],_=>rfl
 | c::cs,h=>by
  simp only [SV.ay,Bool.and_eq_true] at h;simp only [SV.aQ,SV.wK c h.1,SV.wN h.2]
def ff (ns:List Nat)(k:Nat)(i:Nat):Nat:=match ns[i]? with
 | some n=>n
 | none=>i - ns.length+k
theorem Eu:∀ {h:Hp} {n:Nat} {ob:Ob},(n,ob)∈h->∃ kC,lk h n=some kC
 | [],n,ob,h=>by simp at h
 | (m,o)::h,n,ob,hm=>by
  rw [aa]
  by_cases e:n=m
  .exact ⟨o,by simp [e]⟩
  .rw [if_neg e]
   rcases List.mem_cons.1 hm with h1 | h1
   .injection h1 with h1 _;exact absurd h1 e
   .exact Eu h1
theorem SB.nM {P:Program}{f:FuncId}{args:List SV}{F F':Hp}{nk:Nat}{r:SV}(ns:List Nat)(h:SB P f args F ns.length nk λ r' F1=>r'=r/\F1=F')(hd:ns.Nodup)(hF:∀ i,i<ns.length->lk F i≠none)(k:Nat):
  aJ P f (SV.aQ (ff ns k) args) (F.aA (ff ns k)) k nk (r.aA (ff ns k)) (F'.aA (ff ns k)):=by
 have hlt:∀ i,i<ns.length->ns[i]? =some (ff ns k i):=λ i hi=>by simp [ff,hi]
 have:=SB.at h (ff ns k) k (λ n m hn hm e=> ?_) (λ n hn p μ M w vals _ hS=> ?_) (λ i hi=> ?_)
 .refine this.mono ?_
  rintro r' F1 ⟨r0,F0,⟨rfl,rfl⟩,rfl,rfl⟩;exact ⟨rfl,rfl⟩
 .have h1:=hlt n hn
  have h2:=hlt m hm;rw [e] at h1;exact (List.getElem?_inj hn hd).1 (h1.trans h2.symm)
 .obtain ⟨ob,ho⟩:=Option.ne_none_iff_exists'.1 (hF n hn)
  have hm:(ff ns k n,ob.aA (ff ns k))∈F.aA (ff ns k):=List.mem_map.2 ⟨(n,ob),kX ho,rfl⟩;obtain ⟨kC,ho'⟩:=Eu hm;exact (hS.obs _ _ ho').1
 .simp [ff];omega
theorem SB.new {P:Program}{f:FuncId}{args:List SV}{F':Hp}{nk:Nat}{r:SV}(h:SB P f args [] 0 nk λ r' F1=>r'=r/\F1=F')(k:Nat):
  aJ P f args [] k nk (r.aA (ff [] k)) (F'.aA (ff [] k)):=by
 have:=SB.nM [] h (by simp) (λ i hi=>absurd hi (Nat.not_lt_zero i)) k
 rwa [SV.wN h.2.1] at this
@[simp] theorem Mz (h:Hp):HSub [] h↔True:=⟨λ _=>trivial,λ _=>HSub.nil h⟩
@[simp] theorem MA (h:Hp) (n:Nat) (ob:Ob):HSub [(n,ob)] h↔lk h n=some ob:=by
 refine ⟨λ hs=>hs n ob (by simp [cQ]),λ hs m kC hm=> ?_⟩;rw [cQ] at hm
 split at hm
 .rename_i e;subst e;simp at hm;subst hm;exact hs
 .cases hm
def aD.zero:aD:=⟨0,0,0,0,0,0,0,0⟩
theorem aD.aR:[SV.d (.int .u32 0),.d (.int .u32 0),.d (.int .u32 0),.d (.int .u32 0),.d (.int .u32 0),.d (.int .u32 0),.d (.int .u32 0),.d (.int .u32 0)]=aD.zero.cells:=rfl
@[simp] theorem aD.br (v:aD):v.cells.take 8=v.cells:=rfl
theorem aD.bJ (u v:aD):cG u.cells 0 v.cells=v.cells:=rfl
attribute [simp] aD.js aD.j6 aD.aq aD.oB
theorem aD.ax (v:aD)(ρ:Nat->Nat):SV.aQ ρ v.cells=v.cells:=rfl
@[simp] theorem MB (l:List aD):(l.flatMap aD.ds).length=l.length*8:=ew aD.ds 8 (λ _=>rfl) l
theorem dB {α:Type}{l:List α}{i:Nat}{x:α}(h:l[i]? =some x):l.take (i+1)=l.take i++[x]:=by
 rw [List.take_add_one,h];rfl
theorem ez {α:Type}{l:List α}{i:Nat}{x:α}(h:l[i]? =some x):i<l.length:=(List.getElem?_eq_some_iff.1 h).1
theorem aZ {α:Type}{l:List α}{i:Nat}(h:i<l.length):∃ x,l[i]? =some x:=⟨_,List.getElem?_eq_getElem h⟩
theorem aD.AM (a b:aD):jq [true,true,true,true,true,true,true,true] a.cells b.cells=some (decide (a=b)):=aD.r_ a b
structure Dt where
 (r n:Nat)
 deriving DecidableEq
def Dt.ds (d:Dt):List DV:=[.int .u8 d.r,.int .u32 d.n]
def Dt.cells (d:Dt):List SV:=[u8 d.r,u32 d.n]
theorem Dt.oB (d:Dt):d.ds.map .d=d.cells:=rfl
@[simp] theorem Dt.j6 (d:Dt):d.ds.length=2:=rfl
@[simp] theorem Dt.js (d:Dt):d.cells.length=2:=rfl
@[simp] theorem Dt.aq (d:Dt) (q:Nat->Bool):SV.ay q d.cells=true:=rfl
theorem Dt.ax (d:Dt)(ρ:Nat->Nat):SV.aQ ρ d.cells=d.cells:=rfl
@[simp] theorem Dt.br (d:Dt):d.cells.take 2=d.cells:=rfl
theorem Dt.CF (d:Dt):d.cells[0]? =some (u8 d.r):=rfl
theorem Dt.CG (d:Dt):d.cells[1]? =some (u32 d.n):=rfl
theorem Dt.bJ (c d:Dt):cG c.cells 0 d.cells=d.cells:=rfl
theorem Dt.aR:[SV.d (.int .u8 0),.d (.int .u32 0)]=(Dt.mk 0 0).cells:=rfl
theorem Dt.gl (c:Dt)(a b:Nat):cG (cG c.cells 0 [.d (.int .u8 (a:Int))]) 1 [.d (.int .u32 (b:Int))]=(Dt.mk a b).cells:=rfl
@[simp] theorem JI (cs:List SV) (o:Nat) (c:SV):(cG cs o [c]).length=cs.length:=by simp [cG]
theorem H8 (cs:List SV)(o:Nat)(c:SV):cG cs o [c]=cs.set o c:=rfl
theorem Dt.cells_one (d:Dt):d.cells.all SV.dJ=true:=rfl
theorem Dt.r_ (a b:Dt):jq [true,true] a.cells b.cells=some (decide (a=b)):=by
 have h:jq [true,true] a.cells b.cells=some (((a.r:Int) == b.r) && (((a.n:Int) == b.n) && true)):=by simp [jq,Hv,Dt.cells]
 rw [h]
 congr 1
 obtain ⟨a0,a1⟩:=a;obtain ⟨b0,b1⟩:=b;rw [Bool.eq_iff_iff];simp;omega
def Dt.may (d:Dt):Bool:=decide (d.r<8) && decide (0<d.n)
def Dt.wf (d:Dt):Prop:=d.r<256/\d.n<4294967296
abbrev bq (l:List Dt):SV:= .d (.sl l.length (l.flatMap Dt.ds))
@[simp] theorem mQ (l:List Dt):(l.flatMap Dt.ds).length=l.length*2:=ew Dt.ds 2 (λ _=>rfl) l
theorem iq {l:List Dt}{i:Nat}{x:Dt}(h:l[i]? =some x):List.take 2 (List.drop (i*2) (List.map SV.d (l.flatMap Dt.ds)))=x.cells:=by
 rw [<- List.map_drop,<- List.map_take,jr Dt.ds 2 (λ _=>rfl) l i x h];rfl
section
variable {P:Program} {N k0:Nat} {st:St} {Q:Exit->St->Prop}
theorem SW.slot {c:cu}(t:Nat){s:SV}(s':SV)(hl:st.env.lookup t=some s)(hs:∀ (p:Nat->Prop) μ M v,Rp p μ M s v->Rp p μ M s' v)(h:SW P N k0 c ⟨(t,s')::st.env,st.hp,st.k⟩ Q):SW P N k0 c st Q:=by
 refine λ cc hc rd hrf cR M0 w0 c0 a w fO=>h cc hc rd hrf cR M0 w0 c0 a w ?_
 obtain ⟨og,hdf,hsz,μ,M,gD,hS,hE⟩:=fO;refine ⟨og,hdf,hsz,μ,M,λ q x hq=> ?_,hS,hE⟩;simp only [List.lookup] at hq
 split at hq
 .rename_i e
  have e:q=t:=by simpa using e
  injection hq with hq;subst e;subst hq;exact hs _ _ _ _ (gD q s hl)
 .exact gD q x hq
theorem o9 (p:Nat->Prop)(μ:Nat->Nm)(M:Mem)(v:Value)(h:Rp p μ M (.d .aN) v):Rp p μ M (.d (.sl 0 [])) v:=Rp.cZ.2 (Rp.cZ.1 h).o9
theorem SW.aN {c:cu}(t:Nat)(hl:st.env.lookup t=some (.d .aN))(h:SW P N k0 c ⟨(t,.d (.sl 0 []))::st.env,st.hp,st.k⟩ Q):SW P N k0 c st Q:=SW.slot t _ hl o9 h
end
end Go.Sl
namespace Go.Sl
section
namespace Co
def M (d s:Nat):SI:=⟨some d,.mv (.t s),none⟩
def G (d s g:Nat)(b:Bool):SI:=⟨some d,.mv (.t s),some (g,b)⟩
def J (d:Nat)(o:SO):SI:=⟨some d,o,none⟩
def H (d:Nat)(o:SO)(g:Nat)(b:Bool):SI:=⟨some d,o,some (g,b)⟩
def N (o:SO):SI:=⟨none,o,none⟩
def F (l:List SI)(n:Nat):cu:= .e_ l (oe n) false
def C (f:FuncId):X:= .k (.fn (.func f) [] [])
def Z (n:Int):X:= .k (.d (.int .i64 n))
def B (b:Bool):X:= .k (.d (.bool b))
def b8 (n:Int):SV:= .d (.int .u8 n)
def aB (n:Int):SV:= .d (.int .u32 n)
def bN (n:Int):SV:= .d (.int .u64 n)
def i6 (n:Int):SV:= .d (.int .i64 n)
def z8:List SV:=[.d (.int .u32 0),.d (.int .u32 0),.d (.int .u32 0),.d (.int .u32 0),.d (.int .u32 0),.d (.int .u32 0),.d (.int .u32 0),.d (.int .u32 0)]
def bW:List SV:=[.d (.int .u8 0),.d (.int .u32 0),.d (.int .u32 0),.d (.int .u32 0),.d (.int .u32 0),.d (.int .u32 0),.d (.int .u32 0),.d (.int .u32 0),.d (.int .u32 0),.d (.int .u32 0),.d (.int .u64 0),.d (.int .u32 0),.d (.int .u8 0),.d (.int .u32 0),.d (.int .u8 0),.d (.int .u8 0),.d (.int .u32 0),.d (.int .u32 0),.d (.int .u8 0),.d (.int .u8 0),.d (.int .u64 0),.d (.int .u8 0),.d (.int .u32 0),.d (.int .u8 0),.d (.int .u32 0),.d (.int .u32 0),.d (.int .u32 0),.d (.int .u32 0),.d .aN]
def T (d a:Nat):SI:=⟨some d,.load none (.t a),none⟩
def K (d n a:Nat):SI:=⟨some d,.load (some n) (.t a),none⟩
def E (d i a:Nat):SI:=⟨some d,.ext i (.t a),none⟩
def L (d a:Nat):SI:=⟨some d,.len (.t a),none⟩
def P (d f a:Nat):SI:=⟨some d,.call (.k (.fn (.func f) [] [])) [.t a],none⟩
def Q (d f a b:Nat):SI:=⟨some d,.call (.k (.fn (.func f) [] [])) [.t a,.t b],none⟩
def R (d f a b c:Nat):SI:=⟨some d,.call (.k (.fn (.func f) [] [])) [.t a,.t b,.t c],none⟩
def x (d n a:Nat):SI:=⟨some d,.box n (.t a),none⟩
def W (n a b:Nat):SI:=⟨none,.store n (.t a) (.t b),none⟩
def Y (d:Nat)(o:BinOp)(a:Nat)(n:Int):SI:=⟨some d,.bin o (.t a) (.k (.d (.int .i64 n))),none⟩
def V (d:Nat)(o:BinOp)(a b:Nat):SI:=⟨some d,.bin o (.t a) (.t b),none⟩
def U (d a b:Nat):SI:=⟨some d,.pick (.t a) (.t b) (.k (.d (.bool false))),none⟩
def O (d a:Nat):SI:=⟨some d,.not (.t a),none⟩
def D (d o a:Nat):SI:=⟨some d,.bk o (.t a),none⟩
def A (d a:Nat):SI:=⟨some d,.dR (.t a),none⟩
def I (d n a b:Nat):SI:=⟨some d,.eN n (.t a) (.t b),none⟩
def S (a b:cu):cu:= .seq a b
end Co
def En (P:Program)(f:FuncId)(N:Nat)(s:cu)(rv:List RV):Prop:=
 ∀ {args:List SV} {F:Hp} {k nk:Nat} {Q:SV->Hp->Prop} (_:SV.ay (λ n=>decide (n<k)) args=true) (_:F.ok (λ n=>decide (n<k))=true) (_:args.length<=N)
  (_:SW P N k s ⟨mB 0 args,F,k⟩ λ e st'=>match e with | .normal=>Fin k nk rv Q st' | .ret=>Fin k nk rv Q st' | _=>False),SB P f args F k nk Q
theorem En.mk {P:Program}{f N:Nat}{fn:Func}{c:Code}{s:cu}{rv:List RV}(hf:P.funcs[f]? =some fn)(hN:fn.ntmps=N:=by rfl)(hb:fn.body=some c:=by kernel_rfl)(hc:cK P fn.ntmps c=some s:=by kernel_rfl)(hr:HY P fn.results.toList=some rv:=by kernel_rfl)(ha:jQ P f=true:=by kernel_rfl):En P f N s rv:=by
 subst hN;intro args F k nk Q h1 h2 h3 h;exact SB.HZ hf hb hc hr ha h1 h2 h3 h
end
section
def aD.aF (v:aD)(d:Dt):Bool:=d.may && decide (d.n<=v.get d.r)
def aD.above (a b:aD):Bool:=(List.range 8).all λ r=>decide (b.get r<=a.get r)
theorem aD.sG {a b:aD}:a.above b=true↔∀ r,r<8->b.get r<=a.get r:=by simp [aD.above]
def aD.count (v:aD):Nat:=v.a0+v.a1+v.a2+v.a3+v.a4+v.a5+v.a6+v.a7
theorem wrap_u32 (n:Nat)(h:n<4294967296):IntKind.u32.wrap (n:Int)=n:=by
 simp [IntKind.wrap,IntKind.bits,IntKind.signed];omega
theorem wrap_u64 (n:Nat)(h:n<18446744073709551616):IntKind.u64.wrap (n:Int)=n:=by
 simp [IntKind.wrap,IntKind.bits,IntKind.signed];omega
theorem wrap_u8 (n:Nat)(h:n<256):IntKind.u8.wrap (n:Int)=n:=by
 simp [IntKind.wrap,IntKind.bits,IntKind.signed];omega
theorem aD.sH (a b c d e f g h:SV)(r:List SV)(v:aD):cG (a::b::c::d::e::f::g::h::r) 0 v.cells=v.cells++r:=rfl
theorem aD.CH (u v:aD)(r:List SV):cG (u.cells++r) 8 v.cells=u.cells++cG r 0 v.cells:=rfl
theorem aD.wO (u v:aD)(r:List SV):cG (u.cells++r) 16 v.cells=u.cells++cG r 8 v.cells:=rfl
theorem aD.wP (u v:aD)(r:List SV):cG (u.cells++r) 24 v.cells=u.cells++cG r 16 v.cells:=rfl
theorem aD.eA (u:aD)(r:List SV):fu (u.cells++r)=match fu r with | some x=>some (u.ds++x) | none=>none:=by
 cases h:fu r <;> simp [aD.cells,fu,h,aD.ds]
theorem aD.eB (u:aD):fu u.cells=some u.ds:=rfl
theorem Dt.sH (a b:SV)(r:List SV)(v:Dt):cG (a::b::r) 0 v.cells=v.cells++r:=rfl
theorem Dt.CI (u v:Dt)(r:List SV):cG (u.cells++r) 2 v.cells=u.cells++cG r 0 v.cells:=rfl
theorem Dt.eA (u:Dt)(r:List SV):fu (u.cells++r)=match fu r with | some x=>some (u.ds++x) | none=>none:=by
 cases h:fu r <;> simp [Dt.cells,fu,h,Dt.ds]
theorem Dt.eB (u:Dt):fu u.cells=some u.ds:=rfl
theorem o_ (l:List DV):(l.map SV.d).all SV.dJ=true:=by simp [SV.dJ]
def Ew (r a c:Nat):List Dt:=(List.range c).map λ i=>⟨r,a+i⟩
@[simp] theorem KE (r a c:Nat):(Ew r a c).length=c:=by simp [Ew]
theorem SV.jT (ρ:Nat->Nat):∀ (a b:List SV),SV.aQ ρ (a++b)=SV.aQ ρ a++SV.aQ ρ b
 | [],b=>rfl
 | x::a,b=>by simp [SV.aQ,SV.jT ρ a b]
theorem SV.jt (q:Nat->Bool):∀ (a b:List SV),SV.ay q (a++b)=(SV.ay q a && SV.ay q b)
 | [],b=>rfl
 | x::a,b=>by simp [SV.ay,SV.jt q a b,Bool.and_assoc]
theorem Ex {α:Type}{l m:List α}(hl:l.length=m.length)(h:∀ j,j<l.length->l[j]? =m[j]?):l=m:=by
 apply List.ext_getElem?;intro j
 by_cases hj:j<l.length
 .exact h j hj
 .rw [List.getElem?_eq_none (by omega),List.getElem?_eq_none (by omega)]
theorem wQ:(false == true)=false:=rfl
theorem wR:(true == false)=false:=rfl
end
section
theorem jv (es:List (Nat×SV×SV))(c:Nat)(k v:SV):iZ es c k v none= .map (es++[(c,k,v)]) (c+1):=rfl
theorem jw (es:List (Nat×SV×SV))(c:Nat)(k v:SV)(i:Nat):iZ es c k v (some i)= .map (es.modify i λ e=>(e.1,e.2.1,v)) c:=rfl
theorem jx (es:List (Nat×SV×SV))(c:Nat):y2 es c none= .map es c:=rfl
theorem jy (es:List (Nat×SV×SV))(c i:Nat):y2 es c (some i)= .map (es.eraseIdx i) c:=rfl
theorem jA (es:List (Nat×SV×SV))(z:SV):fP es z none=z:=rfl
theorem jB (es:List (Nat×SV×SV))(z:SV)(i:Nat):fP es z (some i)=match es[i]? with
 | some e=>e.2.2
 | none=>z:=rfl
section
variable {K V:Type} [DecidableEq K]
abbrev MM (K V:Type):=List (Nat×K×V)
def MM.idx (L:MM K V)(a:K):Option Nat:=L.findIdx? λ x=>decide (a=x.2.1)
def MM.get (L:MM K V)(a:K):Option V:=(L.find? λ x=>decide (a=x.2.1)).map (·.2.2)
def MM.has (L:MM K V)(a:K):Bool:=(MM.get L a).isSome
def MM.keys (L:MM K V):List K:=L.map (·.2.1)
def MM.put (L:MM K V)(c:Nat)(a:K)(v:V):MM K V:=match MM.idx L a with
 | some i=>L.modify i λ x=>(x.1,x.2.1,v)
 | none=>L++[(c,a,v)]
def MM.jh (L:MM K V)(c:Nat)(a:K):Nat:=if MM.has L a then c else c+1
def MM.del (L:MM K V)(a:K):MM K V:=match MM.idx L a with
 | some i=>L.eraseIdx i
 | none=>L
structure MM.wf (L:MM K V)(c:Nat):Prop where
 keys:(MM.keys L).Nodup
 times:(L.map (·.1)).Nodup
 old:∀ x,x∈L->x.1<c
theorem MM.lp {L:MM K V}{a:K}:MM.idx L a=none↔MM.get L a=none:=by
 unfold MM.idx MM.get
 induction L with
 | nil=>simp
 | cons x L ih=>
  simp only [List.findIdx?_cons,List.find?_cons]
  by_cases h:a=x.2.1
  .simp [h]
  .simp only [h,decide_false,Bool.false_eq_true,if_false,Option.map_eq_none_iff] at ih ⊢
   exact ih
theorem MM.fh {L:MM K V}{a:K}:(MM.idx L a).isSome=MM.has L a:=by
 unfold MM.has;rw [Bool.eq_iff_iff,Option.isSome_iff_ne_none,Option.isSome_iff_ne_none,ne_eq,ne_eq,MM.lp]
theorem MM.tZ:∀ {L:MM K V} {a:K} {i:Nat},MM.idx L a=some i->∃ x,L[i]? =some x/\x.2.1=a/\MM.get L a=some x.2.2
 | [],a,i,h=>by simp [MM.idx] at h
 | x ::L,a,i,h=>by
  unfold MM.idx at h;unfold MM.get;simp only [List.findIdx?_cons,List.find?_cons] at h ⊢
  by_cases e:a=x.2.1
  .simp only [e,decide_true,if_true] at h ⊢
   injection h with h;subst h;exact ⟨x,rfl,rfl,rfl⟩
  .simp only [e,decide_false,Bool.false_eq_true,if_false,Option.map_eq_some_iff] at h ⊢
   obtain ⟨j,hj,rfl⟩:=h;obtain ⟨y,h1,h2,h3⟩:=MM.tZ (L:=L) (a:=a) (i:=j) hj;exact ⟨y,by simpa using h1,h2,by simpa [MM.get] using h3⟩
theorem MM.get_mem:∀ {L:MM K V} {a:K} {v:V},MM.get L a=some v->∃ t,(t,a,v)∈L
 | [],a,v,h=>by simp [MM.get] at h
 | x ::L,a,v,h=>by
  unfold MM.get at h;simp only [List.find?_cons] at h
  by_cases e:a=x.2.1
  .simp only [e,decide_true,Option.map_some,Option.some.injEq] at h
   refine ⟨x.1,?_⟩;subst h;rw [e];simp
  .simp only [e,decide_false] at h
   obtain ⟨t,ht⟩:=MM.get_mem (L:=L) (a:=a) (v:=v) h;exact ⟨t,by simp [ht]⟩
theorem MM.ia {L:MM K V}{a:K}:MM.has L a=true↔a∈MM.keys L:=by
 unfold MM.has MM.get MM.keys
 induction L with
 | nil=>simp
 | cons x L ih=>
  simp only [List.find?_cons,List.map_cons,List.mem_cons]
  by_cases e:a=x.2.1
  .simp [e]
  .simp only [e,decide_false,false_or];exact ih
theorem MM.get_of_mem:∀ {L:MM K V} (h:(MM.keys L).Nodup) {t:Nat} {a:K} {v:V},(t,a,v)∈L->MM.get L a=some v
 | [],_,t,a,v,h=>by cases h
 | x ::L,hn,t,a,v,h=>by
  unfold MM.get;simp only [MM.keys,List.map_cons,List.nodup_cons] at hn;simp only [List.find?_cons];rcases List.mem_cons.1 h with rfl | h
  .simp
  .have:a≠x.2.1:=λ e=>hn.1 (by rw [<- e];exact List.mem_map.2 ⟨_,h,rfl⟩)
   simp only [this,decide_false];exact MM.get_of_mem (L:=L) hn.2 h
theorem MM.ru {L:MM K V}{c:Nat}{a:K}{v:V}:MM.keys (MM.put L c a v)=if MM.has L a then MM.keys L else MM.keys L++[a]:=by
 unfold MM.put;rw [<- MM.fh]
 split
 .rename_i i h
  rw [h];simp only [Option.isSome_some,if_true,MM.keys];apply List.ext_getElem?;intro j;simp only [List.getElem?_map,List.getElem?_modify];cases L[j]? with
  | none=>simp
  | some x=>by_cases e:i=j <;> simp [e]
 .rename_i h
  rw [h];simp [MM.keys]
theorem MM.wS {L:MM K V}{c:Nat}{a:K}{v:V}:(MM.put L c a v).map (·.1)=if MM.has L a then L.map (·.1) else L.map (·.1)++[c]:=by
 unfold MM.put;rw [<- MM.fh]
 split
 .rename_i i h
  rw [h];simp only [Option.isSome_some,if_true];apply List.ext_getElem?;intro j;simp only [List.getElem?_map,List.getElem?_modify];cases L[j]? with
  | none=>simp
  | some x=>by_cases e:i=j <;> simp [e]
 .rename_i h
  rw [h];simp
theorem MM.lU {L:MM K V}{c:Nat}{a b:K}{v:V}:MM.has (MM.put L c a v) b=(decide (b=a) || MM.has L b):=by
 rw [Bool.eq_iff_iff,MM.ia,MM.ru]
 split
 .rename_i h
  simp only [Bool.or_eq_true,decide_eq_true_eq,MM.ia];refine ⟨.inr,λ h'=> ?_⟩;rcases h' with rfl | h'
  .exact MM.ia.1 h
  .exact h'
 .simp only [List.mem_append,List.mem_singleton,Bool.or_eq_true,decide_eq_true_eq,MM.ia]
  exact Or.comm
theorem MM.bT {L:MM K V}{c:Nat}{a b:K}{v:V}:MM.get (MM.put L c a v) b=if b=a then some v else MM.get L b:=by
 unfold MM.put
 split
 .rename_i i h
  revert i h
  induction L with
  | nil=>intro i h;simp [MM.idx] at h
  | cons x L ih=>
   intro i h;unfold MM.idx at h;simp only [List.findIdx?_cons] at h
   by_cases e:a=x.2.1
   .simp only [e,decide_true,if_true] at h
    injection h with h;subst h;simp only [MM.get,List.modify_zero_cons,List.find?_cons]
    by_cases eb:b=x.2.1
    .simp [eb,e]
    .simp [eb,e]
   .simp only [e,decide_false,Bool.false_eq_true,if_false,Option.map_eq_some_iff] at h
    obtain ⟨j,hj,rfl⟩:=h;have:=ih j hj;simp only [MM.get,List.modify_succ_cons,List.find?_cons] at this ⊢
    by_cases eb:b=x.2.1
    .simp only [eb,decide_true]
     rw [if_neg (λ h=>e h.symm)]
    .simp only [eb,decide_false]
     exact this
 .rename_i h
  have hn:=MM.lp.1 h;unfold MM.get at hn ⊢;rw [List.find?_append]
  by_cases eb:b=a
  .subst eb
   have:List.find? (λ x=>decide (b=x.2.1)) L=none:=by simpa using hn
   rw [this];simp
  .simp only [List.find?_cons,eb,decide_false,List.find?_nil,Option.or_none,if_false]
theorem MM.fV {L:MM K V}{c:Nat}(h:MM.wf L c)(a:K)(v:V):MM.wf (MM.put L c a v) (MM.jh L c a):=by
 refine ⟨?_,?_,λ x hx=> ?_⟩
 .rw [MM.ru]
  split
  .exact h.keys
  .rename_i hh
   rw [List.nodup_append];refine ⟨h.keys,by simp,λ x hx y hy=> ?_⟩;simp only [List.mem_singleton] at hy;subst hy;intro e;subst e;exact hh (MM.ia.2 hx)
 .rw [MM.wS]
  split
  .exact h.times
  .rw [List.nodup_append]
   refine ⟨h.times,by simp,λ x hx y hy=> ?_⟩;simp only [List.mem_singleton] at hy;obtain ⟨z,hz,rfl⟩:=List.mem_map.1 hx;have:=h.old z hz;omega
 .have hm:x.1∈(MM.put L c a v).map (·.1):=List.mem_map.2 ⟨x,hx,rfl⟩
  rw [MM.wS] at hm;unfold MM.jh
  split at hm
  .rename_i hh
   obtain ⟨z,hz,e⟩:=List.mem_map.1 hm;rw [if_pos hh,<- e];exact h.old z hz
  .rename_i hh
   rw [if_neg hh];rcases List.mem_append.1 hm with hm | hm
   .obtain ⟨z,hz,e⟩:=List.mem_map.1 hm
    have:=h.old z hz;omega
   .simp only [List.mem_singleton] at hm
    omega
theorem MM.j7:MM.wf ([]:MM K V) 0:=⟨by simp [MM.keys],by simp,by simp⟩
theorem MM.sI {L:MM K V}(h:(L.map (·.1)).Nodup){x:Nat×K×V}(hx:x∈L):L.find? (λ y=>y.1 == x.1)=some x:=by
 induction L with
 | nil=>cases hx
 | cons y L ih=>
  simp only [List.map_cons,List.nodup_cons] at h;simp only [List.find?_cons];rcases List.mem_cons.1 hx with rfl | hx
  .simp
  .have:y.1≠x.1:=λ e=>h.1 (by rw [e];exact List.mem_map.2 ⟨x,hx,rfl⟩)
   rw [show (y.1 == x.1)=false by simpa using this];exact ih h.2 hx
theorem wT {α β:Type}(f:α->β):∀ (l:List α) (i:Nat),(l.map f).eraseIdx i=(l.eraseIdx i).map f
 | [],i=>by simp
 | x::l,0=>by simp
 | x::l,i+1=>by simp [wT f l i]
theorem MM.ry {L:MM K V}(h:(L.map (·.1)).Nodup){x y:Nat×K×V}(hx:x∈L)(hy:y∈L)(e:x.1=y.1):x=y:=by
 have h1:=MM.sI h hx;have h2:=MM.sI h hy;rw [e,h2] at h1;exact (Option.some.inj h1).symm
def ah (kc:K->List SV)(vs:V->SV)(L:MM K V):List (Nat×SV×SV):=L.map λ x=>(x.1,SV.agg (kc x.2.1),vs x.2.2)
variable {kc:K->List SV} {vs:V->SV}
theorem sJ {ks:List Bool}(heq:∀ a b,jq ks (kc a) (kc b)=some (decide (a=b)))(a:K):∀ (L:MM K V) (i:Nat),iY ks true (.agg (kc a)) (ah kc vs L) i=some ((MM.idx L a).map (· +i))
 | [],i=>by simp [ah,iY,MM.idx]
 | x ::L,i=>by
  have ih:=sJ heq a L (i+1);have hk:iX ks true (.agg (kc x.2.1))=true:=by simp [iX,mg,SV.cells,heq]
  unfold ah at ih ⊢;simp only [List.map_cons,iY,hk,if_true,SV.cells,heq];unfold MM.idx at ih ⊢;simp only [List.findIdx?_cons]
  by_cases e:a=x.2.1
  .simp [e]
  .simp only [e,decide_false,Bool.false_eq_true,if_false]
   rw [ih];cases List.findIdx? (λ x=>decide (a=x.2.1)) L with
   | none=>rfl
   | some j=>simp;omega
theorem pg (d:Dt)(vs:V->SV)(L:MM Dt V):iY [true,true] true (.agg d.cells) (ah Dt.cells vs L) 0=some (MM.idx L d):=by
 rw [sJ Dt.r_ d L 0];cases MM.idx L d <;> rfl
theorem pn (d:aD)(vs:V->SV)(L:MM aD V):iY [true,true,true,true,true,true,true,true] true (.agg d.cells) (ah aD.cells vs L) 0=some (MM.idx L d):=by
 rw [sJ aD.AM d L 0];cases MM.idx L d <;> rfl
theorem iR (z:V)(L:MM K V)(a:K):fP (ah kc vs L) (vs z) (MM.idx L a)=vs ((MM.get L a).getD z):=by
 cases h:MM.idx L a with
 | none=>rw [MM.lp.1 h];rfl
 | some i=>
  obtain ⟨x,h1,h2,h3⟩:=MM.tZ h;rw [h3];simp [fP,ah,h1]
def iv (n:Int):SV:= .d (.int .i64 n)
theorem lu (L:MM K Int)(a:K):fP (ah kc iv L) (.d (.int .i64 0)) (MM.idx L a)= .d (.int .i64 ((MM.get L a).getD 0)):=iR (vs:=iv) 0 L a
theorem jC (L:MM K V)(c:Nat)(a:K)(v:V):iZ (ah kc vs L) c (.agg (kc a)) (vs v) (MM.idx L a)= .map (ah kc vs (MM.put L c a v)) (MM.jh L c a):=by
 unfold MM.put MM.jh;rw [<- MM.fh];cases h:MM.idx L a with
 | none=>simp [iZ,ah]
 | some i=>
  simp only [iZ,Option.isSome_some,if_true,Ob.map.injEq,and_true,ah];apply List.ext_getElem?;intro j;simp only [List.getElem?_map,List.getElem?_modify];cases L[j]? with
  | none=>simp
  | some x=>by_cases e:i=j <;> simp [e]
theorem lz (L:MM K Int)(c:Nat)(a:K)(n:Int):iZ (ah kc iv L) c (.agg (kc a)) (.d (.int .i64 n)) (MM.idx L a)= .map (ah kc iv (MM.put L c a n)) (MM.jh L c a):=jC (vs:=iv) L c a n
def MM.ya (L:MM K V)(c:Nat)(a:K)(z:V):MM K V:=match MM.idx L a with
 | some _=>L
 | none=>L++[(c,a,z)]
def MM.MC (L:MM K V)(c:Nat)(a:K):Nat:=match MM.idx L a with
 | some i=>((L[i]?).map (·.1)).getD 0
 | none=>c
def MM.pos (L:MM K V)(a:K):Nat:=(MM.idx L a).getD L.length
theorem qD (L:MM K V)(c:Nat)(a:K):y6 (ah kc vs L) c (MM.idx L a)=MM.MC L c a:=by
 unfold MM.MC;cases h:MM.idx L a with
 | none=>rfl
 | some i=>
  simp only [y6,ah,List.getElem?_map];cases L[i]? <;> rfl
theorem uP (L:MM K V)(c:Nat)(a:K)(z:V):qO (ah kc vs L) c (.agg (kc a)) (vs z) (MM.idx L a)= .map (ah kc vs (MM.ya L c a z)) (MM.jh L c a):=by
 unfold MM.ya MM.jh;rw [<- MM.fh];cases h:MM.idx L a with
 | none=>simp [qO,ah]
 | some i=>simp [qO]
theorem t_ {L:MM K V}{c:Nat}(hw:MM.wf L c)(a:K)(z:V):(ah kc vs (MM.ya L c a z)).findIdx? (λ e=>(e.1:Int) == ((MM.MC L c a:Nat):Int))=some (MM.pos L a):=by
 unfold MM.ya MM.MC MM.pos;have key:∀ (l:MM K V) (i:Nat) (x:Nat×K×V),(l.map (·.1)).Nodup->l[i]? =some x->(ah kc vs l).findIdx? (λ e=>(e.1:Int) == ((x.1:Nat):Int))=some i:=by
  intro l
  induction l with
  | nil=>intro i x _ h;simp at h
  | cons y l ih=>
   intro i x hn h;rw [List.map_cons,List.nodup_cons] at hn;simp only [ah,List.map_cons,List.findIdx?_cons];cases i with
   | zero=>simp at h;subst h;simp
   | succ i=>
    simp at h;have hne:((y.1:Int) == (x.1:Int))=false:=by
     have:y.1≠x.1:=λ e=>hn.1 (by rw [e];exact List.mem_map.2 ⟨x,List.mem_of_getElem? h,rfl⟩)
     simpa using λ h:(y.1:Int)=x.1=>this (by omega)
    rw [hne];have:=ih i x hn.2 h;simp only [ah] at this;simp [this]
 cases h:MM.idx L a with
 | none=>
  refine key (L++[(c,a,z)]) L.length (c,a,z) ?_ (by simp);rw [List.map_append,List.nodup_append];refine ⟨hw.times,by simp,λ x hx y hy e=> ?_⟩;simp at hy;obtain ⟨q,hq,rfl⟩:=List.mem_map.1 hx;have:=hw.old q hq;omega
 | some i=>
  obtain ⟨x,h1,_⟩:=MM.tZ h;simp only [h1,Option.map_some,Option.getD_some];exact key L i x hw.times h1
theorem kK (L:MM K V)(c:Nat)(a:K)(z v:V):(ah kc vs (MM.ya L c a z)).modify (MM.pos L a) (λ e=>(e.1,e.2.1,vs v))=ah kc vs (MM.put L c a v):=by
 unfold MM.ya MM.pos MM.put;have key:∀ (l:MM K V) (i:Nat),(ah kc vs l).modify i (λ e=>(e.1,e.2.1,vs v))=ah kc vs (l.modify i λ x=>(x.1,x.2.1,v)):=λ l i=>by
  unfold ah;apply List.ext_getElem?;intro j;simp only [List.getElem?_map,List.getElem?_modify];cases l[j]? with
  | none=>simp
  | some x=>by_cases e:i=j <;> simp [e]
 cases h:MM.idx L a with
 | none=>
  simp only [Option.getD_none];rw [key]
  congr 1
  apply List.ext_getElem?;intro j;simp only [List.getElem?_modify,List.getElem?_append]
  by_cases h1:j<L.length
  .simp [h1,show ¬ L.length=j by omega]
  .simp only [h1,if_false]
   by_cases h2:L.length=j
   .subst h2;simp
   .simp [show ¬ j - L.length=0 by omega,show j - L.length≠0 by omega]
 | some i=>exact key L i
theorem kL (L:MM K V)(c:Nat)(a:K):y2 (ah kc vs L) c (MM.idx L a)= .map (ah kc vs (MM.del L a)) c:=by
 unfold MM.del;cases h:MM.idx L a with
 | none=>rfl
 | some i=>simp only [y2,ah,wT]
theorem mR (L:MM K V):(ah kc vs L).length=L.length:=by simp [ah]
theorem eV {L:MM K V}{e:Nat×SV×SV}(h:e∈ah kc vs L):∃ x,x∈L/\e=(x.1,SV.agg (kc x.2.1),vs x.2.2):=by
 obtain ⟨x,hx,rfl⟩:=List.mem_map.1 h;exact ⟨x,hx,rfl⟩
theorem kM {L:MM K V}(h:(L.map (·.1)).Nodup){x:Nat×K×V}(hx:x∈L):(ah kc vs L).find? (λ e=>e.1 == x.1)=some (x.1,SV.agg (kc x.2.1),vs x.2.2):=by
 unfold ah;rw [List.find?_map];have:=MM.sI h hx;simp only [Function.comp_def,this,Option.map_some]
theorem lB (ρ:Nat->Nat)(L:MM K V)(hk:∀ a,SV.aQ ρ (kc a)=kc a)(hv:∀ v,(vs v).aA ρ=vs v):(ah kc vs L).map (λ e=>(e.1,e.2.1.aA ρ,e.2.2.aA ρ))=ah kc vs L:=by
 unfold ah;rw [List.map_map];refine List.map_congr_left λ x _=> ?_
 simp [SV.aA,hk,hv]
theorem nN (q:Nat->Bool)(L:MM K V)(hk:∀ a,SV.ay q (kc a)=true)(hv:∀ v,(vs v).ok q=true):((ah kc vs L).all λ e=>e.2.1.ok q && e.2.2.ok q)=true:=by
 unfold ah;simp [SV.ok,hk,hv]
end
theorem Ey (ρ:Nat->Nat)(n:Int):(iv n).aA ρ=iv n:=rfl
theorem JJ (q:Nat->Bool)(n:Int):(iv n).ok q=true:=rfl
abbrev i_:=MM Dt Int
theorem cM (ρ:Nat->Nat)(L:i_):(ah Dt.cells iv L).map (λ e=>(e.1,e.2.1.aA ρ,e.2.2.aA ρ))=ah Dt.cells iv L:=lB ρ L (λ a=>Dt.ax a ρ) (Ey ρ)
theorem bB (q:Nat->Bool)(L:i_):((ah Dt.cells iv L).all λ e=>e.2.1.ok q && e.2.2.ok q)=true:=nN q L (λ a=>Dt.aq a q) (JJ q)
theorem uQ (ρ:Nat->Nat)(L:MM aD Int):(ah aD.cells iv L).map (λ e=>(e.1,e.2.1.aA ρ,e.2.2.aA ρ))=ah aD.cells iv L:=lB ρ L (λ a=>aD.ax a ρ) (Ey ρ)
theorem yb (q:Nat->Bool)(L:MM aD Int):((ah aD.cells iv L).all λ e=>e.2.1.ok q && e.2.2.ok q)=true:=nN q L (λ a=>aD.aq a q) (JJ q)
end
end Go.Sl
namespace Go.Sl
open Go.RowKit
section
structure ag where
 dot:Dt
 dep:aD
 time:Nat
 who:Nat
 aK:Dt
 kind:Nat
 aM:Dt
 to:Nat
 bp:Nat
 depth:Nat
 cap:Nat
 at_:Dt
 jD:Dt
 item:Nat
 ua:Nat
 fz:Nat
 lines:DV
def ag.ds (o:ag):List DV:=
 .int .u8 o.dot.r:: .int .u32 o.dot.n::(o.dep.ds++(.int .u64 o.time:: .int .u32 o.who:: .int .u8 o.aK.r:: .int .u32 o.aK.n:: .int .u8 o.kind:: .int .u8 o.aM.r:: .int .u32 o.aM.n:: .int .u32 o.to:: .int .u8 o.bp:: .int .u8 o.depth:: .int .u64 o.cap::
  .int .u8 o.at_.r:: .int .u32 o.at_.n:: .int .u8 o.jD.r:: .int .u32 o.jD.n:: .int .u32 o.item:: .int .u32 o.ua:: .int .u32 o.fz::[o.lines]))
def ag.cells (o:ag):List SV:=o.ds.map .d
@[simp] theorem ag.j6 (o:ag):o.ds.length=29:=rfl
@[simp] theorem ag.js (o:ag):o.cells.length=29:=rfl
@[simp] theorem ag.aq (o:ag) (q:Nat->Bool):SV.ay q o.cells=true:=SV.bg _
@[simp] theorem ag.ax (o:ag) (ρ:Nat->Nat):SV.aQ ρ o.cells=o.cells:=SV.eE _
theorem ag.cells_one (o:ag):o.cells.all SV.dJ=true:=by simp [ag.cells,SV.dJ]
@[simp] theorem ag.br (o:ag):o.cells.take 29=o.cells:=rfl
theorem ag.mS (o:ag):o.cells.take 2=o.dot.cells:=rfl
theorem ag.CJ (o:ag):(o.cells.drop 2).take 8=o.dep.cells:=rfl
theorem ag.wU (o:ag):o.cells[10]? =some (u64 o.time):=rfl
theorem ag.CK (o:ag):o.cells[11]? =some (u32 o.who):=rfl
theorem ag.mT (o:ag):(o.cells.drop 12).take 2=o.aK.cells:=rfl
theorem ag.wV (o:ag):o.cells[14]? =some (u8 o.kind):=rfl
theorem ag.wW (o:ag):(o.cells.drop 15).take 2=o.aM.cells:=rfl
theorem ag.L4 (o:ag):o.cells[17]? =some (u32 o.to):=rfl
theorem ag.jE (o:ag):o.cells[18]? =some (u8 o.bp):=rfl
theorem ag.jF (o:ag):o.cells[19]? =some (u8 o.depth):=rfl
theorem ag.sK (o:ag):o.cells[20]? =some (u64 o.cap):=rfl
theorem ag.L5 (o:ag):(o.cells.drop 21).take 2=o.at_.cells:=rfl
theorem ag.CL (o:ag):(o.cells.drop 23).take 2=o.jD.cells:=rfl
theorem ag.wX (o:ag):o.cells[25]? =some (u32 o.item):=rfl
theorem ag.CM (o:ag):o.cells[26]? =some (u32 o.ua):=rfl
theorem ag.sL (o:ag):o.cells[27]? =some (u32 o.fz):=rfl
theorem ag.sM (o:ag):o.cells[28]? =some (.d o.lines):=rfl
theorem ag.wY (o:ag):o.cells[0]? =some (u8 o.dot.r):=rfl
theorem ag.wZ (o:ag):o.cells[1]? =some (u32 o.dot.n):=rfl
theorem ag.bJ (c o:ag):cG c.cells 0 o.cells=o.cells:=rfl
def ag.before (a b:ag):Bool:=b.dep.aF a.dot
abbrev D2:List SV:=[.d (.int .u8 0),.d (.int .u32 0),.d (.int .u32 0),.d (.int .u32 0),.d (.int .u32 0),.d (.int .u32 0),.d (.int .u32 0),.d (.int .u32 0),.d (.int .u32 0),.d (.int .u32 0),.d (.int .u64 0),.d (.int .u32 0),.d (.int .u8 0),.d (.int .u32 0),.d (.int .u8 0),
 .d (.int .u8 0),.d (.int .u32 0),.d (.int .u32 0),.d (.int .u8 0),.d (.int .u8 0),.d (.int .u64 0),.d (.int .u8 0),.d (.int .u32 0),.d (.int .u8 0),.d (.int .u32 0),.d (.int .u32 0),.d (.int .u32 0),.d (.int .u32 0),.d .aN]
def ag.zero:ag:=⟨⟨0,0⟩,aD.zero,0,0,⟨0,0⟩,0,⟨0,0⟩,0,0,0,0,⟨0,0⟩,⟨0,0⟩,0,0,0,.aN⟩
theorem ag.aR:([.d (.int .u8 0),.d (.int .u32 0),.d (.int .u32 0),.d (.int .u32 0),.d (.int .u32 0),.d (.int .u32 0),.d (.int .u32 0),.d (.int .u32 0),.d (.int .u32 0),.d (.int .u32 0),.d (.int .u64 0),.d (.int .u32 0),.d (.int .u8 0),.d (.int .u32 0),.d (.int .u8 0),
 .d (.int .u8 0),.d (.int .u32 0),.d (.int .u32 0),.d (.int .u8 0),.d (.int .u8 0),.d (.int .u64 0),.d (.int .u8 0),.d (.int .u32 0),.d (.int .u8 0),.d (.int .u32 0),.d (.int .u32 0),.d (.int .u32 0),.d (.int .u32 0),.d .aN]:List SV)=ag.zero.cells:=rfl
abbrev ops (l:List ag):SV:= .d (.sl l.length (l.flatMap ag.ds))
abbrev jL (l:List ag):List SV:=List.map SV.d (l.flatMap ag.ds)
@[simp] theorem ja (l:List ag):(l.flatMap ag.ds).length=l.length*29:=ew ag.ds 29 (λ _=>rfl) l
theorem jl {l:List ag}{i:Nat}{x:ag}(h:l[i]? =some x):List.take 29 (List.drop (i*29) (List.map SV.d (l.flatMap ag.ds)))=x.cells:=by
 rw [<- List.map_drop,<- List.map_take,jr ag.ds 29 (λ _=>rfl) l i x h];rfl
theorem Ez {l:List ag}{i:Nat}{x:ag}(h:l[i]? =some x){j:Nat}(hj:j<29):(List.map SV.d (l.flatMap ag.ds))[i*29+j]? =x.cells[j]? :=by
 rw [List.getElem?_map,uL ag.ds 29 (λ _=>rfl) l i j x h hj,ag.cells,List.getElem?_map]
theorem BP {l:List ag}{i:Nat}{x:ag}(h:l[i]? =some x){j n:Nat}(hj:j+n<=29):List.take n (List.drop (i*29+j) (List.map SV.d (l.flatMap ag.ds)))=(x.cells.drop j).take n:=by
 rw [<- jl h,List.drop_take,List.drop_drop,List.take_take,Nat.min_eq_left (by omega)]
theorem H9 {l:List ag}{i j n:Nat}{x:ag}(h:l[i]? =some x)(hj:j+n<=29):(i*29+j+n<=(List.map SV.d (l.flatMap ag.ds)).length)=True:=eq_true (by
 have:=ez h;rw [List.length_map,ja];omega)
theorem dO {l:List ag}{i:Nat}{x:ag}(h:l[i]? =some x):(i*29+29<=(List.map SV.d (l.flatMap ag.ds)).length)=True:=eq_true (by
 have:=ez h;rw [List.length_map,ja];omega)
theorem BQ {α:Type}(f:α->List DV)(sz:Nat)(hs:0<sz)(hf:∀ x,(f x).length=sz)(l:List α)(i:Nat)(x:α)(h:i<l.length):cG (List.map SV.d (l.flatMap f)) (i*sz) ((f x).map .d)=List.map SV.d ((l.set i x).flatMap f):=by
 have hl:=ew f sz hf l;have hle:i*sz+sz<=l.length*sz:=by rw [<- Nat.succ_mul];exact Nat.mul_le_mul_right sz h
 rw [qv (by rw [List.length_map,List.length_map,hf,hl];exact hle)];rw [List.length_map,hf,<- List.map_take,<- List.map_drop,<- List.map_append,<- List.map_append]
 congr 1
 induction l generalizing i with
 | nil=>simp at h
 | cons y l ih=>
  cases i with
  | zero=>
   simp [hf,List.drop_append,List.drop_of_length_le (Nat.le_of_eq (hf y))]
  | succ i=>
   have:=ih i (by simpa using h) (ew f sz hf l) (by
    have h2:i<l.length:=by simpa using h
    rw [<- Nat.succ_mul];exact Nat.mul_le_mul_right sz h2)
   rw [Nat.succ_mul];simp only [List.flatMap_cons,List.set_cons_succ];rw [List.take_append,List.drop_append,hf,List.take_of_length_le (by rw [hf];omega),List.drop_of_length_le (by rw [hf];omega)];rw [show i*sz+sz - sz=i*sz by omega,show i*sz+sz+sz - sz=i*sz+sz by omega,<- this];simp
theorem KF {l:List ag}{i:Nat}(x:ag)(h:i<l.length):cG (List.map SV.d (l.flatMap ag.ds)) (i*29) x.cells=List.map SV.d ((l.set i x).flatMap ag.ds):=BQ ag.ds 29 (by omega) (λ _=>rfl) l i x h
structure Cr where
 dot:Dt
 aK:Dt
 par:Dt
 hold:Nat
 bp:Nat
 depth:Nat
 cap:Nat
 level:Int
 deriving DecidableEq
def Cr.ds (o:Cr):List DV:=[.int .u8 o.dot.r,.int .u32 o.dot.n,.int .u8 o.aK.r,.int .u32 o.aK.n,.int .u8 o.par.r,.int .u32 o.par.n,.int .u32 o.hold,.int .u8 o.bp,.int .u8 o.depth,.int .u64 o.cap,.int .i64 o.level]
def Cr.cells (o:Cr):List SV:=o.ds.map .d
@[simp] theorem Cr.j6 (o:Cr):o.ds.length=11:=rfl
@[simp] theorem Cr.js (o:Cr):o.cells.length=11:=rfl
@[simp] theorem Cr.aq (o:Cr) (q:Nat->Bool):SV.ay q o.cells=true:=SV.bg _
@[simp] theorem Cr.ax (o:Cr) (ρ:Nat->Nat):SV.aQ ρ o.cells=o.cells:=SV.eE _
theorem Cr.cells_one (o:Cr):o.cells.all SV.dJ=true:=rfl
@[simp] theorem Cr.br (o:Cr):o.cells.take 11=o.cells:=rfl
theorem Cr.mS (o:Cr):o.cells.take 2=o.dot.cells:=rfl
theorem Cr.mT (o:Cr):(o.cells.drop 2).take 2=o.aK.cells:=rfl
theorem Cr.CN (o:Cr):(o.cells.drop 4).take 2=o.par.cells:=rfl
theorem Cr.w_ (o:Cr):o.cells[6]? =some (u32 o.hold):=rfl
theorem Cr.jE (o:Cr):o.cells[7]? =some (u8 o.bp):=rfl
theorem Cr.jF (o:Cr):o.cells[8]? =some (u8 o.depth):=rfl
theorem Cr.sK (o:Cr):o.cells[9]? =some (u64 o.cap):=rfl
theorem Cr.sN (o:Cr):o.cells[10]? =some (i64 o.level):=rfl
theorem Cr.bJ (c o:Cr):cG c.cells 0 o.cells=o.cells:=rfl
def Cr.zero:Cr:=⟨⟨0,0⟩,⟨0,0⟩,⟨0,0⟩,0,0,0,0,0⟩
theorem Cr.aR:([.d (.int .u8 0),.d (.int .u32 0),.d (.int .u8 0),.d (.int .u32 0),.d (.int .u8 0),.d (.int .u32 0),.d (.int .u32 0),.d (.int .u8 0),.d (.int .u8 0),.d (.int .u64 0),.d (.int .i64 0)]:List SV)=Cr.zero.cells:=rfl
theorem Cr.r_ (a b:Cr):jq [true,true,true,true,true,true,true,true,true,true,true] a.cells b.cells=some (decide (a=b)):=by
 have h:jq [true,true,true,true,true,true,true,true,true,true,true] a.cells b.cells=some (((a.dot.r:Int) == b.dot.r) && (((a.dot.n:Int) == b.dot.n) && (((a.aK.r:Int) == b.aK.r) && (((a.aK.n:Int) == b.aK.n) && (((a.par.r:Int) == b.par.r) && (((a.par.n:Int) == b.par.n) &&
   (((a.hold:Int) == b.hold) && (((a.bp:Int) == b.bp) && (((a.depth:Int) == b.depth) && (((a.cap:Int) == b.cap) && ((a.level == b.level) && true))))))))))):=by simp [jq,Hv,Cr.cells,Cr.ds]
 rw [h]
 congr 1
 obtain ⟨⟨a0,a1⟩,⟨a2,a3⟩,⟨a4,a5⟩,a6,a7,a8,a9,a10⟩:=a;obtain ⟨⟨b0,b1⟩,⟨b2,b3⟩,⟨b4,b5⟩,b6,b7,b8,b9,b10⟩:=b;rw [Bool.eq_iff_iff];simp;omega
abbrev dG (l:List Cr):SV:= .d (.sl l.length (l.flatMap Cr.ds))
@[simp] theorem NP (l:List Cr):(l.flatMap Cr.ds).length=l.length*11:=ew Cr.ds 11 (λ _=>rfl) l
def ov (o:ag):SV:= .agg o.cells
def cv (o:Cr):SV:= .agg o.cells
section
variable {K:Type} [DecidableEq K] {kc:K->List SV}
theorem pq (L:MM K ag)(a:K):fP (ah kc ov L) (.agg ag.zero.cells) (MM.idx L a)= .agg ((MM.get L a).getD ag.zero).cells:=iR (vs:=ov) ag.zero L a
theorem pz (L:MM K Cr)(a:K):fP (ah kc cv L) (.agg Cr.zero.cells) (MM.idx L a)= .agg ((MM.get L a).getD Cr.zero).cells:=iR (vs:=cv) Cr.zero L a
theorem pE (L:MM K ag)(c:Nat)(a:K):qO (ah kc ov L) c (.agg (kc a)) (.agg ag.zero.cells) (MM.idx L a)= .map (ah kc ov (MM.ya L c a ag.zero)) (MM.jh L c a):=uP (vs:=ov) L c a ag.zero
theorem pF (L:MM K Cr)(c:Nat)(a:K):qO (ah kc cv L) c (.agg (kc a)) (.agg Cr.zero.cells) (MM.idx L a)= .map (ah kc cv (MM.ya L c a Cr.zero)) (MM.jh L c a):=uP (vs:=cv) L c a Cr.zero
theorem pG (L:MM K Int)(c:Nat)(a:K):qO (ah kc iv L) c (.agg (kc a)) (.d (.int .i64 0)) (MM.idx L a)= .map (ah kc iv (MM.ya L c a 0)) (MM.jh L c a):=uP (vs:=iv) L c a 0
theorem pH (L:MM K ag)(c:Nat)(a:K)(z v:ag):(ah kc ov (MM.ya L c a z)).modify (MM.pos L a) (λ e=>(e.1,e.2.1,.agg v.cells))=ah kc ov (MM.put L c a v):=kK (vs:=ov) L c a z v
theorem pI (L:MM K Cr)(c:Nat)(a:K)(z v:Cr):(ah kc cv (MM.ya L c a z)).modify (MM.pos L a) (λ e=>(e.1,e.2.1,.agg v.cells))=ah kc cv (MM.put L c a v):=kK (vs:=cv) L c a z v
theorem pJ (L:MM K Int)(c:Nat)(a:K)(z v:Int):(ah kc iv (MM.ya L c a z)).modify (MM.pos L a) (λ e=>(e.1,e.2.1,.d (.int .i64 v)))=ah kc iv (MM.put L c a v):=kK (vs:=iv) L c a z v
theorem bA (ρ:Nat->Nat)(L:MM Dt ag):(ah Dt.cells ov L).map (λ e=>(e.1,e.2.1.aA ρ,e.2.2.aA ρ))=ah Dt.cells ov L:=lB ρ L (λ a=>Dt.ax a ρ) (λ v=>by simp [ov,SV.aA])
theorem a_ (q:Nat->Bool)(L:MM Dt ag):((ah Dt.cells ov L).all λ e=>e.2.1.ok q && e.2.2.ok q)=true:=nN q L (λ a=>Dt.aq a q) (λ v=>by simp [ov,SV.ok])
theorem dV (ρ:Nat->Nat)(L:MM Dt Cr):(ah Dt.cells cv L).map (λ e=>(e.1,e.2.1.aA ρ,e.2.2.aA ρ))=ah Dt.cells cv L:=lB ρ L (λ a=>Dt.ax a ρ) (λ v=>by simp [cv,SV.aA])
theorem iG (q:Nat->Bool)(L:MM Dt Cr):((ah Dt.cells cv L).all λ e=>e.2.1.ok q && e.2.2.ok q)=true:=nN q L (λ a=>Dt.aq a q) (λ v=>by simp [cv,SV.ok])
end
end
section
def uv (n:Nat):SV:= .d (.int .u64 (n:Int))
section
variable {K:Type} [DecidableEq K] {kc:K->List SV}
theorem pK (L:MM K Nat)(a:K):fP (ah kc uv L) (.d (.int .u64 0)) (MM.idx L a)= .d (.int .u64 (((MM.get L a).getD 0:Nat):Int)):=iR (vs:=uv) 0 L a
theorem pL (L:MM K Nat)(c:Nat)(a:K)(n:Nat):iZ (ah kc uv L) c (.agg (kc a)) (.d (.int .u64 (n:Int))) (MM.idx L a)= .map (ah kc uv (MM.put L c a n)) (MM.jh L c a):=jC (vs:=uv) L c a n
theorem pM (L:MM K Nat)(c:Nat)(a:K):qO (ah kc uv L) c (.agg (kc a)) (.d (.int .u64 0)) (MM.idx L a)= .map (ah kc uv (MM.ya L c a 0)) (MM.jh L c a):=uP (vs:=uv) L c a 0
theorem pN (L:MM K Nat)(c:Nat)(a:K)(z v:Nat):(ah kc uv (MM.ya L c a z)).modify (MM.pos L a) (λ e=>(e.1,e.2.1,.d (.int .u64 (v:Int))))=ah kc uv (MM.put L c a v):=kK (vs:=uv) L c a z v
end
structure Sp where
 d:Dt
 n:Nat
 deriving DecidableEq
def Sp.ds (x:Sp):List DV:=[.int .u8 x.d.r,.int .u32 x.d.n,.int .u64 x.n]
def Sp.cells (x:Sp):List SV:=x.ds.map .d
@[simp] theorem Sp.j6 (x:Sp):x.ds.length=3:=rfl
@[simp] theorem Sp.js (x:Sp):x.cells.length=3:=rfl
@[simp] theorem Sp.aq (x:Sp) (q:Nat->Bool):SV.ay q x.cells=true:=SV.bg _
@[simp] theorem Sp.ax (x:Sp) (ρ:Nat->Nat):SV.aQ ρ x.cells=x.cells:=SV.eE _
theorem Sp.cells_one (x:Sp):x.cells.all SV.dJ=true:=rfl
@[simp] theorem Sp.br (x:Sp):x.cells.take 3=x.cells:=rfl
theorem Sp.mS (x:Sp):x.cells.take 2=x.d.cells:=rfl
theorem Sp.gN (x:Sp):x.cells[2]? =some (u64 x.n):=rfl
theorem Sp.bJ (c x:Sp):cG c.cells 0 x.cells=x.cells:=rfl
def Sp.zero:Sp:=⟨⟨0,0⟩,0⟩
theorem Sp.aR:([.d (.int .u8 0),.d (.int .u32 0),.d (.int .u64 0)]:List SV)=Sp.zero.cells:=rfl
theorem Sp.gl (d:Dt)(n:Nat):cG (cG Sp.zero.cells 0 d.cells) 2 [.d (.int .u64 (n:Int))]=(Sp.mk d n).cells:=rfl
theorem Sp.r_ (a b:Sp):jq [true,true,true] a.cells b.cells=some (decide (a=b)):=by
 have h:jq [true,true,true] a.cells b.cells=some (((a.d.r:Int) == b.d.r) && (((a.d.n:Int) == b.d.n) && (((a.n:Int) == b.n) && true))):=by simp [jq,Hv,Sp.cells,Sp.ds]
 rw [h]
 congr 1
 obtain ⟨⟨a0,a1⟩,a2⟩:=a;obtain ⟨⟨b0,b1⟩,b2⟩:=b;rw [Bool.eq_iff_iff];simp;omega
@[simp] theorem NQ (l:List Sp):(l.flatMap Sp.ds).length=l.length*3:=ew Sp.ds 3 (λ _=>rfl) l
theorem pO (x:Cr):fu x.cells=some x.ds:=rfl
theorem pP (x:Sp):fu x.cells=some x.ds:=rfl
end
end Go.Sl
namespace Go.Sl
section
variable {P:Program}
def RW (P:Program)(de:List SI)(st:St)(K:St->List (Bool×List Nat)->Prop):Prop:=
 ∃ dG st' ob ts,runs P de st dG=some (st',ob,ts)/\ob/\K st' ts
def ir:SO->Bool
 | .call .. =>true
 | _=>false
def xb:SO->Bool
 | .qf .. =>true
 | _=>false
def seg (P:Program):List SI->St->Option (List SI×St×Prop×List (Bool×List Nat))
  | [],st=>some ([],st,True,[])
  | si :: r,st=>match si.g with
    | none=>match ir si.op with
      | true=>some (si::r,st,True,[])
      | false=>match fM P st si.op [] with
        | some (e,_)=>match seg P r (mz st si e) with
          | some (rest,st',ob,ts)=>some (rest,st',e.ob/\ob,ij si e::ts)
          | none=>none
        | none=>none
    | some (t,w)=>match st.env.lookup t with
      | some (.d (.bool b))=>match b == w with
        | true=>match ir si.op with
          | true=>some (si::r,st,True,[])
          | false=>match fM P st si.op [] with
            | some (e,_)=>match seg P r (mz st si e) with
              | some (rest,st',ob,ts)=>some (rest,st',e.ob/\ob,ij si e::ts)
              | none=>none
            | none=>none
        | false=>match seg P r (mz st si ⟨.eu [],[],[],0,True⟩) with
          | some (rest,st',ob,ts)=>some (rest,st',ob,ij si ⟨.eu [],[],[],0,True⟩::ts)
          | none=>none
      | some (.eu [])=>match seg P r (mz st si ⟨.eu [],[],[],0,True⟩) with
          | some (rest,st',ob,ts)=>some (rest,st',ob,ij si ⟨.eu [],[],[],0,True⟩::ts)
          | none=>none
      | _=>none
theorem CO {st:St}{so:SO}{e:mG}{c2:List CR}(hc:ir so=false)(h:fM P st so []=some (e,c2)):c2=[]/\(xb so=false->∀ dG,fM P st so dG=some (e,dG))/\(xb so=true->∀ dG,fM P st so (.iB::dG)=some (e,dG)):=by
 cases so <;> simp only [ir,Bool.true_eq_false] at hc <;> simp only [fM] at h <;> split at h <;> try (cases h;done)
 all_goals
  rename_i hs;injection h with h;injection h with h h';subst h;subst h';refine ⟨rfl,λ hb dG=> ?_,λ hb dG=> ?_⟩
  all_goals first
   | (simp [xb] at hb;done)
   | simp only [fM,hs]
theorem RW.nil {st:St}{K:St->List (Bool×List Nat)->Prop}(h:K st []):RW P [] st K:=⟨[],st,True,[],rfl,trivial,h⟩
theorem RW.cons {si:SI}{r:List SI}{st:St}{K:St->List (Bool×List Nat)->Prop}{e:mG}(h1:∀ dG,∃ c0,gd P st si c0=some (e,dG))(bz:e.ob)(h:RW P r (mz st si e) λ st' ts=>K st' (ij si e::ts)):RW P (si::r) st K:=by
 obtain ⟨dG,st',ob,ts,hr,ho,hk⟩:=h;obtain ⟨c0,hc0⟩:=h1 dG;refine ⟨c0,st',e.ob/\ob,ij si e::ts,?_,⟨bz,ho⟩,hk⟩;simp only [runs,hc0,hr]
theorem zo {st:St}{so:SO}{e:mG}{c2:List CR}(hc:ir so=false)(h:fM P st so []=some (e,c2))(dG:List CR):∃ c0,fM P st so c0=some (e,dG):=by
 obtain ⟨_,h1,h2⟩:=CO hc h;cases hb:xb so with
 | false=>exact ⟨dG,h1 hb dG⟩
 | true=>exact ⟨.iB::dG,h2 hb dG⟩
theorem RW.call {d:Option Nat}{f:X}{args:List X}{g:Option (Nat×Bool)}{r:List SI}{st:St}{K:St->List (Bool×List Nat)->Prop}{fid:FuncId}{as first cap as':List SV}{F F':Hp}{v:SV}{nk:Nat}
  (hf:ev (λ t=>st.env.lookup t) f=some (.fn (.func fid) first cap)) (ha:qu (λ t=>st.env.lookup t) args=some as) (has:first++as++cap=as') (hc:aJ P fid as' F st.k nk v F') (hs:HSub F st.hp)
  (hg:g=none\/∃ t w,g=some (t,w)/\st.env.lookup t=some (.d (.bool w)))
  (h:RW P r (mz st ⟨d,.call f args,g⟩ ⟨v,F,F',nk,True⟩) λ st' ts=>K st' (ij ⟨d,.call f args,g⟩ ⟨v,F,F',nk,True⟩::ts)):RW P (⟨d,.call f args,g⟩::r) st K:=by
 refine RW.cons (e:=⟨v,F,F',nk,aJ P fid (first++as++cap) F st.k nk v F'/\HSub F st.hp⟩) (λ dG=>⟨.call F v F' nk::dG,?_⟩) ⟨by rw [has];exact hc,hs⟩ h;rcases hg with rfl | ⟨t,w,rfl,hl⟩
 .simp only [gd,fM,hf,ha]
 .simp [gd,hl,fM,hf,ha]
theorem SW.N7 {N k0:Nat}{st:St}{Q:Exit->St->Prop}{de:List SI}{bs:List Nat}{draw:Bool}(hm:P.follows .mixedOrders=true)(h:RW P de st λ st' ts=>(!draw || mA bs ts)=true/\Q .normal st'):SW P N k0 (.e_ de bs draw) st Q:=by
 obtain ⟨dG,st',ob,ts,hr,ho,hn,hk⟩:=h;exact SW.e_ dG hm hr ho hn hk
theorem fm {st:St}{d:Option Nat}{op:SO}{g:Option (Nat×Bool)}{dG:List CR}{e:mG}{c2:List CR}(hg:g=none\/∃ t w,g=some (t,w)/\st.env.lookup t=some (.d (.bool w)))(h:fM P st op dG=some (e,c2)):gd P st ⟨d,op,g⟩ dG=some (e,c2):=by
 rcases hg with rfl | ⟨t,w,rfl,hl⟩
 .simp only [gd,h]
 .simp [gd,hl,h]
theorem RW.EA {d:Nat}{op:SO}{g:Option (Nat×Bool)}{r:List SI}{K:St->List (Bool×List Nat)->Prop}{env:List (Nat×SV)}{hp F F':Hp}{k:Nat}{v:SV}{nk:Nat}{ob:Prop}
  (hr:dx op=true) (hc:ir op=false) (hb:xb op=false) (hg:g=none\/∃ t w,g=some (t,w)/\env.lookup t=some (.d (.bool w))) (he:fM P ⟨env,hp,k⟩ op []=some (⟨v,F,F',nk,ob⟩,[])) (bz:ob) (hk:nk=0)
  (h:RW P r ⟨(d,v)::env,hp,k⟩ λ st' ts=>K st' ((true,F.map (·.1)++F'.map (·.1))::ts)):RW P (⟨some d,op,g⟩::r) ⟨env,hp,k⟩ K:=by
 subst hk;refine RW.cons (e:=⟨v,F,F',0,ob⟩) (λ dG=> ?_) bz ?_
 .obtain ⟨c0,h0⟩:=zo hc he dG
  exact ⟨c0,fm hg h0⟩
 .simpa only [mz,ij,hr,bR,if_true,Nat.add_zero] using h
def uR:Option Nat->SV->List (Nat×SV)->List (Nat×SV)
 | some d,v,env=>(d,v)::env
 | none,_,env=>env
theorem jb {d:Option Nat}{op:SO}{g:Option (Nat×Bool)}{env:List (Nat×SV)}{hp:Hp}{k:Nat}{e:mG}:mz ⟨env,hp,k⟩ ⟨d,op,g⟩ e=⟨uR d e.v env,bR (dx op) hp e.F e.F',k+e.nk⟩:=by
 cases d <;> rfl
theorem RW.EB {d:Option Nat}{op:SO}{g:Option (Nat×Bool)}{r:List SI}{K:St->List (Bool×List Nat)->Prop}{env:List (Nat×SV)}{hp qx F F':Hp}{k k':Nat}{v:SV}{nk:Nat}{ob:Prop}
  (hc:ir op=false) (hg:g=none\/∃ t w,g=some (t,w)/\env.lookup t=some (.d (.bool w))) (he:fM P ⟨env,hp,k⟩ op []=some (⟨v,F,F',nk,ob⟩,[])) (bz:ob) (hh:bR (dx op) hp F F'=qx) (hk:k+nk=k')
  (h:RW P r ⟨uR d v env,qx,k'⟩ λ st' ts=>K st' ((dx op,F.map (·.1)++F'.map (·.1))::ts)):RW P (⟨d,op,g⟩::r) ⟨env,hp,k⟩ K:=by
 refine RW.cons (e:=⟨v,F,F',nk,ob⟩) (λ dG=> ?_) bz ?_
 .obtain ⟨c0,h0⟩:=zo hc he dG
  exact ⟨c0,fm hg h0⟩
 .rw [jb,hh,hk];exact h
theorem RW.EC {d:Nat}{op:SO}{t:Nat}{w:Bool}{r:List SI}{K:St->List (Bool×List Nat)->Prop}{env:List (Nat×SV)}{hp:Hp}{k:Nat}{s:SV}(hg:env.lookup t=some s)(hs:mP w s=true)
  (h:RW P r ⟨(d,.eu [])::env,hp,k⟩ λ st' ts=>K st' ((dx op,[])::ts)):RW P (⟨some d,op,some (t,w)⟩::r) ⟨env,hp,k⟩ K:=by
 have hh:bR (dx op) hp [] []=hp:=by unfold bR;split <;> rfl
 refine RW.cons (e:=⟨.eu [],[],[],0,True⟩) (λ dG=>⟨dG,?_⟩) trivial ?_
 .unfold mP at hs
  split at hs
  .simp only [gd,hg];rw [if_neg (by simpa using hs)]
  .simp only [gd,hg]
  .cases hs
 .rw [jb]
  show RW P r ⟨(d,.eu [])::env,bR (dx op) hp [] [],k+0⟩ _;rw [hh];exact h
theorem RW.CP {op:SO}{t:Nat}{w:Bool}{r:List SI}{K:St->List (Bool×List Nat)->Prop}{env:List (Nat×SV)}{hp:Hp}{k:Nat}{s:SV}(hg:env.lookup t=some s)(hs:mP w s=true)
  (h:RW P r ⟨env,hp,k⟩ λ st' ts=>K st' ((dx op,[])::ts)):RW P (⟨none,op,some (t,w)⟩::r) ⟨env,hp,k⟩ K:=by
 have hh:bR (dx op) hp [] []=hp:=by unfold bR;split <;> rfl
 refine RW.cons (e:=⟨.eu [],[],[],0,True⟩) (λ dG=>⟨dG,?_⟩) trivial ?_
 .unfold mP at hs
  split at hs
  .simp only [gd,hg];rw [if_neg (by simpa using hs)]
  .simp only [gd,hg]
  .cases hs
 .rw [jb]
  show RW P r ⟨env,bR (dx op) hp [] [],k+0⟩ _;rw [hh];exact h
theorem RW.ED {d:Option Nat}{f:X}{args:List X}{g:Option (Nat×Bool)}{r:List SI}{K:St->List (Bool×List Nat)->Prop}{fid:FuncId}{as first cap as':List SV}{env:List (Nat×SV)}{hp F F':Hp}{k:Nat}{v:SV}{nk:Nat}
  (hf:ev (λ t=>env.lookup t) f=some (.fn (.func fid) first cap)) (ha:qu (λ t=>env.lookup t) args=some as) (has:first++as++cap=as') (hc:aJ P fid as' F k nk v F') (hs:HSub F hp)
  (hg:g=none\/∃ t w,g=some (t,w)/\env.lookup t=some (.d (.bool w)))
  (h:RW P r ⟨uR d v env,bR false hp F F',k+nk⟩ λ st' ts=>K st' ((false,F.map (·.1)++F'.map (·.1))::ts)):RW P (⟨d,.call f args,g⟩::r) ⟨env,hp,k⟩ K:=by
 refine RW.call (st:=⟨env,hp,k⟩) hf ha has hc hs hg ?_;rw [jb];exact h
end
section
variable {P:Program}
def nO (P:Program)(o:Oper)(E:Nat->Option SV)(H:Nat->Option Ob)(k nk:Nat)(F:Hp)(Q:SV->Hp->Prop):Prop:=
 (∀ n ob,lk F n=some ob->H n=some ob)/\
 ∀ (rd:Option Nat) (p:Nat->Prop) (μ:Nat->Nm) (M:Mem) (a:Act) (w:World) (K:Act->World->Prop) (QQ:Exit->Act->World->Prop),(∀ n,(k<=n/\n<k+nk)-> ¬ p n)->iy E o.op.operands p μ M a->bQ p μ M (lk F) w->
  (∀ r F' u bn M' w',Q r F'->Rp (λ n=>p n\/(k<=n/\n<k+nk)) bn M' r u->bQ (λ n=>p n\/(k<=n/\n<k+nk)) bn M' (lk F') w'->Ev (lk F) (λ n=>k<=n/\n<k+nk) μ M w (lk F') bn M' w'->K (a.put o.dst u) w')->
  o.wpIn (jO rd) 0 P a w K QQ
theorem Sound.q {o:Oper}{E:Nat->Option SV}{H:Nat->Option Ob}{k:Nat}{e:mG}(h:Sound P o E H k e):nO P o E H k e.nk e.F (λ r F'=>r=e.v/\F'=e.F'):=
 ⟨h.2,λ rd p μ M a w K QQ h1 h2 h3 h4=>h.1 rd p μ M a w K QQ h1 h2 h3 λ u bn M' w' a1 a2 a3=>h4 _ _ u bn M' w' ⟨rfl,rfl⟩ a1 a2 a3⟩
theorem iJ.step {N:Nat}{rd:Option Nat}{cR:Nat->Nm}{M0:Mem}{w0:World}{c0:Nat->Option Ob}{k0:Nat}{st:St}{a:Act}{w:World}{o:Oper}{si:SI}{F:Hp}{nk:Nat}{Q:SV->Hp->Prop}(hd:si.dst=o.dst)(hN:∀ d,o.dst=some d->d<N)
  (h:nO P o (λ t=>st.env.lookup t) (lk st.hp) st.k nk F Q) (hro:∀ r F',Q r F'->dx si.op=true->F'=F) (fO:iJ N cR M0 w0 c0 k0 st a w) {K:Act->World->Prop} {QQ:Exit->Act->World->Prop}
  (hK:∀ r F',Q r F'->∀ a' w',iJ N cR M0 w0 c0 k0 (mz st si ⟨r,F,F',nk,True⟩) a' w'->K a' w'):o.wpIn (jO rd) 0 P a w K QQ:=by
 obtain ⟨og,hdf,hsz,μ,M,gD,hS,hE⟩:=fO;have hsub:∀ n ob,lk F n=some ob->lk st.hp n=some ob:=h.1;refine h.2 rd (· <st.k) μ M a w K QQ (λ n hn=>by omega) ⟨λ t _ s hs=>gD t s hs,hS.mem.mc⟩ (hS.sub hsub) λ r F' u bn M' w' hQ hu tI hE'=>hK r F' hQ _ _ ?_
 have hp:(λ n=>n<st.k\/(st.k<=n/\n<st.k+nk))=(· <st.k+nk):=funext λ n=>propext ⟨λ h=>by rcases h with h | h <;> omega,λ h=>by show n<st.k\/_;omega⟩
 have hfr:=hS.AB hsub (λ n hn=>by omega) hE' tI λ n h=> .inl h
 rw [hp] at hu hfr;have hnew:∀ n,(k0<=n/\n<st.k)\/(st.k<=n/\n<st.k+nk)↔k0<=n/\n<st.k+nk:=λ n=>by omega
 have hlk:lk (bR (dx si.op) st.hp F F')=Ay (lk st.hp) (lk F) (lk F'):=h_ hsub (hro r F' hQ);refine ⟨by show k0<=st.k+nk;omega,by rw [lS];exact hdf.ev hS hfr.2,by rw [oy];exact hsz,bn,M',λ t s hs=> ?_,?_,?_⟩
 .have hold:∀ s,st.env.lookup t=some s->Rp (· <st.k+nk) bn M' s (a.tmps.getD t undef):=λ s h'=>
   (gD t s h').more (λ n h=>by omega) (λ n h=>hE'.old n λ h'=>by omega) hE'.mem
  simp only [mz,hd] at hs;cases hod:o.dst with
  | none=>rw [hod] at hs;exact hold s hs
  | some d=>
   rw [hod] at hs;simp only at hs;rw [nJ] at hs
   by_cases hdt:d=t
   .subst hdt
    simp at hs;subst hs;rw [uF (by rw [hsz];exact hN d hod)];exact hu
   .rw [if_neg hdt] at hs
    rw [o6 (λ e=>hdt e.symm)];exact hold s hs
 .show bQ _ _ _ (lk (bR (dx si.op) st.hp F F')) _
  rw [hlk];exact hfr.1
 .show Ev _ _ _ _ _ (lk (bR (dx si.op) st.hp F F')) _ _ _
  rw [hlk];exact (hE.trans hfr.2).tV λ n=>hnew n
theorem iJ.skip {N:Nat}{cR:Nat->Nm}{M0:Mem}{w0:World}{c0:Nat->Option Ob}{k0:Nat}{st:St}{a:Act}{w:World}{si:SI}{d:Option Nat}(hd:si.dst=d)(hN:∀ x,d=some x->x<N)
  (fO:iJ N cR M0 w0 c0 k0 st a w):iJ N cR M0 w0 c0 k0 (mz st si ⟨.eu [],[],[],0,True⟩) (a.put d undef) w:=by
 obtain ⟨og,hdf,hsz,μ,M,gD,hS,hE⟩:=fO;have hh:bR (dx si.op) st.hp [] []=st.hp:=by unfold bR;split <;> rfl
 refine ⟨og,by rw [lS];exact hdf,by rw [oy];exact hsz,μ,M,λ t s hs=> ?_,by simp only [mz,hh];exact hS,by simp only [mz,hh];exact hE⟩;simp only [mz,hd] at hs;cases d with
 | none=>exact gD t s hs
 | some d=>
  simp only at hs;rw [nJ] at hs
  by_cases hdt:d=t
  .subst hdt
   simp at hs;subst hs;rw [wG];exact Rp.eH.2 ⟨#[],rfl,aX.aT.2 rfl⟩
  .rw [if_neg hdt] at hs
   rw [o6 (λ e=>hdt e.symm)];exact gD t s hs
def aV (P:Program)(N k0:Nat)(de:List SI)(st:St)(K:St->Prop):Prop:=
 ∀ (ops:Array Oper) (i:Nat),i+de.length=ops.size->(∀ j si,de[j]? =some si->∃ o,ops[i+j]? =some o/\ql P ops o=some si)->(∀ si∈de,∀ d,si.dst=some d->d<N)->
  ∀ (rd:Option Nat) (cR:Nat->Nm) (M0:Mem) (w0:World) (c0:Nat->Option Ob) (a:Act) (w:World),iJ N cR M0 w0 c0 k0 st a w->∀ Q':Exit->Act->World->Prop,(∀ st' a' w',K st'->iJ N cR M0 w0 c0 k0 st' a' w'->Q' .normal a' w')->
   wpOpsIn (jO rd) 0 P ops Q' (List.range' i de.length) a w
theorem aV.nil {N k0:Nat}{st:St}{K:St->Prop}(h:K st):aV P N k0 [] st K:=λ ops i _ _ _ rd cR M0 w0 c0 a w fO Q' hQ=>hQ st a w h fO
theorem aV.cons {N k0:Nat}{st:St}{K:St->Prop}{si:SI}{r:List SI}
  (h:∀ (ops:Array Oper) (o:Oper),ql P ops o=some si->(∀ d,si.dst=some d->d<N)->∀ (rd:Option Nat) (cR:Nat->Nm) (M0:Mem) (w0:World) (c0:Nat->Option Ob) (a:Act) (w:World),iJ N cR M0 w0 c0 k0 st a w->
   ∀ (i:Nat),ops[i]? =some o->∀ (Q':Exit->Act->World->Prop) (KK:Act->World->Prop),(∀ st' a' w',aV P N k0 r st' K->iJ N cR M0 w0 c0 k0 st' a' w'->KK a' w')->wpOpIn (jO rd) 0 P ops Q' i KK a w):aV P N k0 (si::r) st K:=by
 intro ops i hl kY hN rd cR M0 w0 c0 a w fO Q' hQ;obtain ⟨o,ho,hc⟩:=kY 0 si rfl;simp only [Nat.add_zero] at ho;rw [List.length_cons,List.range'_succ,wpOpsIn_cons];refine h ops o hc (λ d hd=>hN si (by simp) d hd) rd cR M0 w0 c0 a w fO i ho Q' _ λ st' a' w' hn hSt'=> ?_
 exact hn ops (i+1) (by simp at hl;omega) (λ j sj hj=>by
  obtain ⟨o',ho',hc'⟩:=kY (j+1) sj (by simpa using hj);exact ⟨o',by rw [show i+1+j=i+(j+1) by omega];exact ho',hc'⟩) (λ s hs d hd=>hN s (by simp [hs]) d hd) rd cR M0 w0 c0 a' w' hSt' Q' hQ
theorem aV.many {N k0:Nat}{st:St}{K:St->Prop}{si:SI}{r:List SI}{F:Hp}{nk:Nat}{Q:SV->Hp->Prop}(hg:si.g=none)(hq:∀ o:Oper,cO P o.op=some si.op->nO P o (λ t=>st.env.lookup t) (lk st.hp) st.k nk F Q)
  (hro:dx si.op=false) (h:∀ v F',Q v F'->aV P N k0 r (mz st si ⟨v,F,F',nk,True⟩) K):aV P N k0 (si::r) st K:=by
 refine aV.cons λ ops o hc hN rd cR M0 w0 c0 a w fO i ho Q' KK EE=> ?_
 obtain ⟨g1,g2,g3⟩:=gJ hc;have hgn:o.guard=none:=by
  rcases g3 with ⟨h,_⟩ | ⟨j,w,t,h,_,h'⟩
  .exact h
  .rw [hg] at h';cases h'
 unfold wpOpIn;simp only [ho,Region.wanted,hgn,if_true];exact (iJ.step g2 (λ d hd=>hN d (by rw [g2];exact hd)) (hq o g1) (λ v F' _ hr=>by rw [hro] at hr;cases hr) fO λ v F' hQ a' w' hSt'=>EE _ a' w' (h v F' hQ) hSt')
theorem aV.JK {N k0:Nat}{K:St->Prop}{rest:List SI}:∀ {de:List SI} {st st':St} {dG:List CR} {ob:Prop} {ts:List (Bool×List Nat)},Go.Sl.runs P de st dG=some (st',ob,ts)->ob->aV P N k0 rest st' K->aV P N k0 (de++rest) st K:=by
 intro de
 induction de with
 | nil=>
  intro st st' dG ob ts h _ hk;simp only [Go.Sl.runs] at h;injection h with h;injection h with h1 _;subst h1;exact hk
 | cons si r ih=>
  intro st st' dG ob ts h bz hk;simp only [Go.Sl.runs] at h
  split at h <;> try (cases h;done)
  rename_i e crs' hop
  split at h <;> try (cases h;done)
  rename_i st2 HH ts2 hr;injection h with h;injection h with h1 h;injection h with h2 h3;subst h1;subst h2;refine aV.cons λ ops o hc hN rd cR M0 w0 c0 a w fO i ho Q' KK EE=> ?_
  obtain ⟨b1,b2,b3⟩:=qB hc hop bz.1;obtain ⟨g1,g2,g3⟩:=gJ hc;have hnext:=ih hr bz.2 hk;have hu:mz st si e=mz st si ⟨e.v,e.F,e.F',e.nk,True⟩:=rfl;unfold wpOpIn;simp only [ho];obtain ⟨og,hdf,hsz,μ,M,gD,hS,hE⟩:=fO;have fO:iJ N cR M0 w0 c0 k0 st a w:=⟨og,hdf,hsz,μ,M,gD,hS,hE⟩;rcases b1 with ⟨j,want,t,sv,hg,hd,hE',hb,e1,e2,e3,e4⟩ | ⟨hg,hs⟩
  .have hv:=gD t _ hE'
   have hw:Region.wanted o (yielded ops a.tmps)=false:=by
    simp only [Region.wanted,hg];unfold mP at hb
    split at hb
    .rw [iH hd (Rp.bE.1 hv)]
     simpa using hb
    .obtain ⟨vs,e,hvs⟩:=Rp.eH.1 hv
     have hvs0:vs= #[]:=by have:=aX.aT.1 hvs;simpa using this
     rw [qy hd (by rw [e,hvs0];rfl)];rfl
    .cases hb
   simp only [hw,Bool.false_eq_true,if_false];obtain ⟨v,F,F',nk,eo⟩:=e;simp only at e1 e2 e3 e4;subst e1;subst e2;subst e3;subst e4;exact ⟨λ _ _=>trivial,EE _ _ _ hnext (iJ.skip g2 (λ d hd=>hN d (by rw [g2];exact hd)) fO)⟩
  .have hw:Region.wanted o (yielded ops a.tmps)=true:=by
    rcases hg with hg | ⟨j,want,t,hg,hd,hE'⟩
    .simp [Region.wanted,hg]
    .have hv:=Rp.bE.1 (gD t _ hE')
     simp only [Region.wanted,hg,iH hd hv];simp
   simp only [hw,if_true];exact (iJ.step g2 (λ d hd=>hN d (by rw [g2];exact hd)) hs.q (λ v F' hQ hr=>by rw [hQ.2];exact b2 hr) fO λ v F' hQ a' w' hSt'=>EE _ a' w' (by rw [hQ.1,hQ.2];exact hnext) hSt')
theorem aV.runs {N k0:Nat}{K:St->Prop}{de:List SI}{st st':St}{dG:List CR}{ob:Prop}{ts:List (Bool×List Nat)}(h:Go.Sl.runs P de st dG=some (st',ob,ts))(ho:ob)(hk:K st'):aV P N k0 de st K:=by
 have:=aV.JK (N:=N) (k0:=k0) (rest:=[]) h ho (aV.nil hk)
 rwa [List.append_nil] at this
theorem aV.one {N k0:Nat}{K:St->Prop}{si:SI}{r:List SI}{st:St}{e:mG}{c2 dG:List CR}(h1:gd P st si dG=some (e,c2))(bz:e.ob)(h:aV P N k0 r (mz st si e) K):aV P N k0 (si::r) st K:=
 aV.JK (de:=[si]) (dG:=dG) (st':=mz st si e) (ob:=e.ob/\True) (ts:=[ij si e]) (by simp only [Go.Sl.runs,h1]) ⟨bz,trivial⟩ h
theorem BR {o:Oper}{E:Nat->Option SV}{H:Nat->Option Ob}{k nk:Nat}{f:X}{args:List X}{fid:FuncId}{first cap as:List SV}{F:Hp}{Q:SV->Hp->Prop}(hc:cO P o.op=some (.call f args))
  (h1:ev E f=some (.fn (.func fid) first cap)) (h2:qu E args=some as) (DY:SC P fid (first++as++cap) F k nk Q) (hsub:∀ n ob,lk F n=some ob->H n=some ob):nO P o E H k nk F Q:=by
 obtain ⟨c,fo,hop,bZ,hf,ha⟩:=qY hc;exact ⟨hsub,λ rd p μ M a w K QQ hnew hk hS hK=>xY hop bZ hf ha h1 h2 DY hnew hk hS hK⟩
theorem SW.Pn {N k0:Nat}{st:St}{de:List SI}{K:St->Prop}{st1:St}{ρ:Nat->Nat}(hw:aI k0 st st1 ρ)(h:aV P N k0 de st1 K):aV P N k0 de st K:=
 λ ops i h1 h2 h3 rd cR M0 w0 c0 a w fO=>h ops i h1 h2 h3 rd cR M0 w0 c0 a w (fO.weak hw)
theorem SW.tP {N k0:Nat}{st:St}{Q:Exit->St->Prop}{de:List SI}{bs:List Nat}(h:aV P N k0 de st (Q .normal)):SW P N k0 (.e_ de bs false) st Q:=by
 intro c hc rd hrf cR M0 w0 c0 a w fO;cases c <;> simp only [cK] at hc <;> first
  | (cases hc;done)
  | (exfalso;split at hc <;> cases hc;done)
  | (exfalso;obtain ⟨_,_,h'⟩:=Option.map_eq_some_iff.1 hc;cases h';done)
  | skip
 rename_i id ops draw
 split at hc <;> try (cases hc;done)
 rename_i sis' bs' hreg;injection hc with hc;injection hc with h1 h2 h3;subst h1;subst h3;unfold El at hreg
 split at hreg <;> try (cases hreg;done)
 rename_i sis2 hsis
 split at hreg <;> try (cases hreg;done)
 rename_i hchk;injection hreg with hreg;injection hreg with hr1 hr2;subst hr1;simp only [Bool.and_eq_true] at hchk;obtain ⟨_,hin⟩:=hchk;obtain ⟨hlen,kY⟩:=nL hsis;refine wpIn_region ?_;rw [List.range_eq_range'];have hn:ops.size=sis2.length:=by simpa using hlen
 rw [hn];refine h ops 0 (by omega) (λ j si hj=> ?_) (λ si hs d hd=> ?_) rd cR M0 w0 c0 a w fO _ λ st' a' w' hk hSt'=>⟨st',hk,hSt'⟩
 .have hj':j<ops.size:=by rw [hn];exact (List.getElem?_eq_some_iff.1 hj).1
  obtain ⟨si',h1,h2⟩:=kY j ops[j] (by simp [hj']);rw [hj] at h1;injection h1 with h1;subst h1;exact ⟨ops[j],by rw [Nat.zero_add];exact Array.getElem?_eq_getElem hj',h2⟩
 .have:=List.all_eq_true.1 hin si hs
  rw [hd] at this
  simpa using this
end
section
variable {P:Program}
theorem HSub.cons {F h:Hp}{n:Nat}{ob:Ob}(h1:lk h n=some ob)(h2:HSub F h):HSub ((n,ob)::F) h:=λ m kC hm=>by
 rw [aa] at hm
 split at hm
 .rename_i e;subst e;injection hm with hm;subst hm;exact h1
 .exact h2 m kC hm
theorem wrap_i64 (n:Int)(h: -9223372036854775808<=n/\n<9223372036854775808):IntKind.i64.wrap n=n:=x_ n h.1 h.2
theorem kN (n:Int)(h:0<=n/\n<18446744073709551616):IntKind.u64.wrap n=n:=by
 have:=wrap_u64 n.toNat (by omega)
 rwa [show ((n.toNat:Nat):Int)=n by omega] at this
theorem wrap_u32' (n:Int)(h:0<=n/\n<4294967296):IntKind.u32.wrap n=n:=by
 have:=wrap_u32 n.toNat (by omega)
 rwa [show ((n.toNat:Nat):Int)=n by omega] at this
theorem wrap_u8' (n:Int)(h:0<=n/\n<256):IntKind.u8.wrap n=n:=by
 have:=wrap_u8 n.toNat (by omega)
 rwa [show ((n.toNat:Nat):Int)=n by omega] at this
theorem af:(true == true)=true:=rfl
theorem xd:(false == false)=true:=rfl
theorem Dt.CQ (c:Dt)(a b:Int)(h:0<=a/\0<=b):cG (cG c.cells 0 [.d (.int .u8 a)]) 1 [.d (.int .u32 b)]=(Dt.mk a.toNat b.toNat).cells:=by
 have:=Dt.gl c a.toNat b.toNat
 rwa [show ((a.toNat:Nat):Int)=a by omega,show ((b.toNat:Nat):Int)=b by omega] at this
theorem Dt.CS (c:Dt)(b:Int)(h:0<=b):cG c.cells 1 [.d (.int .u32 b)]=(Dt.mk c.r b.toNat).cells:=by
 rw [show b=((b.toNat:Nat):Int) by omega];rfl
theorem mU (n k:Nat):(n:Int)+(no_index (OfNat.ofNat k):Int)=((n+OfNat.ofNat k:Nat):Int):=rfl
theorem mV (n k:Nat):(n:Int)+(k:Int)=((n+k:Nat):Int):=rfl
def an (L:List Nat)(st:St)(R:St->Prop):Prop:=R ⟨st.env.filter (λ x=>L.contains x.1),st.hp,st.k⟩
theorem an.mk {L:List Nat}{env:List (Nat×SV)}{hp:Hp}{k:Nat}{R:St->Prop}{env':List (Nat×SV)}
  (he:env.filter (λ x=>L.contains x.1)=env':=by (simp only [mB,Nat.zero_add,Nat.reduceAdd,List.filter,List.contains_cons,List.contains_nil,Nat.reduceBEq,Bool.or_false,Bool.or_true,Bool.true_or,Bool.false_or,BEq.rfl,beq_self_eq_true] <;> with_reducible rfl)) (h:R ⟨env',hp,k⟩):an L ⟨env,hp,k⟩ R:=by
 show R ⟨env.filter _,hp,k⟩;rw [he];exact h
theorem oE (L : List Nat):∀ (env:List (Nat×SV)) (t:Nat) (s:SV),(env.filter (λ x=>L.contains x.1)).lookup t=some s->env.lookup t=some s
  | [],t,s,h=>by simp at h
  | (u, x) :: env,t,s,h=>by
    simp only [List.filter] at h
    by_cases hu:L.contains u=true
    . rw [hu] at h
      simp only [List.lookup] at h ⊢
      split at h
      . exact h
      . exact oE L env t s h
    . rw [show L.contains u=false by simpa using hu] at h
      have h2:=oE L env t s h;simp only [List.lookup]
      by_cases e:t=u
      . subst e
        exfalso
        have:∀ (env:List (Nat×SV)),(env.filter (λ x=>L.contains x.1)).lookup t=none:=by
          intro env
          induction env with
          | nil=>rfl
          | cons y env ih=>
            simp only [List.filter]
            by_cases hy:L.contains y.1=true
            . rw [hy]
              simp only [List.lookup];have:(t == y.1)=false:=by
                simp only [beq_eq_false_iff_ne];intro e;rw [<- e] at hy;exact hu hy
              rw [this];exact ih
            . rw [show L.contains y.1=false by simpa using hy];exact ih
        rw [this] at h;cases h
      . rw [show (t == u)=false by simpa using e];exact h2
theorem SW.dL {N k0:Nat}{st:St}{Q:Exit->St->Prop}{de:List SI}{bs:List Nat}{draw:Bool}(L:List Nat)(hm:P.follows .mixedOrders=true)(h:RW P de st λ st' ts=>(!draw || mA bs ts)=true/\an L st' (Q .normal)):SW P N k0 (.e_ de bs draw) st Q:=by
 have h':RW P de st λ st' ts=>(!draw || mA bs ts)=true/\(λ e st'=>∃ st2,Q e st2/\st2=⟨st'.env.filter (λ x=>L.contains x.1),st'.hp,st'.k⟩) Exit.normal st':=by
  obtain ⟨dG,st',ob,ts,hr,ho,hn,hk⟩:=h;exact ⟨dG,st',ob,ts,hr,ho,hn,_,hk,rfl⟩
 have:=SW.N7 (N:=N) (k0:=k0) (bs:=bs) (draw:=draw) (Q:=λ e st'=>∃ st2,Q e st2/\st2=⟨st'.env.filter (λ x=>L.contains x.1),st'.hp,st'.k⟩) hm h';intro c hc rd hrf cR M0 w0 c0 a w fO;refine wpIn_mono (this c hc rd hrf cR M0 w0 c0 a w fO) ?_;rintro e a' w' ⟨st',⟨st2,hq,rfl⟩,hst'⟩;obtain ⟨h1,h2,h3,μ,M,h4,h5,h6⟩:=hst';exact ⟨_,hq,h1,h2,h3,μ,M,λ t s hl=>h4 t s (oE L _ t s hl),h5,h6⟩
theorem SW.cut {N k0:Nat}{st:St}{Q:Exit->St->Prop}{x y:cu}(stM:St)(ρ:Nat->Nat)(h1:SW P N k0 x st λ e st'=>match e with | .normal=>aI k0 st' stM ρ | _=>False)(h2:SW P N k0 y stM Q):SW P N k0 (.seq x y) st Q:=by
 refine SW.seq (h1.mono λ e st' h=> ?_);cases e <;> first | exact h.elim | exact SW.weak ρ h h2
section
variable {de rest r:List SI} {st st':St} {ob:Prop} {ts:List (Bool×List Nat)} {K:St->List (Bool×List Nat)->Prop}
theorem gZ0{p:Prop}(h:p:=by
   intro φ;simp (disch:=omega) only [Go.Sl.seg,mB,ir,fM,dF,ev,qu,vT,mz,List.lookup,Nat.reduceBEq,Nat.reduceAdd,Nat.reduceMul,Nat.zero_add,SV.cells,if_true,if_false,reduceIte,Bool.false_eq_true,dx,bR,cg,cq,gh,gf,cE,lk,List.filter,Nat.reduceBNe,bne_self_eq_false,eq_self,BE,yZ,gY,xT,xU,Hw,aD.cells_one,BEq.rfl,beq_self_eq_true,Bool.true_or,Nat.reduceEqDiff,List.map_cons,List.map_nil,List.nil_append,List.cons_append,List.append_nil,Int.toNat_natCast,Nat.mul_one,Nat.add_zero,iY,iX,mg,jv,jw,jx,jy,jA,jB,mq,Option.isSome_some,Option.isSome_none,Option.isNone_some,Option.isNone_none,Nat.zero_ne_one,Nat.one_ne_zero,Bool.and_false,Bool.and_true,List.drop_zero,aD.aR,aD.br,aD.bJ,Dt.cells_one,Dt.br,Dt.CF,Dt.CG,Dt.bJ,Dt.aR,Dt.CQ,Dt.CS,mM,fu,xV,vU,List.all_cons,List.all_nil,SV.dJ,Int.cast_ofNat_Int,Int.reduceBNe,Int.reduceBEq,Int.reduceLT,Int.reduceLE,Int.reduceGT,Int.reduceGE,o_,wQ,wR,Bool.not_true,Bool.not_false,Bool.or_false,Bool.or_true,Bool.false_or,Bool.or_self,aD.sH,aD.CH,aD.wO,aD.wP,aD.eA,aD.eB,Dt.sH,Dt.CI,Dt.eA,Dt.eB,List.all_append,aD.AM,Dt.r_,Bool.cond_true,Bool.cond_false,wrap_i64,kN,wrap_u32',wrap_u8',af,xd,mU,mV,Int.reduceToNat,List.length_nil,List.getElem?_cons_zero,List.getElem?_cons_succ,List.take_succ_cons,List.take_zero,List.drop_succ_cons,decide_true,decide_false,Bool.true_and,Bool.and_self,Bool.false_and,pg,pn,lu,lz,kL,MM.fh,mR,qD,pG,pJ,pE,pH,pF,pI,pq,pz,ag.cells_one,ag.br,ag.mS,ag.CJ,ag.wU,ag.CK,ag.mT,ag.wV,ag.wW,ag.L4,ag.jE,ag.jF,ag.sK,ag.L5,ag.CL,ag.wX,ag.CM,ag.sL,ag.sM,ag.wY,ag.wZ,ag.bJ,ag.aR,Cr.cells_one,Cr.br,Cr.mS,Cr.mT,Cr.CN,Cr.w_,Cr.jE,Cr.jF,Cr.sK,Cr.sN,Cr.bJ,Cr.aR,Cr.r_,pK,pL,pM,pN,Sp.cells_one,Sp.br,Sp.mS,Sp.gN,Sp.bJ,Sp.aR,Sp.gl,Sp.r_,pP,pO,φ]
   with_reducible rfl):p:=h
theorem gZ1{p:Prop}(h:p:=by (intro φ;simp only [φ,dx,bR,cg,cq,gh,gf,cE,lk,List.lookup,Nat.reduceBEq,BEq.rfl,beq_self_eq_true,if_true,if_false,reduceIte,Nat.reduceEqDiff,Bool.false_eq_true,Option.isSome_some,Option.isSome_none] <;> with_reducible rfl)):p:=h
theorem gZ2{p:Prop}(h:p:=by first | trivial | (repeat' (first | exact trivial | omega | apply Zq | (simp [-List.length_flatMap,-Int.natCast_add];done) | (simp [-List.length_flatMap,-Int.natCast_add] <;> omega)))):p:=h
theorem gZ3{p:Prop}(h:p:=by intro φ;simp [Go.Sl.aI,aL,uK,Ep,SV.aA,SV.aQ,SV.ok,SV.ay,Ob.aA,Ob.ok,lk,List.lookup,aD.ax,Dt.ax,SV.eE,SV.bg,SV.jT,SV.jt,aD.aq,cM,bB,uQ,yb,mB,φ]):p:=h
theorem RW.ro {d:Nat}{op:SO}{g:Option (Nat×Bool)}{env:List (Nat×SV)}{hp F F':Hp}{k:Nat}{v:SV}{nk:Nat}{ob:Prop}{Φ:Prop}(φ:Φ)
  (hr:dx op=true:=by rfl) (hc:ir op=false:=by rfl) (hb:xb op=false:=by rfl)
  (hg:g=none\/∃ t w,g=some (t,w)/\env.lookup t=some (.d (.bool w)):=by first | exact .inl rfl | exact .inr ⟨_,_,rfl,rfl⟩)
  (he:Φ->fM P ⟨env,hp,k⟩ op []=some (⟨v,F,F',nk,ob⟩,[]):=by exact gZ0)
  (bz:ob:=by exact gZ2)
  (hk:nk=0:=by rfl)
  (h:RW P r ⟨(d,v)::env,hp,k⟩ λ st' ts=>K st' ((true,F.map (·.1)++F'.map (·.1))::ts)):RW P (⟨some d,op,g⟩::r) ⟨env,hp,k⟩ K:=RW.EA hr hc hb hg (he φ) bz hk h
theorem RW.op {d:Nat}{op:SO}{g:Option (Nat×Bool)}{env:List (Nat×SV)}{hp qx F F':Hp}{k k':Nat}{v:SV}{nk:Nat}{ob:Prop}{Φ:Prop}(φ:Φ)
  (hc:ir op=false:=by rfl)
  (hg:g=none\/∃ t w,g=some (t,w)/\env.lookup t=some (.d (.bool w)):=by first | exact .inl rfl | exact .inr ⟨_,_,rfl,rfl⟩)
  (he:Φ->fM P ⟨env,hp,k⟩ op []=some (⟨v,F,F',nk,ob⟩,[]):=by exact gZ0)
  (bz:ob:=by exact gZ2)
  (hh:Φ->bR (dx op) hp F F'=qx:=by exact gZ1)
  (hk:k+nk=k':=by first | (simp only [Nat.add_zero,Nat.reduceAdd] <;> rfl) | rfl)
  (h:RW P r ⟨(d,v)::env,qx,k'⟩ λ st' ts=>K st' ((dx op,F.map (·.1)++F'.map (·.1))::ts)):RW P (⟨some d,op,g⟩::r) ⟨env,hp,k⟩ K:=RW.EB hc hg (he φ) bz (hh φ) hk h
theorem RW.dQ {op:SO}{g:Option (Nat×Bool)}{env:List (Nat×SV)}{hp qx F F':Hp}{k k':Nat}{v:SV}{nk:Nat}{ob:Prop}{Φ:Prop}(φ:Φ)
  (hc:ir op=false:=by rfl)
  (hg:g=none\/∃ t w,g=some (t,w)/\env.lookup t=some (.d (.bool w)):=by first | exact .inl rfl | exact .inr ⟨_,_,rfl,rfl⟩)
  (he:Φ->fM P ⟨env,hp,k⟩ op []=some (⟨v,F,F',nk,ob⟩,[]):=by exact gZ0)
  (bz:ob:=by exact gZ2)
  (hh:Φ->bR (dx op) hp F F'=qx:=by exact gZ1)
  (hk:k+nk=k':=by first | (simp only [Nat.add_zero,Nat.reduceAdd] <;> rfl) | rfl)
  (h:RW P r ⟨env,qx,k'⟩ λ st' ts=>K st' ((dx op,F.map (·.1)++F'.map (·.1))::ts)):RW P (⟨none,op,g⟩::r) ⟨env,hp,k⟩ K:=RW.EB hc hg (he φ) bz (hh φ) hk h
theorem RW.skip {d:Nat}{op:SO}{t:Nat}{w:Bool}{env:List (Nat×SV)}{hp:Hp}{k:Nat}{s:SV}
  (hg:env.lookup t=some s:=by rfl) (hs:mP w s=true:=by rfl)
  (h:RW P r ⟨(d,.eu [])::env,hp,k⟩ λ st' ts=>K st' ((dx op,[])::ts)):RW P (⟨some d,op,some (t,w)⟩::r) ⟨env,hp,k⟩ K:=RW.EC hg hs h
theorem RW.bF {op:SO}{t:Nat}{w:Bool}{env:List (Nat×SV)}{hp:Hp}{k:Nat}{s:SV}
  (hg:env.lookup t=some s:=by rfl) (hs:mP w s=true:=by rfl)
  (h:RW P r ⟨env,hp,k⟩ λ st' ts=>K st' ((dx op,[])::ts)):RW P (⟨none,op,some (t,w)⟩::r) ⟨env,hp,k⟩ K:=RW.CP hg hs h
def ai (P:Program)(fid:FuncId)(as':List SV)(d:Option Nat)(r:List SI)(env:List (Nat×SV))(hp:Hp)(k:Nat)(K:St->List (Bool×List Nat)->Prop):Prop:=
 ∃ F F' v nk,aJ P fid as' F k nk v F'/\HSub F hp/\RW P r ⟨uR d v env,bR false hp F F',k+nk⟩ λ st' ts=>K st' ((false,F.map (·.1)++F'.map (·.1))::ts)
theorem RW.bC {d:Option Nat}{f:X}{args:List X}{g:Option (Nat×Bool)}{fid:FuncId}{as first cap as':List SV}{env:List (Nat×SV)}{hp:Hp}{k:Nat}
  (hf:ev (λ t=>env.lookup t) f=some (.fn (.func fid) first cap):=by (simp only [ev,List.lookup,Nat.reduceBEq] <;> rfl))
  (ha:qu (λ t=>env.lookup t) args=some as:=by (simp only [ev,qu,List.lookup,Nat.reduceBEq] <;> rfl))
  (has:first++as++cap=as':=by first | (simp only [List.nil_append,List.cons_append,List.append_nil] <;> rfl) | rfl)
  (hg:g=none\/∃ t w,g=some (t,w)/\env.lookup t=some (.d (.bool w)):=by first | exact .inl rfl | exact .inr ⟨_,_,rfl,rfl⟩)
  (h:ai P fid as' d r env hp k K):RW P (⟨d,.call f args,g⟩::r) ⟨env,hp,k⟩ K:=by
 obtain ⟨F,F',v,nk,hc,hs,h⟩:=h;exact RW.ED hf ha has hc hs hg h
theorem ai.mk {fid:FuncId}{as':List SV}{F F' qx:Hp}{v v':SV}{nk k':Nat}{d:Nat}{env:List (Nat×SV)}{hp:Hp}{k:Nat}{Φ:Prop}(φ:Φ)
  (hs:HSub F hp:=by first | exact HSub.nil _ | (repeat (first | exact HSub.nil _ | refine HSub.cons (by rfl) ?_)))
  (hc:aJ P fid as' F k nk v F')
  (hv:Φ->v=v':=by intro φ;first | ((simp only [φ]) <;> with_reducible rfl) | with_reducible rfl)
  (hh:Φ->bR false hp F F'=qx:=by exact gZ1)
  (hk:k+nk=k':=by first | (simp only [Nat.add_zero,Nat.reduceAdd] <;> rfl) | rfl)
  (h:RW P r ⟨(d,v')::env,qx,k'⟩ λ st' ts=>K st' ((false,F.map (·.1)++F'.map (·.1))::ts)):ai P fid as' (some d) r env hp k K:=⟨F,F',v,nk,hc,hs,by rw [hv φ,hh φ,hk];exact h⟩
end
section
variable {N k0:Nat} {r:List SI} {K:St->Prop}
theorem aV.op {d:Nat}{op:SO}{g:Option (Nat×Bool)}{env:List (Nat×SV)}{hp qx F F':Hp}{k k':Nat}{v:SV}{nk:Nat}{ob:Prop}{Φ:Prop}(φ:Φ)
  (hg:g=none\/∃ t w,g=some (t,w)/\env.lookup t=some (.d (.bool w)):=by first | exact .inl rfl | exact .inr ⟨_,_,rfl,rfl⟩)
  (he:Φ->fM P ⟨env,hp,k⟩ op []=some (⟨v,F,F',nk,ob⟩,[]):=by exact gZ0)
  (bz:ob:=by exact gZ2)
  (hh:Φ->bR (dx op) hp F F'=qx:=by exact gZ1)
  (hk:k+nk=k':=by first | (simp only [Nat.add_zero,Nat.reduceAdd] <;> rfl) | rfl)
  (h:aV P N k0 r ⟨(d,v)::env,qx,k'⟩ K):aV P N k0 (⟨some d,op,g⟩::r) ⟨env,hp,k⟩ K:=by
 refine aV.one (fm hg (he φ)) bz ?_;rw [jb,hh φ,hk];exact h
theorem aV.dQ {op:SO}{g:Option (Nat×Bool)}{env:List (Nat×SV)}{hp qx F F':Hp}{k k':Nat}{v:SV}{nk:Nat}{ob:Prop}{Φ:Prop}(φ:Φ)
  (hg:g=none\/∃ t w,g=some (t,w)/\env.lookup t=some (.d (.bool w)):=by first | exact .inl rfl | exact .inr ⟨_,_,rfl,rfl⟩)
  (he:Φ->fM P ⟨env,hp,k⟩ op []=some (⟨v,F,F',nk,ob⟩,[]):=by exact gZ0)
  (bz:ob:=by exact gZ2)
  (hh:Φ->bR (dx op) hp F F'=qx:=by exact gZ1)
  (hk:k+nk=k':=by first | (simp only [Nat.add_zero,Nat.reduceAdd] <;> rfl) | rfl)
  (h:aV P N k0 r ⟨env,qx,k'⟩ K):aV P N k0 (⟨none,op,g⟩::r) ⟨env,hp,k⟩ K:=by
 refine aV.one (fm hg (he φ)) bz ?_;rw [jb,hh φ,hk];exact h
theorem aV.skip {d:Nat}{op:SO}{t:Nat}{w:Bool}{env:List (Nat×SV)}{hp:Hp}{k:Nat}{s:SV}
  (hg:env.lookup t=some s:=by rfl) (hs:mP w s=true:=by rfl)
  (h:aV P N k0 r ⟨(d,.eu [])::env,hp,k⟩ K):aV P N k0 (⟨some d,op,some (t,w)⟩::r) ⟨env,hp,k⟩ K:=by
 have hh:bR (dx op) hp [] []=hp:=by unfold bR;split <;> rfl
 refine aV.one (e:=⟨.eu [],[],[],0,True⟩) (dG:=[]) (c2:=[]) ?_ trivial ?_
 .unfold mP at hs
  split at hs
  .simp only [gd,hg];rw [if_neg (by simpa using hs)]
  .simp only [gd,hg]
  .cases hs
 .rw [jb]
  show aV P N k0 r ⟨(d,.eu [])::env,bR (dx op) hp [] [],k+0⟩ _;rw [hh];exact h
theorem aV.bC {d:Nat}{f:X}{args:List X}{fid:FuncId}{as first cap as':List SV}{env:List (Nat×SV)}{hp F:Hp}{k nk:Nat}{Q:SV->Hp->Prop}
  (hsc:SC P fid as' F k nk Q) (hs:HSub F hp)
  (hf:ev (λ t=>env.lookup t) f=some (.fn (.func fid) first cap):=by (simp only [ev,List.lookup,Nat.reduceBEq] <;> rfl))
  (ha:qu (λ t=>env.lookup t) args=some as:=by (simp only [ev,qu,List.lookup,Nat.reduceBEq] <;> rfl))
  (has:first++as++cap=as':=by first | (simp only [List.nil_append,List.cons_append,List.append_nil] <;> rfl) | rfl)
  (h:∀ v F',Q v F'->aV P N k0 r ⟨(d,v)::env,bR false hp F F',k+nk⟩ K):aV P N k0 (⟨some d,.call f args,none⟩::r) ⟨env,hp,k⟩ K:=by
 refine aV.many (st:=⟨env,hp,k⟩) rfl (λ o hc=>BR hc hf ha (by rw [has];exact hsc) hs) rfl λ v F' hq=> ?_
 rw [jb];exact h v F' hq
theorem aV.oo {d:Nat}{f:X}{args:List X}{fid:FuncId}{as first cap as':List SV}{env:List (Nat×SV)}{hp qx F F':Hp}{k k' nk:Nat}{v v':SV}{Φ:Prop}(φ:Φ)
  (hsc:aJ P fid as' F k nk v F')
  (hs:HSub F hp:=by first | exact HSub.nil _ | (repeat (first | exact HSub.nil _ | refine HSub.cons (by rfl) ?_)))
  (hf:ev (λ t=>env.lookup t) f=some (.fn (.func fid) first cap):=by (simp only [ev,List.lookup,Nat.reduceBEq] <;> rfl))
  (ha:qu (λ t=>env.lookup t) args=some as:=by (simp only [ev,qu,List.lookup,Nat.reduceBEq] <;> rfl))
  (has:first++as++cap=as':=by first | (simp only [List.nil_append,List.cons_append,List.append_nil] <;> rfl) | rfl)
  (hv:Φ->v=v':=by intro φ;first | ((simp only [φ]) <;> with_reducible rfl) | with_reducible rfl)
  (hh:Φ->bR false hp F F'=qx:=by exact gZ1)
  (hk:k+nk=k':=by first | (simp only [Nat.add_zero,Nat.reduceAdd] <;> rfl) | rfl)
  (h:aV P N k0 r ⟨(d,v')::env,qx,k'⟩ K):aV P N k0 (⟨some d,.call f args,none⟩::r) ⟨env,hp,k⟩ K:=by
 refine aV.many (st:=⟨env,hp,k⟩) rfl (λ o hc=>BR hc hf ha (by rw [has];exact hsc) hs) rfl λ w G hq=> ?_
 obtain ⟨rfl,rfl⟩:=hq;rw [jb];obtain rfl:=hv φ;obtain rfl:=hh φ;obtain rfl:=hk;exact h
end
theorem SB.mono {f:FuncId}{args:List SV}{F:Hp}{k nk:Nat}{Q Q':SV->Hp->Prop}(h:SB P f args F k nk Q)(hq:∀ r F,Q r F->Q' r F):SB P f args F k nk Q':=
 ⟨h.1,h.2.1,h.2.2.1,λ μ M w vals h1 h2=>(h.2.2.2 μ M w vals h1 h2).mono λ _ _ ⟨r,F',bn,M',u,e,hQ,x⟩=>⟨r,F',bn,M',u,e,hq r F' hQ,x⟩⟩
theorem SB.args {f:FuncId}{args args':List SV}{F:Hp}{k nk:Nat}{Q:SV->Hp->Prop}(h:SB P f args F k nk Q)(hok:SV.ay (λ n=>decide (n<k)) args'=true)
  (ha:∀ (p:Nat->Prop) (μ:Nat->Nm) (M:Mem) (vs:List Value),aX p μ M args' vs->aX p μ M args vs):SB P f args' F k nk Q:=
 ⟨h.1,hok,h.2.2.1,λ μ M w vals h1 h2=>h.2.2.2 μ M w vals (ha _ μ M _ h1) h2⟩
theorem End.mk {k nk:Nat}{rj:List RV}{Q:SV->Hp->Prop}{st:St}{ss:List SV}{ob:Prop}(F':Hp)
  (h1:D1 st rj=some (ss,ob):=by rfl)
  (h2:ob:=by simp [yZ])
  (h3:HSub F' st.hp:=by first | exact HSub.nil _ | (repeat (first | exact HSub.nil _ | refine HSub.cons (by rfl) ?_)))
  (h4:Q (fc ss) F')
  (h5:(fc ss).ok (λ n=>decide (n<k+nk))=true:=by first | rfl | simp [fc,SV.ok,SV.ay,aD.aq,SV.bg])
  (h6:F'.ok (λ n=>decide (n<k+nk))=true:=by first | rfl | simp [Hp.ok,Ob.ok,SV.ok,SV.ay,aD.aq,SV.bg])
  (h7:k+nk<=st.k:=by simp):Go.Sl.Fin k nk rj Q st:=⟨ss,ob,F',h1,h2,h3,h4,h5,h6,h7⟩
theorem SW.aj {N k0:Nat}{st:St}{Q:Exit->St->Prop}{x:X}{y z:cu}(hx:ev (λ t=>st.env.lookup t) x=some (.d (.bool true)))(h1:SW P N k0 y st Q):SW P N k0 (.cond x y z) st Q:=
 SW.cond hx (λ _=>h1) (λ h=>by cases h)
theorem SW.au {N k0:Nat}{st:St}{Q:Exit->St->Prop}{x:X}{y z:cu}(hx:ev (λ t=>st.env.lookup t) x=some (.d (.bool false)))(h1:SW P N k0 z st Q):SW P N k0 (.cond x y z) st Q:=
 SW.cond hx (λ h=>by cases h) (λ _=>h1)
theorem SW.jU {N k0:Nat}{st:St}{Q:Exit->St->Prop}{α:Type}{x:cu}(I:α->St)(m:α->Nat)(i0:α)(KD:Nat->Nat){Φ:Prop}(φ:Φ)
  (h0:Φ->aI k0 st (I i0) KD:=by exact gZ3)
  (round:∀ i,SW P N k0 x (I i) λ e st'=>match e with | .normal=>∃ j ρ,m j<m i/\aI k0 st' (I j) ρ | e=>Q e st'):SW P N k0 (.loop x) st Q:=SW.loop I m i0 KD (h0 φ) round
theorem aI.mk {k0:Nat}{st st1:St}{ρ:Nat->Nat}{Φ:Prop}(φ:Φ)(h0:Φ->aI k0 st st1 ρ:=by exact gZ3):aI k0 st st1 ρ:=h0 φ
theorem Next.mk {k0:Nat}{st':St}{α:Type}{I:α->St}{m:α->Nat}{i:α}(j:α)(ρ:Nat->Nat){Φ:Prop}(φ:Φ)
  (hm:m j<m i:=by first | omega | (simp;done) | (simp;omega))
  (h0:Φ->aI k0 st' (I j) ρ:=by exact gZ3):∃ j ρ,m j<m i/\aI k0 st' (I j) ρ:=⟨j,ρ,hm,h0 φ⟩
end
end Go.Sl
namespace Go.Sl
open Go.RowKit
section
set_option maxHeartbeats 1000000
variable {P:Program}
theorem d_ {n:Nat}{ob:Ob}{h:Hp}:lk ((n,ob)::h) n=some ob:=by rw [aa,if_pos rfl]
theorem bI {n m:Nat}{ob:Ob}{h:Hp}(e:m≠n):lk ((n,ob)::h) m=lk h m:=by rw [aa,if_neg e]
mutual
theorem SV.eW {q q':Nat->Bool}(h:∀ n,q n=true->q' n=true):∀ s:SV,s.ok q=true->s.ok q'=true
 | .d _,_=>rfl
 | .ptr n _,hs=>h n hs
 | .gs n _,hs=>h n hs
 | .vp _ _,_=>rfl
 | .bs n _ _,hs=>h n hs
 | .mp n,hs=>h n hs
 | .it n,hs=>h n hs
 | .yl n,hs=>h n hs
 | .fn _ a c,hs=>by
  simp only [SV.ok,Bool.and_eq_true] at hs ⊢;exact ⟨SV.jV h a hs.1,SV.jV h c hs.2⟩
 | .agg cs,hs=>SV.jV h cs hs
 | .eu cs,hs=>SV.jV h cs hs
 | .any,_=>rfl
theorem SV.jV {q q':Nat->Bool}(h:∀ n,q n=true->q' n=true):∀ s:List SV,SV.ay q s=true->SV.ay q' s=true
 | [],_=>rfl
 | c::cs,hs=>by
  simp only [SV.ay,Bool.and_eq_true] at hs ⊢;exact ⟨SV.eW h c hs.1,SV.jV h cs hs.2⟩
end
theorem EF {k nk K:Nat}{F hp F':Hp}{μ xQ:Nat->Nm}{M M1:Mem}{w w':World}(vP:bQ (· <K) xQ M1 (lk hp) w')(qi:Ev (lk F) (λ n=>k<=n/\n<K) μ M w (lk hp) xQ M1 w')
    (h3:HSub F' hp) (h6:F'.ok (λ n=>decide (n<k+nk))=true):
    bQ (· <k+nk) (λ n=>if n<k+nk then xQ n else μ n) M1 (lk F') w'/\Ev (lk F) (λ n=>k<=n/\n<k+nk) μ M w (lk F') (λ n=>if n<k+nk then xQ n else μ n) M1 w':=by
  refine ⟨⟨vP.mem,λ n ob hn=> ?_,λ n m hn hm ln lm e=> ?_⟩,⟨λ n hn=> ?_,qi.mem,qi.frame,qi.size,λ n hn=> ?_,qi.os,qi.tape,qi.output⟩⟩
  . obtain ⟨a1,a2⟩:=Hp.eF h6 hn
    simp only [decide_eq_true_eq] at a1;obtain ⟨_,b1,b2⟩:=vP.obs n ob (h3 n ob hn);simp only [if_pos a1];refine ⟨a1,?_,b2⟩;have hb':cB (· <K) (λ n=>xQ (id n)) M1 w' (xQ n) (ob.aA id):=by rw [Ob.oA];exact b1
    exact cB.to a2 (λ m hm=>by simpa using hm) (λ m hm=>by simp only [decide_eq_true_eq] at hm;simp [hm]) hb'
  . obtain ⟨o1,ho1⟩:=Option.ne_none_iff_exists'.1 hn
    obtain ⟨o2,ho2⟩:=Option.ne_none_iff_exists'.1 hm;have a1:=(Hp.eF h6 ho1).1;have a2:=(Hp.eF h6 ho2).1;simp only [decide_eq_true_eq] at a1 a2;rw [if_pos a1] at e ln;rw [if_pos a2] at e lm;exact vP.inj n m (by rw [h3 n o1 ho1];simp) (by rw [h3 m o2 ho2];simp) ln lm e
  . by_cases hnk:n<k+nk
    . simp only [if_pos hnk]
      by_cases hK:k<=n
      . exact absurd ⟨hK,hnk⟩ hn
      . exact qi.old n (λ hh=>hK hh.1)
    . simp only [if_neg hnk]
  . obtain ⟨o1,ho1⟩:=Option.ne_none_iff_exists'.1 hn
    have a1:=(Hp.eF h6 ho1).1;simp only [decide_eq_true_eq] at a1;simp only [if_pos a1];rcases qi.names n (by rw [h3 n o1 ho1];simp) with ⟨b1,b2⟩ | ⟨b1,b2⟩
    . exact .inl ⟨⟨b1.1,a1⟩,b2⟩
    . exact .inr ⟨λ hh=>b1 ⟨hh.1,by
        by_cases hK:n<K
        . exact hK
        . exact absurd (vP.obs n o1 (h3 n o1 ho1)).1 hK⟩,b2⟩
theorem zp {p:Nat->Prop}{μ:Nat->Nm}{M:Mem}:∀ (ps:List Nat) (args:List SV) (vals:List Value) (tm:Array Value) (env:List (Nat×SV)),aX p μ M args vals->ps.length=args.length->
  (∀ t s,env.lookup t=some s->Rp p μ M s (tm.getD t undef))->(∀ q,q∈ps->q<tm.size)->
  ∀ t s,((ps.zip args).reverse++env).lookup t=some s->Rp p μ M s (((ps.zip vals).foldl (λ tmps (x:Nat×Value)=>tmps.setIfInBounds x.1 x.2) tm).getD t undef)
 | [],args,vals,tm,env,hr,hl,he,hq,t,s,h=>by simpa using he t s (by simpa using h)
 | q::ps,[],vals,tm,env,hr,hl,he,hq,t,s,h=>by simp at hl
 | q ::ps,x::args,vals,tm,env,hr,hl,he,hq,t,s,h=>by
  obtain ⟨u,us,rfl,h1,h2⟩:=aX.aG.1 hr;simp only [List.zip_cons_cons,List.reverse_cons,List.append_assoc,List.singleton_append] at h;simp only [List.zip_cons_cons,List.foldl_cons];refine zp ps args us (tm.setIfInBounds q u) ((q,x)::env) h2 (by simpa using hl) (λ t' s' h'=> ?_) (λ q' hq'=>by simpa using hq q' (by simp [hq'])) t s h;have hqs:=hq q (by simp);simp only [List.lookup] at h'
  split at h'
  .rename_i e
   have e:t'=q:=by simpa using e
   subst e;injection h' with h';subst h';have:(tm.setIfInBounds t' u).getD t' undef=u:=by simp [Array.getD,hqs]
   rw [this];exact h1
  .rename_i e
   have e:t'≠q:=by simpa using e
   have:(tm.setIfInBounds q u).getD t' undef=tm.getD t' undef:=by
    simp [Array.getD_eq_getD_getElem?,Array.getElem?_setIfInBounds_ne (Ne.symm e)]
   rw [this];exact he t' s' h'
theorem xe:∀ (xs:List (Nat×Value)) (tm:Array Value),(xs.foldl (λ tmps (x:Nat×Value)=>tmps.setIfInBounds x.1 x.2) tm).size=tm.size
 | [],tm=>rfl
 | x::xs,tm=>by simp [xe xs]
def Left:Exit->Option Code->Bool->Prop
 | .normal,pe,b=>pe=none/\b=true
 | .ret,pe,b=>pe=some .ret/\b=false
 | .exit id,pe,b=>pe=some (.exit id)/\b=false
 | _,_,_=>False
def lV (pe:Option Code):LoopState:=if pe.isNone then .ready else .done
def Po (nl N:Nat)(ts:List Nat)(cs:List SV)(ps:List Nat)(ca cb:Code)(k nk:Nat)(Q:SV->Hp->Prop)(e:Exit)(st2:St):Prop:=
 ∃ pe b F',Left e pe b/\HSub F' st2.hp/\F'.ok (λ n=>decide (n<k+nk))=true/\k+nk<=st2.k/\Q (.d (.bool b)) ((nl,.oU N ts cs ps ca cb (lV pe) pe)::F')
theorem uS {p:Nat->Prop}{μ:Nat->Nm}{M:Mem}{f:Nat->Value}:∀ {ts:List Nat} {cs:List SV},aX p μ M cs (ts.map f)->∀ t s,(ts.zip cs).lookup t=some s->Rp p μ M s (f t)
 | [],_,_,t,s,h=>by simp at h
 | t'::ts,[],_,t,s,h=>by simp at h
 | t'::ts,c::cs,hr,t,s,h=>by
  obtain ⟨u,us,e,h1,h2⟩:=aX.aG.1 hr;injection e with e1 e2;subst e1;subst e2;simp only [List.zip_cons_cons,List.lookup] at h
  split at h
  .rename_i e
   have e:t=t':=by simpa using e
   injection h with h;subst h;subst e;exact h1
  .exact uS h2 t s h
theorem D0.uc {nl N k nk:Nat}{ts:List Nat}{cs:List SV}{ps:List Nat}{ca cb:Code}{sa sb:cu}{args:List SV}{H:Hp}{Q:SV->Hp->Prop}
    (hca:cK P N ca=some sa) (hcb:cK P N cb=some sb) (Pp:sa.rf=false) (hrb:sb.rf=false) (hlen:ps.length=args.length) (Pq:∀ q,q∈ps->q<N) (hnl:nl<k) (hH:lk H nl=none)
    (hargs:SV.ay (λ n=>decide (n<k)) args=true) (Pr:H.ok (λ n=>decide (n<k))=true) (hcs:SV.ay (λ n=>decide (n<k)) cs=true)
    (h:SW P N k sa ⟨(ps.zip args).reverse++ts.zip cs,H,k⟩ λ e st1=>e= .normal/\SW P N k sb st1 (Po nl N ts cs ps ca cb k nk Q)):
    D0 P nl args ((nl,.oU N ts cs ps ca cb .ready none)::H) k nk Q:=by
  refine ⟨hargs,by simp only [Hp.ok,List.all_cons,Ob.ok,hcs,Bool.and_eq_true];exact ⟨by simpa using hnl,Pr⟩,λ μ M w vals hr hS=> ?_⟩;obtain ⟨_,⟨hlive,r,hb,hcsr,hN,hps,has,hbd,hst,hpe⟩,hMn⟩:=hS.obs nl _ d_;generalize hl:(μ nl).blk=l at*;have hMn:=hMn hlive;have hsub:∀ n ob,lk H n=some ob->lk ((nl,.oU N ts cs ps ca cb .ready none)::H) n=some ob:=λ n ob hn=>by
    rw [bI (λ e=>by rw [e,hH] at hn;cases hn)];exact hn
  have hSH:bQ (· <k) μ M (lk H) w:=hS.sub hsub;have hltl:l<w.heap.size:=(Array.getElem?_eq_some_iff.1 hb).1;have hnot:∀ n,lk H n≠none->(μ n).live=true->(μ n).blk≠l:=λ n hn ln e=>by
    obtain ⟨ob,ho⟩:=Option.ne_none_iff_exists'.1 hn;have:=hS.inj n nl (by rw [hsub n ob ho];simp) (by rw [d_];simp) ln hlive (by rw [hl];exact e);subst this;rw [hH] at hn;exact hn rfl
  have hvs:vals.size=r.params.size:=by
    have h1:vals.size=args.length:=by simpa using hr.length
    have h2:r.params.size=ps.length:=by rw [<- hps];simp
    omega
  refine ⟨_,_,_,_,run_yield hb hvs,roundIn_of_wpIn trivial ?_⟩;have hfold:(r.params.zip vals).foldl (λ tmps (x:Nat×Value)=>tmps.setIfInBounds x.1 x.2) r.tmps=(ps.zip vals.toList).foldl (λ tmps (x:Nat×Value)=>tmps.setIfInBounds x.1 x.2) r.tmps:=by
    rw [<- hps,<- Array.foldl_toList,Array.toList_zip]
  have fO:iJ N μ M w (lk H) k ⟨(ps.zip args).reverse++ts.zip cs,H,k⟩ { tmps:=(ps.zip vals.toList).foldl (λ tmps (x:Nat×Value)=>tmps.setIfInBounds x.1 x.2) r.tmps,defers:=[]} w:=by
    refine ⟨Nat.le_refl _,trivial,by rw [xe];exact hN,μ,M,?_,hSH,Ev.refl _ _ _ _ _ λ n hn hh=>absurd hh.2 (Nat.not_lt.2 hh.1)⟩;exact zp ps args vals.toList r.tmps (ts.zip cs) hr hlen (uS (f:=λ t=>r.tmps.getD t undef) hcsr) (λ q hq=>by rw [hN];exact Pq q hq)
  have hfold':(r.params.zip vals).foldl (λ tmps (x:Tmp×Value)=>match x with | (t,a)=>tmps.setIfInBounds t a) r.tmps=(ps.zip vals.toList).foldl (λ tmps (x:Nat×Value)=>tmps.setIfInBounds x.1 x.2) r.tmps:=hfold;rw [hfold',has,hbd];show ca.wpIn (jO (some l)) 0 P _ _ w;refine wpIn_mono (h ca hca (some l) (λ e=>by rw [Pp] at e;cases e) μ M w (lk H) _ w fO) ?_;rintro e a1 w1 ⟨st1,⟨rfl,hbody⟩,hk1,hdf1,hsz1,xQ,M1,hsl1,vP,qi⟩;have hw1:w1.heap[l]? =some (.loop r):=by rw [(qi.frame l hltl hnot).1];exact hb
  refine ⟨_,run_beginRound hw1 hst,?_⟩;have hnot1:∀ n,lk st1.hp n≠none->(xQ n).live=true->(xQ n).blk≠l:=λ n hn ln e=>by
    rcases qi.names n hn with ⟨_,hh⟩ | ⟨h1,h2⟩
    . rcases hh ln with h' | ⟨m,hm,lm,e'⟩
      . omega
      . exact hnot m hm lm (e'.trans e)
    . rw [qi.old n h1] at e ln
      exact hnot n h2 ln e
  have hM1:∀ o,M1 l o=none:=λ o=>by rw [(qi.frame l hltl hnot).2];exact hMn o
  have hS2:bQ (· <st1.k) xQ M1 (lk st1.hp) (w1.putObj l (.loop { r with state:= .busy})):=by
    refine ⟨⟨λ b o v hv=> ?_,vP.mem.mc⟩,λ n ob hn=> ?_,vP.inj⟩
    . have hbl:b≠l:=λ e=>by rw [e,hM1] at hv;cases hv
      have:=vP.mem b o v hv;simp only [World.cell?,World.putObj_heap_other hbl] at this ⊢;exact this
    . obtain ⟨q1,q2,q3⟩:=vP.obs n ob hn
      exact ⟨q1,q2.more (λ _ h=>h) (λ _ _=>rfl) (Mem.le_refl _) (λ ln=>World.putObj_heap_other (hnot1 n (by rw [hn];simp) ln)),q3⟩
  have hE2:Ev (lk H) (λ n=>k<=n/\n<st1.k) μ M (w.putObj l (.loop { r with state:= .busy})) (lk st1.hp) xQ M1 (w1.putObj l (.loop { r with state:= .busy})):=by
    refine ⟨qi.old,qi.mem,λ b hb' hn=> ?_,by simpa using qi.size,by simpa using qi.names,qi.os,qi.tape,qi.output⟩;rw [World.putObj_size] at hb';refine ⟨?_,(qi.frame b hb' hn).2⟩
    by_cases e:b=l
    . subst e
      rw [World.putObj_heap_same hltl,World.putObj_heap_same (Array.getElem?_eq_some_iff.1 hw1).1]
    . rw [World.putObj_heap_other e,World.putObj_heap_other e];exact (qi.frame b hb' hn).1
  have hdf2:Marks (w.putObj l (.loop { r with state:= .busy})) (w1.putObj l (.loop { r with state:= .busy})) a1.defers:=by
    have key:∀ df,Marks w w1 df->Marks (w.putObj l (.loop { r with state:= .busy})) (w1.putObj l (.loop { r with state:= .busy})) df:=by
      intro df
      induction df with
      | nil=>intro _;trivial
      | cons d ds ih=>
        rintro ⟨⟨q,g1,g2,g3,g4⟩,g5⟩;refine ⟨⟨q,g1,by simpa using g2,?_,g4⟩,ih g5⟩;rw [World.putObj_heap_other (λ e=>by rw [e,hw1] at g3;cases g3)];exact g3
    exact key _ hdf1
  show cb.wpIn (jO (some l)) 0 P _ _ _;refine wpIn_mono (hbody cb hcb (some l) (λ e=>by rw [hrb] at e;cases e) μ M _ (lk H) a1 _ ⟨hk1,hdf2,hsz1,xQ,M1,hsl1,hS2,hE2⟩) ?_;rintro e a2 w3 ⟨st2,⟨pe,b,F',hleft,hF',DZ,hkk,hQ⟩,hk2,_,_,JB,M2,_,hS3,hE3⟩;have hlt':l<(w.putObj l (.loop { r with state:= .busy})).heap.size:=by simpa using hltl
  have hw3:w3.heap[l]? =some (.loop { r with state:= .busy}):=by rw [(hE3.frame l hlt' hnot).1];exact World.putObj_heap_same hltl
  have hnot3:∀ n,lk st2.hp n≠none->(JB n).live=true->(JB n).blk≠l:=λ n hn ln e=>by
    rcases hE3.names n hn with ⟨_,hh⟩ | ⟨h1,h2⟩
    . rcases hh ln with h' | ⟨m,hm,lm,e'⟩
      . omega
      . exact hnot m hm lm (e'.trans e)
    . rw [hE3.old n h1] at e ln
      exact hnot n h2 ln e
  have hM3:∀ o,M2 l o=none:=λ o=>by rw [(hE3.frame l hlt' hnot).2];exact hMn o
  have hnl2:lk st2.hp nl=none:=by
    cases hc:lk st2.hp nl with
    | none=>rfl
    | some ob=>
      rcases hE3.names nl (by rw [hc];simp) with ⟨h1,_⟩ | ⟨_,h2⟩
      . omega
      . exact absurd hH h2
  have hmu:JB nl=μ nl:=hE3.old nl (by omega)
  have fin:∃ w4,(Instr.endRound l pe).run P w3= .ok (.bool pe.isNone) w4/\∃ r F' bn M' u,Ending.returned (.bool pe.isNone)= .returned u/\Q r F'/\r.ok (λ n=>decide (n<k+nk))=true/\F'.ok (λ n=>decide (n<k+nk))=true/\di bn M' r u/\bQ (· <k+nk) bn M' (lk F') w4/\
      Ev (lk ((nl,.oU N ts cs ps ca cb .ready none)::H)) (λ n=>k<=n/\n<k+nk) μ M w (lk F') bn M' w4:=by
    refine ⟨_,run_endRound pe hw3,?_⟩;have hbp:b=pe.isNone:=by cases e <;> simp only [Left] at hleft <;> first | (obtain ⟨rfl,rfl⟩:=hleft;rfl) | exact hleft.elim
    have hS4:bQ (· <st2.k) JB M2 (lk ((nl,.oU N ts cs ps ca cb (lV pe) pe)::st2.hp)) (w3.putObj l (.loop { r with state:=if pe.isNone then .ready else .done,pending:=pe})):=by
      refine ⟨⟨λ b o v hv=> ?_,hS3.mem.mc⟩,λ n ob hn=> ?_,λ n m hn hm ln lm e=> ?_⟩
      . have hbl:b≠l:=λ e=>by rw [e,hM3] at hv;cases hv
        have:=hS3.mem b o v hv;simp only [World.cell?,World.putObj_heap_other hbl] at this ⊢;exact this
      . by_cases en:n=nl
        . subst en
          rw [d_] at hn;injection hn with hn;subst hn;rw [hmu];refine ⟨by omega,⟨hlive,{ r with state:=if pe.isNone then .ready else .done,pending:=pe},by rw [hl];exact World.putObj_heap_same (Array.getElem?_eq_some_iff.1 hw3).1,?_,hN,hps,has,hbd,rfl,rfl⟩,λ _=>by rw [hl];exact hM3⟩;exact hcsr.more (λ n hn=>by show n<st2.k;have:n<k:=hn;omega) (λ n hn=>hE3.old n (by have:n<k:=hn;omega)) hE3.mem
        . rw [bI en] at hn
          obtain ⟨q1,q2,q3⟩:=hS3.obs n ob hn;exact ⟨q1,q2.more (λ _ h=>h) (λ _ _=>rfl) (Mem.le_refl _) (λ ln=>World.putObj_heap_other (hnot3 n (by rw [hn];simp) ln)),q3⟩
      . by_cases en:n=nl <;> by_cases em:m=nl
        . rw [en,em]
        . subst en
          rw [bI em] at hm;rw [hmu,hl] at e;exact absurd e.symm (hnot3 m hm lm)
        . subst em
          rw [bI en] at hn;rw [hmu,hl] at e;exact absurd e (hnot3 n hn ln)
        . rw [bI en] at hn
          rw [bI em] at hm;exact hS3.inj n m hn hm ln lm e
    have hE4:Ev (lk ((nl,.oU N ts cs ps ca cb .ready none)::H)) (λ n=>k<=n/\n<st2.k) μ M w (lk ((nl,.oU N ts cs ps ca cb (lV pe) pe)::st2.hp)) JB M2 (w3.putObj l (.loop { r with state:=if pe.isNone then .ready else .done,pending:=pe})):=by
      have hsz:=hE3.size;rw [World.putObj_size] at hsz;refine ⟨hE3.old,hE3.mem,λ b hb' hn=> ?_,by simpa using hsz,λ n hn=> ?_,hE3.os,hE3.tape,hE3.output⟩
      . have hbl:b≠l:=λ e=>hn nl (by rw [d_];simp) hlive (by rw [hl];exact e.symm)
        have hnH:∀ n,lk H n≠none->(μ n).live=true->(μ n).blk≠b:=λ n h1 h2=>by
          obtain ⟨ob,ho⟩:=Option.ne_none_iff_exists'.1 h1;exact hn n (by rw [hsub n ob ho];simp) h2
        have:=hE3.frame b (by simpa using hb') hnH;refine ⟨?_,this.2⟩;rw [World.putObj_heap_other hbl,this.1,World.putObj_heap_other hbl]
      . by_cases en:n=nl
        . subst en
          exact .inr ⟨by omega,by rw [d_];simp⟩
        . rw [bI en] at hn
          rw [bI en];rcases hE3.names n hn with ⟨h1,h2⟩ | h1
          . refine .inl ⟨h1,λ ln=> ?_⟩
            rcases h2 ln with h2 | ⟨m,hm,lm,e⟩
            . exact .inl (by simpa using h2)
            . obtain ⟨ob,ho⟩:=Option.ne_none_iff_exists'.1 hm
              exact .inr ⟨m,by rw [hsub m ob ho];simp,lm,e⟩
          . exact .inr h1
    have hsub':HSub ((nl,.oU N ts cs ps ca cb (lV pe) pe)::F') ((nl,.oU N ts cs ps ca cb (lV pe) pe)::st2.hp):=λ n ob hn=>by
      by_cases en:n=nl
      . subst en;rw [d_] at hn ⊢;exact hn
      . rw [bI en] at hn ⊢;exact hF' n ob hn
    have hok':Hp.ok (λ n=>decide (n<k+nk)) ((nl,.oU N ts cs ps ca cb (lV pe) pe)::F')=true:=by
      have hcs':SV.ay (λ n=>decide (n<k+nk)) cs=true:=by
        rw [SV.xZ] at hcs ⊢;intro c hc;exact SV.eW (λ n hn=>by simp only [decide_eq_true_eq] at hn ⊢;omega) c (hcs c hc)
      simp only [Hp.ok,List.all_cons,Ob.ok,hcs',Bool.and_eq_true];exact ⟨⟨by simp;omega,trivial⟩,DZ⟩
    obtain ⟨z1,z2⟩:=EF (nk:=nk) hS4 hE4 hsub' hok';exact ⟨_,_,_,M2,_,rfl,hQ,rfl,hok',by rw [hbp];simp [di,bY],z1,z2⟩
  obtain ⟨w4,he,hfin⟩:=fin;cases e <;> simp only [Left] at hleft <;> first
    | exact hleft.elim
    | (obtain ⟨rfl,rfl⟩:=hleft;exact ⟨_,w4,he,hfin⟩)
def CT (env:List (Nat×SV)):List Nat->List SV->Prop
 | [],[]=>True
 | t::ts,c::cs=>env.lookup t=some c/\CT env ts cs
 | _,_=>False
theorem CT.rep {p:Nat->Prop}{μ:Nat->Nm}{M:Mem}{env:List (Nat×SV)}{f:Nat->Value}(h:∀ t s,env.lookup t=some s->Rp p μ M s (f t)):∀ {ts:List Nat} {cs:List SV},CT env ts cs->aX p μ M cs (ts.map f)
 | [],[],_=>aX.aT.2 rfl
 | t::ts,c::cs,⟨h1,h2⟩=>aX.aG.2 ⟨_,_,rfl,h t c h1,CT.rep h h2⟩
 | [],_::_,h=>h.elim
 | _::_,[],h=>h.elim
def RQ (Q:Exit->St->Prop)(pe:Option Code)(st:St):Prop:=
 match pe with
 | none=>Q .normal st
 | some .ret=>Q .ret st
 | some (.exit id)=>Q (.exit id) st
 | _=>False
theorem Marks.lt {w0 w:World}:∀ {df:List Deferred},Marks w0 w df->∀ d,d∈df->∃ r,d=⟨.collected r,#[]⟩/\r<w.heap.size
 | [],_,d,h=>by simp at h
 | d::ds,⟨⟨r,h1,h2,h3,h4⟩,h5⟩,d',h=>by
  rcases List.mem_cons.1 h with rfl | h
  .exact ⟨r,h1,(Array.getElem?_eq_some_iff.1 h3).1⟩
  .exact Marks.lt h5 d' h
theorem Marks.alloc {w0 w:World}(o:Obj):∀ {df:List Deferred},Marks w0 w df->Marks w0 (w.alloc o) df
 | [],_=>trivial
 | d::ds,⟨⟨r,h1,h2,h3,h4⟩,h5⟩=>⟨⟨r,h1,h2,(jP w o (Array.getElem?_eq_some_iff.1 h3).1).trans h3,h4⟩,Marks.alloc o h5⟩
theorem SW.qZ {N k0 nk:Nat}{st:St}{Q:Exit->St->Prop}{g:X}{ps:List Nat}{sa sb:cu}{f:FuncId}{first cap:List SV}(ts:List Nat)(cs:List SV)(hg:ev (λ t=>st.env.lookup t) g=some (.fn (.func f) first cap))(hts:CT st.env ts cs)
    (h:∀ ca cb,cK P N ca=some sa->cK P N cb=some sb->SC P f (first++[.yl st.k]++cap) ((st.k,.oU N ts cs ps ca cb .ready none)::st.hp) (st.k+1) nk λ _ F'=>
      ∃ pe,lk F' st.k=some (.oU N ts cs ps ca cb (lV pe) pe)/\RQ Q pe ⟨st.env,cE F' st.k,st.k+1+nk⟩):SW P N k0 (.qZ g ps sa sb) st Q:=by
  intro c hc rd hrf cR M0 w0 c0 a w fO;obtain rfl:=hrf rfl;cases c <;> simp only [cK] at hc <;> first
    | (cases hc;done)
    | (exfalso;obtain ⟨_,_,hh⟩:=Option.map_eq_some_iff.1 hc;cases hh;done)
    | skip
  case rangeFunc g' ps' ca cb=>
    split at hc <;> try (cases hc;done)
    rename_i g'' sa' sb' hg' hca hcb;injection hc with hc;injection hc with e1 e2 e3 e4;subst e1;subst e2;subst e3;subst e4;obtain ⟨og,hdf,hsz,μ,M,gD,hS,hE⟩:=fO;have hk:iy (λ t=>st.env.lookup t) #[g'] (· <st.k) μ M a:=⟨λ t _ s hs=>gD t s hs,hS.mem.mc⟩;obtain ⟨as,cs',ef,r1,r2⟩:=Rp.r9.1 (hk.get (by simp) hg' hg);have hlt:∀ n,lk st.hp n≠none->n<st.k:=λ n hn=>by
      obtain ⟨ob,ho⟩:=Option.ne_none_iff_exists'.1 hn;exact (hS.obs n ob ho).1
    refine wpIn_rangeFunc λ fn _=> ?_
    let rr:Loop:={ state:= .ready,pending:=none,fn:=fn,tmps:=a.tmps,params:=ps',assign:=ca,body:=cb,defers:=w.heap.size}
    let wA:=w.alloc (.deferred (some []))
    let wB:=wA.alloc (.loop rr)
    have hAs:wA.heap.size=w.heap.size+1:=World.size_alloc _ _;have hBs:wB.heap.size=w.heap.size+2:=by show (wA.alloc _).heap.size=_;rw [World.size_alloc,hAs]
    have hB1:wB.heap[w.heap.size+1]? =some (.loop rr):=by rw [<- hAs];exact gF wA _
    have hB0:wB.heap[w.heap.size]? =some (.deferred (some [])):=by rw [jP wA _ (by omega)];exact gF w _
    have hBo:∀ b,b<w.heap.size->wB.heap[b]? =w.heap[b]? :=λ b hb=>by rw [jP wA _ (by omega),jP w _ hb]
    let nm:Nm:=⟨w.heap.size+1,0,true⟩
    let μB:=AD μ st.k nm
    have hold:∀ n,n<st.k->μB n=μ n:=λ n hn=>fD _ _ _ (by omega)
    have hup:∀ n,n<st.k->n<st.k+1:=λ n hn=>by omega
    have hMl:∀ o,M (w.heap.size+1) o=none:=uz hS.mem (by omega);have hSB:bQ (· <st.k+1) μB M (lk ((st.k,.oU N ts cs ps'.toList ca cb .ready none)::st.hp)) wB:=by
      refine ⟨mK _ (mK _ hS.mem),λ n ob hn=> ?_,λ n m hn hm ln lm e=> ?_⟩
      . by_cases en:n=st.k
        . subst en
          rw [d_] at hn;injection hn with hn;subst hn;have e:μB st.k=nm:=bK _ _ _;rw [e];refine ⟨Nat.lt_succ_self _,⟨rfl,rr,hB1,?_,hsz,rfl,rfl,rfl,rfl,rfl⟩,λ _=>hMl⟩;exact (CT.rep (f:=λ t=>a.tmps.getD t undef) gD hts).more hup hold (Mem.le_refl _)
        . rw [bI en] at hn
          obtain ⟨q1,q2,q3⟩:=hS.obs n ob hn;rw [hold n q1];exact ⟨hup n q1,q2.more hup hold (Mem.le_refl _) (λ ln=>hBo _ (q2.lt ln)),q3⟩
      . have JA:∀ n,lk st.hp n≠none->(μB n).live=true->(μB n).blk≠w.heap.size+1:=λ n hn ln e=>by
          rw [hold n (hlt n hn)] at ln e;have:=hS.lt hn ln;omega
        have e0:(μB st.k).blk=w.heap.size+1:=by show (AD μ st.k nm st.k).blk=_;rw [bK]
        by_cases en:n=st.k <;> by_cases em:m=st.k
        . rw [en,em]
        . subst en
          rw [bI em] at hm;exact absurd (e.symm.trans e0) (JA m hm lm)
        . subst em
          rw [bI en] at hn;exact absurd (e.trans e0) (JA n hn ln)
        . rw [bI en] at hn
          rw [bI em] at hm;rw [hold n (hlt n hn)] at ln e;rw [hold m (hlt m hm)] at lm e;exact hS.inj n m hn hm ln lm e
    have hEB:Ev (lk st.hp) (λ n=>st.k<=n/\n<st.k+1) μ M w (lk ((st.k,.oU N ts cs ps'.toList ca cb .ready none)::st.hp)) μB M wB:=by
      refine ⟨λ n hn=>fD _ _ _ (λ e=>hn (by omega)),Mem.le_refl _,λ b hb _=>⟨hBo b hb,λ _=>rfl⟩,by omega,λ n hn=> ?_,rfl,⟨rfl,Nat.le_refl _⟩,rfl⟩
      by_cases en:n=st.k
      . subst en
        exact .inl ⟨⟨Nat.le_refl _,Nat.lt_succ_self _⟩,λ _=> .inl (by show _<=(AD μ st.k nm st.k).blk;rw [bK];exact Nat.le_succ _)⟩
      . rw [bI en] at hn
        have:=hlt n hn;exact .inr ⟨by omega,hn⟩
    have hargs:aX (· <st.k+1) μB M (first++[.yl st.k]++cap) (as++ #[Value.func (.yield (w.heap.size+1)) #[] #[]]++cs').toList:=by
      have hy:aX (· <st.k+1) μB M [.yl st.k] [Value.func (.yield (w.heap.size+1)) #[] #[]]:=by
        refine aX.aG.2 ⟨_,_,rfl,λ bn kB=> ?_,aX.aT.2 rfl⟩;have:bn st.k=nm:=(kB st.k (Nat.lt_succ_self _)).trans (bK _ _ _);simp [di,this,nm]
      simpa using ((r1.more hup hold (Mem.le_refl _)).append hy).append (r2.more hup hold (Mem.le_refl _))
    obtain ⟨bZ,hcalls⟩:=h ca cb hca hcb;refine ⟨w.heap.size+1,[{ target:= .collected w.heap.size,args:= #[]}],wB,{ target:= .fn (.func f) cs',args:=as++ #[Value.func (.yield (w.heap.size+1)) #[] #[]]},wB,f,as++ #[Value.func (.yield (w.heap.size+1)) #[] #[]]++cs',wB,?_,?_,λ _ _=>trivial,?_,(λ e=>by cases e),?_⟩
    . exact run_enterLoop_outer fn a.tmps ps' ca cb
    . have e1:(#[Operand.const (.func (.yield (w.heap.size+1)) #[] #[])]:Array Operand).map a.eval= #[Value.func (.yield (w.heap.size+1)) #[] #[]]:=by simp [Act.eval]
      simp only [resolve,rangeCall,e1,ef,Deferred.ofValue,Sem.run_pure]
    . simp only [invoke,nI bZ]
    . refine sg.2 ((hcalls (· <st.k+1) μB M wB _ (λ n hn=>by omega) hargs hSB).mono ?_)
      rintro e w3 ⟨r,F',bn,M',u,rfl,⟨pe,hrec,hRQ⟩,_,hS3,hE3⟩;have hp:(λ n=>n<st.k+1\/(st.k+1<=n/\n<st.k+1+nk))=(· <st.k+1+nk):=funext λ n=>propext ⟨λ h=>by rcases h with h | h <;> omega,λ h=>by show n<st.k+1\/_;omega⟩
      rw [hp] at hS3;have hmk:bn st.k=nm:=(hE3.old st.k (by omega)).trans (bK _ _ _);obtain ⟨_,⟨_,r3,hb3,_,_,_,_,_,hst3,hpe3⟩,hM3⟩:=hS3.obs st.k _ hrec;rw [hmk] at hb3 hM3;have hb3:w3.heap[w.heap.size+1]? =some (.loop r3):=hb3;have hM3:∀ o,M' (w.heap.size+1) o=none:=hM3 rfl;refine ⟨_,_,run_endLoop hb3 (by rw [hst3];unfold lV;split <;> simp),?_⟩;rw [hpe3];have hnot:∀ n,lk (cE F' st.k) n≠none->(bn n).live=true->(bn n).blk≠w.heap.size+1:=λ n hn ln e=>by
        rw [dg] at hn
        split at hn
        . exact hn rfl
        . rename_i en
          exact en (hS3.inj n st.k hn (by rw [hrec];simp) ln (by rw [hmk]) (by rw [hmk];exact e))
      have hSt':iJ N cR M0 w0 c0 k0 ⟨st.env,cE F' st.k,st.k+1+nk⟩ { a with defers:={ target:= .collected w.heap.size,args:= #[]}::a.defers} (w3.putObj (w.heap.size+1) (.loop { r3 with state:= .exhausted,pending:=pe})):=by
        refine ⟨by show k0<=st.k+1+nk;omega,⟨⟨w.heap.size,rfl,hE.size,?_,λ d' hd e=> ?_⟩,?_⟩,hsz,bn,M',λ t s hs=> ?_,⟨⟨λ b o v hv=> ?_,hS3.mem.mc⟩,λ n ob hn=> ?_,λ n m hn hm=> ?_⟩,?_⟩
        . rw [World.putObj_heap_other (by omega)]
          exact hE3.keeps hSB hB0 rfl
        . obtain ⟨q,e',hq⟩:=hdf.lt d' hd
          rw [e'] at e;injection e with e _;injection e with e;omega
        . refine Marks.put _ _ (λ d' hd e=> ?_) ((hdf.alloc _).alloc _ |>.ev hSB hE3)
          obtain ⟨q,e',hq⟩:=hdf.lt d' hd;rw [e'] at e;injection e with e _;injection e with e;omega
        . exact (gD t s hs).more (λ n hn=>by show n<st.k+1+nk;have:n<st.k:=hn;omega) (λ n hn=>by have:n<st.k:=hn;rw [hE3.old n (by omega),hold n hn]) hE3.mem
        . have hbl:b≠w.heap.size+1:=λ e=>by rw [e,hM3] at hv;cases hv
          have:=hS3.mem b o v hv;simp only [World.cell?,World.putObj_heap_other hbl] at this ⊢;exact this
        . have hn':lk F' n=some ob:=by
            have:=hn;simp only [dg] at this
            split at this
            . cases this
            . exact this
          obtain ⟨q1,q2,q3⟩:=hS3.obs n ob hn';exact ⟨q1,q2.more (λ _ h=>h) (λ _ _=>rfl) (Mem.le_refl _) (λ ln=>World.putObj_heap_other (hnot n (by rw [hn];simp) ln)),q3⟩
        . refine hS3.inj n m (λ e=>hn ?_) (λ e=>hm ?_)
          . show lk (cE F' st.k) n=none;rw [dg,e];split <;> rfl
          . show lk (cE F' st.k) m=none;rw [dg,e];split <;> rfl
        . refine Ev.put ?_ _ (by have:=hE.size;omega)
          refine (((hE.trans hEB).trans hE3).tV λ n=> ?_).yW λ n hn e=>hn ?_
          . show _↔(k0<=n/\n<st.k+1+nk);omega
          . show lk (cE F' st.k) n=none;rw [dg,e];split <;> rfl
      cases pe with
      | none=>exact ⟨_,hRQ,hSt'⟩
      | some c=>
        cases c <;> simp only [RQ] at hRQ <;> first
          | exact hRQ.elim
          | exact wpIn_ret ⟨_,hRQ,hSt'⟩
          | exact wpIn_exit ⟨_,hRQ,hSt'⟩
  all_goals (exfalso;split at hc <;> cases hc)
end
section
open Go.ChangeMaps (setBlock)
variable {P:Program}
theorem gX.mem {p:Nat->Prop}{μ:Nat->Nm}{M:Mem}:∀ {es:List (Nat×SV×SV)} {dK:List MapEntry},gX p μ M es dK->∀ x,x∈dK->∃ e,e∈es/\x.born=e.1/\Rp p μ M e.2.1 x.key/\Rp p μ M e.2.2 x.val
 | [],dK,h,x,hx=>by simp only [gX] at h;subst h;simp at hx
 | (b,k,v)::r,dK,h,x,hx=>by
  obtain ⟨e,es',rfl,h1,h2,h3,h4⟩:=h;rcases List.mem_cons.1 hx with rfl | hx
  .exact ⟨(b,k,v),by simp,h1,h2,h3⟩
  .obtain ⟨e,he,h⟩:=gX.mem h4 x hx
   exact ⟨e,by simp [he],h⟩
theorem gX.mem' {p:Nat->Prop}{μ:Nat->Nm}{M:Mem}:∀ {es:List (Nat×SV×SV)} {dK:List MapEntry},gX p μ M es dK->∀ e,e∈es->∃ x,x∈dK/\x.born=e.1
 | [],dK,h,e,he=>by simp at he
 | (b,k,v)::r,dK,h,e,he=>by
  obtain ⟨x,es',rfl,h1,h2,h3,h4⟩:=h;rcases List.mem_cons.1 he with rfl | he
  .exact ⟨x,by simp,h1⟩
  .obtain ⟨x',hx,h⟩:=gX.mem' h4 e he
   exact ⟨x',by simp [hx],h⟩
theorem H_ {op:Op}{x':X}(hc:cO P op=some (.kU x')):∃ it,op= .next it false/\cX it=some x':=by
 cases op <;> simp only [cO] at hc <;> try (cases hc;done)
 case next it s=>
  cases s
  .simp only [Bool.false_eq_true,if_false] at hc
   obtain ⟨y,hy,e⟩:=Option.map_eq_some_iff.1 hc;injection e with e;subst e;exact ⟨it,rfl,hy⟩
  .simp at hc
 all_goals (repeat' (first | contradiction | (cases hc;done) | (obtain ⟨_,_,hh⟩:=Option.map_eq_some_iff.1 hc;cases hh;done) | split at hc))
def JL (n m since:Nat)(seen:List Nat)(st:Nat)(es:List (Nat×SV×SV))(c:Nat)(r:SV)(F':Hp):Prop:=
 (r= .eu [.d (.bool false)]/\F'=[(n,.iter (some m) since seen st),(m,.map es c)]/\∀ e,e∈es->seen.contains e.1=true)\/
 ∃ e,e∈es/\seen.contains e.1=false/\r= .eu [.d (.bool true),e.2.1,e.2.2]/\F'=[(n,.iter (some m) since (seen++[e.1]) c),(m,.map es c)]
theorem EG {o:Oper}{E:Nat->Option SV}{H:Nat->Option Ob}{k:Nat}{x':X}{n m since st c:Nat}{seen:List Nat}{es:List (Nat×SV×SV)}(hc:cO P o.op=some (.kU x'))(h1:ev E x'=some (.it n))
  (hH:H n=some (.iter (some m) since seen st)) (hM:H m=some (.map es c)) (hnm:n≠m) (hold:∀ e,e∈es->e.1<since) (hst:since<=st):
  nO P o E H k 0 [(n,.iter (some m) since seen st),(m,.map es c)] (JL n m since seen st es c):=by
 obtain ⟨it,ho,hx⟩:=H_ hc;refine ⟨?_,?_⟩
 .intro q ob hq
  rw [aa,cQ] at hq
  split at hq
  .rename_i e;subst e;simp at hq;subst hq;exact hH
  .split at hq
   .rename_i e;subst e;simp at hq;subst hq;exact hM
   .cases hq
 intro rd p μ M a w K QQ hnew hk hS hK;have ln:lk [(n,Ob.iter (some m) since seen st),(m,.map es c)] n=some (.iter (some m) since seen st):=by simp [aa]
 have lm:lk [(n,Ob.iter (some m) since seen st),(m,.map es c)] m=some (.map es c):=by rw [aa,if_neg (λ h=>hnm h.symm),cQ,if_pos rfl]
 obtain ⟨hpn,⟨hlv,hpm,hb⟩,hMn⟩:=hS.obs n _ ln;obtain ⟨hpm',⟨hlv2,dK,Hy,hre⟩,hMm⟩:=hS.obs m _ lm;simp only [Option.map_some] at hb;have e1:=(hk.get (by simp [ho,Op.operands]) hx h1).JG;have hpk:∀ q,p q->(λ q=>p q\/(k<=q/\q<k+0)) q:=λ q hq=> .inl hq
 have hold':∀ x∈dK.toList,x.born<since:=λ x hx=>by
  obtain ⟨e,he,h,_⟩:=hre.mem x hx;rw [h];exact hold e he
 rcases run_next_at (P:=P) w o.type (μ n).blk (μ m).blk since st seen.toArray dK c hb Hy hold' hst with ⟨h0,hrun⟩ | ⟨x,hx,w1,hw1,hrun⟩
 .have hrun':(execOp a.eval o).run P w= .ok (.value (.tuple #[.bool false])) w:=by simp [execOp,ho,e1,hrun]
  refine iz hrun' (hK _ _ _ μ M w (.inl ⟨rfl,rfl,λ e he=> ?_⟩) ?_ (hS.more hpk) (Ev.refl _ _ _ _ _ λ q _ h=>by omega))
  .obtain ⟨x,hx,hb'⟩:=hre.mem' e he
   have hnil:leftOf dK seen.toArray= #[]:=Array.eq_empty_of_size_eq_zero h0;unfold leftOf at hnil;rw [Array.filter_eq_empty_iff] at hnil;have:=hnil x (by simpa using hx)
   simpa [hb'] using this
  .exact Rp.eH.2 ⟨_,rfl,aX.aG.2 ⟨_,_,rfl,Rp.bE.2 rfl,aX.aT.2 rfl⟩⟩
 .have hx':x∈dK.toList/\seen.contains x.born=false:=by
   unfold leftOf at hx
   simpa using hx
  obtain ⟨e,he,hb',hrk,L3⟩:=hre.mem x hx'.1;have hrun':(execOp a.eval o).run P w= .ok (.value (.tuple #[.bool true,x.key,x.val])) (setBlock w1 (μ n).blk (.mapIter (some (μ m).blk) since (seen.toArray.push x.born) c)):=by simp [execOp,ho,e1,hrun]
  have hh:w1.heap=w.heap:=by rcases hw1 with rfl | rfl <;> rfl
  have hsz:(setBlock w1 (μ n).blk (.mapIter (some (μ m).blk) since (seen.toArray.push x.born) c)).heap.size=w.heap.size:=by simp [setBlock,hh]
  have hoth:∀ b,b≠(μ n).blk->(setBlock w1 (μ n).blk (.mapIter (some (μ m).blk) since (seen.toArray.push x.born) c)).heap[b]? =w.heap[b]? :=λ b hb=>by
   simp [setBlock,hh,Array.getElem?_setIfInBounds_ne (Ne.symm hb)]
  have hsame:(setBlock w1 (μ n).blk (.mapIter (some (μ m).blk) since (seen.toArray.push x.born) c)).heap[(μ n).blk]? =some (.mapIter (some (μ m).blk) since (seen.toArray.push x.born) c):=by
   have:(μ n).blk<w.heap.size:=(Array.getElem?_eq_some_iff.1 hb).1;simp [setBlock,hh,this]
  have hne:(μ m).blk≠(μ n).blk:=λ e=>hnm (hS.inj n m (by rw [ln];simp) (by rw [lm];simp) hlv hlv2 e.symm)
  refine iz hrun' (hK _ _ _ μ M _ (.inr ⟨e,he,by rw [<- hb'];exact hx'.2,rfl,rfl⟩) ?_ ⟨⟨λ b o v hv=> ?_,hS.mem.mc⟩,λ q ob hq=> ?_,λ q q' hq hq' lq lq' ee=> ?_⟩ ⟨λ _ _=>rfl,Mem.le_refl _,λ b hb hf=>⟨hoth b λ ee=>hf n (by rw [ln];simp) hlv ee.symm,λ _=>rfl⟩,by rw [hsz];exact Nat.le_refl _,λ q hq=> ?_,?_,?_,?_⟩)
  .exact (Rp.eH.2 ⟨_,rfl,aX.aG.2 ⟨_,_,rfl,Rp.bE.2 rfl,aX.aG.2 ⟨_,_,rfl,hrk,aX.aG.2 ⟨_,_,rfl,L3,aX.aT.2 rfl⟩⟩⟩⟩:Rp p μ M _ _).more hpk (λ _ _=>rfl) (Mem.le_refl _)
  .have hbl:b≠(μ n).blk:=λ ee=>by rw [ee,hMn hlv] at hv;cases hv
   rw [<- hS.mem b o v hv];unfold World.cell?;rw [hoth b hbl]
  .rw [aa,cQ] at hq
   split at hq
   .rename_i e';subst e';simp at hq;subst hq
    refine ⟨.inl hpn,⟨hlv,λ q hq=> .inl (hpm q hq),?_⟩,hMn⟩
    simpa [hb'] using hsame
   .split at hq
    .rename_i e';subst e';simp at hq;subst hq
     refine ⟨.inl hpm',⟨hlv2,dK,(hoth _ hne).trans Hy,hre.more hpk (λ _ _=>rfl) (Mem.le_refl _)⟩,hMm⟩
    .cases hq
  .have dom:∀ q,lk [(n,Ob.iter (some m) since (seen++[e.1]) c),(m,.map es c)] q≠none->lk [(n,Ob.iter (some m) since seen st),(m,.map es c)] q≠none:=λ q hq=>by
    rw [aa,cQ] at hq ⊢
    split at hq
    .rename_i e';rw [if_pos e'];simp
    .rename_i e';rw [if_neg e'];split at hq <;> simp_all
   exact hS.inj q q' (dom q hq) (dom q' hq') lq lq' ee
  .refine .inr ⟨by omega,?_⟩
   rw [aa,cQ] at hq ⊢
   split at hq
   .rename_i e';rw [if_pos e'];simp
   .rename_i e';rw [if_neg e'];split at hq <;> simp_all
  .rcases hw1 with rfl | rfl <;> rfl
  .rcases hw1 with rfl | rfl
   .exact ⟨rfl,Nat.le_refl _⟩
   .exact ⟨rfl,Nat.le_succ _⟩
  .rcases hw1 with rfl | rfl <;> rfl
theorem zq {o:Oper}{E:Nat->Option SV}{H:Nat->Option Ob}{k nk:Nat}{f:X}{args:List X}{nl:Nat}{as:List SV}{F:Hp}{Q:SV->Hp->Prop}(hc:cO P o.op=some (.call f args))
  (h1:ev E f=some (.yl nl)) (h2:qu E args=some as) (hF:lk F nl≠none) (MD:SY P nl as F k nk Q) (hsub:∀ n ob,lk F n=some ob->H n=some ob):nO P o E H k nk F Q:=by
 obtain ⟨c,fo,hop,bZ,hf,ha⟩:=qY hc;exact ⟨hsub,λ rd p μ M a w K QQ hnew hk hS hK=>zf hop bZ hf ha h1 h2 hF MD hnew hk hS hK⟩
theorem aV.yield {N k0:Nat}{st:St}{K:St->Prop}{d:Option Nat}{r:List SI}{f:X}{args:List X}{nl:Nat}{as:List SV}{F:Hp}{nk:Nat}{Q:SV->Hp->Prop}
  (h1:ev (λ t=>st.env.lookup t) f=some (.yl nl)) (h2:qu (λ t=>st.env.lookup t) args=some as) (hF:lk F nl≠none) (MD:SY P nl as F st.k nk Q) (hsub:HSub F st.hp)
  (h:∀ v F',Q v F'->aV P N k0 r (mz st ⟨d,.call f args,none⟩ ⟨v,F,F',nk,True⟩) K):aV P N k0 (⟨d,.call f args,none⟩::r) st K:=
 aV.many rfl (λ o hc=>zq hc h1 h2 hF MD hsub) rfl h
theorem aV.kU {N k0:Nat}{st:St}{K:St->Prop}{d:Option Nat}{r:List SI}{x:X}{n m since s c:Nat}{seen:List Nat}{es:List (Nat×SV×SV)}
  (h1:ev (λ t=>st.env.lookup t) x=some (.it n)) (hH:lk st.hp n=some (.iter (some m) since seen s)) (hM:lk st.hp m=some (.map es c)) (hnm:n≠m) (hold:∀ e,e∈es->e.1<since) (hs:since<=s)
  (h:∀ v F',JL n m since seen s es c v F'->aV P N k0 r (mz st ⟨d,.kU x,none⟩ ⟨v,[(n,.iter (some m) since seen s),(m,.map es c)],F',0,True⟩) K):aV P N k0 (⟨d,.kU x,none⟩::r) st K:=
 aV.many rfl (λ o hc=>EG hc h1 hH hM hnm hold hs) rfl h
end
section
variable {P:Program}
theorem xg {args:List SV}{F:Hp}{k nk:Nat}{Q:SV->Hp->Prop}(q:Nat->Bool)(hao:SV.ay q args=true)(DZ:F.ok q=true)(hk:F.ok (λ n=>decide (n<k))=true)(JM:∀ n,q n=true->lk F n≠none)
    (hQ:∀ r F',Q r F'->r.ok (λ n=>decide (n<k+nk))=true->F'.ok (λ n=>decide (n<k+nk))=true->r.ok (λ n=>q n || (decide (k<=n) && decide (n<k+nk)))=true/\F'.ok (λ n=>q n || (decide (k<=n) && decide (n<k+nk)))=true)
    {p:Nat->Prop} {μ:Nat->Nm} {M:Mem} {w:World} {vals:Array Value} (hp:∀ n,(k<=n/\n<k+nk)-> ¬ p n) (hr:aX p μ M args vals.toList) (hS:bQ p μ M (lk F) w):
    aX (· <k) μ M args vals.toList/\bQ (· <k) μ M (lk F) w/\∀ e w',
      (∃ r F' bn M' u,e=Ending.returned u/\Q r F'/\r.ok (λ n=>decide (n<k+nk))=true/\F'.ok (λ n=>decide (n<k+nk))=true/\di bn M' r u/\bQ (· <k+nk) bn M' (lk F') w'/\
        Ev (lk F) (λ n=>k<=n/\n<k+nk) μ M w (lk F') bn M' w')->
      ∃ r F' bn M' u,e=Ending.returned u/\Q r F'/\Rp (λ n=>p n\/(k<=n/\n<k+nk)) bn M' r u/\bQ (λ n=>p n\/(k<=n/\n<k+nk)) bn M' (lk F') w'/\
        Ev (lk F) (λ n=>k<=n/\n<k+nk) μ M w (lk F') bn M' w':=by
  have hlt:∀ n,q n=true->n<k:=λ n h=>by
    obtain ⟨ob,ho⟩:=Option.ne_none_iff_exists'.1 (JM n h)
    simpa using (Hp.eF hk ho).1
  have hqP:∀ n,q n=true->p n:=λ n h=>by
    obtain ⟨ob,ho⟩:=Option.ne_none_iff_exists'.1 (JM n h);exact (hS.obs n ob ho).1
  refine ⟨aX.BL hao hlt hr.vS,⟨hS.mem,λ n ob hn=> ?_,hS.inj⟩,?_⟩
  . obtain ⟨a1,a2⟩:=Hp.eF DZ hn
    obtain ⟨_,b1,b2⟩:=hS.obs n ob hn;have hb':cB p (λ n=>μ (id n)) M w (μ n) (ob.aA id):=by rw [Ob.oA];exact b1
    exact ⟨hlt n a1,cB.to a2 hlt (λ _ _=>rfl) hb',b2⟩
  . rintro e w' ⟨r,F',bn,M',u,rfl,hq,hr1,hr2,hru,tI,hE⟩
    obtain ⟨h1,h2⟩:=hQ r F' hq hr1 hr2;have hq2:∀ n,(q n || (decide (k<=n) && decide (n<k+nk)))=true->(p n\/(k<=n/\n<k+nk)):=λ n hn=>by
      simp only [Bool.or_eq_true,Bool.and_eq_true,decide_eq_true_eq] at hn;exact hn.imp (hqP n) id
    refine ⟨r,F',bn,M',u,rfl,hq,Rp.Em h1 hq2 hru,⟨tI.mem,λ n ob hn=> ?_,tI.inj⟩,hE⟩;obtain ⟨a1,a2⟩:=Hp.eF h2 hn;obtain ⟨_,b1,b2⟩:=tI.obs n ob hn;have hb':cB (· <k+nk) (λ n=>bn (id n)) M' w' (bn n) (ob.aA id):=by rw [Ob.oA];exact b1
    exact ⟨hq2 n a1,cB.to a2 hq2 (λ _ _=>rfl) hb',b2⟩
theorem SB.here {f:FuncId}{args:List SV}{F:Hp}{k nk:Nat}{Q:SV->Hp->Prop}(q:Nat->Bool)(h:SB P f args F k nk Q)(JM:∀ n,q n=true->lk F n≠none)(hao:SV.ay q args=true)(DZ:F.ok q=true)
  (hQ:∀ r F',Q r F'->r.ok (λ n=>decide (n<k+nk))=true->F'.ok (λ n=>decide (n<k+nk))=true->r.ok (λ n=>q n || (decide (k<=n) && decide (n<k+nk)))=true/\F'.ok (λ n=>q n || (decide (k<=n) && decide (n<k+nk)))=true):SC P f args F k nk Q:=by
 refine ⟨h.1,λ p μ M w vals hp hr hS=> ?_⟩;obtain ⟨h1,h2,h3⟩:=xg q hao DZ h.2.2.1 JM hQ hp hr hS;exact (h.2.2.2 μ M w vals h1 h2).mono h3
theorem D0.here {nl:Nat}{args:List SV}{F:Hp}{k nk:Nat}{Q:SV->Hp->Prop}(q:Nat->Bool)(h:D0 P nl args F k nk Q)(JM:∀ n,q n=true->lk F n≠none)(hao:SV.ay q args=true)(DZ:F.ok q=true)
  (hQ:∀ r F',Q r F'->r.ok (λ n=>decide (n<k+nk))=true->F'.ok (λ n=>decide (n<k+nk))=true->r.ok (λ n=>q n || (decide (k<=n) && decide (n<k+nk)))=true/\F'.ok (λ n=>q n || (decide (k<=n) && decide (n<k+nk)))=true):SY P nl args F k nk Q:=by
 intro p μ M w vals hp _ hr hS;obtain ⟨h1,h2,h3⟩:=xg q hao DZ h.2.1 JM hQ hp hr hS;obtain ⟨fn,tmps,assign,body,hy,hround⟩:=h.2.2 μ M w vals h1 h2;exact ⟨fn,tmps,assign,body,hy,hround.mono h3⟩
theorem SC.frame {f:FuncId}{args:List SV}{F H:Hp}{k nk:Nat}{Q:SV->Hp->Prop}(h:SC P f args F k nk Q)(hs:HSub F H):SC P f args H k nk λ r F'=>∃ F1,Q r F1/\F'=bR false H F F1:=by
 refine ⟨h.1,λ p μ M w vals hp hr hS=>(h.2 p μ M w vals hp hr (hS.sub hs)).mono ?_⟩;rintro e w' ⟨r,F1,bn,M',u,rfl,hq,hru,tI,hE⟩;obtain ⟨z1,z2⟩:=hS.AB hs hp hE tI λ n h=> .inl h
 have hlk:lk (bR false H F F1)=Ay (lk H) (lk F) (lk F1):=h_ hs (λ h=>by cases h);exact ⟨r,_,bn,M',u,rfl,⟨F1,hq,rfl⟩,hru,by rw [hlk];exact z1,by rw [hlk];exact z2⟩
theorem xh:∀ {h:Hp} {n:Nat} {ob:Ob},lk h n=some ob->gf h n ob=h
 | [],n,ob,h=>by simp [bD] at h
 | (m,o)::h,n,ob,hl=>by
  rw [aa] at hl;simp only [gf]
  by_cases e:m=n
  .subst e
   simp only [if_true] at hl ⊢;injection hl with hl;rw [hl]
  .rw [if_neg (λ h=>e h.symm)] at hl
   rw [if_neg e,xh hl]
theorem sO {h:Hp}{n:Nat}{ob:Ob}(hl:lk h n=some ob):gh h n ob=h:=by
 unfold gh;rw [hl];exact xh hl
theorem iS {h:Hp}{n:Nat}{o o':Ob}:gh ((n,o)::h) n o'=(n,o')::h:=by
 have:lk ((n,o)::h) n=some o:=d_;unfold gh;rw [this];simp [gf]
theorem BS {h F F':Hp}:bR true h F F'=h:=rfl
def gw (es:List (Nat×SV×SV))(seen:List Nat):Nat:=(es.filter λ e=> !seen.contains e.1).length
theorem kO {es:List (Nat×SV×SV)}{seen:List Nat}{e:Nat×SV×SV}(he:e∈es)(hs:seen.contains e.1=false):gw es (seen++[e.1])<gw es seen:=by
 induction es with
 | nil=>cases he
 | cons x es ih=>
  have hle:∀ l:List (Nat×SV×SV),gw l (seen++[e.1])<=gw l seen:=λ l=>by
   induction l with
   | nil=>exact Nat.le_refl _
   | cons y l ihl=>
    simp only [gw,List.filter,List.contains_append] at ihl ⊢;cases h1:seen.contains y.1
    .cases h2:[e.1].contains y.1
     .simp only [Bool.or_self,Bool.not_false,List.length_cons];omega
     .simp only [Bool.false_or,Bool.not_true,Bool.not_false,List.length_cons];omega
    .simp only [Bool.true_or,Bool.not_true];omega
  rcases List.mem_cons.1 he with rfl | he
  .have:=hle es
   simp only [gw,List.filter,List.contains_append,hs,Bool.false_or,List.contains_cons,List.contains_nil,BEq.rfl,Bool.true_or,Bool.not_true,Bool.not_false,List.length_cons] at this ⊢;omega
  .have:=ih he
   simp only [gw,List.filter,List.contains_append] at this ⊢;cases h1:seen.contains x.1
   .cases h2:[e.1].contains x.1
    .simp only [Bool.or_self,Bool.not_false,List.length_cons];omega
    .simp only [Bool.false_or,Bool.not_true,Bool.not_false,List.length_cons];omega
   .simp only [Bool.true_or,Bool.not_true];omega
theorem Hp.dH {q q':Nat->Bool}(h:∀ n,q n=true->q' n=true){F:Hp}(hF:F.ok q=true):F.ok q'=true:=by
 unfold Hp.ok at hF ⊢;rw [List.all_eq_true] at hF ⊢;intro x hx;have:=hF x hx;simp only [Bool.and_eq_true] at this ⊢;refine ⟨h _ this.1,?_⟩;have h2:=this.2;generalize x.2=ob at h2 ⊢;cases ob <;> simp only [Ob.ok] at h2 ⊢
 .exact SV.jV h _ h2
 .exact SV.jV h _ h2
 .rw [List.all_eq_true] at h2 ⊢
  intro e he;have:=h2 e he;simp only [Bool.and_eq_true] at this ⊢;exact ⟨SV.eW h _ this.1,SV.eW h _ this.2⟩
 .rename_i mo _ _ _
  cases mo with
  | none=>rfl
  | some n=>exact h n h2
 .exact SV.jV h _ h2
theorem Hp.bw {k k':Nat}(h:k<=k'){F:Hp}(hF:F.ok (λ n=>decide (n<k))=true):F.ok (λ n=>decide (n<k'))=true:=Hp.dH (λ n hn=>by simp at hn ⊢;omega) hF
theorem Hp.out {k n:Nat}{F:Hp}(hF:F.ok (λ n=>decide (n<k))=true)(h:k<=n):lk F n=none:=by
 cases hh:lk F n with
 | none=>rfl
 | some ob=>have:=(Hp.eF hF hh).1;simp at this;omega
theorem uK.JN {k:Nat}{hp:Hp}:∀ {h:Hp},h.ok (λ n=>decide (n<k))=true->(∀ x,x∈h->lk hp x.1=some x.2)->uK id k hp h
 | [],_,_=>trivial
 | (n,ob)::r,hq,hl=>by
  unfold Hp.ok at hq;simp only [List.all_cons,Bool.and_eq_true,decide_eq_true_eq] at hq;refine ⟨?_,hq.1.1,hq.1.2,uK.JN (by unfold Hp.ok;exact hq.2) λ x hx=>hl x (by simp [hx])⟩;rw [Ob.oA];exact hl (n,ob) (by simp)
theorem aI.same {k0:Nat}{st st1:St}(h1:k0<=st1.k)(h2:aL id st1.k st.env st1.env)(h3:st1.hp.ok (λ n=>decide (n<st1.k))=true)(h4:∀ x,x∈st1.hp->lk st.hp x.1=some x.2):aI k0 st st1 id:=
 ⟨h1,λ _ _=>rfl,h2,uK.JN h3 h4,λ _ _ _ _ e=>e⟩
theorem b_ {x y:Nat}(h:x≠y):(x == y)=false/\(y == x)=false/\(x=y)=False/\(y=x)=False:=
 ⟨by simpa using h,by simpa using Ne.symm h,eq_false h,eq_false (Ne.symm h)⟩
inductive lK {α σ:Type}(Step:σ->α->σ->Prop)(s:σ):List α->σ->Prop where
 | nil:lK Step s [] s
 | snoc {xs:List α} {s' s'':σ} {x:α}:lK Step s xs s'->Step s' x s''->lK Step s (xs++[x]) s''
structure pQ {α σ:Type}(P:Program)(y:Nat)(enc:α->SV)(aP:Nat)(Fh:σ->Hp)(Step:σ->α->σ->Prop)(go:σ->Bool)(s0:σ)(B:Nat):Prop where
 uT:∀ s,lk (Fh s) y≠none
 nd:∀ s x,x∈Fh s->lk (Fh s) x.1=some x.2
 call:∀ s xs x k,lK Step s0 xs s->xs.length<B->(Fh s).ok (λ n=>decide (n<k))=true->go s=true->SY P y [enc x] (Fh s) k aP λ r F'=>∃ s',Step s x s'/\r= .d (.bool (go s'))/\F'=Fh s'/\
  (Fh s').ok (λ n=>decide (n<k+aP))=true/\∀ n,lk (Fh s') n≠none->lk (Fh s) n≠none\/(k<=n/\n<k+aP)
section
variable {N k0:Nat} {st:St} {Q:Exit->St->Prop}
theorem SW.pR {it a b id:Nat}{bs:List Nat}{body:cu}{α:Type}(I:α->St)(m:α->Nat)(i0:α)(KD:Nat->Nat)(ud nm since AN c:α->Nat)(seen:α->List Nat)(es:α->List (Nat×SV×SV))
  (h0:aI k0 st (I i0) KD) (hit:∀ i,(I i).env.lookup it=some (.it (ud i))) (hI:∀ i,lk (I i).hp (ud i)=some (.iter (some (nm i)) (since i) (seen i) (AN i))) (hM:∀ i,lk (I i).hp (nm i)=some (.map (es i) (c i)))
  (hne:∀ i,ud i≠nm i) (hold:∀ i e,e∈es i->e.1<since i) (hst:∀ i,since i<=AN i)
  (fin:∀ i,(∀ e,e∈es i->(seen i).contains e.1=true)->∃ st1 ρ,aI k0 ⟨(b,.d (.bool false))::(a,.eu [.d (.bool false)])::(I i).env,(I i).hp,(I i).k⟩ st1 ρ/\Q (.exit id) st1)
  (step:∀ i e,e∈es i->(seen i).contains e.1=false->SW P N k0 body ⟨(b,.d (.bool true))::(a,.eu [.d (.bool true),e.2.1,e.2.2])::(I i).env,gh (I i).hp (ud i) (.iter (some (nm i)) (since i) (seen i++[e.1]) (c i)),(I i).k⟩
   λ ex st'=>match ex with | .normal=>∃ j ρ,m j<m i/\aI k0 st' (I j) ρ | e=>Q e st'):
  SW P N k0 (.loop (.seq (.e_ [⟨some a,.kU (.t it),none⟩,⟨some b,.ext 0 (.t a),none⟩] bs false) (.seq (.cond (.t b) .skip (.exit id)) body))) st Q:=by
 refine SW.loop I m i0 KD h0 λ i=>SW.seq (SW.tP (aV.kU (hit i) (hI i) (hM i) (hne i) (hold i) (hst i) λ v F' hv=> ?_))
 have hmm:lk ([(ud i,.iter (some (nm i)) (since i) (seen i) (AN i)),(nm i,.map (es i) (c i))]:Hp) (ud i)=some (.iter (some (nm i)) (since i) (seen i) (AN i)):=by simp [aa]
 rcases hv with ⟨rfl,rfl,hall⟩ | ⟨e,he,hs,rfl,rfl⟩
 .have hh:bR false (I i).hp [(ud i,.iter (some (nm i)) (since i) (seen i) (AN i)),(nm i,.map (es i) (c i))] [(ud i,.iter (some (nm i)) (since i) (seen i) (AN i)),(nm i,.map (es i) (c i))]=(I i).hp:=by
   have h1:(lk ([(ud i,.iter (some (nm i)) (since i) (seen i) (AN i)),(nm i,.map (es i) (c i))]:Hp) (ud i)).isSome=true:=by simp [aa]
   have h2:(lk ([(ud i,.iter (some (nm i)) (since i) (seen i) (AN i)),(nm i,.map (es i) (c i))]:Hp) (nm i)).isSome=true:=by rw [aa];split <;> simp [aa]
   simp only [bR,cq,h1,h2,if_true,cg,Bool.false_eq_true,if_false];rw [sO (hM i),sO (hI i)]
  refine aV.runs (dG:=[]) (st':=⟨(b,.d (.bool false))::(a,.eu [.d (.bool false)])::(I i).env,(I i).hp,(I i).k⟩) (ob:=True/\True) (ts:=[(true,[])]) ?_ ⟨trivial,trivial⟩ ?_
  .simp only [Go.Sl.runs,gd,fM,dF,mz,ev,List.lookup,BEq.rfl,dx,hh,Nat.add_zero,List.getElem?_cons_zero,BS,ij,List.map_nil,List.append_nil]
  .obtain ⟨st1,ρ,hw,hq⟩:=fin i hall
   refine SW.seq (SW.cond (b:=false) ?_ (λ h=>by cases h) (λ _=>SW.weak ρ hw (SW.exit hq)));simp only [ev,List.lookup,BEq.rfl]
 .have hh:bR false (I i).hp [(ud i,.iter (some (nm i)) (since i) (seen i) (AN i)),(nm i,.map (es i) (c i))] [(ud i,.iter (some (nm i)) (since i) (seen i++[e.1]) (c i)),(nm i,.map (es i) (c i))]=gh (I i).hp (ud i) (.iter (some (nm i)) (since i) (seen i++[e.1]) (c i)):=by
   have h1:(lk ([(ud i,.iter (some (nm i)) (since i) (seen i++[e.1]) (c i)),(nm i,.map (es i) (c i))]:Hp) (ud i)).isSome=true:=by simp [aa]
   have h2:(lk ([(ud i,.iter (some (nm i)) (since i) (seen i++[e.1]) (c i)),(nm i,.map (es i) (c i))]:Hp) (nm i)).isSome=true:=by rw [aa];split <;> simp [aa]
   simp only [bR,cq,h1,h2,if_true,cg,Bool.false_eq_true,if_false];rw [sO (hM i)]
  refine aV.runs (dG:=[]) (st':=⟨(b,.d (.bool true))::(a,.eu [.d (.bool true),e.2.1,e.2.2])::(I i).env,gh (I i).hp (ud i) (.iter (some (nm i)) (since i) (seen i++[e.1]) (c i)),(I i).k⟩) (ob:=True/\True) (ts:=[(true,[])]) ?_ ⟨trivial,trivial⟩ ?_
  .simp only [Go.Sl.runs,gd,fM,dF,mz,ev,List.lookup,BEq.rfl,dx,hh,Nat.add_zero,List.getElem?_cons_zero,BS,ij,List.map_nil,List.append_nil]
  .refine SW.seq (SW.cond (b:=true) ?_ (λ _=>SW.skip ?_) (λ h=>by cases h))
   .simp only [ev,List.lookup,BEq.rfl]
   .exact step i e he hs
end
end
end Go.Sl
namespace Go.Sl
theorem aD.yc {a b:aD}(h:a.above b=true)(d:Dt)(hb:b.aF d=true):a.aF d=true:=by
 have h':=aD.sG.1 h;simp only [aD.aF,Bool.and_eq_true,decide_eq_true_eq] at*;have hr:d.r<8:=by have:=hb.1;simp [Dt.may] at this;exact this.1
 exact ⟨hb.1,Nat.le_trans hb.2 (h' _ hr)⟩
theorem aD.L6 (v:aD){r:Nat}(hr:r<8):(v.set r (v.get r+1)).count=v.count+1:=by
 match r,hr with
 | 0,_=>simp [aD.count,aD.set,aD.of,aD.get];omega
 | 1,_=>simp [aD.count,aD.set,aD.of,aD.get];omega
 | 2,_=>simp [aD.count,aD.set,aD.of,aD.get];omega
 | 3,_=>simp [aD.count,aD.set,aD.of,aD.get];omega
 | 4,_=>simp [aD.count,aD.set,aD.of,aD.get];omega
 | 5,_=>simp [aD.count,aD.set,aD.of,aD.get];omega
 | 6,_=>simp [aD.count,aD.set,aD.of,aD.get];omega
 | 7,_=>simp [aD.count,aD.set,aD.of,aD.get];omega
theorem ue {P:Program}{d:Nat}{t:TypeId}{k:IntKind}{ds:List DV}(ht:P.underlying t=some (.int k))(h:Fit P (d+1) t ds):∃ n,ds=[.int k n]/\(Lit.int k n).wf=true:=by
 rw [Fit,ht] at h;exact h
theorem wf_u32 {n:Int}(h:(Lit.int .u32 n).wf=true):∃ m:Nat,n=(m:Int)/\m<4294967296:=by
 simp [Lit.wf,IntKind.min,IntKind.max,IntKind.signed,IntKind.bits] at h;exact ⟨n.toNat,by omega,by omega⟩
theorem wf_u64 {n:Int}(h:(Lit.int .u64 n).wf=true):∃ m:Nat,n=(m:Int)/\m<18446744073709551616:=by
 simp [Lit.wf,IntKind.min,IntKind.max,IntKind.signed,IntKind.bits] at h;exact ⟨n.toNat,by omega,by omega⟩
theorem wf_u8 {n:Int}(h:(Lit.int .u8 n).wf=true):∃ m:Nat,n=(m:Int)/\m<256:=by
 simp [Lit.wf,IntKind.min,IntKind.max,IntKind.signed,IntKind.bits] at h;exact ⟨n.toNat,by omega,by omega⟩
theorem wf_i64 {n:Int}(h:(Lit.int .i64 n).wf=true): -9223372036854775808<=n/\n<9223372036854775808:=by
 simp [Lit.wf,IntKind.min,IntKind.max,IntKind.signed,IntKind.bits] at h;omega
theorem nP {P:Program}{d:Nat}{t:TypeId}{ds:List DV}(ht:P.underlying t=some (.int .u32))(h:Fit P (d+1) t ds):∃ m:Nat,m<4294967296/\ds=[.int .u32 m]:=by
 obtain ⟨n,rfl,hw⟩:=ue ht h;obtain ⟨m,rfl,hm⟩:=wf_u32 hw;exact ⟨m,hm,rfl⟩
theorem BT {P:Program}{d:Nat}{t:TypeId}{ds:List DV}(ht:P.underlying t=some (.int .u64))(h:Fit P (d+1) t ds):∃ m:Nat,m<18446744073709551616/\ds=[.int .u64 m]:=by
 obtain ⟨n,rfl,hw⟩:=ue ht h;obtain ⟨m,rfl,hm⟩:=wf_u64 hw;exact ⟨m,hm,rfl⟩
theorem yd {P:Program}{d:Nat}{t:TypeId}{ds:List DV}(ht:P.underlying t=some (.int .u8))(h:Fit P (d+1) t ds):∃ m:Nat,m<256/\ds=[.int .u8 m]:=by
 obtain ⟨n,rfl,hw⟩:=ue ht h;obtain ⟨m,rfl,hm⟩:=wf_u8 hw;exact ⟨m,hm,rfl⟩
theorem BU {P:Program}{d:Nat}{t:TypeId}{ds:List DV}(ht:P.underlying t=some (.int .i64))(h:Fit P (d+1) t ds):∃ n:Int,(-9223372036854775808<=n/\n<9223372036854775808)/\ds=[.int .i64 n]:=by
 obtain ⟨n,rfl,hw⟩:=ue ht h;exact ⟨n,wf_i64 hw,rfl⟩
theorem uU {ds:List DV}{o:Nat}{x:DV}(h:(ds.drop o).take 1=[x]):ds[o]? =some x:=by
 have:=congrArg (·[0]?) h
 simpa [List.getElem?_take] using this
theorem Ia {P:Program}{d:Nat}{t e:TypeId}{ds:List DV}(ht:P.underlying t=some (.array 8 e))(he:P.underlying e=some (.int .u32))(hc:P.cellsOf t=8)(hce:P.cellsOf e=1)(h:Fit P (d+2) t ds):∃ v:aD,v.wf/\ds=v.ds:=by
 rw [Fit,ht] at h;dsimp only at h;obtain ⟨hl,hi⟩:=h;rw [hc] at hl;rw [hce] at hi;have key:∀ i,i<8->∃ m:Nat,m<4294967296/\ds[i]? =some (.int .u32 m):=λ i hlt=>by
  obtain ⟨m,hm,e1⟩:=nP (d:=d) he (hi i hlt);exact ⟨m,hm,uU (by simpa using e1)⟩
 obtain ⟨m0,h0,e0⟩:=key 0 (by omega);obtain ⟨m1,h1,e1⟩:=key 1 (by omega);obtain ⟨m2,h2,e2⟩:=key 2 (by omega);obtain ⟨m3,h3,e3⟩:=key 3 (by omega);obtain ⟨m4,h4,e4⟩:=key 4 (by omega);obtain ⟨m5,h5,e5⟩:=key 5 (by omega);obtain ⟨m6,h6,e6⟩:=key 6 (by omega);obtain ⟨m7,h7,e7⟩:=key 7 (by omega);refine ⟨⟨m0,m1,m2,m3,m4,m5,m6,m7⟩,λ r hr=> ?_,List.ext_getElem? λ i=> ?_⟩
 .match r,hr with
  | 0,_=>exact h0
  | 1,_=>exact h1
  | 2,_=>exact h2
  | 3,_=>exact h3
  | 4,_=>exact h4
  | 5,_=>exact h5
  | 6,_=>exact h6
  | 7,_=>exact h7
 .match i with
  | 0=>rw [e0];rfl
  | 1=>rw [e1];rfl
  | 2=>rw [e2];rfl
  | 3=>rw [e3];rfl
  | 4=>rw [e4];rfl
  | 5=>rw [e5];rfl
  | 6=>rw [e6];rfl
  | 7=>rw [e7];rfl
  | i+8=>rw [List.getElem?_eq_none (by omega),List.getElem?_eq_none (by simp [aD.ds])]
theorem bV {P:Program}{d:Nat}{t:TypeId}{fs:Array Field}{ds:List DV}(ht:P.underlying t=some (.struct fs))(h:Fit P (d+1) t ds)(i:Nat)(f:Field)(hf:fs[i]? =some f):
  Fit P d f.type ((ds.drop f.offset).take (P.cellsOf f.type)):=by
 rw [Fit,ht] at h;dsimp only at h;exact h.2 f (by simpa using Array.mem_of_getElem? hf)
theorem ye {P:Program}{d:Nat}{t:TypeId}{fs:Array Field}{ds:List DV}(ht:P.underlying t=some (.struct fs))(h:Fit P (d+1) t ds):ds.length=P.cellsOf t:=by
 rw [Fit,ht] at h;dsimp only at h;exact h.1
theorem Ib {P:Program}{d:Nat}{t:TypeId}{fs:Array Field}{fR fN:Field}{ds:List DV}(ht:P.underlying t=some (.struct fs))(h0:fs[0]? =some fR)(h1:fs[1]? =some fN)(o0:fR.offset=0)(o1:fN.offset=1)
  (t0:P.underlying fR.type=some (.int .u8)) (t1:P.underlying fN.type=some (.int .u32)) (hc:P.cellsOf t=2) (c0:P.cellsOf fR.type=1) (c1:P.cellsOf fN.type=1) (h:Fit P (d+2) t ds):∃ x:Dt,x.wf/\ds=x.ds:=by
 have f0:=bV ht h 0 fR h0;have f1:=bV ht h 1 fN h1;have hl:=ye ht h;rw [hc] at hl;rw [o0,c0] at f0;rw [o1,c1] at f1;obtain ⟨a,ha,ea⟩:=yd t0 f0;obtain ⟨b,hb,eb⟩:=nP t1 f1;have ea:=uU ea;have eb:=uU eb;refine ⟨⟨a,b⟩,⟨ha,hb⟩,List.ext_getElem? λ i=> ?_⟩
 match i with
 | 0=>rw [ea];rfl
 | 1=>rw [eb];rfl
 | i+2=>rw [List.getElem?_eq_none (by omega),List.getElem?_eq_none (by simp)]
theorem xk {P:Program}{d:Nat}{t e:TypeId}{ds:List DV}{α:Type}(f:α->List DV)(ok:α->Prop)(ht:P.underlying t=some (.slice e))(hp:∀ ds,Fit P d e ds->∃ x,ok x/\ds=f x)
  (h:Fit P (d+1) t ds):(ds=[.aN])\/∃ l:List α,(∀ x∈l,ok x)/\l.length<=9223372036854775807/\ds=[.sl l.length (l.flatMap f)]:=by
 rw [Fit,ht] at h;dsimp only at h;rcases h with h | ⟨n,cs,rfl,hn,hl,hi⟩
 .exact .inl h
 .refine .inr ?_
  have key:∀ k,k<=n->∃ l:List α,(∀ x∈l,ok x)/\l.length=k/\cs.take (k*P.cellsOf e)=l.flatMap f:=by
   intro k
   induction k with
   | zero=>intro _;exact ⟨[],by simp,rfl,by simp⟩
   | succ k ih=>
    intro hk;obtain ⟨l,a1,a2,a3⟩:=ih (by omega);obtain ⟨x,b1,b2⟩:=hp _ (hi k hk);refine ⟨l++[x],λ y hy=> ?_,by simp [a2],?_⟩
    .rcases List.mem_append.1 hy with h | h
     .exact a1 y h
     .simp at h;subst h;exact b1
    .rw [Nat.succ_mul,List.take_add,a3,b2];simp
  obtain ⟨l,a1,a2,a3⟩:=key n (Nat.le_refl _);rw [List.take_of_length_le (by omega)] at a3;exact ⟨l,a1,by omega,by rw [a2,a3]⟩
end Go.Sl
namespace Go.Sl
open Go.RowKit
section
structure Cm where
 line:Dt
 jD:Dt
 deriving DecidableEq
def Cm.ds (x:Cm):List DV:=x.line.ds++x.jD.ds
def Cm.wf (x:Cm):Prop:=x.line.wf/\x.jD.wf
@[simp] theorem yf (l:List Cm):(l.flatMap Cm.ds).length=l.length*4:=ew Cm.ds 4 (λ _=>rfl) l
def zu:List DV->List Cm
 | .int _ a:: .int _ b:: .int _ c:: .int _ d::r=>⟨⟨a.toNat,b.toNat⟩,⟨c.toNat,d.toNat⟩⟩::zu r
 | _=>[]
theorem uV:∀ l:List Cm,zu (l.flatMap Cm.ds)=l
 | []=>rfl
 | x::l=>by
  have:=uV l;show zu (.int .u8 x.line.r:: .int .u32 x.line.n:: .int .u8 x.jD.r:: .int .u32 x.jD.n::l.flatMap Cm.ds)=_;rw [zu,this];rfl
def JO:DV->List Cm
 | .sl _ cs=>zu cs
 | _=>[]
theorem EH (n:Nat)(l:List Cm):JO (.sl n (l.flatMap Cm.ds))=l:=uV l
def ag.cl (o:ag):List Cm:=JO o.lines
structure ag.mW (o:ag):Prop where
 eq:o.lines= .sl o.cl.length (o.cl.flatMap Cm.ds)
 le:o.cl.length<=9223372036854775807
theorem ag.mW.of {o:ag}{l:List Cm}(h:o.lines= .sl l.length (l.flatMap Cm.ds))(hl:l.length<=9223372036854775807):o.mW/\o.cl=l:=by
 have e:o.cl=l:=by unfold ag.cl;rw [h];exact EH _ _
 exact ⟨⟨by rw [e];exact h,by rw [e];exact hl⟩,e⟩
def yg:List (List Nat):=[[],[99,116,114,100,112],[99,97],[99,105,113,101],[99,97,113],[99,97],[99,97,118],[99,97,118],[99,108]]
def aY (kind:Nat):List Nat:=(yg[kind]?).getD []
def zeroV (s:List Nat)(o:ag)(nl:Nat):Bool:=(((((((((((decide (99∈s) || decide (o.aM=(⟨0,0⟩:Dt))) && (decide (116∈s) || ((o.to:Int) == 0))) && (decide (114∈s) || ((o.bp:Int) == 0))) && (decide (100∈s) || ((o.depth:Int) == 0))) && (decide (112∈s) || ((o.cap:Int) == 0))) && (decide (97∈s) || decide (o.at_=(⟨0,0⟩:Dt)))) && (decide (118∈s) || decide (o.jD=(⟨0,0⟩:Dt)))) && (decide (105∈s) || ((o.item:Int) == 0))) && (decide (113∈s) || ((o.ua:Int) == 0))) && (decide (101∈s) || ((o.fz:Int) == 0))) && (decide (108∈s) || ((nl:Int) == 0)))
def KG (o:ag)(x:Cm)(pre:List Cm):Bool:=o.dep.aF x.line && o.dep.aF x.jD && pre.all λ y=> !decide (y.line=x.line)
def Ic (o:ag)(cl:List Cm)(i:Nat):Bool:=match cl[i]? with
 | some x=>KG o x (cl.take i)
 | none=>true
def j8 (o:ag)(cl:List Cm):Bool:=decide (1<=cl.length/\cl.length<=16) && (List.range cl.length).all (Ic o cl)
structure Form (n:Nat)(o:ag):Prop where
 r:o.dot.r<n
 pos:0<o.dot.n
 own:o.dep.get o.dot.r+1=o.dot.n
 t1:1<=o.time
 t2:o.time<=281474976710656
 who:0<o.who
 kind:o.kind<=8
 zero:zeroV (aY o.kind) o o.cl.length=true
 JA:∀ r,n<=r->r<8->o.dep.get r=0
 gen:o.kind=0->o.aK=o.dot
 aK:o.kind≠0->o.dep.aF o.aK=true
 aM:99∈aY o.kind->o.dep.aF o.aM=true
 at_:97∈aY o.kind->o.dep.aF o.at_=true
 jD:118∈aY o.kind->o.dep.aF o.jD=true
 zw:116∈aY o.kind->0<o.to/\1<=o.bp/\o.bp<=7/\o.depth<=7/\o.cap<=1099511627776
 ua:113∈aY o.kind->1<=o.ua/\o.ua<=65535
 fz:o.fz<=16777215
 lines:108∈aY o.kind->j8 o o.cl=true
open Classical in
noncomputable def iu (n:Int)(o:ag):Int:=if n<1\/8<n then 2 else if Form n.toNat o then 0 else 5
theorem eY {n:Int}{o:ag}:iu n o=0↔1<=n/\n<=8/\Form n.toNat o:=by
 unfold iu
 by_cases h:n<1\/8<n
 .rw [if_pos h];constructor
  .intro h;cases h
  .intro hh;omega
 .rw [if_neg h]
  by_cases hf:Form n.toNat o
  .rw [if_pos hf];exact ⟨λ _=>⟨by omega,by omega,hf⟩,λ _=>rfl⟩
  .rw [if_neg hf];exact ⟨λ h=>(by cases h),λ h=>absurd h.2.2 hf⟩
def aW (l:List ag)(d:Dt):Option ag:=l.find? λ o=>decide (o.dot=d)
def gL (l:List ag)(d:Dt):Nat:=l.countP λ o=>decide (o.dot=d)
theorem CU (l:List ag)(x:ag)(d:Dt):gL (l++[x]) d=if x.dot=d then gL l d+1 else gL l d:=by
 unfold gL;rw [List.countP_append]
 by_cases h:x.dot=d <;> simp [h]
theorem uW {l:List ag}{d:Dt}:0<gL l d↔∃ o,o∈l/\o.dot=d:=by
 unfold gL;rw [List.countP_pos_iff];simp
theorem gP {l:List ag}{d:Dt}{o:ag}(h:aW l d=some o):o∈l/\o.dot=d:=by
 unfold aW at h;have h2:=List.find?_some h;simp only [decide_eq_true_eq] at h2;exact ⟨List.mem_of_find?_eq_some h,h2⟩
theorem uX {l:List ag}{d:Dt}:aW l d=none↔∀ o,o∈l->o.dot≠d:=by
 unfold aW;rw [List.find?_eq_none];simp
theorem nQ {l:List ag}{d:Dt}:(aW l d).isSome=true↔∃ o,o∈l/\o.dot=d:=by
 cases h:aW l d with
 | none=>
  rw [uX] at h;constructor
  .intro h;cases h
  .rintro ⟨o,ho,e⟩;exact absurd e (h o ho)
 | some o=>exact ⟨λ _=>⟨o,gP h⟩,λ _=>rfl⟩
def oF (l:List ag):Prop:=(l.map (·.dot)).Nodup
theorem oF.inj {l:List ag}(h:oF l){a b:ag}(ha:a∈l)(hb:b∈l)(e:a.dot=b.dot):a=b:=by
 induction l with
 | nil=>cases ha
 | cons x l ih=>
  unfold oF at h;rw [List.map_cons,List.nodup_cons] at h;rcases List.mem_cons.1 ha with ea | ha'
  .rcases List.mem_cons.1 hb with eb | hb'
   .rw [ea,eb]
   .exact absurd (List.mem_map.2 ⟨b,hb',by rw [<- e,ea]⟩) h.1
  .rcases List.mem_cons.1 hb with eb | hb'
   .exact absurd (List.mem_map.2 ⟨a,ha',by rw [e,eb]⟩) h.1
   .exact ih h.2 ha' hb'
theorem oF.find {l:List ag}(h:oF l){o:ag}(ho:o∈l):aW l o.dot=some o:=by
 cases hf:aW l o.dot with
 | none=>exact absurd rfl (uX.1 hf o ho)
 | some x=>
  obtain ⟨h1,h2⟩:=gP hf;rw [h.inj h1 ho h2]
theorem oF.sub {l m:List ag}(h:oF l)(hs:m.Sublist l):oF m:=List.Nodup.sublist (hs.map _) h
theorem oF.cnt {l:List ag}(h:∀ o,o∈l->gL l o.dot=1):oF l:=by
 induction l with
 | nil=>exact List.nodup_nil
 | cons x l ih=>
  have hc:∀ (o:ag),gL (x::l) o.dot=gL l o.dot+if x.dot=o.dot then 1 else 0:=λ o=>by
   unfold gL;rw [List.countP_cons];simp
  have h0:gL l x.dot=0:=by
   have:=h x (by simp);rw [hc] at this;simp at this;exact this
  have hx:∀ o,o∈l->o.dot≠x.dot:=λ o ho e=>by
   have:0<gL l x.dot:=uW.2 ⟨o,ho,e⟩;omega
  refine List.nodup_cons.2 ⟨λ hm=> ?_,ih λ o ho=> ?_⟩
  .obtain ⟨o,ho,e⟩:=List.mem_map.1 hm
   exact hx o ho e
  .have:=h o (List.mem_cons_of_mem _ ho)
   rw [hc,if_neg λ e=>hx o ho e.symm] at this;omega
structure tA (l:List ag)(o:ag):Prop where
 self:gL l o.dot=1
 prev:1<o.dot.n->gL l ⟨o.dot.r,o.dot.n - 1⟩=1
 deps:∀ r,r<8->0<o.dep.get r->gL l ⟨r,o.dep.get r⟩=1
 uY:∀ a,a∈l->a.before o=true->a.time<o.time/\o.dep.above a.dep=true
open Classical in
noncomputable def mX (n:Int)(l:List ag):Int:=
 if n<1\/8<n then 2 else if ∀ o,o∈l->Form n.toNat o then if ∀ o,o∈l->tA l o then 0 else 9 else 5
structure yh (n:Int)(l:List ag):Prop where
 n1:1<=n
 n8:n<=8
 form:∀ o,o∈l->Form n.toNat o
 one:∀ o,o∈l->tA l o
theorem qE {n:Int}{l:List ag}:mX n l=0↔yh n l:=by
 unfold mX
 by_cases h:n<1\/8<n
 .rw [if_pos h];constructor
  .intro h;cases h
  .intro hh;have:=hh.n1;have:=hh.n8;omega
 .rw [if_neg h]
  by_cases hf:∀ o,o∈l->Form n.toNat o
  .rw [if_pos hf]
   by_cases ho:∀ o,o∈l->tA l o
   .rw [if_pos ho];exact ⟨λ _=>⟨by omega,by omega,hf,ho⟩,λ _=>rfl⟩
   .rw [if_neg ho];exact ⟨λ h=>(by cases h),λ h=>absurd h.one ho⟩
  .rw [if_neg hf];exact ⟨λ h=>(by cases h),λ h=>absurd h.form hf⟩
theorem yh.uniq {n:Int}{l:List ag}(h:yh n l):oF l:=oF.cnt λ o ho=>(h.one o ho).self
theorem yh.there {n:Int}{l:List ag}(h:yh n l){o:ag}(ho:o∈l){d:Dt}(hd:o.dep.aF d=true):∃ a,a∈l/\a.dot=d:=by
 have hd':=hd;simp only [aD.aF,Dt.may,Bool.and_eq_true,decide_eq_true_eq] at hd';obtain ⟨⟨hr,hn⟩,hle⟩:=hd';have h0:∃ a,a∈l/\a.dot=⟨d.r,o.dep.get d.r⟩:=uW.1 (by have:=(h.one o ho).deps d.r hr (by omega);omega);have key:∀ k,k<=o.dep.get d.r - d.n->∃ a,a∈l/\a.dot=⟨d.r,o.dep.get d.r - k⟩:=by
  intro k
  induction k with
  | zero=>intro _;exact h0
  | succ k ih=>
   intro hk;obtain ⟨a,ha,e⟩:=ih (by omega);have e1:a.dot.r=d.r:=by rw [e]
   have e2:a.dot.n=o.dep.get d.r - k:=by rw [e]
   have:=(h.one a ha).prev (by omega);rw [e1,e2] at this;exact uW.1 (by rw [show o.dep.get d.r - (k+1)=o.dep.get d.r - k - 1 by omega];omega)
 obtain ⟨a,ha,e⟩:=key (o.dep.get d.r - d.n) (Nat.le_refl _);refine ⟨a,ha,e.trans ?_⟩;rw [show o.dep.get d.r - (o.dep.get d.r - d.n)=d.n by omega]
end
section
def nz:DV->DV
 | .aN=> .sl 0 []
 | x=>x
theorem bY.nz {M:Mem}{v:Value}{x:DV}(h:bY M x v):bY M (Go.Sl.nz x) v:=by
 cases x with
 | aN=>exact h.o9
 | _=>exact h
theorem dy.nz {M:Mem}{b:Nat}:∀ (cs:List DV) (o:Nat),dy M b o cs->dy M b o (cs.map Go.Sl.nz)
 | [],o,h=>by simp [dy]
 | c::cs,o,h=>by
  simp only [dy,List.map_cons] at h ⊢;obtain ⟨⟨u,h1,h2⟩,h3⟩:=h;exact ⟨⟨u,h1,h2.nz⟩,dy.nz cs (o+1) h3⟩
theorem bY.OY {M:Mem}{v:Value}{n:Nat}{cs:List DV}(h:bY M (.sl n cs) v):bY M (.sl n (cs.map Go.Sl.nz)) v:=by
 simp only [bY] at h ⊢;obtain ⟨A,c,h1,h2,h3,h4⟩:=h;refine ⟨A,c,h1,h2,λ hn=>by rw [h3 hn];rfl,λ hn=> ?_⟩;obtain ⟨b,o,h5,h6⟩:=h4 hn;exact ⟨b,o,h5,dy.nz cs o h6⟩
theorem Ie {p:Nat->Prop}{μ:Nat->Nm}{M:Mem}{n:Nat}{cs:List DV}{r r':List SV}(hr:∀ vs,aX p μ M r' vs->aX p μ M r vs)(vs:List Value)(h:aX p μ M (.d (.sl n cs)::r') vs):aX p μ M (.d (.sl n (cs.map Go.Sl.nz))::r) vs:=by
 obtain ⟨u,us,rfl,h1,h2⟩:=aX.aG.1 h;exact aX.aG.2 ⟨u,us,rfl,Rp.cZ.2 (Rp.cZ.1 h1).OY,hr us h2⟩
theorem zx {p:Nat->Prop}{μ:Nat->Nm}{M:Mem}{r r':List SV}(hr:∀ vs,aX p μ M r' vs->aX p μ M r vs)(vs:List Value)(h:aX p μ M (.d .aN::r') vs):aX p μ M (.d (.sl 0 [])::r) vs:=by
 obtain ⟨u,us,rfl,h1,h2⟩:=aX.aG.1 h;exact aX.aG.2 ⟨u,us,rfl,o9 p μ M u h1,hr us h2⟩
def ag.nz (o:ag):ag:={ o with lines:=Go.Sl.nz o.lines}
theorem ag.ME (o:ag):o.nz.ds=o.ds.map Go.Sl.nz:=rfl
theorem EI (l:List ag):((l.map ag.nz).flatMap ag.ds)=(l.flatMap ag.ds).map Go.Sl.nz:=by
 induction l with
 | nil=>rfl
 | cons o l ih=>simp only [List.map_cons,List.flatMap_cons,List.map_append,ih,ag.ME]
theorem nR {ds x:List DV}{a n b:Nat}(h:(ds.drop a).take n=x)(hb:a+n=b):ds.drop a=x++ds.drop b:=by
 rw [<- h,<- hb,<- List.drop_drop,List.take_append_drop]
end
section
variable {P:Program}
theorem aV.MF {N k0:Nat}{st:St}{K:St->Prop}{si:SI}{r:List SI}{t:Nat}{b:Bool}{F:Hp}{nk:Nat}{Q:SV->Hp->Prop}(hg:si.g=some (t,b))(N8:st.env.lookup t=some (.d (.bool b)))(hq:∀ o:Oper,cO P o.op=some si.op->nO P o (λ t=>st.env.lookup t) (lk st.hp) st.k nk F Q)
  (hro:dx si.op=false) (h:∀ v F',Q v F'->aV P N k0 r (mz st si ⟨v,F,F',nk,True⟩) K):aV P N k0 (si::r) st K:=by
 refine aV.cons λ ops o hc hN rd cR M0 w0 c0 a w fO i ho Q' KK EE=> ?_
 obtain ⟨g1,g2,g3⟩:=gJ hc;obtain ⟨og,hdf,hsz,μ,M,gD,hS,hE⟩:=fO;have fO:iJ N cR M0 w0 c0 k0 st a w:=⟨og,hdf,hsz,μ,M,gD,hS,hE⟩;have hw:Region.wanted o (yielded ops a.tmps)=true:=by
  rcases g3 with ⟨_,h'⟩ | ⟨j,w,t',hg',hd,h'⟩
  .rw [hg] at h';cases h'
  .rw [hg] at h'
   injection h' with h';injection h' with e1 e2;subst e1;subst e2;have hv:=Rp.bE.1 (gD t _ N8);simp only [Region.wanted,hg',iH hd hv];simp
 unfold wpOpIn;simp only [ho,hw,if_true];exact (iJ.step g2 (λ d hd=>hN d (by rw [g2];exact hd)) (hq o g1) (λ v F' _ hr=>by rw [hro] at hr;cases hr) fO λ v F' hQ a' w' hSt'=>EE _ a' w' (h v F' hQ) hSt')
theorem aV.AO {N k0:Nat}{st:St}{K:St->Prop}{d:Option Nat}{r:List SI}{f:X}{args:List X}{t:Nat}{b:Bool}{nl:Nat}{as:List SV}{F:Hp}{nk:Nat}{Q:SV->Hp->Prop}(N8:st.env.lookup t=some (.d (.bool b)))
  (h1:ev (λ t=>st.env.lookup t) f=some (.yl nl)) (h2:qu (λ t=>st.env.lookup t) args=some as) (hF:lk F nl≠none) (MD:SY P nl as F st.k nk Q) (hsub:HSub F st.hp)
  (h:∀ v F',Q v F'->aV P N k0 r (mz st ⟨d,.call f args,some (t,b)⟩ ⟨v,F,F',nk,True⟩) K):aV P N k0 (⟨d,.call f args,some (t,b)⟩::r) st K:=
 aV.MF rfl N8 (λ o hc=>zq hc h1 h2 hF MD hsub) rfl h
theorem iJ.uZ {N k0:Nat}{st:St}{cR:Nat->Nm}{M0:Mem}{w0:World}{c0:Nat->Option Ob}{a:Act}{w:World}(x ty:Nat)(e sz:Nat)(ht:lk st.hp x=some (.box ty [.d .aN]))(h:iJ N cR M0 w0 c0 k0 st a w):
    iJ N cR M0 w0 c0 k0 ⟨st.env,(x,.box ty [.gs st.k 0])::(st.k,.arr e sz 0 [])::st.hp,st.k+1⟩ a w:=by
  obtain ⟨og,hdf,hsz,μ,M,gD,hS,hE⟩:=h;have hmu:=wm (μ:=μ) (m:=⟨0,0,false⟩) (p:=(· <st.k)) (k:=st.k) (Nat.lt_irrefl _);have hup:∀ n,n<st.k->n<st.k+1:=λ n h=>by omega
  have hlt:∀ n ob,lk st.hp n=some ob->n<st.k:=λ n ob h=>(hS.obs n ob h).1
  have hxk:=hlt x _ ht;have hne:∀ n,n≠st.k->lk ((x,.box ty [.gs st.k 0])::(st.k,.arr e sz 0 [])::st.hp) n≠none->lk st.hp n≠none:=λ n h1 h2=>by
    rw [aa] at h2
    split at h2
    . rename_i e1;rw [e1,ht];simp
    . rw [aa,if_neg h1] at h2;exact h2
  refine ⟨by show k0<=st.k+1;omega,hdf,hsz,AD μ st.k ⟨0,0,false⟩,M,λ u s hs=> ?_,⟨hS.mem,λ n ob hn=> ?_,λ n m hn hm ln lm e=> ?_⟩,⟨λ n hn=> ?_,hE.mem,hE.frame,hE.size,λ n hn=> ?_,hE.os,hE.tape,hE.output⟩⟩
  . exact (gD u s hs).more hup hmu (Mem.le_refl M)
  . rw [aa] at hn
    split at hn
    . rename_i e1
      subst e1;injection hn with hn;subst hn;obtain ⟨a1,⟨hl,vs,hb,hr⟩,a3⟩:=hS.obs n _ ht;rw [hmu n a1];refine ⟨hup n a1,⟨hl,vs,hb,?_⟩,a3⟩;obtain ⟨v,vs',e,h1,h2⟩:=aX.aG.1 hr;rw [e];refine aX.aG.2 ⟨v,vs',rfl,?_,aX.aT.2 (aX.aT.1 h2)⟩;have h1:=h1.rep;simp only [di,bY] at h1;intro ν iw;simp only [di];rw [iw st.k (Nat.lt_succ_self _),bK];exact .inr ⟨rfl,trivial,none,h1⟩
    . rw [aa] at hn
      split at hn
      . rename_i e1
        subst e1;injection hn with hn;subst hn;rw [bK];exact ⟨Nat.lt_succ_self _,.inl ⟨rfl,rfl,rfl⟩,λ h=>by cases h⟩
      . obtain ⟨a1,a2,a3⟩:=hS.obs n ob hn
        rw [hmu n a1];exact ⟨hup n a1,a2.more hup hmu (Mem.le_refl M) λ _=>rfl,a3⟩
  . by_cases e1:n=st.k
    . subst e1;rw [bK] at ln;cases ln
    . by_cases e2:m=st.k
      . subst e2;rw [bK] at lm;cases lm
      . have hn:=hne n e1 hn
        have hm:=hne m e2 hm;obtain ⟨o1,ho1⟩:=Option.ne_none_iff_exists'.1 hn;obtain ⟨o2,ho2⟩:=Option.ne_none_iff_exists'.1 hm;rw [hmu n (hlt n o1 ho1)] at e ln;rw [hmu m (hlt m o2 ho2)] at e lm;exact hS.inj n m hn hm ln lm e
  . simp only at hn
    by_cases e1:n=st.k
    . subst e1;omega
    . rw [fD _ _ _ e1];exact hE.old n (by omega)
  . by_cases e1:n=st.k
    . subst e1
      rw [bK];exact .inl ⟨⟨by omega,Nat.lt_succ_self _⟩,λ h=>by cases h⟩
    . have hn:=hne n e1 hn
      obtain ⟨o1,ho1⟩:=Option.ne_none_iff_exists'.1 hn;rw [hmu n (hlt n o1 ho1)];rcases hE.names n hn with ⟨b1,b2⟩ | ⟨b1,b2⟩
      . exact .inl ⟨⟨b1.1,by have:=b1.2;show n<st.k+1;omega⟩,b2⟩
      . refine .inr ⟨λ h=> ?_,b2⟩
        have:n<st.k:=hlt n o1 ho1;exact b1 ⟨h.1,this⟩
theorem SW.uZ {N k0:Nat}{st:St}{Q:Exit->St->Prop}{s:cu}(x ty:Nat)(e sz:Nat)(ht:lk st.hp x=some (.box ty [.d .aN]))(h:SW P N k0 s ⟨st.env,(x,.box ty [.gs st.k 0])::(st.k,.arr e sz 0 [])::st.hp,st.k+1⟩ Q):SW P N k0 s st Q:=
 λ c hc rd hrf cR M0 w0 c0 a w fO=>h c hc rd hrf cR M0 w0 c0 a w (fO.uZ x ty e sz ht)
end
end Go.Sl
