/-
 From a law's contract to its row: what arguments read as, as shadow data.
-/
import Derived.Test.YtefjaphfnkbbkaaU6
import Derived.ProofKit
import Derived.OpenShut
import Derived.Carry
import Derived.ShutString
set_option linter.unusedSimpArgs false
set_option linter.unusedSectionVars false
set_option linter.unusedVariables false
namespace Go.Sl
open Go.RowKit Go.ChangeShapes Go.WideShapes
def wG (P:Program):Nat→List Field→Option Nat
 | o,[]=>some o
 | o,f::fs=>if f.offset=o then wG P (o+P.cellsOf f.type) fs else none
def Fit (P:Program):Nat→TypeId→List DV→Prop
 | 0,_,_=>False
 | d+1,t,ds=>match P.underlying t with
  | some .bool=>∃ b,ds=[.bool b]
  | some (.int k)=>∃ n,ds=[.int k n]∧(Lit.int k n).wf=true
  | some (.struct fs)=>ds.length=P.cellsOf t∧∀ f∈fs.toList,Fit P d f.type ((ds.drop f.offset).take (P.cellsOf f.type))
  | some (.array n e)=>ds.length=P.cellsOf t∧∀ i,i<n→Fit P d e ((ds.drop (i*P.cellsOf e)).take (P.cellsOf e))
  | some (.slice e)=>ds=[.ay]∨∃ n cs,ds=[.sl n cs]∧n≤9223372036854775807∧cs.length=n*P.cellsOf e∧∀ i,i<n→Fit P d e ((cs.drop (i*P.cellsOf e)).take (P.cellsOf e))
  | _=>False
def ij (P:Program):Nat→TypeId→Bool
 | 0,_=>false
 | d+1,t=>match P.underlying t with
  | some .bool=>P.cellsOf t == 1
  | some (.int _)=>P.cellsOf t == 1
  | some (.struct fs)=>(wG P 0 fs.toList == some (P.cellsOf t)) && fs.toList.all fun f=>ij P d f.type
  | some (.array n e)=>(P.cellsOf t == n*P.cellsOf e) && ij P d e
  | some (.slice e)=>(P.cellsOf t == 1) && ij P d e && decide (0<P.cellsOf e) && decide (0<P.bytesOf e)
  | _=>false
def jo (w:World):Mem:=fun b o=>w.cell? ⟨b,o,none⟩
def Cells (M:Mem):List Value→List DV→Prop
 | [],[]=>True
 | v::vs,d::ds=>bH M d v∧Cells M vs ds
 | _,_=>False
theorem Cells.length {M:Mem}:∀ {vs:List Value} {ds:List DV},Cells M vs ds→vs.length=ds.length
 | [],[],_=>rfl
 | v::vs,d::ds,h=>by simp only [Cells] at h;simp [h.2.length]
 | [],d::ds,h=>by simp [Cells] at h
 | v::vs,[],h=>by simp [Cells] at h
theorem Cells.append {M:Mem}:∀ {vs us:List Value} {ds es:List DV},Cells M vs ds→Cells M us es→Cells M (vs++us) (ds++es)
 | [],us,[],es,_,h=>by simpa using h
 | v::vs,us,d::ds,es,h,k=>by simp only [Cells] at h;simp only [List.cons_append,Cells];exact ⟨h.1,h.2.append k⟩
 | [],us,d::ds,es,h,_=>by simp [Cells] at h
 | v::vs,us,[],es,h,_=>by simp [Cells] at h
theorem Cells.Jg {M:Mem}{p:Nat→Prop}{μ:Nat→Nm}:∀ {vs:List Value} {ds:List DV},Cells M vs ds→aM p μ M (ds.map .d) vs
 | [],[],_=>aM.aN.2 rfl
 | v::vs,d::ds,h=>by simp only [Cells] at h;exact aM.aC.2 ⟨v,vs,rfl,Rp.bN.2 h.1,h.2.Jg⟩
 | [],d::ds,h=>by simp [Cells] at h
 | v::vs,[],h=>by simp [Cells] at h
theorem Cells.HO {w:World}{b:Nat}:∀ {vs:List Value} {ds:List DV} (q:Nat),Cells (jo w) vs ds→(∀ (i:Nat) (v:Value),vs[i]? =some v→w.cell? ⟨b,q+i,none⟩=some v)→cq (jo w) b q ds
 | [],[],q,_,_=>by simp [cq]
 | v::vs,d::ds,q,h,hc=>by
  simp only [Cells] at h
  simp only [cq]
  refine ⟨⟨v,by simpa [jo] using hc 0 v rfl,h.1⟩,Cells.HO (q+1) h.2 fun i u hi=> ?_⟩
  have:=hc (i+1) u (by simpa using hi)
  rwa [show q+(i+1)=q+1+i by omega] at this
 | [],d::ds,q,h,_=>by simp [Cells] at h
 | v::vs,[],q,h,_=>by simp [Cells] at h
section
variable {H:Type} {enc:TypeId×Value→H} {P:Program} {w:World} {sp:Nat→Bool} {held:Bool}
theorem ue:∀ {d:Nat} {t:TypeId} {ds:List DV},ij P d t=true→Fit P d t ds→ds.length=P.cellsOf t
 | 0,t,ds,h,_=>by simp [ij] at h
 | d +1,t,ds,h,hf=>by
  simp only [ij] at h
  simp only [Fit] at hf
  split at h
  ·rename_i hu;rw [hu] at hf;obtain ⟨b,rfl⟩:=hf;simp at h;simp [h]
  ·rename_i hu;rw [hu] at hf;obtain ⟨b,rfl,_⟩:=hf;simp at h;simp [h]
  ·rename_i hu;rw [hu] at hf;exact hf.1
  ·rename_i hu;rw [hu] at hf;exact hf.1
  ·rename_i hu;rw [hu] at hf
   simp at h
   rcases hf with rfl | ⟨n,cs,rfl,_⟩ <;> simp [h.1.1.1]
  ·cases h
theorem zA:∀ {fs:List Field} {o n:Nat},wG P o fs=some n→o≤n
 | [],o,n,h=>by simp [wG] at h;omega
 | f::fs,o,n,h=>by
  simp only [wG] at h
  split at h
  ·have:=zA h;omega
  ·cases h
mutual
def DV.small (B:Nat):DV→Prop
 | .sl n cs=>n≤B∧dY B cs
 | _=>True
def dY (B:Nat):List DV→Prop
 | []=>True
 | c::cs=>c.small B∧dY B cs
end
theorem dY.append {B:Nat}:∀ {cs ds:List DV},dY B cs→dY B ds→dY B (cs++ds)
 | [],_,_,h=>h
 | _::_,_,h,k=>by
  simp only [List.cons_append,dY] at h ⊢
  exact ⟨h.1,h.2.append k⟩
def yh (P:Program)(B:Nat)(t:TypeId)(y:DataW H):Prop:=∀ n,n∈y.weights P t→n≤B
def Sm (P:Program)(t:TypeId)(ds:List DV)(y:DataW H):Prop:=∀ (B:Nat),yh P B t y→dY B ds
theorem jq {P:Program}{e:TypeId}{n:Nat}:∀ {xs:List (DataW H)} {x:DataW H},x∈xs→n∈x.weights P e→n∈DataW.weightsAll P e xs
 | [],_,h,_=>by cases h
 | y::ys,x,h,hn=>by
  simp only [DataW.weightsAll,List.mem_append]
  rcases List.mem_cons.1 h with rfl | h
  ·exact .inl hn
  ·exact .inr (jq h hn)
theorem lS {P:Program}{n:Nat}:∀ {ts:List TypeId} {xs:List (DataW H)} {j:Nat} {t:TypeId} {x:DataW H},ts[j]? =some t→xs[j]? =some x→n∈x.weights P t→n∈DataW.weightsEach P ts xs
 | t0::ts,x0::xs,0,t,x,ht,hx,hn=>by
  simp at ht hx;subst ht;subst hx
  simp only [DataW.weightsEach,List.mem_append];exact .inl hn
 | t0::ts,x0::xs,j+1,t,x,ht,hx,hn=>by
  simp at ht hx
  simp only [DataW.weightsEach,List.mem_append];exact .inr (lS ht hx hn)
 | [],_,_,_,_,ht,_,_=>by simp at ht
 | _::_,[],_,_,_,_,hx,_=>by simp at hx
theorem yh.slice {P:Program}{B:Nat}{t e:TypeId}{es sp:List (DataW H)}(hu:P.underlying t=some (.slice e))(h:yh P B t (.slice es sp)):(0<P.bytesOf e→es.length≤B)∧∀ x,x∈es→yh P B e x:=by
 constructor
 ·intro hp
  have:=h ((es.length+sp.length)*P.bytesOf e) (by simp [DataW.weights,hu])
  have h2:es.length*1≤(es.length+sp.length)*P.bytesOf e:=Nat.mul_le_mul (by omega) hp
  omega
 ·intro x hx n hn
  exact h n (by simp only [DataW.weights,hu,List.mem_cons,List.mem_append];exact .inr (.inl (jq hx hn)))
theorem yh.struct {P:Program}{B:Nat}{t:TypeId}{fs:Array Field}{xs:List (DataW H)}(hu:P.underlying t=some (.struct fs))(h:yh P B t (.agg xs)){i:Nat}{f:Field}{x:DataW H}(hf:fs.toList[i]? =some f)(hx:xs[i]? =some x):yh P B f.type x:=fun n hn=>
 h n (by simp only [DataW.weights,hu];exact lS (j:=i) (by rw [List.getElem?_map,hf];rfl) hx hn)
theorem yh.array {P:Program}{B:Nat}{t e:TypeId}{k:Nat}{xs:List (DataW H)}(hu:P.underlying t=some (.array k e))(h:yh P B t (.agg xs)){x:DataW H}(hx:x∈xs):yh P B e x:=fun n hn=>
 h n (by simp only [DataW.weights,hu];exact jq hx hn)
theorem rR (d fuel:Nat)(cs:List Value)(Q:Field→DataW H→Prop)(part:∀ f:Field,ij P d f.type=true→∀ x,DataW.trod enc P w 0 sp held fuel f.type ((cs.drop f.offset).take (P.cellsOf f.type))=some x→
   ∃ ds,Fit P d f.type ds∧Cells (jo w) ((cs.drop f.offset).take (P.cellsOf f.type)) ds∧Sm P f.type ds x.1):
  ∀ (fs:List Field) (o n:Nat),wG P o fs=some n→n≤cs.length→(∀ f∈fs,ij P d f.type=true∧∃ x,DataW.trod enc P w 0 sp held fuel f.type ((cs.drop f.offset).take (P.cellsOf f.type))=some x∧Q f x.1)→
   ∃ ds,ds.length=n - o∧Cells (jo w) ((cs.drop o).take (n - o)) ds∧(∀ f∈fs,o≤f.offset∧Fit P d f.type ((ds.drop (f.offset - o)).take (P.cellsOf f.type)))∧∀ (B:Nat),(∀ f x,Q f x→yh P B f.type x)→dY B ds
 | [],o,n,h,_,_=>by
  simp [wG] at h
  subst h
  exact ⟨[],by simp,by simp [Cells],by simp,fun _ _=>trivial⟩
 | f ::fs,o,n,h,hn,hf=>by
  simp only [wG] at h
  split at h <;> first | (cases h;done) | skip
  rename_i ho
  have hle:=zA h
  obtain ⟨ds2,l2,c2,f2,s2⟩:=rR d fuel cs Q part fs _ n h hn fun g hg=>hf g (by simp [hg])
  obtain ⟨x1,hx1,hq1⟩:=(hf f (by simp)).2
  obtain ⟨ds1,f1,c1,s1⟩:=part f (hf f (by simp)).1 x1 hx1
  have l1:=ue (hf f (by simp)).1 f1
  refine ⟨ds1++ds2,by simp [l1,l2];omega,?_,?_,fun B hq=>(s1 B (hq _ _ hq1)).append (s2 B hq)⟩
  ·have:=c1.append c2
   rw [ho] at this
   have e:(cs.drop o).take (n - o)=(cs.drop o).take (P.cellsOf f.type)++(cs.drop (o+P.cellsOf f.type)).take (n - (o+P.cellsOf f.type)):=by
    rw [← List.drop_drop,show n - o=P.cellsOf f.type+(n - (o+P.cellsOf f.type)) by omega,List.take_add]
   rw [e];exact this
  ·intro g hg
   rcases List.mem_cons.1 hg with rfl | hg
   ·refine ⟨by omega,?_⟩
    rw [show g.offset - o=0 by omega,List.drop_zero,List.take_left' l1]
    exact f1
   ·obtain ⟨q1,q2⟩:=f2 g hg
    refine ⟨by omega,?_⟩
    rw [List.drop_append,List.drop_eq_nil_of_le (by omega),List.nil_append,l1,show g.offset - o - P.cellsOf f.type=g.offset - (o+P.cellsOf f.type) by omega]
    exact q2
theorem pT (d:Nat)(e:TypeId)(he:ij P d e=true)(cell:Nat→List Value)(Q:DataW H→Prop):∀ (n k:Nat),(∀ i,i<n→∃ ds,Fit P d e ds∧Cells (jo w) (cell (k+i)) ds∧∃ x,Q x∧Sm P e ds x)→
  ∃ ds,ds.length=n*P.cellsOf e∧Cells (jo w) ((List.range' k n).flatMap cell) ds∧(∀ i,i<n→Fit P d e ((ds.drop (i*P.cellsOf e)).take (P.cellsOf e)))∧∀ (B:Nat),(∀ x,Q x→yh P B e x)→dY B ds
 | 0,k,_=>⟨[],by simp,by simp [Cells],by omega,fun _ _=>trivial⟩
 | n + 1,k,h=>by
  obtain ⟨ds1,f1,c1,x1,hq1,s1⟩:=h 0 (by omega)
  have l1:=ue he f1
  obtain ⟨ds2,l2,c2,f2,s2⟩:=pT d e he cell Q n (k+1) fun i hi=>by
   have:=h (i+1) (by omega)
   rwa [show k+(i+1)=k+1+i by omega] at this
  refine ⟨ds1++ds2,by simp [l1,l2,Nat.add_mul];omega,?_,fun i hi=> ?_,fun B hq=>(s1 B (hq _ hq1)).append (s2 B hq)⟩
  ·rw [List.range'_succ,List.flatMap_cons]
   exact c1.append c2
  ·cases i with
   | zero=>simp [List.take_left' l1];exact f1
   | succ i=>
    rw [Nat.add_mul,Nat.one_mul,Nat.add_comm,← List.drop_drop,List.drop_left' l1]
    exact f2 i (by omega)
theorem mN {b o n:Nat}{base:Nat}{cs:List Value}(h:w.cells? base ⟨b,o,none⟩ n=some cs):cs.length=n∧∀ (i:Nat) (v:Value),cs[i]? =some v→w.cell? ⟨b,o+i,none⟩=some v:=by
 obtain ⟨_,h1,h2⟩:=World.cells?_some h
 refine ⟨h1,fun i v hi=> ?_⟩
 have hlt:i<n:=by
  have:=(List.getElem?_eq_some_iff.1 hi).1;omega
 have:=h2 i hlt
 rw [de] at this
 rw [this];exact hi
theorem BX : ∀ (d fuel:Nat) (t:TypeId) (cs:List Value) (x:DataW H×List MemPlace),ij P d t=true→DataW.trod enc P w 0 sp held fuel t cs=some x→∃ ds,Fit P d t ds∧Cells (jo w) cs ds∧Sm P t ds x.1:=by
  intro d
  induction d with
  | zero=>intro fuel t cs x h;simp [ij] at h
  | succ d ih =>
    intro fuel t cs x h hx
    simp only [ij] at h
    simp only [Fit]
    split at h
    · rename_i hu
      (try rw [hu])
      obtain ⟨b,rfl,_⟩:=DataW.trod_bool hu hx
      exact ⟨[.bool b],⟨b,rfl⟩,by simp [Cells,bH],fun _ _=>by simp [dY,DV.small]⟩
    · rename_i k hu
      (try rw [hu])
      obtain ⟨n,rfl,_,hw⟩:=DataW.trod_int hu hx
      exact ⟨[.int k n],⟨n,rfl,hw⟩,by simp [Cells,bH],fun _ _=>by simp [dY,DV.small]⟩
    · rename_i fs hu
      (try rw [hu])
      simp only [Bool.and_eq_true,beq_iff_eq,List.all_eq_true] at h
      obtain ⟨xs,n,hn,hxe,hl,hxl,hf⟩:=DataW.trod_struct hu hx
      obtain ⟨ds,l1,c1,f1,s1⟩:=rR d n cs (fun f x=>∃ i,fs.toList[i]? =some f∧(xs.map (·.1))[i]? =some x) (fun f hft y hy=>ih n f.type _ y hft hy) fs.toList 0 (P.cellsOf t) h.1 (by omega) fun f hf'=>by
        refine ⟨h.2 f hf',?_⟩
        obtain ⟨i,hi,e⟩:=List.getElem_of_mem hf'
        have hfi:fs[i]? =some f:=by
          have hi':i<fs.size:=by simpa using hi
          rw [Array.getElem?_eq_getElem hi'];simpa using e
        have:=hf i f hfi
        have hix:i<xs.length:=by rw [hxl];simpa using hi
        exact ⟨_,this.trans (List.getElem?_eq_getElem hix),i,by rw [Array.getElem?_toList];exact hfi,by rw [List.getElem?_map,List.getElem?_eq_getElem hix];rfl⟩
      refine ⟨ds,⟨by simpa using l1,fun f hf'=>by simpa using (f1 f hf').2⟩,?_,fun B hq=>s1 B fun f x ⟨i,h1,h2⟩=>yh.struct hu (by rw [hxe] at hq;exact hq) h1 h2⟩
      rw [List.drop_zero,Nat.sub_zero,List.take_of_length_le (by omega)] at c1
      exact c1
    · rename_i n e hu
      (try rw [hu])
      simp only [Bool.and_eq_true,beq_iff_eq] at h
      obtain ⟨xs,m,hm,hxe,hl,hxl,hf⟩:=DataW.trod_array hu hx
      obtain ⟨ds,l1,c1,f1,s1⟩:=pT d e h.2 (fun i=>(cs.drop (i*P.cellsOf e)).take (P.cellsOf e)) (fun x=>x∈xs.map (·.1)) n 0 fun i hi=>by
        have:=hf i hi
        have hix:i<xs.length:=by omega
        rw [Nat.zero_add]
        obtain ⟨ds,a1,a2,a3⟩:=ih m e _ _ h.2 (this.trans (List.getElem?_eq_getElem hix))
        exact ⟨ds,a1,a2,_,List.mem_map.2 ⟨_,List.getElem_mem hix,rfl⟩,a3⟩
      have hfl:∀ (n k:Nat) (cs:List Value),(k+n)*P.cellsOf e≤cs.length→(List.range' k n).flatMap (fun i=>(cs.drop (i*P.cellsOf e)).take (P.cellsOf e))=(cs.drop (k*P.cellsOf e)).take (n*P.cellsOf e):=by
        intro n
        induction n with
        | zero=>intro k cs _;simp
        | succ n ihn=>
          intro k cs hk
          rw [List.range'_succ,List.flatMap_cons,ihn (k+1) cs (by rwa [show k+1+n=k+(n+1) by omega])]
          rw [show (n+1)*P.cellsOf e=P.cellsOf e+n*P.cellsOf e by rw [Nat.add_mul];omega,List.take_add,List.drop_drop]
          rw [show k*P.cellsOf e+P.cellsOf e=(k+1)*P.cellsOf e by rw [Nat.add_mul];omega]
      refine ⟨ds,⟨by rw [l1,h.1],f1⟩,?_,fun B hq=>s1 B fun x hx'=>yh.array hu (by rw [hxe] at hq;exact hq) hx'⟩
      rw [hfl n 0 cs (by rw [hl,h.1];simp)] at c1
      rw [Nat.zero_mul,List.drop_zero,List.take_of_length_le (by rw [hl,h.1];exact Nat.le_refl _)] at c1
      exact c1
    · rename_i e hu
      (try rw [hu])
      simp only [Bool.and_eq_true,beq_iff_eq,decide_eq_true_eq] at h
      rcases DataW.trod_slice hu hx with ⟨rfl,_⟩ | ⟨a,len,cap,elems,rest,n,hn,rfl,hxe,_,hlc,hcm,hel,hf,_⟩
      · exact ⟨[.ay],.inl rfl,by simp [Cells,bH],fun _ _=>by simp [dY,DV.small]⟩
      · have hspot:0<len→a.spot=none:=by
          intro hpos
          have:=hf 0 hpos
          rw [show elems[0]? =some (elems[0]'(by omega)) from List.getElem?_eq_getElem (by omega)] at this
          obtain ⟨c0,h0,_⟩:=Option.bind_eq_some_iff.1 this
          obtain ⟨_,h1,h2⟩:=World.cells?_some h0
          have h3:=h2 0 h.1.2
          simp only [Nat.zero_mul] at h3
          have e0:(a.add 0).add 0=a:=by simp [Addr.add]
          rw [e0] at h3
          have hsome:c0[0]? =some (c0[0]'(by omega)):=List.getElem?_eq_getElem (by omega)
          rw [hsome] at h3
          unfold World.cell? at h3
          split at h3
          · split at h3
            · cases h3
            · rename_i hs;simpa using hs
          · cases h3
        have hA:0<len→a=⟨a.block,a.off,none⟩:=fun hpos=>by
          have:=hspot hpos
          obtain ⟨b,o,s⟩:=a
          simp at this
          subst this;rfl
        have hcell:∀ i,i<len→∃ c,w.cells? 0 (a.add (i*P.cellsOf e)) (P.cellsOf e)=some c∧∃ ds,Fit P d e ds∧Cells (jo w) c ds∧∃ x,x∈elems.map (·.1)∧Sm P e ds x:=by
          intro i hi
          have:=hf i hi
          rw [List.getElem?_eq_getElem (show i<elems.length by omega)] at this
          obtain ⟨c,h0,h1⟩:=Option.bind_eq_some_iff.1 this
          obtain ⟨ds,a1,a2,a3⟩:=ih n e c _ h.1.1.2 h1
          exact ⟨c,h0,ds,a1,a2,_,List.mem_map.2 ⟨_,List.getElem_mem (by omega),rfl⟩,a3⟩
        let cell:Nat→List Value:=fun i=>((w.cells? 0 (a.add (i*P.cellsOf e)) (P.cellsOf e)).getD [])
        have j_:∀ i,i<len→w.cells? 0 (a.add (i*P.cellsOf e)) (P.cellsOf e)=some (cell i):=fun i hi=>by
          obtain ⟨c,h0,_⟩:=hcell i hi
          simp only [cell];rw [h0];rfl
        obtain ⟨ds,l1,c1,f1,s1⟩:=pT d e h.1.1.2 cell (fun x=>x∈elems.map (·.1)) len 0 fun i hi=>by
          obtain ⟨c,h0,h1⟩:=hcell i hi
          rw [Nat.zero_add]
          simp only [cell];rw [h0];exact h1
        refine ⟨[.sl len ds],.inr ⟨len,ds,rfl,by unfold maxLen at hcm;omega,l1,f1⟩,?_,fun B hq=> ?_⟩
        rotate_left
        · rw [hxe] at hq
          simp only [dY,DV.small,and_true]
          obtain ⟨g1,g2⟩:=yh.slice hu hq
          have:=g1 h.2
          rw [List.length_map,hel] at this
          exact ⟨this,s1 B fun x hx'=>g2 x hx'⟩
        simp only [Cells,bH,and_true]
        refine ⟨some a,cap,rfl,hlc,fun h0=> ?_,fun hpos=>⟨a.block,a.off,by rw [← hA hpos],?_⟩⟩
        · subst h0;simp at l1;exact l1
        · refine Cells.HO a.off c1 fun i v hi=> ?_
          have key:∀ (n k i:Nat) (v:Value),k+n≤len→((List.range' k n).flatMap cell)[i]? =some v→w.cell? ⟨a.block,a.off+k*P.cellsOf e+i,none⟩=some v:=by
            intro n
            induction n with
            | zero=>intro k i v _ h;simp at h
            | succ n ihn=>
              intro k i v hk hv
              rw [List.range'_succ,List.flatMap_cons] at hv
              have hck:=j_ k (by omega)
              rw [hA (by omega),de] at hck
              obtain ⟨g1,g2⟩:=mN hck
              by_cases hlt:i<(cell k).length
              · rw [List.getElem?_append_left hlt] at hv
                exact g2 i v hv
              · rw [List.getElem?_append_right (by omega),g1] at hv
                have:=ihn (k+1) (i - P.cellsOf e) v (by omega) hv
                rwa [show a.off+(k+1)*P.cellsOf e+(i - P.cellsOf e)=a.off+k*P.cellsOf e+i by rw [Nat.add_mul];omega] at this
          have:=key len 0 i v (by omega) hi
          simpa using this
    · cases h
def jP (P:Program)(t:TypeId)(ds:List DV):SV:=
 match dg P t with
 | some (some _)=> .agg (ds.map .d)
 | _=> .d (ds.headD .ow)
def l9 (P:Program)(d:Nat):List TypeId→List (List DV)→Prop
 | [],[]=>True
 | t::ts,x::xs=>Fit P d t x∧l9 P d ts xs
 | _,_=>False
def kT (P:Program):List TypeId→List (List DV)→List SV
 | t::ts,x::xs=>jP P t x::kT P ts xs
 | _,_=>[]
def nL (P:Program)(d:Nat)(ts:List TypeId):Bool:=ts.all fun t=>ij P d t && (P.readableRec t && decide (t<P.types.size))
theorem Ef {t:TypeId}{v:Value}{d:Nat}{x:DataW H}{ps:List MemPlace}{r:Reach}{b0:Nat}(hf:ij P d t=true)(hv:Value.okWide P w r b0 t v)(h:DataW.Trod enc P w 0 sp held t v x ps)(p:Nat→Prop)(μ:Nat→Nm):
  ∃ ds,Fit P d t ds∧Rp p μ (jo w) (jP P t ds) v∧Sm P t ds x:=by
 obtain ⟨fuel,hx⟩:=h
 obtain ⟨ds,h1,h2,h3⟩:=BX d fuel t _ _ hf hx
 refine ⟨ds,h1,?_,h3⟩
 have hinfo:∃ i,P.info? t=some i:=by
  cases hi:P.info? t with
  | some i=>exact ⟨i,rfl⟩
  | none=>
   exfalso
   cases d with
   | zero=>simp [ij] at hf
   | succ d=>simp [ij,Program.underlying,hi] at hf
 obtain ⟨i,hi⟩:=hinfo
 have one:∀ (hs:dg P t=some none) (HP:v.cells.toList=[v]),Rp p μ (jo w) (jP P t ds) v:=by
  intro hs HP
  rw [HP] at h2
  match ds,h2 with
  | [y],h2=>
   simp only [Cells] at h2
   simp only [jP,hs,List.headD_cons]
   exact Rp.bN.2 h2.1
  | [],h2=>simp [Cells] at h2
  | y::z::r,h2=>simp [Cells] at h2
 have agg:∀ (n:Nat) (hs:dg P t=some (some n)) (cs:Array Value) (HP:v= .agg cs),Rp p μ (jo w) (jP P t ds) v:=by
  intro n hs cs HP
  subst HP
  simp only [jP,hs]
  exact Rp.dh.2 ⟨cs,rfl,Cells.Jg h2⟩
 cases d with
 | zero=>simp [ij] at hf
 | succ d=>
  simp only [ij] at hf
  split at hf
  ·rename_i hu
   obtain ⟨b,rfl⟩:=okWide_bool hu hv
   exact one (by simp [dg,hu,hi]) rfl
  ·rename_i hu
   obtain ⟨b,rfl⟩:=okWide_int hu hv
   exact one (by simp [dg,hu,hi]) rfl
  ·rename_i fs hu
   obtain ⟨cs,rfl,_⟩:=okWide_struct hu hv
   exact agg i.size (by simp [dg,hu,hi]) cs rfl
  ·rename_i n e hu
   unfold Value.okWide at hv
   rw [hu] at hv
   obtain ⟨cs,rfl,_⟩:=hv
   exact agg i.size (by simp [dg,hu,hi]) cs rfl
  ·rename_i e hu
   obtain ⟨a,len,cap,rfl⟩:=okWide_slice hu hv
   exact one (by simp [dg,hu,hi]) rfl
  ·cases hf
theorem wH {d:Nat}{r:Reach}{b0:Nat}(p:Nat→Prop)(μ:Nat→Nm):∀ (ts:List TypeId) (vs:List Value) (xs:List (DataW H)) (ps:List MemPlace),nL P d ts=true→DataW.TrodAll enc P w 0 sp held ts vs xs ps→
  (∀ (j:Nat) t v,ts[j]? =some t→vs[j]? =some v→Value.okWide P w r b0 t v)→∃ lY,l9 P d ts lY∧aM p μ (jo w) (kT P ts lY) vs∧xs.length=ts.length∧∀ (B:Nat),(∀ n,n∈DataW.weightsEach P ts xs→n≤B)→∀ ds,ds∈lY→dY B ds
 | [],vs,xs,ps,_,h,_=>by
  obtain ⟨rfl,rfl,_⟩:=trodAll_nil h
  exact ⟨[],trivial,aM.aN.2 rfl,rfl,fun _ _ _ h=>by cases h⟩
 | t::ts,vs,xs,ps,hf,h,hv=>by
  obtain ⟨v,vs',x,xs',p1,p2,rfl,rfl,rfl,h1,h2⟩:=trodAll_cons h
  simp only [nL,List.all_cons,Bool.and_eq_true] at hf
  obtain ⟨ds,a1,a2,a3⟩:=Ef (P:=P) hf.1.1 (hv 0 t v rfl rfl) h1 p μ
  obtain ⟨lY,b1,b2,b3,b4⟩:=wH p μ ts vs' xs' p2 (by simpa [nL] using hf.2) h2 fun j t' v' ht hv'=>hv (j+1) t' v' (by simpa using ht) (by simpa using hv')
  refine ⟨ds::lY,⟨a1,b1⟩,aM.aC.2 ⟨v,vs',rfl,a2,b2⟩,by simp [b3],fun B hq ds' hd=> ?_⟩
  rcases List.mem_cons.1 hd with rfl | hd
  ·exact a3 B fun n hn=>hq n (by simp only [DataW.weightsEach,List.mem_append];exact .inl hn)
  ·exact b4 B (fun n hn=>hq n (by simp only [DataW.weightsEach,List.mem_append];exact .inr hn)) ds' hd
theorem nt {d:Nat}(hl:laidOutB P=true){W W':World}{sp':Nat→Bool}:∀ (ts:List TypeId) (vs:List Value) (xs:List (DataW H)) (ps:List MemPlace),nL P d ts=true→DataW.TrodAll enc P W 0 (fun _=>true) true ts vs xs ps→
  (∀ x∈ps,W.sameAt W' x)→(∀ x∈ps,sp' x.block=true)→DataW.TrodAll enc P W' 0 sp' true ts vs xs ps
 | [],vs,xs,ps,_,h,_,_=>by
  obtain ⟨rfl,rfl,rfl⟩:=trodAll_nil h
  exact trodAll_mk0
 | t ::ts,vs,xs,ps,hf,h,hs,hp=>by
  obtain ⟨v,vs',x,xs',p1,p2,rfl,rfl,rfl,h1,h2⟩:=trodAll_cons h
  simp only [nL,List.all_cons,Bool.and_eq_true,decide_eq_true_eq] at hf
  exact trodAll_cons_mk (WideElems.Trod_stays hl hf.1.2.1 hf.1.2.2 h1 (fun q hq=>hs q (by simp [hq])) (fun q hq=>hp q (by simp [hq])))
   (nt hl ts vs' xs' p2 (by simpa [nL] using hf.2) h2 (fun q hq=>hs q (by simp [hq])) (fun q hq=>hp q (by simp [hq])))
theorem tM {f:Func}{s:ChangeSpec}{apart fresh handsOn again:Bool}{W W':World}{args:Array Value}{v:Value}{ds gs:List (DataW H)}{before pa pv:List MemPlace}
  (hW:DataW.Whole enc P f.params.toList s.vars apart W args.toList ds gs before)
  (hres:∀ (b:Nat) (sp:Nat→Bool) (hd:Bool),DataW.TrodAll enc P W' b sp hd f.resultTypes.toList (v.resultList f.resultTypes.size) (s.fn H (ds++gs)).results [])
  (hargs:∀ sp:Nat→Bool,(∀ p∈before,sp p.block=true)→DataW.TrodAll enc P W' 0 sp true f.params.toList args.toList (s.fn H (ds++gs)).args pa)
  (hvars:∀ sp:Nat→Bool,(∀ p∈before,sp p.block=true)→DataW.TrodVars enc P W' sp s.vars (s.fn H (ds++gs)).vars pv)
  (hps:before=pa++pv) (hb:Below W.heap.size W W')
  (hok:∀ (j:Nat) (t:TypeId) (r:Value),f.resultTypes[j]? =some t→(v.resultList f.resultTypes.size)[j]? =some r→Value.okWide P W' .any 0 t r):
  s.post enc P f apart fresh handsOn again W args v W':=by
 have hlt:∀ p∈before,p.block<W.heap.size:=fun p hp=>hW.lt p hp
 have hold:∀ p∈before,(fun b=>decide (b<W.heap.size)) p.block=true:=fun p hp=>by simpa using hlt p hp
 refine ⟨ds,gs,before,[],pa,pv,hW,hres _ _ _,hargs _ hold,hvars _ hold,World.keptBut_mono (fun p hp=>⟨hp,?_⟩) (hb.frame (· ∈before)),fun _=> ?_⟩
 ·rw [hps,List.mem_append] at hp
  exact Or.inr hp
 ·obtain ⟨_,_,_,_,_,hz,hn⟩:=hW
  refine ⟨hok,_,_,([]++pa)++pv,⟨[]++pa,pv,trodAll_append (hargs _ (fun _ _=>rfl)) (hres _ _ _),hvars _ (fun _ _=>rfl),rfl,?_,?_⟩,?_⟩
  ·intro b off hp
   have hin:MemPlace.cell b off∈before:=by rw [hps];simpa using hp
   rw [hb.frozen (hlt _ hin)]
   exact hz b off hin
  ·intro ha
   have:=hn ha
   rw [hps] at this
   simpa using this
  ·intro p hp _
   rw [hps]
   simpa using hp
theorem pU {f:FuncId}{fn:Func}{spec:ChangeSpec}{tb:TypeId}(d:Nat)(hl:laidOutB P=true)(hts:nL P d fn.params.toList=true)(hres:fn.resultTypes= #[tb])(htb:P.underlying tb=some .bool)(hvars:spec.vars=[])
  (HQ:∀ ds:List (DataW H),ds.length=fn.params.toList.length→(spec.fn H ds).results=[.lit (.bool true)]∧(spec.fn H ds).args=ds∧(spec.fn H ds).vars=[])
  (B:Nat)
  (IX:∀ lY,l9 P d fn.params.toList lY→(∀ ds,ds∈lY→dY B ds)→SB P f (kT P fn.params.toList lY) [] 0 0 fun r F=>r=bl true)
  (W:World) (base:Nat) (args:Array Value) (ds gs:List (DataW H)) (before:List MemPlace)
  (hval:∀ (j:Nat) t v,fn.params[j]? =some t→args[j]? =some v→Value.okWide P W .any base t v)
  (hW:DataW.Whole enc P fn.params.toList spec.vars false W args.toList ds gs before) (hG:nD (jo W)) (hB:∀ n,n∈DataW.weightsEach P fn.params.toList ds→n≤B):
  Calls P f args W fun e W'=>∃ v,e= .returned v∧spec.post enc P fn false true false false W args v W':=by
 have hW':=hW
 obtain ⟨p,q,hA,hV,rfl,hfz,hnd⟩:=hW
 rw [hvars] at hV
 obtain ⟨rfl,rfl⟩:=trodVars_none hV
 obtain ⟨lY,h1,h2,h3,h4⟩:=wH (P:=P) (d:=d) (fun n=>n<0) (fun _=>⟨0,0,true⟩) fn.params.toList args.toList ds p hts hA fun j t v ht hv=>hval j t v (by simpa using ht) (by simpa using hv)
 refine ((IX lY h1 (h4 B hB)).2.2.2 (fun _=>⟨0,0,true⟩) (jo W) W args h2 ⟨⟨fun b o v h=>h,hG⟩,fun n ob h=>by simp [bA] at h,fun n m h=>by simp [bA] at h⟩).mono ?_
 rintro e W' ⟨r,F',aY,M',u,rfl,rfl,_,_,hr,_,hE⟩
 have hu:u= .bool true:=by simpa [bY,bH] using hr
 subst hu
 have hb:Below W.heap.size W W':=⟨hE.os,hE.tape.1,hE.output,hE.size,fun b hb=>(hE.frame b hb fun n hn=>by simp [bA] at hn).1⟩
 obtain ⟨s1,s2,s3⟩:=HQ (ds++[]) (by simpa using h3)
 refine ⟨_,rfl,tM (pa:=p) (pv:=[]) hW' (fun b sp hd=> ?_) (fun sp hsp=> ?_) (fun sp hsp=> ?_) rfl hb ?_⟩
 ·rw [s1,hres]
  exact trodAll_cons_mk (shut_bool htb _) trodAll_mk0
 ·rw [s2]
  simp only [List.append_nil] at hsp ⊢
  exact nt hl _ _ _ _ hts hA (fun x hx=>hb.same (hW'.lt x (by simpa using hx))) hsp
 ·rw [hvars,s3]
  rfl
 ·exact ok_one hres rfl (okWide_bool_mk htb _)
end
end Go.Sl
namespace Go.Sl
open Go.RowKit
mutual
def SV.gu (n len:Nat)(ds:List DV):SV→SV
 | .gs m l=>if m=n then (if l=len then .d (.sl len ds) else .any) else .gs m l
 | .agg cs=> .agg (SV.gV n len ds cs)
 | .cg cs=> .cg (SV.gV n len ds cs)
 | s=>s
def SV.gV (n len:Nat)(ds:List DV):List SV→List SV
 | []=>[]
 | c::cs=>c.gu n len ds::SV.gV n len ds cs
end
def kU (n len:Nat)(ds:List DV)(env:List (Nat×SV)):List (Nat×SV):=env.map fun x=>(x.1,x.2.gu n len ds)
theorem jr (n len:Nat)(ds:List DV):∀ (env:List (Nat×SV)) (t:Nat),(kU n len ds env).lookup t=(env.lookup t).map (SV.gu n len ds)
 | [],t=>rfl
 | (q,s)::env,t=>by
  simp only [kU,List.map_cons,List.lookup]
  cases t == q
  ·exact jr n len ds env t
  ·rfl
mutual
theorem SV.mO {p:Nat→Prop}{μ:Nat→Nm}{M:Mem}{n len:Nat}{ds:List DV}(hg:∀ v,Rp p μ M (.gs n len) v→Rp p μ M (.d (.sl len ds)) v):∀ (s:SV) (v:Value),Rp p μ M s v→Rp p μ M (s.gu n len ds) v
 | .gs m l,v,h=>by
  simp only [SV.gu]
  split
  ·rename_i e;subst e
   split
   ·rename_i e;subst e
    exact hg v h
   ·exact Rp.any
  ·exact h
 | .agg cs,v,h=>by
  obtain ⟨vs,e,h1⟩:=Rp.dh.1 h
  simp only [SV.gu]
  exact Rp.dh.2 ⟨vs,e,SV.oM hg cs _ h1⟩
 | .cg cs,v,h=>by
  obtain ⟨vs,e,h1⟩:=Rp.dI.1 h
  simp only [SV.gu]
  exact Rp.dI.2 ⟨vs,e,SV.oM hg cs _ h1⟩
 | .d _,v,h=>h
 | .ptr _ _,v,h=>h
 | .vp _ _,v,h=>h
 | .bs _ _ _,v,h=>h
 | .mp _,v,h=>h
 | .it _,v,h=>h
 | .yl _,v,h=>h
 | .fn _ _ _,v,h=>h
 | .any,v,h=>h
theorem SV.oM {p:Nat→Prop}{μ:Nat→Nm}{M:Mem}{n len:Nat}{ds:List DV}(hg:∀ v,Rp p μ M (.gs n len) v→Rp p μ M (.d (.sl len ds)) v):∀ (s:List SV) (v:List Value),aM p μ M s v→aM p μ M (SV.gV n len ds s) v
 | [],v,h=>h
 | c::cs,v,h=>by
  obtain ⟨u,us,e,h1,h2⟩:=aM.aC.1 h
  simp only [SV.gV]
  exact aM.aC.2 ⟨u,us,e,SV.mO hg c u h1,SV.oM hg cs us h2⟩
end
theorem aM.Fo {p:Nat→Prop}{μ:Nat→Nm}{M:Mem}{ds:List DV}{vs:List Value}(h:aM p μ M (ds.map .d) vs){i:Nat}{x:DV}(hi:ds[i]? =some x):∃ u,vs[i]? =some u∧bH M x u:=by
 obtain ⟨u,hu,hr⟩:=h.get (i:=i) (c:= .d x) (by simp [hi])
 exact ⟨u,hu,Rp.bN.1 hr⟩
section
variable {P:Program} {N k0:Nat} {st:St} {Q:Exit→St→Prop}
theorem gl.freeze {bT:Nat→Nm}{M0:Mem}{w0:World}{c0:Nat→Option Ob}{a:Act}{w:World}(n:Nat){e sz len:Nat}{cs:List SV}{ds:List DV}(hn:lk st.hp n=some (.arr e sz len cs))(hcs:cs=ds.map .d)
    (h:gl N bT M0 w0 c0 k0 st a w):gl N bT M0 w0 c0 k0 ⟨kU n len ds st.env,dx st.hp n,st.k⟩ a w:=by
  subst hcs
  obtain ⟨hk0,hdf,hsz,μ,M,f_,hS,hE⟩:=h
  obtain ⟨hpn,aZ,hMn⟩:=hS.obs n _ hn
  rcases aZ with ⟨hdead,hl0,hds⟩ | ⟨hlive,vs,hb,DJ,hl2,Hg,hl4,hr⟩
  · have hd0:ds=[]:=by simpa using hds
    subst hd0;subst hl0
    have hg:∀ v,Rp (· <st.k) μ M (.gs n 0) v→Rp (· <st.k) μ M (.d (.sl 0 [])) v:=fun v hv=>by
      refine Rp.bN.2 ?_
      simp only [bH]
      obtain ⟨h,_⟩ | ⟨_,_,A,e1⟩:=hv.iZ
      · rw [hdead] at h;cases h
      · exact ⟨A,0,e1,Nat.le_refl _,fun _=>trivial,fun h=>absurd h (Nat.lt_irrefl _)⟩
    have hsub:∀ m ob,lk (dx st.hp n) m=some ob→lk st.hp m=some ob:=fun m ob hm=>by
      rw [eM] at hm
      split at hm
      · cases hm
      · exact hm
    refine ⟨hk0,hdf,hsz,μ,M,fun t s hs=> ?_,hS.sub hsub,hE.vX fun m hm=> ?_⟩
    · rw [jr] at hs
      obtain ⟨s',hs',rfl⟩:=Option.map_eq_some_iff.1 hs
      exact SV.mO hg s' _ (f_ t s' hs')
    · obtain ⟨o1,ho1⟩:=Option.ne_none_iff_exists'.1 hm
      rw [hsub m o1 ho1];simp
  have hMn:=hMn hlive
  have hlen:ds.length=len*sz:=by simpa using DJ
  let M':Mem:=fun b o=>if b=(μ n).blk then (if o<len*sz then vs[o]? else none) else M b o
  have hne:∀ b,b≠(μ n).blk→∀ o,M' b o=M b o:=fun b hb o=>by simp [M',hb]
  have hle:Mem.le M M':=fun b o v hv=>by
    have:b≠(μ n).blk:=fun e=>by rw [e,hMn] at hv;cases hv
    rw [hne b this];exact hv
  have hoth:∀ m,lk st.hp m≠none→m≠n→(μ m).live=true→(μ m).blk≠(μ n).blk:=fun m hm hmn lm e=>hmn (hS.inj m n hm (by rw [hn];simp) lm hlive e)
  have hsub:∀ m ob,lk (dx st.hp n) m=some ob→lk st.hp m=some ob∧m≠n:=fun m ob hm=>by
    rw [eM] at hm
    split at hm
    · cases hm
    · rename_i e;exact ⟨hm,e⟩
  have hg:∀ v,Rp (· <st.k) μ M' (.gs n len) v→Rp (· <st.k) μ M' (.d (.sl len ds)) v:=fun v hv=>by
    obtain ⟨_,e1⟩ | ⟨h,_⟩:=hv.iZ
    rotate_left
    · rw [hlive] at h;cases h
    refine Rp.bN.2 ?_
    simp only [bH]
    refine ⟨_,_,e1,hl2,fun h0=> ?_,fun _=>⟨_,_,rfl,cq.mk fun i c hi=> ?_⟩⟩
    · subst h0
      simp at hlen
      exact hlen
    · obtain ⟨u,hu,hru⟩:=hr.Fo hi
      have hil:i<len*sz:=by rw [← hlen];exact (List.getElem?_eq_some_iff.1 hi).1
      refine ⟨u,?_,bH.mono hle _ _ hru⟩
      rw [List.getElem?_take_of_lt hil] at hu
      simp only [M',if_true,Nat.zero_add,hil]
      simpa using hu
  refine ⟨hk0,hdf,hsz,μ,M',fun t s hs=> ?_,⟨⟨fun b o v hv=> ?_,hS.mem.jK.le hle⟩,fun m ob hm=> ?_,fun m m' hm hm' lm lm' e=> ?_⟩,⟨hE.old,Mem.le_trans hE.mem hle,fun b hb0 hf=> ?_,hE.size,fun m hm=> ?_,hE.os,hE.tape,hE.output⟩⟩
  · rw [jr] at hs
    obtain ⟨s',hs',rfl⟩:=Option.map_eq_some_iff.1 hs
    exact SV.mO hg s' _ ((f_ t s' hs').more (fun _ h=>h) (fun _ _=>rfl) hle)
  · by_cases hbn:b=(μ n).blk
    · subst hbn
      simp only [M',if_true] at hv
      split at hv
      · rw [cell_of hb];exact hv
      · cases hv
    · rw [hne b hbn] at hv
      exact hS.mem b o v hv
  · obtain ⟨hm1,hmn⟩:=hsub m ob hm
    obtain ⟨a1,a2,a3⟩:=hS.obs m ob hm1
    refine ⟨a1,a2.more (fun _ h=>h) (fun _ _=>rfl) hle fun _=>rfl,fun lm o=> ?_⟩
    rw [hne _ (hoth m (by rw [hm1];simp) hmn lm)]
    exact a3 lm o
  · obtain ⟨o1,ho1⟩:=Option.ne_none_iff_exists'.1 hm
    obtain ⟨o2,ho2⟩:=Option.ne_none_iff_exists'.1 hm'
    exact hS.inj m m' (by rw [(hsub m o1 ho1).1];simp) (by rw [(hsub m' o2 ho2).1];simp) lm lm' e
  · have hbn:b≠(μ n).blk:=fun e=>by
      rcases hE.names n (by rw [hn];simp) with ⟨_,hh⟩ | ⟨h,h'⟩
      · rcases hh hlive with h | ⟨m,hm,lm,e'⟩
        · omega
        · exact hf m hm lm (e'.trans e.symm)
      · rw [hE.old n h] at e hlive
        exact hf n h' hlive e.symm
    obtain ⟨f1,f2⟩:=hE.frame b hb0 hf
    exact ⟨f1,fun o=>by rw [hne b hbn];exact f2 o⟩
  · obtain ⟨o1,ho1⟩:=Option.ne_none_iff_exists'.1 hm
    exact hE.names m (by rw [(hsub m o1 ho1).1];simp)
theorem SW.freeze {s:cG}(n:Nat){e sz len:Nat}{cs:List SV}(ds:List DV)(hn:lk st.hp n=some (.arr e sz len cs))(hcs:cs=ds.map .d)(h:SW P N k0 s ⟨kU n len ds st.env,dx st.hp n,st.k⟩ Q):SW P N k0 s st Q:=
 fun c hc rd hrf bT M0 w0 c0 a w eE=>h c hc rd hrf bT M0 w0 c0 a w (eE.freeze n hn hcs)
theorem gl.nM {bT:Nat→Nm}{M0:Mem}{w0:World}{c0:Nat→Option Ob}{a:Act}{w:World}(t:Nat)(e sz:Nat)(ht:st.env.lookup t=some (.d .ay))(h:gl N bT M0 w0 c0 k0 st a w):
    gl N bT M0 w0 c0 k0 ⟨(t,.gs st.k 0)::st.env,(st.k,.arr e sz 0 [])::st.hp,st.k+1⟩ a w:=by
  obtain ⟨hk0,hdf,hsz,μ,M,f_,hS,hE⟩:=h
  have hmu:=rE (μ:=μ) (m:=⟨0,0,false⟩) (p:=(· <st.k)) (k:=st.k) (Nat.lt_irrefl _)
  have hup:∀ n,n<st.k→n<st.k+1:=fun n h=>by omega
  have hlt:∀ n ob,lk st.hp n=some ob→n<st.k:=fun n ob h=>(hS.obs n ob h).1
  refine ⟨by show k0≤st.k+1;omega,hdf,hsz,vY μ st.k ⟨0,0,false⟩,M,fun u s hs=> ?_,⟨hS.mem,fun n ob hn=> ?_,fun n m hn hm ln lm e=> ?_⟩,⟨fun n hn=> ?_,hE.mem,hE.frame,hE.size,fun n hn=> ?_,hE.os,hE.tape,hE.output⟩⟩
  · rw [kR] at hs
    split at hs
    · rename_i e1
      subst e1
      injection hs with hs
      subst hs
      have h1:=(f_ t _ ht).rep
      simp only [bY,bH] at h1
      intro ν fV
      simp only [bY]
      rw [fV st.k (Nat.lt_succ_self _),bf]
      exact .inr ⟨rfl,trivial,none,h1⟩
    · exact (f_ u s hs).more hup hmu (Mem.le_refl M)
  · rw [ag] at hn
    split at hn
    · rename_i e1
      subst e1
      injection hn with hn
      subst hn
      rw [bf]
      exact ⟨Nat.lt_succ_self _,.inl ⟨rfl,rfl,rfl⟩,fun h=>by cases h⟩
    · obtain ⟨a1,a2,a3⟩:=hS.obs n ob hn
      rw [hmu n a1]
      exact ⟨hup n a1,a2.more hup hmu (Mem.le_refl M) fun _=>rfl,a3⟩
  · rw [ag] at hn hm
    by_cases e1:n=st.k
    · subst e1;rw [bf] at ln;cases ln
    · by_cases e2:m=st.k
      · subst e2;rw [bf] at lm;cases lm
      · rw [if_neg e1] at hn
        rw [if_neg e2] at hm
        obtain ⟨o1,ho1⟩:=Option.ne_none_iff_exists'.1 hn
        obtain ⟨o2,ho2⟩:=Option.ne_none_iff_exists'.1 hm
        rw [hmu n (hlt n o1 ho1)] at e ln
        rw [hmu m (hlt m o2 ho2)] at e lm
        exact hS.inj n m hn hm ln lm e
  · simp only at hn
    by_cases e1:n=st.k
    · subst e1;omega
    · rw [dQ _ _ _ e1];exact hE.old n (by omega)
  · rw [ag] at hn
    by_cases e1:n=st.k
    · subst e1
      rw [bf]
      exact .inl ⟨⟨by omega,Nat.lt_succ_self _⟩,fun h=>by cases h⟩
    · rw [if_neg e1] at hn
      obtain ⟨o1,ho1⟩:=Option.ne_none_iff_exists'.1 hn
      rw [hmu n (hlt n o1 ho1)]
      rcases hE.names n hn with ⟨b1,b2⟩ | ⟨b1,b2⟩
      · exact .inl ⟨⟨b1.1,by have:=b1.2;show n<st.k+1;omega⟩,b2⟩
      · refine .inr ⟨fun h=> ?_,b2⟩
        have:n<st.k:=hlt n o1 ho1
        exact b1 ⟨h.1,this⟩
theorem SW.nM {s:cG}(t:Nat)(e sz:Nat)(ht:st.env.lookup t=some (.d .ay))(h:SW P N k0 s ⟨(t,.gs st.k 0)::st.env,(st.k,.arr e sz 0 [])::st.hp,st.k+1⟩ Q):SW P N k0 s st Q:=
 fun c hc rd hrf bT M0 w0 c0 a w eE=>h c hc rd hrf bT M0 w0 c0 a w (eE.nM t e sz ht)
theorem bH.oN {M:Mem}{v:Value}(h:bH M .ay v):bH M (.sl 0 []) v:=by
 simp only [bH] at h ⊢
 exact ⟨none,0,h,Nat.le_refl _,fun _=>trivial,fun h=>absurd h (Nat.lt_irrefl _)⟩
end
theorem SV.uf {ρ:Nat→Nat}:∀ {l:List SV},SV.aI (fun n=>decide (n<0)) l=true→SV.bh ρ l=l
 | [],_=>rfl
 | c::cs,h=>by
  simp only [SV.aI,Bool.and_eq_true] at h
  simp only [SV.bh,SV.ud c h.1,SV.uf h.2]
def iq (ns:List Nat)(k:Nat)(i:Nat):Nat:=match ns[i]? with
 | some n=>n
 | none=>i - ns.length+k
theorem BY:∀ {h:Hp} {n:Nat} {ob:Ob},(n,ob)∈h→∃ iY,lk h n=some iY
 | [],n,ob,h=>by simp at h
 | (m,o)::h,n,ob,hm=>by
  rw [ag]
  by_cases e:n=m
  ·exact ⟨o,by simp [e]⟩
  ·rw [if_neg e]
   rcases List.mem_cons.1 hm with h1 | h1
   ·injection h1 with h1 _;exact absurd h1 e
   ·exact BY h1
theorem SB.ej {P:Program}{f:FuncId}{args:List SV}{F F':Hp}{nk:Nat}{r:SV}(ns:List Nat)(h:SB P f args F ns.length nk fun r' F1=>r'=r∧F1=F')(hd:ns.Nodup)(hF:∀ i,i<ns.length→lk F i≠none)(k:Nat):
  bp P f (SV.bh (iq ns k) args) (F.aV (iq ns k)) k nk (r.aV (iq ns k)) (F'.aV (iq ns k)):=by
 have hlt:∀ i,i<ns.length→ns[i]? =some (iq ns k i):=fun i hi=>by simp [iq,hi]
 have:=SB.at h (iq ns k) k (fun n m hn hm e=> ?_) (fun n hn p μ M w vals _ hS=> ?_) (fun i hi=> ?_)
 ·refine this.mono ?_
  rintro r' F1 ⟨r0,F0,⟨rfl,rfl⟩,rfl,rfl⟩
  exact ⟨rfl,rfl⟩
 ·have h1:=hlt n hn
  have h2:=hlt m hm
  rw [e] at h1
  exact (List.getElem?_inj hn hd).1 (h1.trans h2.symm)
 ·obtain ⟨ob,ho⟩:=Option.ne_none_iff_exists'.1 (hF n hn)
  have hm:(iq ns k n,ob.aV (iq ns k))∈F.aV (iq ns k):=List.mem_map.2 ⟨(n,ob),l7 ho,rfl⟩
  obtain ⟨iY,ho'⟩:=BY hm
  exact (hS.obs _ _ ho').1
 ·simp [iq];omega
theorem SB.new {P:Program}{f:FuncId}{args:List SV}{F':Hp}{nk:Nat}{r:SV}(h:SB P f args [] 0 nk fun r' F1=>r'=r∧F1=F')(k:Nat):
  bp P f args [] k nk (r.aV (iq [] k)) (F'.aV (iq [] k)):=by
 have:=SB.ej [] h (by simp) (fun i hi=>absurd hi (Nat.not_lt_zero i)) k
 rwa [SV.uf h.2.1] at this
@[simp] theorem HR (h:Hp):HSub [] h↔True:=⟨fun _=>trivial,fun _=>HSub.nil h⟩
@[simp] theorem HS (h:Hp) (n:Nat) (ob:Ob):HSub [(n,ob)] h↔lk h n=some ob:=by
 refine ⟨fun hs=>hs n ob (by simp [bC]),fun hs m iY hm=> ?_⟩
 rw [bC] at hm
 split at hm
 ·rename_i e;subst e;simp at hm;subst hm;exact hs
 ·cases hm
def aS.zero:aS:=⟨0,0,0,0,0,0,0,0⟩
theorem aS.aJ:[SV.d (.int .u32 0),.d (.int .u32 0),.d (.int .u32 0),.d (.int .u32 0),.d (.int .u32 0),.d (.int .u32 0),.d (.int .u32 0),.d (.int .u32 0)]=aS.zero.cells:=rfl
@[simp] theorem aS.aP (v:aS):v.cells.take 8=v.cells:=rfl
theorem aS.aW (u v:aS):bE u.cells 0 v.cells=v.cells:=rfl
attribute [simp] aS.ji aS.l8 aS.aj aS.jm
theorem aS.aD (v:aS)(ρ:Nat→Nat):SV.bh ρ v.cells=v.cells:=rfl
@[simp] theorem HT (l:List aS):(l.flatMap aS.ds).length=l.length*8:=ct aS.ds 8 (fun _=>rfl) l
theorem bQ {α:Type}{l:List α}{i:Nat}{x:α}(h:l[i]? =some x):l.take (i+1)=l.take i++[x]:=by
 rw [List.take_add_one,h];rfl
theorem bq {α:Type}{l:List α}{i:Nat}{x:α}(h:l[i]? =some x):i<l.length:=(List.getElem?_eq_some_iff.1 h).1
theorem aL {α:Type}{l:List α}{i:Nat}(h:i<l.length):∃ x,l[i]? =some x:=⟨_,List.getElem?_eq_getElem h⟩
theorem aS.wI (a b:aS):iu [true,true,true,true,true,true,true,true] a.cells b.cells=some (decide (a=b)):=aS.nE a b
structure Dt where
 (r n:Nat)
 deriving DecidableEq
def Dt.ds (d:Dt):List DV:=[.int .u8 d.r,.int .u32 d.n]
def Dt.cells (d:Dt):List SV:=[u8 d.r,u32 d.n]
theorem Dt.jm (d:Dt):d.ds.map .d=d.cells:=rfl
@[simp] theorem Dt.l8 (d:Dt):d.ds.length=2:=rfl
@[simp] theorem Dt.ji (d:Dt):d.cells.length=2:=rfl
@[simp] theorem Dt.aj (d:Dt) (q:Nat→Bool):SV.aI q d.cells=true:=rfl
theorem Dt.aD (d:Dt)(ρ:Nat→Nat):SV.bh ρ d.cells=d.cells:=rfl
@[simp] theorem Dt.aP (d:Dt):d.cells.take 2=d.cells:=rfl
theorem Dt.yj (d:Dt):d.cells[0]? =some (u8 d.r):=rfl
theorem Dt.ym (d:Dt):d.cells[1]? =some (u32 d.n):=rfl
theorem Dt.aW (c d:Dt):bE c.cells 0 d.cells=d.cells:=rfl
theorem Dt.aJ:[SV.d (.int .u8 0),.d (.int .u32 0)]=(Dt.mk 0 0).cells:=rfl
theorem Dt.fZ (c:Dt)(a b:Nat):bE (bE c.cells 0 [.d (.int .u8 (a:Int))]) 1 [.d (.int .u32 (b:Int))]=(Dt.mk a b).cells:=rfl
@[simp] theorem Fp (cs:List SV) (o:Nat) (c:SV):(bE cs o [c]).length=cs.length:=by simp [bE]
theorem Eg (cs:List SV)(o:Nat)(c:SV):bE cs o [c]=cs.set o c:=rfl
theorem Dt.cells_one (d:Dt):d.cells.all SV.cL=true:=rfl
theorem Dt.nE (a b:Dt):iu [true,true] a.cells b.cells=some (decide (a=b)):=by
 have h:iu [true,true] a.cells b.cells=some (((a.r:Int) == b.r) && (((a.n:Int) == b.n) && true)):=by simp [iu,DI,Dt.cells]
 rw [h]
 congr 1
 obtain ⟨a0,a1⟩:=a
 obtain ⟨b0,b1⟩:=b
 rw [Bool.eq_iff_iff]
 simp
 omega
def Dt.may (d:Dt):Bool:=decide (d.r<8) && decide (0<d.n)
def Dt.wf (d:Dt):Prop:=d.r<256∧d.n<4294967296
abbrev ic (l:List Dt):SV:= .d (.sl l.length (l.flatMap Dt.ds))
@[simp] theorem BZ (l:List Dt):(l.flatMap Dt.ds).length=l.length*2:=ct Dt.ds 2 (fun _=>rfl) l
theorem gf {l:List Dt}{i:Nat}{x:Dt}(h:l[i]? =some x):List.take 2 (List.drop (i*2) (List.map SV.d (l.flatMap Dt.ds)))=x.cells:=by
 rw [← List.map_drop,← List.map_take,iw Dt.ds 2 (fun _=>rfl) l i x h]
 rfl
section
variable {P:Program} {N k0:Nat} {st:St} {Q:Exit→St→Prop}
theorem SW.slot {c:cG}(t:Nat){s:SV}(s':SV)(hl:st.env.lookup t=some s)(hs:∀ (p:Nat→Prop) μ M v,Rp p μ M s v→Rp p μ M s' v)(h:SW P N k0 c ⟨(t,s')::st.env,st.hp,st.k⟩ Q):SW P N k0 c st Q:=by
 refine fun cc hc rd hrf bT M0 w0 c0 a w eE=>h cc hc rd hrf bT M0 w0 c0 a w ?_
 obtain ⟨hk0,hdf,hsz,μ,M,f_,hS,hE⟩:=eE
 refine ⟨hk0,hdf,hsz,μ,M,fun q x hq=> ?_,hS,hE⟩
 simp only [List.lookup] at hq
 split at hq
 ·rename_i e
  have e:q=t:=by simpa using e
  injection hq with hq
  subst e;subst hq
  exact hs _ _ _ _ (f_ q s hl)
 ·exact f_ q x hq
theorem oN (p:Nat→Prop)(μ:Nat→Nm)(M:Mem)(v:Value)(h:Rp p μ M (.d .ay) v):Rp p μ M (.d (.sl 0 [])) v:=Rp.bN.2 (Rp.bN.1 h).oN
theorem SW.ay {c:cG}(t:Nat)(hl:st.env.lookup t=some (.d .ay))(h:SW P N k0 c ⟨(t,.d (.sl 0 []))::st.env,st.hp,st.k⟩ Q):SW P N k0 c st Q:=SW.slot t _ hl oN h
end
end Go.Sl
namespace Go.Sl
section
namespace Co
def M (d s:Nat):SI:=⟨some d,.mv (.t s),none⟩
def G (d s g:Nat)(b:Bool):SI:=⟨some d,.mv (.t s),some (g,b)⟩
def J (d:Nat)(o:SO):SI:=⟨some d,o,none⟩
def H (d:Nat)(o:SO)(g:Nat)(b:Bool):SI:=⟨some d,o,some (g,b)⟩
def N (o:SO):SI:=⟨none,o,none⟩
def F (l:List SI)(n:Nat):cG:= .eN l (lR n) false
def C (f:FuncId):X:= .k (.fn (.func f) [] [])
def Z (n:Int):X:= .k (.d (.int .i64 n))
def B (b:Bool):X:= .k (.d (.bool b))
def b8 (n:Int):SV:= .d (.int .u8 n)
def aA (n:Int):SV:= .d (.int .u32 n)
def bz (n:Int):SV:= .d (.int .u64 n)
def i6 (n:Int):SV:= .d (.int .i64 n)
def z8:List SV:=[.d (.int .u32 0),.d (.int .u32 0),.d (.int .u32 0),.d (.int .u32 0),.d (.int .u32 0),.d (.int .u32 0),.d (.int .u32 0),.d (.int .u32 0)]
def dm:List SV:=[.d (.int .u8 0),.d (.int .u32 0),.d (.int .u32 0),.d (.int .u32 0),.d (.int .u32 0),.d (.int .u32 0),.d (.int .u32 0),.d (.int .u32 0),.d (.int .u32 0),.d (.int .u32 0),.d (.int .u64 0),.d (.int .u32 0),.d (.int .u8 0),.d (.int .u32 0),.d (.int .u8 0),.d (.int .u8 0),.d (.int .u32 0),.d (.int .u32 0),.d (.int .u8 0),.d (.int .u8 0),.d (.int .u64 0),.d (.int .u8 0),.d (.int .u32 0),.d (.int .u8 0),.d (.int .u32 0),.d (.int .u32 0),.d (.int .u32 0),.d (.int .u32 0),.d .ay]
end Co
def En (P:Program)(f:FuncId)(N:Nat)(s:cG)(rv:List RV):Prop:=
 ∀ {args:List SV} {F:Hp} {k nk:Nat} {Q:SV→Hp→Prop} (_:SV.aI (fun n=>decide (n<k)) args=true) (_:F.ok (fun n=>decide (n<k))=true) (_:args.length≤N)
  (_:SW P N k s ⟨jX 0 args,F,k⟩ fun e st'=>match e with | .normal=>Fin k nk rv Q st' | .ret=>Fin k nk rv Q st' | _=>False),SB P f args F k nk Q
theorem En.mk {P:Program}{f N:Nat}{fn:Func}{c:Code}{s:cG}{rv:List RV}(hf:P.funcs[f]? =some fn)(hN:fn.ntmps=N)(hb:fn.body=some c)(hc:cK P fn.ntmps c=some s)(hr:Ed P fn.results.toList=some rv)(ha:iL P f=true):En P f N s rv:=by
 subst hN
 intro args F k nk Q h1 h2 h3 h
 exact SB.Ee hf hb hc hr ha h1 h2 h3 h
end
section
def aS.iy (v:aS)(d:Dt):Bool:=d.may && decide (d.n≤v.get d.r)
def aS.count (v:aS):Nat:=v.a0+v.a1+v.a2+v.a3+v.a4+v.a5+v.a6+v.a7
theorem wrap_u32 (n:Nat)(h:n<4294967296):IntKind.u32.wrap (n:Int)=n:=by
 simp [IntKind.wrap,IntKind.bits,IntKind.signed];omega
theorem wrap_u64 (n:Nat)(h:n<18446744073709551616):IntKind.u64.wrap (n:Int)=n:=by
 simp [IntKind.wrap,IntKind.bits,IntKind.signed];omega
theorem wrap_u8 (n:Nat)(h:n<256):IntKind.u8.wrap (n:Int)=n:=by
 simp [IntKind.wrap,IntKind.bits,IntKind.signed];omega
theorem aS.nN (a b c d e f g h:SV)(r:List SV)(v:aS):bE (a::b::c::d::e::f::g::h::r) 0 v.cells=v.cells++r:=rfl
theorem aS.yo (u v:aS)(r:List SV):bE (u.cells++r) 8 v.cells=u.cells++bE r 0 v.cells:=rfl
theorem aS.rS (u v:aS)(r:List SV):bE (u.cells++r) 16 v.cells=u.cells++bE r 8 v.cells:=rfl
theorem aS.rT (u v:aS)(r:List SV):bE (u.cells++r) 24 v.cells=u.cells++bE r 16 v.cells:=rfl
theorem aS.cR (u:aS)(r:List SV):dF (u.cells++r)=match dF r with | some x=>some (u.ds++x) | none=>none:=by
 cases h:dF r <;> simp [aS.cells,dF,h,aS.ds]
theorem aS.cT (u:aS):dF u.cells=some u.ds:=rfl
theorem Dt.nN (a b:SV)(r:List SV)(v:Dt):bE (a::b::r) 0 v.cells=v.cells++r:=rfl
theorem Dt.yp (u v:Dt)(r:List SV):bE (u.cells++r) 2 v.cells=u.cells++bE r 0 v.cells:=rfl
theorem Dt.cR (u:Dt)(r:List SV):dF (u.cells++r)=match dF r with | some x=>some (u.ds++x) | none=>none:=by
 cases h:dF r <;> simp [Dt.cells,dF,h,Dt.ds]
theorem Dt.cT (u:Dt):dF u.cells=some u.ds:=rfl
theorem kV (l:List DV):(l.map SV.d).all SV.cL=true:=by simp [SV.cL]
def B0 (r a c:Nat):List Dt:=(List.range c).map fun i=>⟨r,a+i⟩
@[simp] theorem Gj (r a c:Nat):(B0 r a c).length=c:=by simp [B0]
theorem SV.iO (ρ:Nat→Nat):∀ (a b:List SV),SV.bh ρ (a++b)=SV.bh ρ a++SV.bh ρ b
 | [],b=>rfl
 | x::a,b=>by simp [SV.bh,SV.iO ρ a b]
theorem SV.js (q:Nat→Bool):∀ (a b:List SV),SV.aI q (a++b)=(SV.aI q a && SV.aI q b)
 | [],b=>rfl
 | x::a,b=>by simp [SV.aI,SV.js q a b,Bool.and_assoc]
def gW (n len:Nat):SV:=if len=0 then .d .ay else .gs n len
theorem oO {α:Type}{l m:List α}(hl:l.length=m.length)(h:∀ j,j<l.length→l[j]? =m[j]?):l=m:=by
 apply List.ext_getElem?
 intro j
 by_cases hj:j<l.length
 ·exact h j hj
 ·rw [List.getElem?_eq_none (by omega),List.getElem?_eq_none (by omega)]
theorem rU:(false == true)=false:=rfl
theorem rW:(true == false)=false:=rfl
end
end Go.Sl
